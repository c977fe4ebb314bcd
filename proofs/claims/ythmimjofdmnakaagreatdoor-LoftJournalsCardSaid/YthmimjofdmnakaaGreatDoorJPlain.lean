/- Plain laws of journals: keys, the one order. -/
import Derived.Test.YthmimjofdmnakaaGreatDoorJBef
namespace Go.Proofs.YthmimjofdmnakaaGreatDoor
section
/-- before, by branch and number -/
def keyL (a b : Rc) : Prop := a.s < b.s ∨ a.s = b.s ∧ a.k < b.k
/-- a journal's keys grow -/
abbrev KeyS (l : List Rc) : Prop := l.Pairwise keyL
theorem chkP_key {n : Int} {q x : Rc} (h : chkP n (some q) x = 0) : keyL q x := by
  have hok : okR n x = true := by
    cases h1 : okR n x with
    | true => rfl
    | false => rw [chkP_1 h1] at h; cases h
  unfold keyL
  rcases Int.lt_trichotomy x.s q.s with h1 | h1 | h1
  · rw [chkP_6 hok (Or.inl h1)] at h; cases h
  · by_cases h2 : x.k ≤ q.k
    · rw [chkP_6 hok (Or.inr ⟨h1, h2⟩)] at h; cases h
    · exact Or.inr ⟨h1.symm, by omega⟩
  · exact Or.inl h1
theorem keyL_trans {a b c : Rc} (h1 : keyL a b) (h2 : keyL b c) : keyL a c := by
  unfold keyL at *; omega
theorem keys_adj {l : List Rc} (h : ∀ i (hi : i + 1 < l.length), keyL (l[i]'(by omega)) l[i+1]) : KeyS l := by
  refine List.pairwise_iff_getElem.2 ?_
  intro i j hi hj hij
  induction j with
  | zero => omega
  | succ j ih =>
    by_cases e : i = j
    · subst e; exact h i hj
    · exact keyL_trans (ih (by omega) (by omega)) (h j hj)
/-- all is right with a list -/
theorem chk_keys {n : Int} {l : List Rc} (h : ∀ j, j < l.length → chkA n l j = 0) : KeyS l :=
  keys_adj (fun i hi => by
    have := h (i+1) hi
    rw [chkA_s hi] at this
    exact chkP_key this)
theorem chkF_zero {n : Int} {l : List Rc} : ∀ (f i : Nat), (chkF n l f i).2 = 0 → l.length + 1 ≤ f + i → ∀ j, i ≤ j → j < l.length → chkA n l j = 0
  | 0, i, _, h1, j, h2, h3 => by omega
  | f + 1, i, h, h1, j, h2, h3 => by
    rw [chkF, if_pos (by omega)] at h
    by_cases e : chkA n l i = 0
    · rw [if_neg (by rw [e]; simp)] at h
      by_cases ej : j = i
      · subst ej; exact e
      · exact chkF_zero f (i+1) h (by omega) j (by omega) h3
    · rw [if_pos e] at h; exact absurd h e
theorem chkL_zero {n : Int} {l : List Rc} (h : (chkL n l).2 = 0) : ∀ j, j < l.length → chkA n l j = 0 := fun j hj =>
  chkF_zero _ _ h (by omega) j (by omega) hj
/-- a record put into its place in the one order -/
def insO (l : List Rc) (x : Rc) : List Rc := l.takeWhile (fun a => befR a x) ++ [x] ++ l.dropWhile (fun a => befR a x)
def ordO (l : List Rc) : List Rc := l.foldl insO []
def bef (a b : Rc) : Prop := befR a b = true
theorem bef_is (a b : Rc) : bef a b ↔ (a.d < b.d ∨ a.d = b.d ∧ (a.s < b.s ∨ a.s = b.s ∧ a.k < b.k)) := by
  unfold bef; rw [befR_is]; exact decide_eq_true_iff
theorem insO_perm (l : List Rc) (x : Rc) : (insO l x).Perm (x :: l) := by
  unfold insO
  rw [List.append_assoc]
  refine List.perm_middle.trans ?_
  show (x :: (l.takeWhile (fun a => befR a x) ++ l.dropWhile (fun a => befR a x))).Perm (x :: l)
  rw [List.takeWhile_append_dropWhile]
theorem insO_sorted {l : List Rc} {x : Rc} (h : l.Pairwise bef) (hx : ∀ a ∈ l, bef a x ∨ bef x a) : (insO l x).Pairwise bef := by
  induction l with
  | nil => simp [insO]
  | cons a l ih =>
    unfold insO
    by_cases ha : befR a x = true
    · rw [List.takeWhile_cons_of_pos (p := fun a => befR a x) ha, List.dropWhile_cons_of_pos (p := fun a => befR a x) ha]
      show (a :: insO l x).Pairwise bef
      rw [List.pairwise_cons] at h ⊢
      refine ⟨fun b hb => ?_, ih h.2 (fun b hb => hx b (List.mem_cons_of_mem _ hb))⟩
      rcases List.mem_cons.1 ((insO_perm l x).mem_iff.1 hb) with rfl | hb
      · exact ha
      · exact h.1 b hb
    · rw [List.takeWhile_cons_of_neg (p := fun a => befR a x) ha, List.dropWhile_cons_of_neg (p := fun a => befR a x) ha]
      show (x :: a :: l).Pairwise bef
      rw [List.pairwise_cons]
      refine ⟨fun b hb => ?_, h⟩
      have hxa : bef x a := (hx a List.mem_cons_self).resolve_left ha
      rcases List.mem_cons.1 hb with rfl | hb
      · exact hxa
      · have := (List.pairwise_cons.1 h).1 b hb
        rw [bef_is] at *
        omega
theorem bef_tot {a b : Rc} (h : keyL a b ∨ keyL b a) : bef a b ∨ bef b a := by
  rw [bef_is, bef_is]; unfold keyL at h; omega
theorem ordO_go : ∀ (l acc : List Rc), acc.Pairwise bef → KeyS l → (∀ a ∈ acc, ∀ b ∈ l, keyL a b ∨ keyL b a) → (l.foldl insO acc).Pairwise bef ∧ (l.foldl insO acc).Perm (acc ++ l)
  | [], acc, h, _, _ => ⟨h, by simp⟩
  | x :: l, acc, h, hk, hx => by
    replace hk := List.pairwise_cons.1 hk
    have h1 := insO_sorted h (fun a ha => bef_tot (hx a ha x List.mem_cons_self))
    have hp := insO_perm acc x
    obtain ⟨h2, h3⟩ := ordO_go l (insO acc x) h1 hk.2 (fun a ha b hb => by
      rcases List.mem_cons.1 (hp.mem_iff.1 ha) with rfl | ha
      · exact Or.inl (hk.1 b hb)
      · exact hx a ha b (List.mem_cons_of_mem _ hb))
    refine ⟨h2, h3.trans ?_⟩
    refine (hp.append_right l).trans ?_
    exact (List.perm_middle (a := x) (l₁ := acc) (l₂ := l)).symm
/-- the one order is one -/
theorem ordO_one {l l' : List Rc} (hk : KeyS l) (hp : l'.Perm l) (ho : InOrder l') : l' = ordO l := by
  obtain ⟨h1, h2⟩ := ordO_go l [] List.Pairwise.nil hk (fun a ha => by cases ha)
  refine List.Perm.eq_of_pairwise (le := fun a b => ¬ cmpO b a < 0) ?_ ho (h1.imp (fun {a b} h => ?_)) (hp.trans (show l.Perm (l.foldl insO []) by simpa using h2.symm))
  · intro a b ha hb hab hba
    have ha' := hp.mem_iff.1 ha
    have hb' := (by simpa using h2.mem_iff.1 hb : b ∈ l)
    rw [cmpO_lt] at hab hba
    obtain ⟨i, hi, rfl⟩ := List.mem_iff_getElem.1 ha'
    obtain ⟨j, hj, rfl⟩ := List.mem_iff_getElem.1 hb'
    rcases Nat.lt_trichotomy i j with h | h | h
    · have := List.pairwise_iff_getElem.1 hk i j hi hj h
      unfold keyL at this; omega
    · subst h; rfl
    · have := List.pairwise_iff_getElem.1 hk j i hj hi h
      unfold keyL at this; omega
  · rw [bef_is] at h
    rw [cmpO_lt]
    omega
end
section
theorem keyL_irrefl {a b : Rc} (h : keyL a b) : ¬ keyL b a := by unfold keyL at *; omega
/-- two lists with growing keys and the same members are one -/
theorem keyS_ext : ∀ {l m : List Rc}, KeyS l → KeyS m → (∀ x, x ∈ l ↔ x ∈ m) → l = m
  | [], [], _, _, _ => rfl
  | [], b :: m, _, _, h => by have := (h b).2 List.mem_cons_self; cases this
  | a :: l, [], _, _, h => by have := (h a).1 List.mem_cons_self; cases this
  | a :: l, b :: m, h1, h2, h => by
    have h1' := List.pairwise_cons.1 h1
    have h2' := List.pairwise_cons.1 h2
    have hab : a = b := by
      rcases List.mem_cons.1 ((h a).1 List.mem_cons_self) with e | ha
      · exact e
      · rcases List.mem_cons.1 ((h b).2 List.mem_cons_self) with e | hb
        · exact e.symm
        · exact absurd (h1'.1 b hb) (keyL_irrefl (h2'.1 a ha))
    subst hab
    rw [keyS_ext h1'.2 h2'.2 (fun x => by
      constructor
      · intro hx
        rcases List.mem_cons.1 ((h x).1 (List.mem_cons_of_mem _ hx)) with rfl | hm
        · exact absurd (h1'.1 x hx) (fun hk => keyL_irrefl hk hk)
        · exact hm
      · intro hx
        rcases List.mem_cons.1 ((h x).2 (List.mem_cons_of_mem _ hx)) with rfl | hm
        · exact absurd (h2'.1 x hx) (fun hk => keyL_irrefl hk hk)
        · exact hm)]
theorem chkP_next {n : Int} {q x : Rc} (h : chkP n (some q) x = 0) : (x.s = q.s ∧ x.k = q.k + 1) ∨ (q.s < x.s ∧ x.k = 1) := by
  have hok : okR n x = true := by
    cases h1 : okR n x with
    | true => rfl
    | false => rw [chkP_1 h1] at h; cases h
  rcases Int.lt_trichotomy x.s q.s with h1 | h1 | h1
  · rw [chkP_6 hok (Or.inl h1)] at h; cases h
  · by_cases h2 : x.k ≤ q.k
    · rw [chkP_6 hok (Or.inr ⟨h1, h2⟩)] at h; cases h
    · rw [chkP_g hok h1 (by omega)] at h
      by_cases h3 : x.k = q.k + 1
      · exact Or.inl ⟨h1, h3⟩
      · rw [if_neg h3] at h; cases h
  · rw [chkP_f hok h1] at h
    by_cases h3 : x.k = 1
    · exact Or.inr ⟨h1, h3⟩
    · rw [if_neg h3] at h; cases h
theorem chkP_first {n : Int} {x : Rc} (h : chkP n none x = 0) : x.k = 1 := by
  have hok : okR n x = true := by
    cases h1 : okR n x with
    | true => rfl
    | false => rw [chkP_1 h1] at h; cases h
  rw [chkP_n hok] at h
  by_cases h3 : x.k = 1
  · exact h3
  · rw [if_neg h3] at h; cases h
/-- a record's number is its place among its branch's -/
theorem num_at {n : Int} {l : List Rc} (h : ∀ j, j < l.length → chkA n l j = 0) : ∀ j (hj : j < l.length), l[j].k = (ofR (l.take j) l[j].s).length + 1
  | 0, hj => by
    have := h 0 hj
    rw [show chkA n l 0 = chkP n none l[0] from chkA_0 hj] at this
    rw [chkP_first this]; simp [ofR]
  | j + 1, hj => by
    have hk := chk_keys h
    have := h (j+1) hj
    rw [chkA_s hj] at this
    rcases chkP_next this with ⟨h1, h2⟩ | ⟨h1, h2⟩
    · have ih := num_at h j (by omega)
      rw [ofR_yes (show j < l.length by omega) h1.symm, List.length_append, h2, ih, h1]
      simp
    · have : ofR (l.take (j+1)) l[j+1].s = [] := by
        unfold ofR
        rw [List.filter_eq_nil_iff]
        intro a ha hd
        obtain ⟨i, hi, rfl⟩ := List.mem_take_iff_getElem.1 ha
        have hs := of_decide_eq_true hd
        have hle : l[i].s ≤ l[j].s := by
          by_cases e : i = j
          · subst e; omega
          · have := List.pairwise_iff_getElem.1 hk i j (by omega) (by omega) (by omega)
            unfold keyL at this; omega
        omega
      rw [this, h2]; rfl
theorem ofR_num {n : Int} {l : List Rc} (h : ∀ j, j < l.length → chkA n l j = 0) (s : Int) : ∀ k, k ≤ l.length → ∀ i (hi : i < (ofR (l.take k) s).length), (ofR (l.take k) s)[i].k = i + 1
  | 0, _, i, hi => by simp [ofR] at hi
  | k + 1, hk, i, hi => by
    have ih := ofR_num h s k (by omega)
    by_cases e : l[k].s = s
    · have e1 := ofR_yes (show k < l.length by omega) e
      have hn := num_at h k (by omega)
      rw [e] at hn
      have hi2 := hi
      rw [e1, List.length_append, List.length_singleton] at hi2
      simp only [e1]
      by_cases hlt : i < (ofR (l.take k) s).length
      · rw [List.getElem_append_left hlt]; exact ih i hlt
      · have : i = (ofR (l.take k) s).length := by omega
        subst this
        rw [List.getElem_append_right (Nat.le_refl _)]
        simpa using hn
    · have e1 := ofR_no (show k < l.length by omega) e
      simp only [e1]
      exact ih i (by rw [e1] at hi; exact hi)
/-- the record with number i + 1 of a branch stands at place i -/
theorem ofR_at {n : Int} {l : List Rc} (h : ∀ j, j < l.length → chkA n l j = 0) (s : Int) (i : Nat) (hi : i < (ofR l s).length) : (ofR l s)[i].k = i + 1 := by
  have := ofR_num h s l.length (Nat.le_refl _)
  simp only [List.take_length] at this
  exact this i hi
end
end Go.Proofs.YthmimjofdmnakaaGreatDoor
