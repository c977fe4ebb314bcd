/- Plain laws of journals: numbers; lists with growing keys. -/
import Derived.Test.YthmimjofdmnakaaGreatDoorJPlain
namespace Go.Proofs.YthmimjofdmnakaaGreatDoor
theorem keyL_irrefl {a b : Rc} (h : keyL a b) : ¬ keyL b a := by unfold keyL at *; omega
/-- two lists with growing keys and the same members are one -/
theorem keyS_ext : ∀ {l m : List Rc}, KeyS l → KeyS m → (∀ x, x ∈ l ↔ x ∈ m) → l = m
  | [], [], _, _, _ => rfl
  | [], b :: m, _, _, h => by have := (h b).2 List.mem_cons_self; cases this
  | a :: l, [], _, _, h => by have := (h a).1 List.mem_cons_self; cases this
  | a :: l, b :: m, h1, h2, h => by
    have h1' := List.pairwise_cons.1 h1
    have h2' := List.pairwise_cons.1 h2
    have hab : a = b := by
      rcases List.mem_cons.1 ((h a).1 List.mem_cons_self) with e | ha
      · exact e
      · rcases List.mem_cons.1 ((h b).2 List.mem_cons_self) with e | hb
        · exact e.symm
        · exact absurd (h1'.1 b hb) (keyL_irrefl (h2'.1 a ha))
    subst hab
    rw [keyS_ext h1'.2 h2'.2 (fun x => by
      constructor
      · intro hx
        rcases List.mem_cons.1 ((h x).1 (List.mem_cons_of_mem _ hx)) with rfl | hm
        · exact absurd (h1'.1 x hx) (fun hk => keyL_irrefl hk hk)
        · exact hm
      · intro hx
        rcases List.mem_cons.1 ((h x).2 (List.mem_cons_of_mem _ hx)) with rfl | hm
        · exact absurd (h2'.1 x hx) (fun hk => keyL_irrefl hk hk)
        · exact hm)]
theorem chkP_next {n : Int} {q x : Rc} (h : chkP n (some q) x = 0) : (x.s = q.s ∧ x.k = q.k + 1) ∨ (q.s < x.s ∧ x.k = 1) := by
  have hok : okR n x = true := by
    cases h1 : okR n x with
    | true => rfl
    | false => rw [chkP_1 h1] at h; cases h
  rcases Int.lt_trichotomy x.s q.s with h1 | h1 | h1
  · rw [chkP_6 hok (Or.inl h1)] at h; cases h
  · by_cases h2 : x.k ≤ q.k
    · rw [chkP_6 hok (Or.inr ⟨h1, h2⟩)] at h; cases h
    · rw [chkP_g hok h1 (by omega)] at h
      by_cases h3 : x.k = q.k + 1
      · exact Or.inl ⟨h1, h3⟩
      · rw [if_neg h3] at h; cases h
  · rw [chkP_f hok h1] at h
    by_cases h3 : x.k = 1
    · exact Or.inr ⟨h1, h3⟩
    · rw [if_neg h3] at h; cases h
theorem chkP_first {n : Int} {x : Rc} (h : chkP n none x = 0) : x.k = 1 := by
  have hok : okR n x = true := by
    cases h1 : okR n x with
    | true => rfl
    | false => rw [chkP_1 h1] at h; cases h
  rw [chkP_n hok] at h
  by_cases h3 : x.k = 1
  · exact h3
  · rw [if_neg h3] at h; cases h
/-- a record's number is its place among its branch's -/
theorem num_at {n : Int} {l : List Rc} (h : ∀ j, j < l.length → chkA n l j = 0) : ∀ j (hj : j < l.length), l[j].k = (ofR (l.take j) l[j].s).length + 1
  | 0, hj => by
    have := h 0 hj
    rw [show chkA n l 0 = chkP n none l[0] from chkA_0 hj] at this
    rw [chkP_first this]; simp [ofR]
  | j + 1, hj => by
    have hk := chk_keys h
    have := h (j+1) hj
    rw [chkA_s hj] at this
    rcases chkP_next this with ⟨h1, h2⟩ | ⟨h1, h2⟩
    · have ih := num_at h j (by omega)
      rw [ofR_yes (show j < l.length by omega) h1.symm, List.length_append, h2, ih, h1]
      simp
    · have : ofR (l.take (j+1)) l[j+1].s = [] := by
        unfold ofR
        rw [List.filter_eq_nil_iff]
        intro a ha hd
        obtain ⟨i, hi, rfl⟩ := List.mem_take_iff_getElem.1 ha
        have hs := of_decide_eq_true hd
        have hle : l[i].s ≤ l[j].s := by
          by_cases e : i = j
          · subst e; omega
          · have := List.pairwise_iff_getElem.1 hk i j (by omega) (by omega) (by omega)
            unfold keyL at this; omega
        omega
      rw [this, h2]; rfl
theorem ofR_num {n : Int} {l : List Rc} (h : ∀ j, j < l.length → chkA n l j = 0) (s : Int) : ∀ k, k ≤ l.length → ∀ i (hi : i < (ofR (l.take k) s).length), (ofR (l.take k) s)[i].k = i + 1
  | 0, _, i, hi => by simp [ofR] at hi
  | k + 1, hk, i, hi => by
    have ih := ofR_num h s k (by omega)
    by_cases e : l[k].s = s
    · have e1 := ofR_yes (show k < l.length by omega) e
      have hn := num_at h k (by omega)
      rw [e] at hn
      have hi2 := hi
      rw [e1, List.length_append, List.length_singleton] at hi2
      simp only [e1]
      by_cases hlt : i < (ofR (l.take k) s).length
      · rw [List.getElem_append_left hlt]; exact ih i hlt
      · have : i = (ofR (l.take k) s).length := by omega
        subst this
        rw [List.getElem_append_right (Nat.le_refl _)]
        simpa using hn
    · have e1 := ofR_no (show k < l.length by omega) e
      simp only [e1]
      exact ih i (by rw [e1] at hi; exact hi)
/-- the record with number i + 1 of a branch stands at place i -/
theorem ofR_at {n : Int} {l : List Rc} (h : ∀ j, j < l.length → chkA n l j = 0) (s : Int) (i : Nat) (hi : i < (ofR l s).length) : (ofR l s)[i].k = i + 1 := by
  have := ofR_num h s l.length (Nat.le_refl _)
  simp only [List.take_length] at this
  exact this i hi
end Go.Proofs.YthmimjofdmnakaaGreatDoor
