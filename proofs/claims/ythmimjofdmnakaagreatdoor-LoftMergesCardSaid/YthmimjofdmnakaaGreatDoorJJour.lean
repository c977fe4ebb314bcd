/- Plain laws of journals: what a journal is by its members; merged journals; what a journal adds. -/
import Derived.Test.YthmimjofdmnakaaGreatDoorJMrgF
import Derived.Test.YthmimjofdmnakaaGreatDoorJOf
namespace Go.Proofs.YthmimjofdmnakaaGreatDoor
/-- each record has the one before it -/
def Down (n : Int) (l : List Rc) : Prop := ∀ x ∈ l, okR n x = true ∧ (x.k = 1 ∨ ∃ p ∈ l, p.s = x.s ∧ p.k + 1 = x.k ∧ p.d ≤ x.d)
abbrev AllOk (n : Int) (l : List Rc) : Prop := ∀ j, j < l.length → chkA n l j = 0
theorem down_of {n : Int} {l : List Rc} (h : AllOk n l) : Down n l := fun x hx => by
  obtain ⟨j, hj, rfl⟩ := List.mem_iff_getElem.1 hx
  have hok := chkA_ok hj (h j hj)
  refine ⟨hok, ?_⟩
  cases j with
  | zero =>
    have := h 0 hj
    rw [show chkA n l 0 = chkP n none l[0] from chkA_0 hj] at this
    exact Or.inl (chkP_first this)
  | succ j =>
    have := h (j+1) hj
    rw [chkA_s hj] at this
    rcases chkP_next this with ⟨h1, h2⟩ | ⟨_, h2⟩
    · refine Or.inr ⟨l[j], List.getElem_mem _, h1.symm, h2.symm, ?_⟩
      rw [chkP_g hok h1 (by omega), if_pos h2] at this
      by_cases hd : l[j+1].d < l[j].d
      · rw [if_pos hd] at this; cases this
      · omega
    · exact Or.inl h2
theorem ok_of {n : Int} {l : List Rc} (hk : KeyS l) (h : Down n l) : AllOk n l := by
  intro j hj
  have hm := List.getElem_mem hj
  obtain ⟨hok, hp⟩ := h l[j] hm
  have hd := okR_d hok
  cases j with
  | zero =>
    rw [show chkA n l 0 = chkP n none l[0] from chkA_0 hj, chkP_n hok]
    rcases hp with h1 | ⟨p, hp, h1, h2, _⟩
    · rw [if_pos h1]
    · have hpd := okR_d (h p hp).1
      obtain ⟨i, hi, rfl⟩ := List.mem_iff_getElem.1 hp
      by_cases e : i = 0
      · subst e; omega
      · have := List.pairwise_iff_getElem.1 hk 0 i hj hi (by omega)
        unfold keyL at this; omega
  | succ j =>
    have hq := (h l[j] (List.getElem_mem (show j < l.length by omega))).1
    have hqd := okR_d hq
    have hkq := List.pairwise_iff_getElem.1 hk j (j+1) (by omega) hj (by omega)
    rw [chkA_s hj]
    rcases hp with h1 | ⟨p, hp, h1, h2, h3⟩
    · have : l[j].s < l[j+1].s := by unfold keyL at hkq; omega
      rw [chkP_f hok this, if_pos h1]
    · have e : p = l[j] := by
        obtain ⟨i, hi, rfl⟩ := List.mem_iff_getElem.1 hp
        rcases Nat.lt_trichotomy i j with h4 | h4 | h4
        · have := List.pairwise_iff_getElem.1 hk i j hi (by omega) h4
          unfold keyL at this hkq; omega
        · subst h4; rfl
        · by_cases e2 : i = j + 1
          · subst e2; omega
          · have := List.pairwise_iff_getElem.1 hk (j+1) i hj hi (by omega)
            unfold keyL at this; omega
      rw [e] at h1 h2 h3
      rw [chkP_g hok h1.symm (by omega), if_pos h2.symm, if_neg (by omega)]
theorem allok_s {n : Int} {l : List Rc} (h : AllOk n l) : ∀ x ∈ l, 0 ≤ x.s ∧ x.s ≤ n - 1 ∧ 1 ≤ x.k := fun x hx => by
  have := okR_d (down_of h x hx).1
  omega
/-- records with one key are one -/
def Agr (a b : List Rc) : Prop := ∀ y ∈ a, ∀ x ∈ b, sameK y x → y = x
theorem Agr.symm {a b : List Rc} (h : Agr a b) : Agr b a := fun y hy x hx hs => (h x hx y hy ⟨hs.1.symm, hs.2.symm⟩).symm
theorem mrg_cases {n : Int} {a b : List Rc} (ha : AllOk n a) (hb : AllOk n b) :
    (mrgK a b = none ∧ ¬ Agr a b) ∨ ∃ m, mrgK a b = some m ∧ AllOk n m ∧ KeyS m ∧ (∀ y, y ∈ m ↔ y ∈ a ∨ y ∈ b) ∧ Agr a b := by
  rcases mrgK_is (chk_keys ha) (chk_keys hb) with ⟨h1, y, hy, x, hx, h2, h3⟩ | ⟨m, h1, h2, h3, h4⟩
  · exact Or.inl ⟨h1, fun h => h3 (h y hy x hx h2)⟩
  · refine Or.inr ⟨m, h1, ok_of h2 (fun x hx => ?_), h2, h3, h4⟩
    rcases (h3 x).1 hx with h | h
    · obtain ⟨k1, k2⟩ := down_of ha x h
      exact ⟨k1, k2.imp id (fun ⟨p, hp, k3⟩ => ⟨p, (h3 p).2 (Or.inl hp), k3⟩)⟩
    · obtain ⟨k1, k2⟩ := down_of hb x h
      exact ⟨k1, k2.imp id (fun ⟨p, hp, k3⟩ => ⟨p, (h3 p).2 (Or.inr hp), k3⟩)⟩
theorem mrg_comm {n : Int} {a b : List Rc} (ha : AllOk n a) (hb : AllOk n b) : mrgK a b = mrgK b a := by
  rcases mrg_cases ha hb with ⟨h1, h2⟩ | ⟨m, h1, _, h3, h4, h5⟩
  · rcases mrg_cases hb ha with ⟨k1, _⟩ | ⟨m', _, _, _, _, k5⟩
    · rw [h1, k1]
    · exact absurd k5.symm h2
  · rcases mrg_cases hb ha with ⟨_, k2⟩ | ⟨m', k1, _, k3, k4, _⟩
    · exact absurd h5.symm k2
    · rw [h1, k1, keyS_ext h3 k3 (fun y => by rw [h4, k4]; exact Or.comm)]
theorem mrg_again {n : Int} {a b m : List Rc} (ha : AllOk n a) (hb : AllOk n b) (h : mrgK a b = some m) : mrgK m b = some m := by
  rcases mrg_cases ha hb with ⟨h1, _⟩ | ⟨m1, h1, h2, h3, h4, h5⟩
  · rw [h1] at h; cases h
  · rw [h1] at h; cases h
    rcases mrg_cases h2 hb with ⟨_, k2⟩ | ⟨m', k1, _, k3, k4, _⟩
    · refine absurd (fun y hy x hx hs => ?_) k2
      rcases (h4 y).1 hy with hy | hy
      · exact h5 y hy x hx hs
      · obtain ⟨i, hi, rfl⟩ := List.mem_iff_getElem.1 hy
        obtain ⟨j, hj, rfl⟩ := List.mem_iff_getElem.1 hx
        have hk := chk_keys hb
        rcases Nat.lt_trichotomy i j with e | e | e
        · have := List.pairwise_iff_getElem.1 hk i j hi hj e
          unfold keyL at this; unfold sameK at hs; omega
        · subst e; rfl
        · have := List.pairwise_iff_getElem.1 hk j i hj hi e
          unfold keyL at this; unfold sameK at hs; omega
    · rw [k1, keyS_ext k3 h3 (fun y => by
        rw [k4, h4]
        exact ⟨fun h => h.elim id Or.inr, Or.inl⟩)]
theorem mrg_assoc {n : Int} {a b c m p : List Rc} (ha : AllOk n a) (hb : AllOk n b) (hc : AllOk n c) (h : mrgK a b = some m) (h' : mrgK b c = some p) : mrgK m c = mrgK a p := by
  rcases mrg_cases ha hb with ⟨h1, _⟩ | ⟨m1, h1, h2, h3, h4, h5⟩
  · rw [h1] at h; cases h
  rw [h1] at h; cases h
  rcases mrg_cases hb hc with ⟨g1, _⟩ | ⟨p1, g1, g2, g3, g4, g5⟩
  · rw [g1] at h'; cases h'
  rw [g1] at h'; cases h'
  have e1 : Agr m c ↔ Agr a c := by
    constructor
    · intro h y hy x hx hs
      exact h y ((h4 y).2 (Or.inl hy)) x hx hs
    · intro h y hy x hx hs
      rcases (h4 y).1 hy with hy | hy
      · exact h y hy x hx hs
      · exact g5 y hy x hx hs
  have e2 : Agr a p ↔ Agr a c := by
    constructor
    · intro h y hy x hx hs
      exact h y hy x ((g4 x).2 (Or.inr hx)) hs
    · intro h y hy x hx hs
      rcases (g4 x).1 hx with hx | hx
      · exact h5 y hy x hx hs
      · exact h y hy x hx hs
  rcases mrg_cases h2 hc with ⟨k1, k2⟩ | ⟨q, k1, _, k3, k4, k5⟩
  · rcases mrg_cases ha g2 with ⟨l1, _⟩ | ⟨q', _, _, _, _, l5⟩
    · rw [k1, l1]
    · exact absurd (e1.2 (e2.1 l5)) k2
  · rcases mrg_cases ha g2 with ⟨_, l2⟩ | ⟨q', l1, _, l3, l4, _⟩
    · exact absurd (e2.2 (e1.1 k5)) l2
    · rw [k1, l1, keyS_ext k3 l3 (fun y => by
        rw [k4, l4, h4, g4]
        exact or_assoc)]
theorem mrg_len {a b m : List Rc} (h : mrgK a b = some m) : m.length ≤ a.length + b.length := by
  have go : ∀ (b l m : List Rc), mrgK l b = some m → m.length ≤ l.length + b.length := by
    intro b
    induction b with
    | nil => intro l m h; cases h; simp
    | cons x b ih =>
      intro l m h
      have e : mrgK l (x :: b) = (addK l x).bind fun l' => mrgK l' b := rfl
      rw [e] at h
      cases hq : addK l x with
      | none => rw [hq] at h; cases h
      | some l' =>
        rw [hq] at h
        have h1 := ih l' m h
        have h2 : l'.length ≤ l.length + 1 := by
          have hi : (insK l x).length = l.length + 1 := by
            have := posK_le l x
            unfold insK
            simp
            omega
          unfold addK at hq
          split at hq
          · split at hq
            · split at hq
              · cases hq; omega
              · cases hq
            · cases hq; omega
          · cases hq; omega
        rw [List.length_cons]
        omega
  exact go b a m h
theorem mrg_text {n : Int} {a b m : List Rc} (ha : AllOk n a) (hb : AllOk n b) (h : mrgK a b = some m) {k : Nat} (ta : ∀ x ∈ a, x.t.size ≤ k) (tb : ∀ x ∈ b, x.t.size ≤ k) : ∀ x ∈ m, x.t.size ≤ k := by
  rcases mrg_cases ha hb with ⟨h1, _⟩ | ⟨m1, h1, _, _, h4, _⟩
  · rw [h1] at h; cases h
  · rw [h1] at h; cases h
    intro x hx
    exact ((h4 x).1 hx).elim (ta x) (tb x)
theorem has_iff {n : Int} {a b : List Rc} (ha : AllOk n a) (hb : AllOk n b) (hg : Agr a b) {x : Rc} (hx : x ∈ b) : x ∈ a ↔ x.k ≤ (ofR a x.s).length := by
  constructor
  · intro h
    obtain ⟨i, hi, he⟩ := List.mem_iff_getElem.1 (ofR_mem.2 ⟨h, rfl⟩)
    have := ofR_at ha x.s i hi
    rw [he] at this
    omega
  · intro h
    have h1 := (allok_s hb x hx).2.2
    have hi : (x.k - 1).toNat < (ofR a x.s).length := by omega
    have h2 := ofR_at ha x.s _ hi
    have h3 := ofR_mem.1 (List.getElem_mem hi)
    have := hg _ h3.1 x hx ⟨h3.2, by omega⟩
    rw [← this]
    exact h3.1
theorem keyS_nodup {l : List Rc} (h : KeyS l) : l.Nodup := h.imp (fun {a b} h e => by subst e; unfold keyL at h; omega)
/-- what a journal adds -/
theorem mrg_added {n : Int} {a b m : List Rc} (ha : AllOk n a) (hb : AllOk n b) (h : mrgK a b = some m) (f : Nat → Int) (hn : n ≤ 5) (hf : ∀ s : Nat, s < 5 → f s = (ofR a s).length) : (lackR f b).length + a.length = m.length := by
  rcases mrg_cases ha hb with ⟨h1, _⟩ | ⟨m1, h1, h2, h3, h4, h5⟩
  · rw [h1] at h; cases h
  rw [h1] at h; cases h
  have hl : ∀ x ∈ b, (f x.s.toNat < x.k ↔ x ∉ a) := fun x hx => by
    have h6 := allok_s hb x hx
    have h7 := has_iff ha hb h5 hx
    rw [hf _ (by omega), show ((x.s.toNat : Nat) : Int) = x.s by omega, h7]
    omega
  have hlm : ∀ x, x ∈ lackR f b ↔ x ∈ b ∧ x ∉ a := fun x => by
    unfold lackR
    rw [List.mem_filter, decide_eq_true_iff]
    exact ⟨fun ⟨h1, h2⟩ => ⟨h1, (hl x h1).1 h2⟩, fun ⟨h1, h2⟩ => ⟨h1, (hl x h1).2 h2⟩⟩
  have hnd : (lackR f b ++ a).Nodup := by
    refine List.nodup_append.2 ⟨keyS_nodup ((chk_keys hb).filter _), keyS_nodup (chk_keys ha), fun x hx y hy e => ?_⟩
    subst e
    exact ((hlm x).1 hx).2 hy
  have hp := (List.perm_ext_iff_of_nodup hnd (keyS_nodup h3)).2 (fun x => by
    rw [List.mem_append, hlm, h4]
    constructor
    · rintro (⟨h, _⟩ | h)
      · exact Or.inr h
      · exact Or.inl h
    · intro h
      by_cases e : x ∈ a
      · exact Or.inr e
      · exact Or.inl ⟨h.resolve_left e, e⟩)
  have := hp.length_eq
  rw [List.length_append] at this
  exact this
theorem chk_split {n : Int} (l : List Rc) : ((chkL n l).2 = 0 → chkL n l = (0, 0) ∧ AllOk n l) := fun h => by
  have := chkL_zero h
  exact ⟨chkL_ok this, this⟩
theorem allok_chk {n : Int} {l : List Rc} (h : AllOk n l) : chkL n l = (0, 0) := chkL_ok h
end Go.Proofs.YthmimjofdmnakaaGreatDoor
