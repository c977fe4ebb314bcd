/- Plain laws of journals: keys, the one order. -/
import Derived.Test.YthmimjofdmnakaaGreatDoorJOf
namespace Go.Proofs.YthmimjofdmnakaaGreatDoor
/-- before, by branch and number -/
def keyL (a b : Rc) : Prop := a.s < b.s ∨ a.s = b.s ∧ a.k < b.k
/-- a journal's keys grow -/
abbrev KeyS (l : List Rc) : Prop := l.Pairwise keyL
theorem chkP_key {n : Int} {q x : Rc} (h : chkP n (some q) x = 0) : keyL q x := by
  have hok : okR n x = true := by
    cases h1 : okR n x with
    | true => rfl
    | false => rw [chkP_1 h1] at h; cases h
  unfold keyL
  rcases Int.lt_trichotomy x.s q.s with h1 | h1 | h1
  · rw [chkP_6 hok (Or.inl h1)] at h; cases h
  · by_cases h2 : x.k ≤ q.k
    · rw [chkP_6 hok (Or.inr ⟨h1, h2⟩)] at h; cases h
    · exact Or.inr ⟨h1.symm, by omega⟩
  · exact Or.inl h1
theorem keyL_trans {a b c : Rc} (h1 : keyL a b) (h2 : keyL b c) : keyL a c := by
  unfold keyL at *; omega
theorem keys_adj {l : List Rc} (h : ∀ i (hi : i + 1 < l.length), keyL (l[i]'(by omega)) l[i+1]) : KeyS l := by
  refine List.pairwise_iff_getElem.2 ?_
  intro i j hi hj hij
  induction j with
  | zero => omega
  | succ j ih =>
    by_cases e : i = j
    · subst e; exact h i hj
    · exact keyL_trans (ih (by omega) (by omega)) (h j hj)
/-- all is right with a list -/
theorem chk_keys {n : Int} {l : List Rc} (h : ∀ j, j < l.length → chkA n l j = 0) : KeyS l :=
  keys_adj (fun i hi => by
    have := h (i+1) hi
    rw [chkA_s hi] at this
    exact chkP_key this)
theorem chkF_zero {n : Int} {l : List Rc} : ∀ (f i : Nat), (chkF n l f i).2 = 0 → l.length + 1 ≤ f + i → ∀ j, i ≤ j → j < l.length → chkA n l j = 0
  | 0, i, _, h1, j, h2, h3 => by omega
  | f + 1, i, h, h1, j, h2, h3 => by
    rw [chkF, if_pos (by omega)] at h
    by_cases e : chkA n l i = 0
    · rw [if_neg (by rw [e]; simp)] at h
      by_cases ej : j = i
      · subst ej; exact e
      · exact chkF_zero f (i+1) h (by omega) j (by omega) h3
    · rw [if_pos e] at h; exact absurd h e
theorem chkL_zero {n : Int} {l : List Rc} (h : (chkL n l).2 = 0) : ∀ j, j < l.length → chkA n l j = 0 := fun j hj =>
  chkF_zero _ _ h (by omega) j (by omega) hj
end Go.Proofs.YthmimjofdmnakaaGreatDoor
