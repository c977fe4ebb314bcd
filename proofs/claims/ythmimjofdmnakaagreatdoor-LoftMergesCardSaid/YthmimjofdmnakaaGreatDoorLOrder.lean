/- loft: Order. -/
import Derived.Test.YthmimjofdmnakaaGreatDoorLLib
import Derived.Test.YthmimjofdmnakaaGreatDoorStepsD
import Derived.Shelf.SlSortCmp.NoneTotal
import Derived.Test.YthmimjofdmnakaaGreatDoorJCheck
namespace Go.Proofs.YthmimjofdmnakaaGreatDoor
section
open Go.RowKit Go.Shelf Go.Lib Go.Sort
theorem cmpR_lt (x y : Rc) : cmpR x y < 0 ↔ x.s < y.s ∨ x.s = y.s ∧ x.k < y.k := by
  unfold cmpR orI cmpI
  repeat' split
  all_goals omega
theorem cmpR_eq (x y : Rc) : cmpR x y = 0 ↔ x.s = y.s ∧ x.k = y.k := by
  unfold cmpR orI cmpI
  repeat' split
  all_goals omega
end
section
open Go.RowKit Go.Shelf
theorem okR_d {n : Int} {x : Rc} (h : okR n x = true) : 0 ≤ x.d ∧ 1 ≤ x.k ∧ x.k ≤ 400 ∧ 0 ≤ x.s ∧ x.s ≤ n - 1 := by
  unfold okR formedB at h
  simp only [Bool.and_eq_true, decide_eq_true_eq] at h
  omega
theorem chkP_1 {n : Int} {p : Option Rc} {x : Rc} (h : okR n x = false) : chkP n p x = 1 := by
  unfold chkP
  cases p with
  | none => simp [chkE, h]
  | some q => dsimp only; split <;> simp [chkE, h]
theorem chkP_n {n : Int} {x : Rc} (h : okR n x = true) : chkP n none x = if x.k = 1 then 0 else 93 := by
  have := okR_d h
  have h1 : ¬ x.d < 0 := by omega
  unfold chkP chkE
  by_cases hk : x.k = 1
  · simp [h, hk, h1]
  · simp [h, hk]
theorem chkP_6 {n : Int} {q x : Rc} (h : okR n x = true) (c : x.s < q.s ∨ x.s = q.s ∧ x.k ≤ q.k) : chkP n (some q) x = 6 := by
  have hc : 0 ≤ cmpR q x := by
    rcases Int.lt_or_le (cmpR q x) 0 with h | h
    · rw [cmpR_lt] at h; omega
    · exact h
  unfold chkP
  dsimp only
  split <;> simp [chkE, h, hc]
theorem chkP_f {n : Int} {q x : Rc} (h : okR n x = true) (c : q.s < x.s) : chkP n (some q) x = if x.k = 1 then 0 else 93 := by
  have hc : ¬ 0 ≤ cmpR q x := by
    have := (cmpR_lt q x).2 (Or.inl c)
    omega
  have h2 : ¬ q.s = x.s := by omega
  have := okR_d h
  have h1 : ¬ x.d < 0 := by omega
  unfold chkP chkE
  by_cases hk : x.k = 1
  · simp [h, hk, h1, h2, hc]
  · simp [h, hk, h2, hc]
theorem chkP_g {n : Int} {q x : Rc} (h : okR n x = true) (c : x.s = q.s) (c2 : q.k < x.k) : chkP n (some q) x = if x.k = q.k + 1 then if x.d < q.d then 7 else 0 else 93 := by
  have hc : ¬ 0 ≤ cmpR q x := by
    have := (cmpR_lt q x).2 (Or.inr ⟨c.symm, c2⟩)
    omega
  unfold chkP chkE
  by_cases hk : x.k = q.k + 1
  · simp [h, hk, hc, c]
  · simp [h, hk, hc, c]
end
end Go.Proofs.YthmimjofdmnakaaGreatDoor
