/- strickleref01: Of, both, More, Compare, floor, ceil, Floor, Ceil, Add, Sub, Mul, Div, ranged. -/
import Derived.Test.YtconhikflghkdaaGreatDoorRef
namespace Go.Proofs.YtconhikflghkdaaGreatDoor
open Go.RowKit Go.Shelf
theorem tdiv_fl (a b : Int) (h : 1 ≤ b) : Rm.fl a b = (if a < a.tdiv b * b then a.tdiv b - 1 else a.tdiv b) := by
  have := floor_of a b h
  have e := Int.tmod_add_tdiv_mul a b
  split
  · rw [if_pos (by omega)] at this; omega
  · rw [if_neg (by omega)] at this; omega
theorem tdiv_cl (a b : Int) (h : 1 ≤ b) : Rm.cl a b = (if a.tdiv b * b < a then a.tdiv b + 1 else a.tdiv b) := by
  have e := Int.tmod_add_tdiv_mul a b
  have l := Rm.tmod_lt a b (by omega)
  symm
  apply Rm.cl_unique h
  · split
    · have : (a.tdiv b + 1)*b = a.tdiv b * b + b := by grind
      omega
    · omega
  · split
    · have : (a.tdiv b + 1 - 1)*b = a.tdiv b * b := by grind
      omega
    · have : (a.tdiv b - 1)*b = a.tdiv b * b - b := by grind
      omega
theorem tdiv_bd {a b : Int} (h1 : -4000000000000000000 ≤ a) (h2 : a ≤ 4000000000000000000) : -4000000000000000000 ≤ a.tdiv b ∧ a.tdiv b ≤ 4000000000000000000 ∧ -4000000000000000000 ≤ a.tdiv b * b ∧ a.tdiv b * b ≤ 4000000000000000000 := by
  have hn : (a.tdiv b).natAbs ≤ a.natAbs := by rw [Int.natAbs_tdiv]; exact Nat.div_le_self _ _
  have hm : (a.tdiv b * b).natAbs ≤ a.natAbs := by rw [Int.natAbs_mul, Int.natAbs_tdiv]; exact Nat.div_mul_le_self _ _
  omega
/-- the error of a range -/
def rgE (a b c d : Int) : Int := if ok2 a b c d then (if 0 < a*d - c*b then 12 else 0) else 1
end Go.Proofs.YtconhikflghkdaaGreatDoor
