/- Plain laws: the four operations, and how great their results can be. No program in sight. -/
import Derived.Test.YtconhikflghkdaaDoorMath
namespace Go.Proofs.YtconhikflghkdaaDoor.Rm
/-- the parts of a quotient -/
def quoN (a _b c d : Int) : Int := if c < 0 then -a*d else a*d
def quoD (_a b c _d : Int) : Int := if c < 0 then -b*c else b*c
theorem mul_bound {a b A B : Int} (hA : 0 ≤ A) (h1 : -A ≤ a) (h2 : a ≤ A) (h3 : -B ≤ b) (h4 : b ≤ B) : -(A*B) ≤ a*b ∧ a*b ≤ A*B := by
  have n : (a*b).natAbs ≤ (A*B).natAbs := by
    rw [Int.natAbs_mul, Int.natAbs_mul]
    exact Nat.mul_le_mul (by omega) (by omega)
  have p : 0 ≤ A*B := Int.mul_nonneg hA (by omega)
  omega
/-- products of parts of fractions as said -/
theorem nd_bound {a d : Int} (h1 : -1000000000 ≤ a) (h2 : a ≤ 1000000000) (h3 : 1 ≤ d) (h4 : d ≤ 1000000) : -1000000000000000 ≤ a*d ∧ a*d ≤ 1000000000000000 := by
  have := @mul_bound a d 1000000000 1000000 (by omega) h1 h2 (by omega) h4; omega
theorem nn_bound {a c : Int} (h1 : -1000000000 ≤ a) (h2 : a ≤ 1000000000) (h3 : -1000000000 ≤ c) (h4 : c ≤ 1000000000) : -1000000000000000000 ≤ a*c ∧ a*c ≤ 1000000000000000000 := by
  have := @mul_bound a c 1000000000 1000000000 (by omega) h1 h2 (by omega) h4; omega
theorem dd_bound {b d : Int} (h1 : 1 ≤ b) (h2 : b ≤ 1000000) (h3 : 1 ≤ d) (h4 : d ≤ 1000000) : 1 ≤ b*d ∧ b*d ≤ 1000000000000 := by
  have := @mul_bound b d 1000000 1000000 (by omega) (by omega) h2 (by omega) h4
  have := Int.mul_pos (show 0 < b by omega) (show 0 < d by omega)
  omega
/-- the four operations: what they make of the parts, and whether they are to be carried out -/
def opN (k : Nat) (a b c d : Int) : Int := match k with | 0 => a*d + c*b | 1 => a*d - c*b | 2 => a*c | _ => quoN a b c d
def opD (k : Nat) (a b c d : Int) : Int := match k with | 0 => b*d | 1 => b*d | 2 => b*d | _ => quoD a b c d
theorem op_bound {k : Nat} {a b c d : Int} (hk3 : k ≤ 3) (h : k = 3 → c ≠ 0) (a1 : -1000000000 ≤ a) (a2 : a ≤ 1000000000) (b1 : 1 ≤ b) (b2 : b ≤ 1000000) (c1 : -1000000000 ≤ c) (c2 : c ≤ 1000000000) (d1 : 1 ≤ d) (d2 : d ≤ 1000000) :
    1 ≤ opD k a b c d ∧ opD k a b c d ≤ 4000000000000000000 ∧ -4000000000000000000 ≤ opN k a b c d ∧ opN k a b c d ≤ 4000000000000000000 := by
  have e1 := nd_bound a1 a2 d1 d2
  have e2 := nd_bound c1 c2 b1 b2
  have e3 := dd_bound b1 b2 d1 d2
  have e4 := nn_bound a1 a2 c1 c2
  match k with
  | 0 => simp only [opN, opD]; omega
  | 1 => simp only [opN, opD]; omega
  | 2 => simp only [opN, opD]; omega
  | k+3 =>
    simp only [opN, opD, quoN, quoD]
    split
    · rename_i hc
      have : 0 < -b*c := by
        have := Int.mul_pos (show 0 < b by omega) (show 0 < -c by omega)
        have : b * -c = -b*c := by grind
        omega
      have : b*c = c*b := Int.mul_comm _ _
      simp only [Int.neg_mul] at *
      omega
    · rename_i hc
      by_cases hz : c = 0
      · by_cases hk : k = 0
        · exact absurd hz (h (by omega))
        · omega
      · have := Int.mul_pos (show 0 < b by omega) (show 0 < c by omega)
        have : b*c = c*b := Int.mul_comm _ _
        omega
end Go.Proofs.YtconhikflghkdaaDoor.Rm
