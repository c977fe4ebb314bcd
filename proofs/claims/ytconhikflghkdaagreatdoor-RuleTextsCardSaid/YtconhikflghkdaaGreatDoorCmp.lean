/- rule/frac.go: Compare, Floor, Ceil. -/
import Derived.Test.YtconhikflghkdaaGreatDoorArith
namespace Go.Proofs.YtconhikflghkdaaGreatDoor
open Go.RowKit Go.Shelf
def sgn (n : Int) : Int := if n < 0 then -1 else if n > 0 then 1 else 0
def cmpN (a b c d : Int) : Int := if ok2 a b c d then sgn (a*d - c*b) else 0
def flN (a b : Int) : Int := if Rm.okF a b then Rm.fl a b else 0
def clN (a b : Int) : Int := if Rm.okF a b then Rm.cl a b else 0
theorem ok2_parts {a b c d : Int} (h : ok2 a b c d = true) : (-1000000000 ≤ a ∧ a ≤ 1000000000 ∧ 1 ≤ b ∧ b ≤ 1000000 ∧ Int.gcd a b = 1) ∧ (-1000000000 ≤ c ∧ c ≤ 1000000000 ∧ 1 ≤ d ∧ d ≤ 1000000 ∧ Int.gcd c d = 1) := by
  simpa [ok2, Rm.okF_iff] using h
end Go.Proofs.YtconhikflghkdaaGreatDoor
