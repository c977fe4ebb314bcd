/- Plain laws: the nearer end of a bracket. No program in sight. -/
import Derived.Test.YtconhikflghkdaaDoorMathLoop
namespace Go.Proofs.YtconhikflghkdaaDoor.Rm
/-- how far the ends of a bracket are off -/
theorem Brk.off {n d m an ad bn bd : Int} (hd : 1 ≤ d) (hm : 1 ≤ m) (h : Brk n d m an ad bn bd) : 0 ≤ n*ad - an*d ∧ n*ad - an*d ≤ ad*d ∧ 0 ≤ bn*d - n*bd ∧ bn*d - n*bd ≤ bd*d := by
  have f1 := @fl_le n d hd
  have f2 := @lt_fl n d hd
  have l := h.al
  have r := h.bl
  have a1 := h.a1
  have b1 := h.b1
  have p := (h.ag (fl n d) 1 (by omega) hm (by omega)).1
  have q := (h.bg (fl n d + 1) 1 (by omega) hm (by omega)).1
  have p2 : fl n d * ad * d ≤ an*1*d := mulle p (by omega)
  have p3 : n * ad ≤ (fl n d + 1)*d*ad := mulle (by omega) (by omega)
  have q2 : bn*1*d ≤ (fl n d + 1)*bd*d := mulle q (by omega)
  have q3 : fl n d * d*bd ≤ n*bd := mulle f1 (by omega)
  have e1 : (fl n d + 1)*d*ad = fl n d * ad * d + ad*d := by grind
  have e2 : (fl n d + 1)*bd*d = fl n d * d*bd + bd*d := by grind
  have e3 : an*1*d = an*d := by rw [Int.mul_one]
  have e4 : bn*1*d = bn*d := by rw [Int.mul_one]
  omega
/-- the nearer one of the two ends -/
def nearB (n d an ad bn bd : Int) : Bool := decide ((n*ad - an*d)*bd < (bn*d - n*bd)*ad) || (decide ((n*ad - an*d)*bd = (bn*d - n*bd)*ad) && decide (ad ≤ bd))
theorem near_bd {d ad bd x : Int} (h0 : 0 ≤ x) (h1 : x ≤ ad*d) (a1 : 1 ≤ ad) (a2 : ad ≤ 1000000) (d1 : 1 ≤ d) (d2 : d ≤ 1000000) (b1 : 1 ≤ bd) (b2 : bd ≤ 1000000) : 0 ≤ x ∧ x ≤ 1000000000000 ∧ 0 ≤ x*bd ∧ x*bd ≤ 1000000000000000000 := by
  have p := (dd_bound a1 a2 d1 d2).2
  have q := @mul_bound x bd 1000000000000 1000000 (by omega) (by omega) (by omega) (by omega) b2
  have r := Int.mul_nonneg h0 (show 0 ≤ bd by omega)
  omega
end Go.Proofs.YtconhikflghkdaaDoor.Rm
