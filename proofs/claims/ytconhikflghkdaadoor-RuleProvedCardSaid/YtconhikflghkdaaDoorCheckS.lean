/- rule/near.go: CheckSimplest: ranged with one fraction more, the closure within, the answer; the plain law: the answer is that of the simplest fraction. -/
import Derived.Test.YtconhikflghkdaaDoorSimple
import Derived.Test.YtconhikflghkdaaDoorNeighb
namespace Go.Proofs.YtconhikflghkdaaDoor
open Go.RowKit Go.Shelf
/-- what CheckSimplest returns: its error, its answer -/
def csE (a b c d n e : Int) : Int := if ok2 a b c d && Rm.okF n e then rgE a b c d else 1
def csB (a b c d n e : Int) : Bool := decide (csE a b c d n e = 0) && (decide (n = smN a b c d) && decide (e = smD a b c d))
/-- n/e lies in the range -/
def inR (a b c d n e : Int) : Bool := decide (0 ≤ n*b - a*e) && decide (n*d - c*e ≤ 0)
theorem csE_zero {a b c d n e : Int} (h : csE a b c d n e = 0) : ok2 a b c d = true ∧ Rm.okF n e = true ∧ rgE a b c d = 0 := by
  unfold csE at h
  split at h
  · rename_i k
    rw [Bool.and_eq_true] at k
    exact ⟨k.1, k.2, h⟩
  · omega
theorem cs_iff {a b c d n e : Int} (h : csE a b c d n e = 0) : csB a b c d n e = true ↔ Rm.PS a b c d n e := by
  obtain ⟨h1, h2, h3⟩ := csE_zero h
  obtain ⟨⟨x1, x2, x3, x4, x5⟩, ⟨y1, y2, y3, y4, y5⟩⟩ := ok2_parts h1
  have P := Rm.sim_PS x3 y3 x5 y5 (rgE_zero h3).2
  have e1 : smN a b c d = (Rm.sim a b c d).1 := by simp [smN, h3]
  have e2 : smD a b c d = (Rm.sim a b c d).2 := by simp [smD, h3]
  rw [← e1, ← e2] at P
  unfold csB
  rw [h]
  simp only [decide_true, Bool.true_and, Bool.and_eq_true, decide_eq_true_eq]
  constructor
  · rintro ⟨rfl, rfl⟩; exact P
  · intro Q; exact Q.unique P
theorem inR_iff {a b c d n e : Int} : inR a b c d n e = true ↔ a*e ≤ n*b ∧ n*d ≤ c*e := by
  unfold inR
  rw [Bool.and_eq_true, decide_eq_true_eq, decide_eq_true_eq]
  omega
theorem csB_out {a b c d n e : Int} (h : csE a b c d n e = 0) (hi : inR a b c d n e = false) : csB a b c d n e = false := by
  cases g : csB a b c d n e
  · rfl
  · have P := (cs_iff h).1 g
    rw [inR_iff.2 ⟨P.lo, P.hi⟩] at hi
    cases hi
theorem nb_of_okF {n d : Int} (h : Rm.okF n d = true) (hd : 2 ≤ d) : Rm.Nb n d (Rm.bkN n d (d-1)) (Rm.bkD n d (d-1)) (Rm.bhN n d (d-1)) (Rm.bhD n d (d-1)) := by
  obtain ⟨x1, x2, x3, x4, x5⟩ := Rm.okF_iff.1 h
  obtain ⟨_, P, t, s, _, hci⟩ := Rm.conv_last x1 x2 x3 x4 x5
  have hnb := hci.nb hd
  rcases hci.sg with e | e
  · have k := hnb.1 e
    obtain ⟨k1, k2, k3, k4⟩ := Rm.bk_eq (by omega) (by omega) k.brk
    rw [k1, k2, k3, k4]; exact k
  · have k := hnb.2 e
    obtain ⟨k1, k2, k3, k4⟩ := Rm.bk_eq (by omega) (by omega) k.brk
    rw [k1, k2, k3, k4]; exact k
theorem csB_nb {a b c d n e an ad bn bd : Int} (h : csE a b c d n e = 0) (hi : inR a b c d n e = true) (he : 2 ≤ e) (K : Rm.Nb n e an ad bn bd) :
    csB a b c d n e = (!inR a b c d an ad && !inR a b c d bn bd) := by
  obtain ⟨h1, h2, h3⟩ := csE_zero h
  obtain ⟨⟨x1, x2, x3, x4, x5⟩, ⟨y1, y2, y3, y4, y5⟩⟩ := ok2_parts h1
  obtain ⟨i1, i2⟩ := inR_iff.1 hi
  have a1 := K.a1
  have b1 := K.b1
  have d1 := K.ad1
  have d2 := K.bd1
  -- a lies below x, so it lies below the high end; b lies above x, so it lies above the low end
  have lowA : an*d ≤ c*ad := by
    have h1 : an*e ≤ n*ad := by omega
    have h2 := Rm.mulle h1 (show 0 ≤ d by omega)
    have h3 := Rm.mulle i2 (show 0 ≤ ad by omega)
    have h4 : (an*d)*e ≤ (c*ad)*e := by grind
    exact Rm.lemul h4 (by omega)
  have highB : a*bd ≤ bn*b := by
    have h1 : n*bd ≤ bn*e := by omega
    have h2 := Rm.mulle h1 (show 0 ≤ b by omega)
    have h3 := Rm.mulle i1 (show 0 ≤ bd by omega)
    have h4 : (a*bd)*e ≤ (bn*b)*e := by grind
    exact Rm.lemul h4 (by omega)
  have key : csB a b c d n e = true ↔ (!inR a b c d an ad && !inR a b c d bn bd) = true := by
    rw [cs_iff h, Bool.and_eq_true, Bool.not_eq_true', Bool.not_eq_true']
    constructor
    · intro P
      obtain ⟨k1, k2⟩ := P.nb x3 y3 K
      constructor
      · cases g : inR a b c d an ad
        · rfl
        · have := inR_iff.1 g; omega
      · cases g : inR a b c d bn bd
        · rfl
        · have := inR_iff.1 g; omega
    · rintro ⟨g1, g2⟩
      refine Rm.PS.of_nb x3 y3 K he i1 i2 ?_ ?_
      · by_cases g : an*b < a*ad
        · exact g
        · rw [inR_iff.2 ⟨by omega, lowA⟩] at g1; cases g1
      · by_cases g : c*bd < bn*d
        · exact g
        · rw [inR_iff.2 ⟨highB, by omega⟩] at g2; cases g2
  cases g : csB a b c d n e
  · cases g' : (!inR a b c d an ad && !inR a b c d bn bd)
    · rfl
    · rw [key.2 g'] at g; cases g
  · rw [key.1 g]
theorem csB_one {a b c d n : Int} (h : csE a b c d n 1 = 0) (hi : inR a b c d n 1 = true) :
    csB a b c d n 1 = (decide (n = 0) || !inR a b c d (if n < 0 then n+1 else n-1) 1) := by
  obtain ⟨h1, h2, h3⟩ := csE_zero h
  obtain ⟨⟨x1, x2, x3, x4, x5⟩, ⟨y1, y2, y3, y4, y5⟩⟩ := ok2_parts h1
  obtain ⟨i1, i2⟩ := inR_iff.1 hi
  rw [Int.mul_one] at i1 i2
  have W := @Rm.PS.whole a b c d n x3 y3 i1 i2
  have key : csB a b c d n 1 = true ↔ (decide (n = 0) || !inR a b c d (if n < 0 then n+1 else n-1) 1) = true := by
    rw [cs_iff h, W, Bool.or_eq_true, decide_eq_true_eq, Bool.not_eq_true', ← Bool.not_eq_true, inR_iff, Int.mul_one, Int.mul_one]
  cases g : csB a b c d n 1
  · cases g' : (decide (n = 0) || !inR a b c d (if n < 0 then n+1 else n-1) 1)
    · rfl
    · rw [key.2 g'] at g; cases g
  · rw [key.1 g]
end Go.Proofs.YtconhikflghkdaaDoor
