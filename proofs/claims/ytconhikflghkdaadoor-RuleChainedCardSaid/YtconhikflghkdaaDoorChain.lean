/- Plain laws of RuleChained: castings one after the other, sizes of both rules. No program in sight. -/
import Derived.Test.YtconhikflghkdaaDoorBoth
import Derived.Test.YtconhikflghkdaaDoorSizes
import Derived.Test.YtconhikflghkdaaDoorMathB
namespace Go.Proofs.YtconhikflghkdaaDoor
open Go.RowKit Go.Shelf
theorem red_congr {p q r s : Int} (hq : 1 ≤ q) (hs : 1 ≤ s) (e : p*s = r*q) : Rm.redN p q = Rm.redN r s ∧ Rm.redD p q = Rm.redD r s := by
  obtain ⟨g1, g2⟩ := @Rm.red_mul r s
  have gp := @Rm.gcd_pos r s hs
  refine Rm.red_eq hq (Rm.redD_pos hs) (Rm.red_gcd hs) ?_
  generalize Rm.redN r s = N at *
  generalize Rm.redD r s = D at *
  generalize (Int.gcd r s : Int) = g at *
  have k : (N*q)*g = (p*D)*g := by
    have e1 : (N*q)*g = (N*g)*q := by grind
    have e2 : (p*D)*g = p*(D*g) := by grind
    rw [e1, e2, g1, g2, e]
  exact Int.eq_of_mul_eq_mul_right (by omega) k
theorem chain_eq {c d c' d' n t3 t4 xn xd cn cd : Int} (hd : 1 ≤ d) (hd' : 1 ≤ d') (et : twN c d c' d' * t4 = t3 * twD c d c' d') (ex : (n*(d-c)) * xd = xn * d) (ec : (d'-c')*cd = cn*d') :
    (xn*cn)*t4 = (n*(t4-t3))*(xd*cd) := by
  unfold twN twD at et
  have k : (t4 - t3)*(d*d') = t4*((d-c)*(d'-c')) := by grind
  have q : ((xn*cn)*t4)*(d*d') = ((n*(t4-t3))*(xd*cd))*(d*d') := by
    have e1 : ((n*(t4-t3))*(xd*cd))*(d*d') = (n*(xd*cd))*((t4 - t3)*(d*d')) := by grind
    have e2 : ((xn*cn)*t4)*(d*d') = (xn*d)*(cn*d')*t4 := by grind
    rw [e1, e2, k, ← ex, ← ec]
    grind
  have p : 0 < d*d' := Int.mul_pos (by omega) (by omega)
  exact Int.eq_of_mul_eq_mul_right (by omega) q
theorem le_boL (a b a' b' : Int) : a * (boL a b a' b').2 ≤ (boL a b a' b').1 * b := by
  unfold boL
  split
  · simp only; omega
  · exact Int.le_refl _
theorem boM_le (c d c' d' : Int) : (boM c d c' d').1 * d ≤ c * (boM c d c' d').2 := by
  unfold boM
  split
  · simp only; omega
  · exact Int.le_refl _
theorem bo_ok {a b c d a' b' c' d' : Int} (h : boE a b c d a' b' c' d' = 0) : ruOk a b c d = true ∧ ruOk (boL a b a' b').1 (boL a b a' b').2 (boM c d c' d').1 (boM c d c' d').2 = true := by
  unfold boE at h
  split at h
  · rename_i hk
    rw [Bool.and_eq_true] at hk
    refine ⟨hk.1, ?_⟩
    have hx : ¬ 0 < boX a b c d a' b' c' d' := fun hp => by rw [if_pos hp] at h; omega
    unfold boX at hx
    have h1 := hk.1
    have h2 := hk.2
    simp only [ruOk, ok2, Bool.and_eq_true, decide_eq_true_eq] at h1 h2 ⊢
    obtain ⟨⟨⟨⟨⟨⟨p1, p2⟩, p3⟩, p4⟩, p5⟩, p6⟩, p7⟩ := h1
    obtain ⟨⟨⟨⟨⟨⟨q1, q2⟩, q3⟩, q4⟩, q5⟩, q6⟩, q7⟩ := h2
    have kL : Rm.okF (boL a b a' b').1 (boL a b a' b').2 = true ∧ (boL a b a' b').2 ≤ 1000 ∧ 0 ≤ (boL a b a' b').1 := by
      unfold boL; split
      · exact ⟨q1, q3, q5⟩
      · exact ⟨p1, p3, p5⟩
    have kM : Rm.okF (boM c d c' d').1 (boM c d c' d').2 = true ∧ (boM c d c' d').2 ≤ 1000 ∧ 4*(boM c d c' d').1 ≤ (boM c d c' d').2 := by
      unfold boM; split
      · exact ⟨q2, q4, q7⟩
      · exact ⟨p2, p4, p7⟩
    exact ⟨⟨⟨⟨⟨⟨kL.1, kM.1⟩, kL.2.1⟩, kM.2.1⟩, kL.2.2⟩, by omega⟩, kM.2.2⟩
  · omega
theorem cl_mono {low c d c' d' : Int} (l1 : 1 ≤ low) (d1 : 1 ≤ d) (d1' : 1 ≤ d') (h1 : 1 ≤ d - c) (h2 : 1 ≤ d' - c') (h : c'*d ≤ c*d') : Rm.cl (low*d') (d'-c') ≤ Rm.cl (low*d) (d-c) := by
  have q := @Rm.le_cl (low*d) (d-c) h1
  generalize Rm.cl (low*d) (d-c) = y at *
  refine Rm.cl_le h2 ?_
  have hp : 0 < low*d := Int.mul_pos (by omega) (by omega)
  have hy : 0 < y := Rm.posl (show 0 < y*(d-c) by omega) (by omega)
  have k1 := Rm.mulle q (show 0 ≤ d' by omega)
  have k3 : (d-c)*d' ≤ (d'-c')*d := by
    have e1 : (d-c)*d' = d*d' - c*d' := by grind
    have e2 : (d'-c')*d = d*d' - c'*d := by grind
    omega
  have k2 := Int.mul_le_mul_of_nonneg_left k3 (show 0 ≤ y by omega)
  have k4 : (low*d')*d ≤ (y*(d'-c'))*d := by
    have e1 : (low*d')*d = low*d*d' := by grind
    have e2 : y*(d-c)*d' = y*((d-c)*d') := by grind
    have e3 : (y*(d'-c'))*d = y*((d'-c')*d) := by grind
    omega
  exact Rm.lemul k4 (by omega)
theorem fl_mono {high a b a' b' : Int} (l1 : 1 ≤ high) (b1 : 1 ≤ b) (b1' : 1 ≤ b') (h1 : 1 ≤ b - a) (h2 : 1 ≤ b' - a') (h : a*b' ≤ a'*b) : Rm.fl (high*b) (b-a) ≤ Rm.fl (high*b') (b'-a') := by
  have q := @Rm.fl_le (high*b) (b-a) h1
  have y0 : 0 ≤ Rm.fl (high*b) (b-a) := Rm.le_fl h1 (by have := Int.mul_pos (show 0 < high by omega) (show 0 < b by omega); omega)
  generalize Rm.fl (high*b) (b-a) = y at *
  refine Rm.le_fl h2 ?_
  have k1 := Rm.mulle q (show 0 ≤ b' by omega)
  have k3 : (b'-a')*b ≤ (b-a)*b' := by
    have e1 : (b-a)*b' = b*b' - a*b' := by grind
    have e2 : (b'-a')*b = b*b' - a'*b := by grind
    omega
  have k2 := Int.mul_le_mul_of_nonneg_left k3 y0
  have k4 : (y*(b'-a'))*b ≤ (high*b')*b := by
    have e1 : (high*b')*b = high*b*b' := by grind
    have e2 : y*(b-a)*b' = y*((b-a)*b') := by grind
    have e3 : (y*(b'-a'))*b = y*((b'-a')*b) := by grind
    omega
  exact Rm.lemul k4 (by omega)
theorem sz_both {a b c d L1 L2 M1 M2 low high : Int} (h1 : ruOk a b c d = true) (h2 : ruOk L1 L2 M1 M2 = true) (hl : a*L2 ≤ L1*b) (hm : M1*d ≤ c*M2) :
    szE L1 L2 M1 M2 low high = szE a b c d low high ∧ (szB a b c d low high = true → szB L1 L2 M1 M2 low high = true ∧ szLo L1 L2 M1 M2 low high ≤ szLo a b c d low high ∧ szHi a b c d low high ≤ szHi L1 L2 M1 M2 low high) := by
  have eE : szE L1 L2 M1 M2 low high = szE a b c d low high := by unfold szE; rw [h1, h2]
  refine ⟨eE, fun hB => ?_⟩
  have hB' := hB
  unfold szB at hB
  rw [Bool.and_eq_true, decide_eq_true_eq, decide_eq_true_eq] at hB
  obtain ⟨z0, z1⟩ := hB
  have hk : szOk low = true ∧ szOk high = true := by
    unfold szE at z0
    split at z0
    · rename_i h; simp only [Bool.and_eq_true] at h; exact h.2
    · omega
  simp only [szOk, Bool.and_eq_true, decide_eq_true_eq] at hk
  have R1 := RuB.of h1
  have R2 := RuB.of h2
  have cm := cl_mono (low := low) (by omega) R1.d1 R2.d1 (by have := R1.cd; have := R1.d1; omega) (by have := R2.cd; have := R2.d1; omega) hm
  have fm := fl_mono (high := high) (by omega) R1.b1 R2.b1 (by have := R1.ab; have := R1.b1; omega) (by have := R2.ab; have := R2.b1; omega) hl
  have e1 : szL M1 M2 low ≤ szL c d low := by unfold szL; omega
  have e2 : szM a b high ≤ szM L1 L2 high := by unfold szM; omega
  have hB2 : szB L1 L2 M1 M2 low high = true := by
    unfold szB
    rw [Bool.and_eq_true, decide_eq_true_eq, decide_eq_true_eq]
    exact ⟨by omega, by omega⟩
  refine ⟨hB2, ?_, ?_⟩
  · unfold szLo; rw [hB2, hB', if_pos rfl, if_pos rfl]; omega
  · unfold szHi; rw [hB2, hB', if_pos rfl, if_pos rfl]; omega
end Go.Proofs.YtconhikflghkdaaDoor
