/- Plain laws: the simplest fraction of a range as a function. No program in sight. -/
import Derived.Test.YtconhikflghkdaaDoorMathOps
namespace Go.Proofs.YtconhikflghkdaaDoor.Rm
/-- the simplest fraction of a range above zero; k: how many steps -/
def simP : Nat → Int → Int → Int → Int → Int × Int
  | 0, _, _, _, _ => (0, 1)
  | k+1, ln, ld, hn, hd =>
    if fl ln ld * ld = ln then (ln, ld) else if (fl ln ld + 1)*hd ≤ hn then (fl ln ld + 1, 1)
    else (fl ln ld * (simP k hd (hn - fl ln ld * hd) ld (ln - fl ln ld * ld)).1 + (simP k hd (hn - fl ln ld * hd) ld (ln - fl ln ld * ld)).2, (simP k hd (hn - fl ln ld * hd) ld (ln - fl ln ld * ld)).1)
/-- the simplest fraction of a range -/
def sim (ln ld hn hd : Int) : Int × Int :=
  if 1 ≤ ln then simP (ld + hd).toNat ln ld hn hd
  else if hn < 0 then (-(simP (hd + ld).toNat (-hn) hd (-ln) ld).1, (simP (hd + ld).toNat (-hn) hd (-ln) ld).2) else (0, 1)
theorem simP_PS (k : Nat) : ∀ (ln ld hn hd : Int), (ld + hd).toNat ≤ k → 1 ≤ ln → 1 ≤ ld → 1 ≤ hn → 1 ≤ hd → Int.gcd ln ld = 1 → Int.gcd hn hd = 1 → ln*hd ≤ hn*ld →
    PS ln ld hn hd (simP k ln ld hn hd).1 (simP k ln ld hn hd).2 := by
  induction k with
  | zero => intro ln ld hn hd hk _ _ _ _; omega
  | succ k ih =>
    intro ln ld hn hd hk a1 a3 a5 a7 hg hgh hr
    have f1 := @fl_le ln ld a3
    have f2 := @lt_fl ln ld a3
    have f0 : 0 ≤ fl ln ld := le_fl a3 (by omega)
    rw [simP]
    by_cases h1 : fl ln ld * ld = ln
    · rw [if_pos h1]
      have hd1 : ld = 1 := rd_one a3 hg h1
      subst hd1
      exact @PS.low ln hn hd (by omega) (by omega)
    · rw [if_neg h1]
      by_cases h2 : (fl ln ld + 1)*hd ≤ hn
      · rw [if_pos h2]
        exact @PS.next ln ld hn hd _ a3 f0 (by omega) (by omega) h2
      · rw [if_neg h2]
        have fh2 : (fl ln ld+1)*hd = fl ln ld*hd + hd := by grind
        have q1 : 1 ≤ ln - fl ln ld*ld := by omega
        have q2 : ln - fl ln ld*ld < ld := by
          have : (fl ln ld+1)*ld = fl ln ld*ld + ld := by grind
          omega
        have q3 : 1 ≤ hn - fl ln ld*hd := by
          have : 0 < (hn - fl ln ld*hd)*ld := by
            have : 0 < (ln - fl ln ld*ld)*hd := Int.mul_pos (by omega) (by omega)
            grind
          have := posl this (by omega)
          omega
        exact @PS.step ln ld hn hd _ _ _ a3 a7 f0 (by omega) hr (ih hd (hn - fl ln ld*hd) ld (ln - fl ln ld*ld) (by omega) (by omega) q3 (by omega) q1 (by rw [gcd_step]; exact hgh) (by rw [gcd_step]; exact hg) (by grind))
theorem sim_PS {ln ld hn hd : Int} (a3 : 1 ≤ ld) (a7 : 1 ≤ hd) (hg : Int.gcd ln ld = 1) (hgh : Int.gcd hn hd = 1) (hr : ln*hd ≤ hn*ld) : PS ln ld hn hd (sim ln ld hn hd).1 (sim ln ld hn hd).2 := by
  unfold sim
  by_cases h0 : 1 ≤ ln
  · rw [if_pos h0]
    have : 1 ≤ hn := by
      have : 0 < ln*hd := Int.mul_pos (by omega) (by omega)
      have : 0 < hn*ld := by omega
      have := posl this (by omega)
      omega
    exact simP_PS _ ln ld hn hd (Nat.le_refl _) h0 a3 this a7 hg hgh hr
  · rw [if_neg h0]
    by_cases h1 : hn < 0
    · rw [if_pos h1]
      exact (simP_PS _ (-hn) hd (-ln) ld (Nat.le_refl _) (by omega) a7 (by
        have : ln < 0 := by
          have : hn*ld < 0*ld := Int.mul_lt_mul_of_pos_right h1 (by omega)
          have : ln*hd < 0*hd := by omega
          exact ltmul this (by omega)
        omega) a3 (by rw [Int.neg_gcd]; exact hgh) (by rw [Int.neg_gcd]; exact hg) (by simp only [Int.neg_mul]; omega)).neg
    · rw [if_neg h1]
      exact PS.zero (by omega) (by omega)
theorem sim_eq {ln ld hn hd xn xd : Int} (a3 : 1 ≤ ld) (a7 : 1 ≤ hd) (hg : Int.gcd ln ld = 1) (hgh : Int.gcd hn hd = 1) (hr : ln*hd ≤ hn*ld) (h : PS ln ld hn hd xn xd) : (sim ln ld hn hd).1 = xn ∧ (sim ln ld hn hd).2 = xd :=
  (sim_PS a3 a7 hg hgh hr).unique h
example : sim 31 100 8 25 = (5, 16) := by decide
end Go.Proofs.YtconhikflghkdaaDoor.Rm
