/- Plain laws: the bracket of a fraction, Dens tried one after the other. No program in sight. -/
import Derived.Test.YtconhikflghkdaaDoorMathSim
namespace Go.Proofs.YtconhikflghkdaaDoor.Rm
/-- the greatest fraction that is at most n/d, with a Den of at most k + 1, tried one after the other -/
def loB (n d : Int) : Nat → Int × Int
  | 0 => (fl n d, 1)
  | k+1 => if 0 < fl (n*((k : Int)+1+1)) d * (loB n d k).2 - (loB n d k).1*((k : Int)+1+1) then (fl (n*((k : Int)+1+1)) d, (k : Int)+1+1) else loB n d k
def hiB (n d : Int) : Nat → Int × Int
  | 0 => (cl n d, 1)
  | k+1 => if cl (n*((k : Int)+1+1)) d * (hiB n d k).2 - (hiB n d k).1*((k : Int)+1+1) < 0 then (cl (n*((k : Int)+1+1)) d, (k : Int)+1+1) else hiB n d k
theorem loB_low {n d : Int} (hd : 1 ≤ d) (k : Nat) : LowB n d ((k : Int)+1) (loB n d k).1 (loB n d k).2 := by
  induction k with
  | zero => exact LowB.one hd
  | succ k ih =>
    rw [loB]
    split
    · rename_i h; rw [show (((k+1 : Nat) : Int) + 1) = (k : Int) + 1 + 1 by omega]; exact LowB.yes hd (by omega) ih h
    · rename_i h; rw [show (((k+1 : Nat) : Int) + 1) = (k : Int) + 1 + 1 by omega]; exact LowB.no hd ih (by omega)
theorem hiB_high {n d : Int} (hd : 1 ≤ d) (k : Nat) : HighB n d ((k : Int)+1) (hiB n d k).1 (hiB n d k).2 := by
  induction k with
  | zero => exact HighB.one hd
  | succ k ih =>
    rw [hiB]
    split
    · rename_i h; rw [show (((k+1 : Nat) : Int) + 1) = (k : Int) + 1 + 1 by omega]; exact HighB.yes hd (by omega) ih h
    · rename_i h; rw [show (((k+1 : Nat) : Int) + 1) = (k : Int) + 1 + 1 by omega]; exact HighB.no hd ih (by omega)
/-- the bracket of n/d with Dens of at most m -/
def bkN (n d m : Int) : Int := (loB n d (m-1).toNat).1
def bkD (n d m : Int) : Int := (loB n d (m-1).toNat).2
def bhN (n d m : Int) : Int := (hiB n d (m-1).toNat).1
def bhD (n d m : Int) : Int := (hiB n d (m-1).toNat).2
theorem bk_brk {n d m : Int} (hd : 1 ≤ d) (hm : 1 ≤ m) : Brk n d m (bkN n d m) (bkD n d m) (bhN n d m) (bhD n d m) := by
  have e : (((m-1).toNat : Nat) : Int) + 1 = m := by omega
  have h1 := @loB_low n d hd (m-1).toNat
  have h2 := @hiB_high n d hd (m-1).toNat
  rw [e] at h1 h2
  exact Brk.mk' h1 h2
theorem bk_eq {n d m an ad bn bd : Int} (hd : 1 ≤ d) (hm : 1 ≤ m) (h : Brk n d m an ad bn bd) : bkN n d m = an ∧ bkD n d m = ad ∧ bhN n d m = bn ∧ bhD n d m = bd :=
  (bk_brk hd hm).unique h
end Go.Proofs.YtconhikflghkdaaDoor.Rm
