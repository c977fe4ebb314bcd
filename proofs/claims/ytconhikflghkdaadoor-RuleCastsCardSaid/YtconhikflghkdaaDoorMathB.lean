/- Plain laws: misses in lowest terms, castings, sizes that serve. No program in sight. -/
import Derived.Test.YtconhikflghkdaaDoorMath
namespace Go.Proofs.YtconhikflghkdaaDoor.Rm
theorem okR_of {n d : Int} (h1 : -1000000000 ≤ n) (h2 : n ≤ 1000000000) (h3 : 1 ≤ d) (h4 : d ≤ 1000000) : okR n d = true := by
  have g := @gcd_pos n d h3
  obtain ⟨e1, e2⟩ := @red_mul n d
  have p := @redD_pos n d h3
  unfold okR small
  generalize redN n d = x at *
  generalize redD n d = y at *
  generalize (Int.gcd n d : Int) = k at *
  have q := mulle g (show 0 ≤ y by omega)
  rw [Int.mul_comm k y, e2] at q
  have r : x ≤ 1000000000 := by
    by_cases z : 0 ≤ x
    · have := mulle g z
      rw [Int.mul_comm k x, e1] at this
      omega
    · omega
  have s : -1000000000 ≤ x := by
    by_cases z : 0 ≤ -x
    · have := mulle g z
      rw [Int.mul_comm k (-x), Int.neg_mul, e1] at this
      omega
    · omega
  simp; omega
theorem cross_red (a b c d : Int) : a*d - c*b = (redN a b * redD c d - redN c d * redD a b) * ((Int.gcd a b : Int) * (Int.gcd c d : Int)) := by
  obtain ⟨e1, e2⟩ := @red_mul a b
  obtain ⟨e3, e4⟩ := @red_mul c d
  generalize redN a b = x at *
  generalize redD a b = y at *
  generalize redN c d = z at *
  generalize redD c d = t at *
  generalize (Int.gcd a b : Int) = g at *
  generalize (Int.gcd c d : Int) = k at *
  subst e1 e2 e3 e4
  grind
theorem cross_lt {a b c d : Int} (hb : 1 ≤ b) (hd : 1 ≤ d) : redN a b * redD c d < redN c d * redD a b ↔ a*d < c*b := by
  have e := cross_red a b c d
  have g : 0 < (Int.gcd a b : Int) * (Int.gcd c d : Int) := Int.mul_pos (by have := @gcd_pos a b hb; omega) (by have := @gcd_pos c d hd; omega)
  generalize (Int.gcd a b : Int) * (Int.gcd c d : Int) = k at *
  generalize redN a b * redD c d = x at *
  generalize redN c d * redD a b = y at *
  constructor
  · intro h
    have := Int.mul_pos (show 0 < y - x by omega) g
    have : (y - x)*k = -((x-y)*k) := by rw [← Int.neg_mul]; congr 1; omega
    omega
  · intro h
    have h' : (x - y)*k < 0*k := by omega
    have := ltmul h' (by omega)
    omega
/-- no size misses by less than the best one -/
theorem least_le {a b c d want top n m : Int} (hb : 1 ≤ b) (hd : 1 ≤ d) (h : IsBest a b c d want top n) (m1 : 1 ≤ m) (m2 : m ≤ top) :
    ¬ redN (msN a b c d m want) (msD a b c d m want) * redD (msN a b c d n want) (msD a b c d n want) < redN (msN a b c d n want) (msD a b c d n want) * redD (msN a b c d m want) (msD a b c d m want) := by
  rw [cross_lt (msD_pos hb hd) (msD_pos hb hd)]
  have := h.le m m1 m2
  unfold msX at this
  omega
/-- a size that misses by as much is not less -/
theorem least_eq {a b c d want top n m : Int} (h : IsBest a b c d want top n) (m1 : 1 ≤ m)
    (e1 : redN (msN a b c d m want) (msD a b c d m want) = redN (msN a b c d n want) (msD a b c d n want)) (e2 : redD (msN a b c d m want) (msD a b c d m want) = redD (msN a b c d n want) (msD a b c d n want)) : n ≤ m := by
  by_cases q : n ≤ m
  · exact q
  · exfalso
    have l := h.lt m m1 (by omega)
    have x := cross_red (msN a b c d n want) (msD a b c d n want) (msN a b c d m want) (msD a b c d m want)
    rw [e1, e2] at x
    unfold msX at l
    rw [show redN (msN a b c d n want) (msD a b c d n want) * redD (msN a b c d n want) (msD a b c d n want) - redN (msN a b c d n want) (msD a b c d n want) * redD (msN a b c d n want) (msD a b c d n want) = 0 by omega, Int.zero_mul] at x
    omega
theorem redN_one (n : Int) : redN n 1 = n ∧ redD n 1 = 1 := red_self (by simp)
theorem LowB.le_d {n d m an ad : Int} (hd : 1 ≤ d) (h : LowB n d m an ad) : ad ≤ d := by
  by_cases q : d ≤ m
  · have g := h.ag n d hd q (by omega)
    exact g.2 (by have := h.al; omega)
  · have := h.am; omega
theorem HighB.le_d {n d m an ad : Int} (hd : 1 ≤ d) (h : HighB n d m an ad) : ad ≤ d := by
  by_cases q : d ≤ m
  · have g := h.ag n d hd q (by omega)
    exact g.2 (by have := h.al; omega)
  · have := h.am; omega
theorem fl_ad_bd {n d ad k : Int} (h1 : -1000000000 ≤ n) (h2 : n ≤ 1000000000) (hd : 1 ≤ d) (hd2 : d ≤ 1000000) (a1 : 1 ≤ ad) (l : ad ≤ d) (k1 : 1 ≤ k) (k2 : k ≤ 1000000) :
    -2000000000000000 ≤ n*k ∧ n*k ≤ 2000000000000000 ∧ -2000000000000000 ≤ fl (n*k) d * ad ∧ fl (n*k) d * ad ≤ 2000000000000000 ∧ -2000000000000000 ≤ cl (n*k) d * ad ∧ cl (n*k) d * ad ≤ 2000000000000000 ∧
    -2000000000000000 ≤ fl (n*k) d ∧ fl (n*k) d ≤ 2000000000000000 ∧ -2000000000000000 ≤ cl (n*k) d ∧ cl (n*k) d ≤ 2000000000000000 := by
  have b := nd_bound h1 h2 k1 k2
  have f1 := @fl_le (n*k) d hd
  have f2 := @lt_fl (n*k) d hd
  have c1 := @le_cl (n*k) d hd
  have c2 : cl (n*k) d ≤ fl (n*k) d + 1 := cl_le hd (by omega)
  have f3 : fl (n*k) d ≤ cl (n*k) d := by
    have : fl (n*k) d * d ≤ cl (n*k) d * d := by omega
    exact lemul this (by omega)
  rw [Int.add_mul, Int.one_mul] at f2
  generalize fl (n*k) d = F at *
  generalize cl (n*k) d = C at *
  generalize n*k = N at *
  have key : ∀ X : Int, X*d ≤ N + d → N - d ≤ X*d → -2000000000000000 ≤ X*ad ∧ X*ad ≤ 2000000000000000 ∧ -2000000000000000 ≤ X ∧ X ≤ 2000000000000000 := by
    intro X g1 g2
    by_cases q : 0 ≤ X
    · have p1 := Int.mul_nonneg q (show 0 ≤ ad by omega)
      have p2 := mulle l q
      rw [Int.mul_comm ad X, Int.mul_comm d X] at p2
      have p3 := mulle a1 q
      rw [Int.mul_comm ad X, Int.one_mul] at p3
      omega
    · have p1 := Int.mul_nonneg (show 0 ≤ -X by omega) (show 0 ≤ ad by omega)
      have p2 := mulle l (show 0 ≤ -X by omega)
      rw [Int.mul_comm ad (-X), Int.mul_comm d (-X)] at p2
      have p3 := mulle a1 (show 0 ≤ -X by omega)
      rw [Int.mul_comm ad (-X), Int.one_mul] at p3
      rw [Int.neg_mul] at p1 p2 p3
      rw [Int.neg_mul] at p2
      omega
  have hC : C*d ≤ (F+1)*d := mulle c2 (by omega)
  rw [Int.add_mul, Int.one_mul] at hC
  have k1 := key F (by omega) (by omega)
  have k2 := key C (by omega) (by omega)
  omega
theorem LowB.bd {n d m an ad k : Int} (h1 : -1000000000 ≤ n) (h2 : n ≤ 1000000000) (hd : 1 ≤ d) (hd2 : d ≤ 1000000) (hm : 1 ≤ m) (h : LowB n d m an ad) (k1 : 1 ≤ k) (k2 : k ≤ 1000000) :
    1 ≤ ad ∧ ad ≤ d ∧ -2000000000 ≤ an ∧ an ≤ 2000000000 ∧ -2000000000000000 ≤ an*k ∧ an*k ≤ 2000000000000000 := by
  have l := h.le_d hd
  have a1 := h.a1
  have al := h.al
  have g := (h.ag (fl n d) 1 (by omega) hm (by have := @fl_le n d hd; omega)).1
  have f2 := @lt_fl n d hd
  rw [Int.add_mul, Int.one_mul] at f2
  have u : an ≤ 2000000000 := by
    by_cases q : 0 ≤ n
    · have := mulle l q
      rw [Int.mul_comm ad n, Int.mul_comm d n] at this
      have : an*d ≤ n*d := by omega
      have := lemul this (by omega)
      omega
    · have := Int.mul_nonneg (show 0 ≤ -n by omega) (show 0 ≤ ad by omega)
      rw [Int.neg_mul] at this
      have : an*d ≤ 0*d := by omega
      have := lemul this (by omega)
      omega
  have v : -2000000000 ≤ an := by
    have e1 := mulle (show n - d ≤ fl n d * d by omega) (show 0 ≤ ad by omega)
    have e2 := mulle g (show 0 ≤ d by omega)
    have e3 : fl n d * d * ad = fl n d * ad * d := by grind
    rw [Int.mul_one] at e2
    by_cases q : 0 ≤ n - d
    · have := Int.mul_nonneg q (show 0 ≤ ad by omega)
      have : 0*d ≤ an*d := by omega
      have := lemul this (by omega)
      omega
    · have p := mulle l (show 0 ≤ d - n by omega)
      have : (n-d)*d ≤ an*d := by
        have e4 : (n-d)*d = -(d*(d-n)) := by grind
        have e5 : (n-d)*ad = -(ad*(d-n)) := by grind
        omega
      have := lemul this (by omega)
      omega
  have p := @mul_bound an k 2000000000 1000000 (by omega) (by omega) u (by omega) k2
  omega
theorem HighB.neg {n d m an ad : Int} (h : HighB n d m an ad) : LowB (-n) d m (-an) ad := by
  refine ⟨h.a1, h.am, by rw [Int.neg_mul, Int.neg_mul]; have := h.al; omega, ?_⟩
  intro yn yd y1 y2 y3
  have := h.ag (-yn) yd y1 y2 (by rw [Int.neg_mul] at *; omega)
  rw [Int.neg_mul] at *
  omega
theorem HighB.bd {n d m an ad k : Int} (h1 : -1000000000 ≤ n) (h2 : n ≤ 1000000000) (hd : 1 ≤ d) (hd2 : d ≤ 1000000) (hm : 1 ≤ m) (h : HighB n d m an ad) (k1 : 1 ≤ k) (k2 : k ≤ 1000000) :
    1 ≤ ad ∧ ad ≤ d ∧ -2000000000 ≤ an ∧ an ≤ 2000000000 ∧ -2000000000000000 ≤ an*k ∧ an*k ≤ 2000000000000000 := by
  have := h.neg.bd (by omega) (by omega) hd hd2 hm k1 k2
  rw [Int.neg_mul] at this
  omega
end Go.Proofs.YtconhikflghkdaaDoor.Rm
