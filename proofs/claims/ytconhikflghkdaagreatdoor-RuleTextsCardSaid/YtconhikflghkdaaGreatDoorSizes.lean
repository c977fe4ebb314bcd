/- rule/shrink.go: Sizes. -/
import Derived.Test.YtconhikflghkdaaGreatDoorSearch
namespace Go.Proofs.YtconhikflghkdaaGreatDoor
open Go.RowKit Go.Shelf
/-- what a rule as said gives -/
structure RuB (a b c d : Int) : Prop where
  a0 : 0 ≤ a
  b1 : 1 ≤ b
  b2 : b ≤ 1000
  c0 : 0 ≤ c
  d1 : 1 ≤ d
  d2 : d ≤ 1000
  ab : 4*a ≤ b
  cd : 4*c ≤ d
  ac : a*d ≤ c*b
theorem RuB.of {a b c d : Int} (h : ruOk a b c d = true) : RuB a b c d := by
  simp only [ruOk, Bool.and_eq_true, decide_eq_true_eq] at h
  obtain ⟨⟨⟨⟨⟨h1, h2⟩, h3⟩, h4⟩, h5⟩, h6⟩ := h
  obtain ⟨⟨x1, x2, x3, x4, _⟩, ⟨y1, y2, y3, y4, _⟩⟩ := ok2_parts h1
  have c0 : 0 ≤ c := by
    have : 0 ≤ a*d := Int.mul_nonneg h4 (by omega)
    have : 0*b ≤ c*b := by omega
    exact Rm.lemul this (by omega)
  refine ⟨h4, x3, h2, c0, y3, h3, ?_, h6, by omega⟩
  have p : 4*(a*d) ≤ 4*(c*b) := by omega
  have q : 4*c*b ≤ d*b := Rm.mulle h6 (by omega)
  have e1 : 4*(c*b) = 4*c*b := by grind
  have e2 : 4*(a*d) = 4*a*d := by grind
  have : (4*a)*d ≤ b*d := by
    have : d*b = b*d := Int.mul_comm _ _
    omega
  exact Rm.lemul this (by omega)
theorem left_bd {n a b : Int} (n1 : 1 ≤ n) (n2 : n ≤ 1000000) (a0 : 0 ≤ a) (b1 : 1 ≤ b) (b2 : b ≤ 1000) (h : 4*a ≤ b) : 1 ≤ b - a ∧ b - a ≤ 1000 ∧ 1 ≤ n*(b-a) ∧ n*(b-a) ≤ 1000000000 := by
  have p := @Rm.mul_bound n (b-a) 1000000 1000 (by omega) (by omega) n2 (by omega) (by omega)
  have q := Int.mul_pos (show 0 < n by omega) (show 0 < b - a by omega)
  omega
theorem cast_ok {a b c d n : Int} (w : World) (h : RuB a b c d) (n1 : 1 ≤ n) (n2 : n ≤ 1000000) :
    Calls Tryz.prog 43 #[ru a b c d, .int .i64 n] w fun e w' => e = .returned (.tuple #[fr (n*(d-c)) d, fr (n*(b-a)) b]) ∧ Gr w w' := by
  have l1 := left_bd n1 n2 h.a0 h.b1 h.b2 h.ab
  have l2 := left_bd n1 n2 h.c0 h.d1 h.d2 h.cd
  exact cast_any a b c d n w (by omega) (by omega) (by omega) (by omega) (by omega) (by omega) (by omega) (by omega)
structure MB (p : Nat) (a b c d : Int) (w : World) : Prop where
  a0 : w.cell? ⟨p, 0, none⟩ = some (.int .i64 a)
  a1 : w.cell? ⟨p, 1, none⟩ = some (.int .i64 b)
  a2 : w.cell? ⟨p, 2, none⟩ = some (.int .i64 c)
  a3 : w.cell? ⟨p, 3, none⟩ = some (.int .i64 d)
theorem MB.gr {p : Nat} {a b c d : Int} {w w' : World} (h : MB p a b c d w) (g : Gr w w') : MB p a b c d w' := by
  have l := World.block_lt_of_cell? _ _ h.a0
  exact ⟨(g.cells.1 _ _ l).trans h.a0, (g.cells.1 _ _ l).trans h.a1, (g.cells.1 _ _ l).trans h.a2, (g.cells.1 _ _ l).trans h.a3⟩
set_option maxRecDepth 100000 in
set_option maxHeartbeats 1000000 in
theorem Sizes1_any (p q : Nat) (a b c d n low : Int) (w : World) (hm : MB p a b c d w) (hq : w.cell? ⟨q, 0, none⟩ = some (.int .i64 low)) (h : RuB a b c d) (n1 : 1 ≤ n) (n2 : n ≤ 1000000) (l1 : 1 ≤ low) (l2 : low ≤ 1000000) :
    Calls Tryz.prog 42 #[.int .i64 n, .pointer (some ⟨p, 0, none⟩), .pointer (some ⟨q, 0, none⟩)] w fun e w' => e = .returned (.bool (decide (low*d ≤ n*(d-c)))) ∧ Gr w w' := by
  have CA := Lib.hid (fun w => cast_ok w h n1 n2)
  have b2 := left_bd n1 n2 h.c0 h.d1 h.d2 h.cd
  have b3 := Rm.mul_bound (a := low) (b := d) (A := 1000000) (B := 1000) (by omega) (by omega) l2 (by have := h.d1; omega) h.d2
  have CR := Lib.hid (fun w => by
    have := cross_any (n*(d-c)) d low 1 w (by omega) (by omega) (by omega) (by omega)
    rwa [Int.mul_one] at this)
  have EQ : Hid (decide (low*d ≤ n*(d-c)) = decide (0 ≤ n*(d-c) - low*d)) := Lib.hid (by rw [decide_eq_decide]; omega)
  obtain ⟨m0, m1, m2, m3⟩ := hm
  have lq := World.block_lt_of_cell? _ _ hq
  clear b2 b3 h l1 l2 n1 n2
  generalize n*(d-c) = X at *
  generalize n*(b-a) = X' at *
  generalize low*d = Y at *
  go_enter Tryz.func42, Tryz.ntmps42
  go_wp2_with fail
  refine (CA.out _).mono ?_
  rintro e w1 ⟨rfl, hg1⟩
  have q1 : w1.cell? ⟨q, 0, none⟩ = some (.int .i64 low) := (hg1.cells.1 _ _ lq).trans hq
  have lq1 : q < w1.heap.size := World.block_lt_of_cell? _ _ q1
  have lq2 : q < w1.heap.size + 1 := by omega
  go_wp2_with fail
  refine (CR.out _).mono ?_
  rintro e w2 ⟨rfl, hg2⟩
  go_wp2
  go_ret
  exact ⟨by rw [EQ.out]; rfl, (by repeat (first | exact Gr.refl _ | assumption | refine Gr.alloc ?_ _ | refine Gr.drew ?_ | refine Gr.drewN ?_ _ | refine Gr.set ?_ _ _ (by first | (simp; done) | (simp; omega)) | refine Gr.trans ?_ (by assumption)))⟩
set_option maxRecDepth 100000 in
set_option maxHeartbeats 1000000 in
theorem Sizes2_any (p q : Nat) (a b c d n low : Int) (w : World) (hm : MB p a b c d w) (hq : w.cell? ⟨q, 0, none⟩ = some (.int .i64 low)) (h : RuB a b c d) (n1 : 1 ≤ n) (n2 : n ≤ 1000000) (l1 : 1 ≤ low) (l2 : low ≤ 1000000) :
    Calls Tryz.prog 44 #[.int .i64 n, .pointer (some ⟨p, 0, none⟩), .pointer (some ⟨q, 0, none⟩)] w fun e w' => e = .returned (.bool (decide (low*b < n*(b-a)))) ∧ Gr w w' := by
  have CA := Lib.hid (fun w => cast_ok w h n1 n2)
  have b2 := left_bd n1 n2 h.a0 h.b1 h.b2 h.ab
  have b3 := Rm.mul_bound (a := low) (b := b) (A := 1000000) (B := 1000) (by omega) (by omega) l2 (by have := h.b1; omega) h.b2
  have CR := Lib.hid (fun w => by
    have := cross_any (n*(b-a)) b low 1 w (by omega) (by omega) (by omega) (by omega)
    rwa [Int.mul_one] at this)
  have EQ : Hid (decide (low*b < n*(b-a)) = decide (0 < n*(b-a) - low*b)) := Lib.hid (by rw [decide_eq_decide]; omega)
  obtain ⟨m0, m1, m2, m3⟩ := hm
  have lq := World.block_lt_of_cell? _ _ hq
  clear b2 b3 h l1 l2 n1 n2
  generalize n*(d-c) = X at *
  generalize n*(b-a) = X' at *
  generalize low*b = Y at *
  go_enter Tryz.func44, Tryz.ntmps44
  go_wp2_with fail
  refine (CA.out _).mono ?_
  rintro e w1 ⟨rfl, hg1⟩
  have q1 : w1.cell? ⟨q, 0, none⟩ = some (.int .i64 low) := (hg1.cells.1 _ _ lq).trans hq
  have lq1 : q < w1.heap.size := World.block_lt_of_cell? _ _ q1
  have lq2 : q < w1.heap.size + 1 := by omega
  go_wp2_with fail
  refine (CR.out _).mono ?_
  rintro e w2 ⟨rfl, hg2⟩
  go_wp2
  go_ret
  exact ⟨by rw [EQ.out]; rfl, (by repeat (first | exact Gr.refl _ | assumption | refine Gr.alloc ?_ _ | refine Gr.drew ?_ | refine Gr.drewN ?_ _ | refine Gr.set ?_ _ _ (by first | (simp; done) | (simp; omega)) | refine Gr.trans ?_ (by assumption)))⟩
/-- the least size that is great enough, and the first one that is too great -/
def szL (c d low : Int) : Nat := (min (Rm.cl (low*d) (d-c)) 1000001).toNat
def szM (a b high : Int) : Nat := (min (Rm.fl (high*b) (b-a) + 1) 1000001).toNat
theorem szL_le {c d low : Int} {n : Nat} (he : 1 ≤ d - c) (hl : 1 ≤ low*d) (hn : n ≤ 1000000) : decide (low*d ≤ (n : Int)*(d-c)) = decide (szL c d low ≤ n) := by
  rw [decide_eq_decide]
  have h1 := @Rm.le_cl (low*d) (d-c) he
  have p : 1 ≤ Rm.cl (low*d) (d-c) := by
    have : 0 < Rm.cl (low*d) (d-c) * (d-c) := by omega
    have := Rm.posl this (by omega)
    omega
  constructor
  · intro h
    have := Rm.cl_le he h
    unfold szL; omega
  · intro h
    have : Rm.cl (low*d) (d-c) ≤ (n : Int) := by unfold szL at h; omega
    have := Rm.mulle this (show 0 ≤ d - c by omega)
    omega
theorem szM_le {a b high : Int} {n : Nat} (he : 1 ≤ b - a) (hl : 1 ≤ high*b) (hn : n ≤ 1000000) : decide (high*b < (n : Int)*(b-a)) = decide (szM a b high ≤ n) := by
  rw [decide_eq_decide]
  have h2 := @Rm.lt_fl (high*b) (b-a) he
  have h1 := @Rm.fl_le (high*b) (b-a) he
  have p : 0 ≤ Rm.fl (high*b) (b-a) := Rm.le_fl he (by omega)
  constructor
  · intro h
    have : Rm.fl (high*b) (b-a) * (b-a) < (n : Int)*(b-a) := by omega
    have := Rm.ltmul this (by omega)
    unfold szM; omega
  · intro h
    have : Rm.fl (high*b) (b-a) + 1 ≤ (n : Int) := by unfold szM at h; omega
    have := Rm.mulle this (show 0 ≤ b - a by omega)
    omega
theorem szL_rg {c d low : Int} (he : 1 ≤ d - c) (hl : 1 ≤ low*d) : 1 ≤ szL c d low ∧ szL c d low ≤ 1000001 := by
  have h1 := @Rm.le_cl (low*d) (d-c) he
  have : 0 < Rm.cl (low*d) (d-c) * (d-c) := by omega
  have := Rm.posl this (by omega)
  unfold szL; omega
theorem szM_rg {a b high : Int} (he : 1 ≤ b - a) (hl : 1 ≤ high*b) : 1 ≤ szM a b high ∧ szM a b high ≤ 1000001 := by
  have p : 0 ≤ Rm.fl (high*b) (b-a) := Rm.le_fl he (by omega)
  unfold szM; omega
/-- what Sizes returns -/
def szE (a b c d low high : Int) : Int := if ruOk a b c d && (szOk low && szOk high) then (if high < low then 12 else 0) else 1
def szB (a b c d low high : Int) : Bool := decide (szE a b c d low high = 0) && decide (szL c d low + 1 ≤ szM a b high)
def szLo (a b c d low high : Int) : Int := if szB a b c d low high then (szL c d low : Int) else 0
def szHi (a b c d low high : Int) : Int := if szB a b c d low high then (szM a b high : Int) - 1 else 0
theorem asked_two (s cap : Nat) (a b c d x y : Int) (w : World) (h0 : w.cell? ⟨s, 0, none⟩ = some (.int .i64 x)) (h1 : w.cell? ⟨s, 1, none⟩ = some (.int .i64 y)) :
    Calls Tryz.prog 40 #[ru a b c d, .slice (some ⟨s, 0, none⟩) 2 cap] w fun e w' => e = .returned (.tuple #[ru a b c d, .int .i64 (Rm.err (ruOk a b c d && (szOk x && szOk y)) 1)]) ∧ Gr w w' := by
  have := asked_any s 2 cap a b c d (fun i => if i = 0 then x else y) w (by omega) (fun i hi => by rcases (show i = 0 ∨ i = 1 by omega) with rfl | rfl <;> simpa) (by omega)
  simpa [szAll] using this
theorem asked_one (s cap : Nat) (a b c d x : Int) (w : World) (h0 : w.cell? ⟨s, 0, none⟩ = some (.int .i64 x)) :
    Calls Tryz.prog 40 #[ru a b c d, .slice (some ⟨s, 0, none⟩) 1 cap] w fun e w' => e = .returned (.tuple #[ru a b c d, .int .i64 (Rm.err (ruOk a b c d && szOk x) 1)]) ∧ Gr w w' := by
  have := asked_any s 1 cap a b c d (fun _ => x) w (by omega) (fun i hi => by obtain rfl : i = 0 := by omega
                                                                              simpa) (by omega)
  simpa [szAll] using this
end Go.Proofs.YtconhikflghkdaaGreatDoor
