/- rule/shrink.go: Sizes itself. -/
import Derived.Test.YtconhikflghkdaaGreatDoorSizes
namespace Go.Proofs.YtconhikflghkdaaGreatDoor
open Go.RowKit Go.Shelf
set_option maxRecDepth 100000 in
set_option maxHeartbeats 1000000 in
theorem Sizes_bad (a b c d low high : Int) (w : World) (h : (ruOk a b c d && (szOk low && szOk high)) = false) :
    Calls Tryz.prog 15 #[ru a b c d, .int .i64 low, .int .i64 high] w fun e w' => e = .returned (.tuple #[.int .i64 0, .int .i64 0, .bool false, .int .i64 1]) ∧ Gr w w' := by
  have AT := Lib.hid (fun (s cap : Nat) W p q => asked_two s cap a b c d low high W p q)
  simp only [h] at AT
  clear h
  go_enter Tryz.func15, Tryz.ntmps15
  go_wp2_with fail
  refine (AT.out _ _ _ (by simp [go_sem]) (by simp [go_sem])).mono ?_
  rintro e w1 ⟨rfl, hg1⟩
  rw [show Rm.err false 1 = 1 from rfl]
  obtain ⟨hc1, hf1, hz1⟩ := hg1.at (n := w.heap.size + 3) (by first | (simp; done) | (simp; omega) | omega)
  go_wp2
  exact bodyPost_ret (v := .tuple #[.int .i64 0, .int .i64 0, .bool false, .int .i64 1]) (by simp [results, Tryz.results15, go_sem]) rfl ⟨rfl, (by repeat (first | exact Gr.refl _ | assumption | refine Gr.alloc ?_ _ | refine Gr.drew ?_ | refine Gr.drewN ?_ _ | refine Gr.set ?_ _ _ (by first | (simp; done) | (simp; omega)) | refine Gr.trans ?_ (by assumption)))⟩
set_option maxRecDepth 100000 in
set_option maxHeartbeats 1000000 in
theorem Sizes_order (a b c d low high : Int) (w : World) (h : (ruOk a b c d && (szOk low && szOk high)) = true) (hlt : high < low) :
    Calls Tryz.prog 15 #[ru a b c d, .int .i64 low, .int .i64 high] w fun e w' => e = .returned (.tuple #[.int .i64 0, .int .i64 0, .bool false, .int .i64 12]) ∧ Gr w w' := by
  have AT := Lib.hid (fun (s cap : Nat) W p q => asked_two s cap a b c d low high W p q)
  simp only [h] at AT
  clear h
  have hlt' : decide (high < low) = true := decide_eq_true hlt
  go_enter Tryz.func15, Tryz.ntmps15
  go_wp2_with fail
  refine (AT.out _ _ _ (by simp [go_sem]) (by simp [go_sem])).mono ?_
  rintro e w1 ⟨rfl, hg1⟩
  rw [show Rm.err true 1 = 0 from rfl]
  obtain ⟨hc1, hf1, hz1⟩ := hg1.at (n := w.heap.size + 3) (by first | (simp; done) | (simp; omega) | omega)
  have : ¬ w1.heap.size = w.heap.size := (by omega); have : ¬ w.heap.size = w1.heap.size := (by omega); have : w.heap.size < w1.heap.size := (by omega); have : w.heap.size ≤ w1.heap.size := (by omega); have : ¬ w1.heap.size = w.heap.size + 1 := (by omega); have : ¬ w.heap.size + 1 = w1.heap.size := (by omega); have : w.heap.size + 1 < w1.heap.size := (by omega); have : w.heap.size + 1 ≤ w1.heap.size := (by omega); have : ¬ w1.heap.size = w.heap.size + 2 := (by omega); have : ¬ w.heap.size + 2 = w1.heap.size := (by omega); have : w.heap.size + 2 < w1.heap.size := (by omega); have : w.heap.size + 2 ≤ w1.heap.size := (by omega)
  go_wp2
  exact bodyPost_ret (v := .tuple #[.int .i64 0, .int .i64 0, .bool false, .int .i64 12]) (by simp [results, Tryz.results15, go_sem]) rfl ⟨rfl, (by repeat (first | exact Gr.refl _ | assumption | refine Gr.alloc ?_ _ | refine Gr.drew ?_ | refine Gr.drewN ?_ _ | refine Gr.set ?_ _ _ (by first | (simp; done) | (simp; omega)) | refine Gr.trans ?_ (by assumption)))⟩
set_option maxRecDepth 100000 in
set_option maxHeartbeats 2000000 in
theorem Sizes_go (a b c d low high : Int) (w : World) (h : (ruOk a b c d && (szOk low && szOk high)) = true) (hlt : ¬ high < low) (r1 : Value)
    (hr : Hid (r1 = if (szM a b high : Int) - 1 < szL c d low then .tuple #[.int .i64 0, .int .i64 0, .bool false, .int .i64 0] else .tuple #[.int .i64 (szL c d low), .int .i64 ((szM a b high : Int) - 1), .bool true, .int .i64 0])) :
    Calls Tryz.prog 15 #[ru a b c d, .int .i64 low, .int .i64 high] w fun e w' => e = .returned r1 ∧ Gr w w' := by
  have hmf : ∀ (fn : Fn) (first cap : Array Value) (w : World), (Instr.makeFunc fn first cap).run Tryz.prog w = .ok (.func fn first cap) w := fun _ _ _ _ => rfl
  have AT := Lib.hid (fun (s cap : Nat) W p q => asked_two s cap a b c d low high W p q)
  simp only [h] at AT
  have HR : RuB a b c d ∧ (1 ≤ low ∧ low ≤ 1000000) ∧ (1 ≤ high ∧ high ≤ 1000000) := by
    simp only [szOk, Bool.and_eq_true, decide_eq_true_eq] at h
    exact ⟨RuB.of h.1, h.2.1, h.2.2⟩
  obtain ⟨R, ⟨lo1, lo2⟩, hi1, hi2⟩ := HR
  clear h
  have e1 : 1 ≤ d - c := by have := R.cd; have := R.d1; omega
  have e2 : 1 ≤ b - a := by have := R.ab; have := R.b1; omega
  have e3 : 1 ≤ low*d := by have := Int.mul_pos (show 0 < low by omega) (show 0 < d by have := R.d1; omega); omega
  have e4 : 1 ≤ high*b := by have := Int.mul_pos (show 0 < high by omega) (show 0 < b by have := R.b1; omega); omega
  obtain ⟨L1, L2⟩ := szL_rg e1 e3
  obtain ⟨M1, M2⟩ := szM_rg e2 e4
  have F1 := Lib.hid (fun (W : World) (p q : Nat) (hm : MB p a b c d W) (hq : W.cell? ⟨q, 0, none⟩ = some (.int .i64 low)) =>
    first_any 42 (szL c d low) #[.pointer (some ⟨p, 0, none⟩), .pointer (some ⟨q, 0, none⟩)] W L1 L2 (enters_of Tryz.func42 (by kernel_rfl) rfl) (fun i X hi hX => by
      have k := Sizes1_any p q a b c d (1 + i) low X (hm.gr hX) ((hX.cells.1 _ _ (World.block_lt_of_cell? _ _ hq)).trans hq) R (by omega) (by omega) lo1 lo2
      have t := @szL_le c d low (1+i) e1 e3 (by omega)
      rw [show ((1 + i : Nat) : Int) = 1 + (i : Int) by omega] at t
      rw [t] at k
      exact k))
  have F2 := Lib.hid (fun (W : World) (p q : Nat) (hm : MB p a b c d W) (hq : W.cell? ⟨q, 0, none⟩ = some (.int .i64 high)) =>
    first_any 44 (szM a b high) #[.pointer (some ⟨p, 0, none⟩), .pointer (some ⟨q, 0, none⟩)] W M1 M2 (enters_of Tryz.func44 (by kernel_rfl) rfl) (fun i X hi hX => by
      have k := Sizes2_any p q a b c d (1 + i) high X (hm.gr hX) ((hX.cells.1 _ _ (World.block_lt_of_cell? _ _ hq)).trans hq) R (by omega) (by omega) hi1 hi2
      have t := @szM_le a b high (1+i) e2 e4 (by omega)
      rw [show ((1 + i : Nat) : Int) = 1 + (i : Int) by omega] at t
      rw [t] at k
      exact k))
  clear e1 e2 e3 e4 R lo1 lo2 hi1 hi2
  generalize szL c d low = L at *
  generalize szM a b high = M at *
  have hlt' : decide (high < low) = false := decide_eq_false hlt
  have wm : IntKind.i64.wrap ((M : Int) - 1) = (M : Int) - 1 := IntWalk.i64_in _ (by omega)
  go_enter Tryz.func15, Tryz.ntmps15
  go_wp2_with fail
  refine (AT.out _ _ _ (by simp [go_sem]) (by simp [go_sem])).mono ?_
  rintro e w1 ⟨rfl, hg1⟩
  rw [show Rm.err true 1 = 0 from rfl]
  obtain ⟨hc1, hf1, hz1⟩ := hg1.at (n := w.heap.size + 3) (by first | (simp; done) | (simp; omega) | omega)
  have : ¬ w1.heap.size = w.heap.size := (by omega); have : ¬ w.heap.size = w1.heap.size := (by omega); have : w.heap.size < w1.heap.size := (by omega); have : w.heap.size ≤ w1.heap.size := (by omega); have : ¬ w1.heap.size = w.heap.size + 1 := (by omega); have : ¬ w.heap.size + 1 = w1.heap.size := (by omega); have : w.heap.size + 1 < w1.heap.size := (by omega); have : w.heap.size + 1 ≤ w1.heap.size := (by omega); have : ¬ w1.heap.size = w.heap.size + 2 := (by omega); have : ¬ w.heap.size + 2 = w1.heap.size := (by omega); have : w.heap.size + 2 < w1.heap.size := (by omega); have : w.heap.size + 2 ≤ w1.heap.size := (by omega)
  go_wp2_with fail
  have m1 : MB w1.heap.size a b c d (w1.alloc (Obj.cells #[.int .i64 a, .int .i64 b, .int .i64 c, .int .i64 d] 77)) := ⟨by simp [go_sem], by simp [go_sem], by simp [go_sem], by simp [go_sem]⟩
  refine (F1.out _ _ _ m1 (by simp [go_sem, *])).mono ?_
  rintro e w2 ⟨rfl, hg2⟩
  obtain ⟨hc2, hf2, hz2⟩ := hg2.at (n := w1.heap.size + 1) (by first | (simp; done) | (simp; omega) | omega)
  go_wp2_with fail
  refine (F2.out _ _ _ (m1.gr hg2) (by rw [hc2 _ _ (by omega)]; simp [go_sem, *])).mono ?_
  rintro e w3 ⟨rfl, hg3⟩
  by_cases hx : (M : Int) - 1 < L
  · have hx' : decide ((M : Int) - 1 < L) = true := decide_eq_true hx
    go_wp2
    exact bodyPost_ret (v := .tuple #[.int .i64 0, .int .i64 0, .bool false, .int .i64 0]) (by simp [results, Tryz.results15, go_sem]) rfl ⟨by rw [hr.out, if_pos hx], (by repeat (first | exact Gr.refl _ | assumption | refine Gr.alloc ?_ _ | refine Gr.drew ?_ | refine Gr.drewN ?_ _ | refine Gr.set ?_ _ _ (by first | (simp; done) | (simp; omega)) | refine Gr.trans ?_ (by assumption)))⟩
  · have hx' : decide ((M : Int) - 1 < L) = false := decide_eq_false hx
    go_wp2
    exact bodyPost_ret (v := .tuple #[.int .i64 L, .int .i64 ((M : Int) - 1), .bool true, .int .i64 0]) (by simp [results, Tryz.results15, go_sem]) rfl ⟨by rw [hr.out, if_neg (by omega)], (by repeat (first | exact Gr.refl _ | assumption | refine Gr.alloc ?_ _ | refine Gr.drew ?_ | refine Gr.drewN ?_ _ | refine Gr.set ?_ _ _ (by first | (simp; done) | (simp; omega)) | refine Gr.trans ?_ (by assumption)))⟩
theorem Sizes_any (a b c d low high : Int) (w : World) :
    Calls Tryz.prog 15 #[ru a b c d, .int .i64 low, .int .i64 high] w fun e w' => e = .returned (.tuple #[.int .i64 (szLo a b c d low high), .int .i64 (szHi a b c d low high), .bool (szB a b c d low high), .int .i64 (szE a b c d low high)]) ∧ Gr w w' := by
  cases h : (ruOk a b c d && (szOk low && szOk high))
  · have := Sizes_bad a b c d low high w h
    simpa [szLo, szHi, szB, szE, h] using this
  · by_cases hlt : high < low
    · have := Sizes_order a b c d low high w h hlt
      simpa [szLo, szHi, szB, szE, h, hlt] using this
    · have := Sizes_go a b c d low high w h hlt _ (Lib.hid rfl)
      by_cases hx : (szM a b high : Int) - 1 < szL c d low
      · have hy : ¬ szL c d low + 1 ≤ szM a b high := by omega
        simpa [szLo, szHi, szB, szE, h, hlt, hx, hy] using this
      · have hy : szL c d low + 1 ≤ szM a b high := by omega
        simpa [szLo, szHi, szB, szE, h, hlt, hx, hy] using this
end Go.Proofs.YtconhikflghkdaaGreatDoor
