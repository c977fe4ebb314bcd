/- rule/shrink.go: Best itself. -/
import Derived.Test.YtconhikflghkdaaGreatDoorBest
namespace Go.Proofs.YtconhikflghkdaaGreatDoor
open Go.RowKit Go.Shelf
theorem miss_of (a b c d n want : Int) (w : World) (h : RuB a b c d) (n1 : 1 ≤ n) (n2 : n ≤ 1000000) (l1 : 1 ≤ want) (l2 : want ≤ 1000000) :
    1 ≤ Rm.msD a b c d n want ∧ Rm.msD a b c d n want ≤ 1000 ∧ -1000000000 ≤ Rm.msN a b c d n want ∧ Rm.msN a b c d n want ≤ 1000000000 ∧
    Calls Tryz.prog 47 #[ru a b c d, .int .i64 n, .int .i64 want] w fun e w' => e = .returned (fr (Rm.msN a b c d n want) (Rm.msD a b c d n want)) ∧ Gr w w' := by
  refine ⟨Rm.msD_pos h.b1 h.d1, ?_, ?_, ?_, miss_any a b c d n want w h n1 n2 l1 l2⟩
  · unfold Rm.msD; have := h.b2; have := h.d2; split <;> omega
  · obtain ⟨b1, b2, d1, d2, p1, p2, p3, p4, q1, q2, q3, q4, m1, m2, m3, m4⟩ := MsB.of h n1 n2 l1 l2
    unfold Rm.msN; unfold Rm.msB Rm.msA; split <;> omega
  · obtain ⟨b1, b2, d1, d2, p1, p2, p3, p4, q1, q2, q3, q4, m1, m2, m3, m4⟩ := MsB.of h n1 n2 l1 l2
    unfold Rm.msN; unfold Rm.msB Rm.msA; split <;> omega
set_option maxRecDepth 100000 in
set_option maxHeartbeats 1000000 in
theorem Best_bad (a b c d want : Int) (w : World) (h : (ruOk a b c d && szOk want) = false) :
    Calls Tryz.prog 17 #[ru a b c d, .int .i64 want] w fun e w' => e = .returned (.tuple #[.int .i64 0, .int .i64 1]) ∧ Gr w w' := by
  have AT := Lib.hid (fun (s cap : Nat) W p => asked_one s cap a b c d want W p)
  simp only [h] at AT
  clear h
  go_enter Tryz.func17, Tryz.ntmps17
  go_wp2_with fail
  refine (AT.out _ _ _ (by simp [go_sem])).mono ?_
  rintro e w1 ⟨rfl, hg1⟩
  rw [show Rm.err false 1 = 1 from rfl]
  obtain ⟨hc1, hf1, hz1⟩ := hg1.at (n := w.heap.size + 3) (by first | (simp; done) | (simp; omega) | omega)
  go_wp2
  exact bodyPost_ret (v := .tuple #[.int .i64 0, .int .i64 1]) (by simp [results, Tryz.results17, go_sem]) rfl ⟨rfl, (by repeat (first | exact Gr.refl _ | assumption | refine Gr.alloc ?_ _ | refine Gr.drew ?_ | refine Gr.drewN ?_ _ | refine Gr.set ?_ _ _ (by first | (simp; done) | (simp; omega)) | refine Gr.trans ?_ (by assumption)))⟩
set_option maxRecDepth 100000 in
set_option maxHeartbeats 2000000 in
theorem Best_go (a b c d want : Int) (w : World) (h : (ruOk a b c d && szOk want) = true) (r : Int) (hr : r = Rm.best a b c d want) :
    Calls Tryz.prog 17 #[ru a b c d, .int .i64 want] w fun e w' => e = .returned (.tuple #[.int .i64 r, .int .i64 0]) ∧ Gr w w' := by
  have hmf : ∀ (fn : Fn) (first cap : Array Value) (w : World), (Instr.makeFunc fn first cap).run Tryz.prog w = .ok (.func fn first cap) w := fun _ _ _ _ => rfl
  have AT := Lib.hid (fun (s cap : Nat) W p => asked_one s cap a b c d want W p)
  simp only [h] at AT
  have HR : RuB a b c d ∧ 1 ≤ want ∧ want ≤ 1000000 := by
    simp only [szOk, Bool.and_eq_true, decide_eq_true_eq] at h
    exact ⟨RuB.of h.1, h.2.1, h.2.2⟩
  obtain ⟨R, wa1, wa2⟩ := HR
  clear h
  have t1 := Rm.bsT_pos (a := a) (c := c) (want := want) R.b1 R.d1 (by have := R.ab; have := R.b1; omega) (by have := R.cd; have := R.d1; omega) wa1
  have L1 : 1 ≤ bsL a b c d want ∧ bsL a b c d want ≤ 1000001 := by unfold bsL; omega
  have LT : (if (1000000 : Int) < (bsL a b c d want : Int) then 1000000 else (bsL a b c d want : Int)) = min (Rm.bsT a b c d want) 1000000 := by unfold bsL; split <;> omega
  unfold Rm.best at hr
  rw [← LT] at hr
  have F1 := Lib.hid (fun (W : World) (p q : Nat) (hm : MB p a b c d W) (hq : W.cell? ⟨q, 0, none⟩ = some (.int .i64 want)) =>
    first_any 45 (bsL a b c d want) #[.pointer (some ⟨p, 0, none⟩), .pointer (some ⟨q, 0, none⟩)] W L1.1 L1.2 (enters_of Tryz.func45 (by kernel_rfl) rfl) (fun i X hi hX => by
      have k := Best1_any p q a b c d (1 + i) want X (hm.gr hX) ((hX.cells.1 _ _ (World.block_lt_of_cell? _ _ hq)).trans hq) R (by omega) (by omega) wa1 wa2
      have t := @bsL_le a b c d want (1+i) R wa1 (by omega)
      rw [show ((1 + i : Nat) : Int) = 1 + (i : Int) by omega] at t
      rw [t] at k
      exact k))
  clear LT t1
  generalize bsL a b c d want = L at *
  have mn1 : 1 ≤ (if (1000000 : Int) < (L : Int) then 1000000 else (L : Int)) ∧ (if (1000000 : Int) < (L : Int) then 1000000 else (L : Int)) ≤ 1000000 := by split <;> omega
  generalize hnn : (if (1000000 : Int) < (L : Int) then 1000000 else (L : Int)) = n at *
  obtain ⟨mn1, mn2⟩ := mn1
  have HN := Lib.hid hnn
  clear hnn
  have HR := Lib.hid hr
  clear hr
  by_cases h1 : 1 < n
  · have M1 := fun w => miss_of a b c d (n-1) want w R (by omega) (by omega) wa1 wa2
    have M2 := fun w => miss_of a b c d n want w R (by omega) (by omega) wa1 wa2
    obtain ⟨x1, x2, x3, x4, _⟩ := M1 w
    obtain ⟨y1, y2, y3, y4, _⟩ := M2 w
    have z1 := Rm.mul_bound (a := Rm.msN a b c d (n-1) want) (b := Rm.msD a b c d n want) (A := 1000000000) (B := 1000) (by omega) x3 x4 (by omega) y2
    have z2 := Rm.mul_bound (a := Rm.msN a b c d n want) (b := Rm.msD a b c d (n-1) want) (A := 1000000000) (B := 1000) (by omega) y3 y4 (by omega) x2
    have CR := Lib.hid (fun w => cross_any (Rm.msN a b c d (n-1) want) (Rm.msD a b c d (n-1) want) (Rm.msN a b c d n want) (Rm.msD a b c d n want) w (by omega) (by omega) (by omega) (by omega))
    have M1' := Lib.hid (fun w => (M1 w).2.2.2.2)
    have M2' := Lib.hid (fun w => (M2 w).2.2.2.2)
    have EX : Rm.msX a b c d want (n-1) n = Rm.msN a b c d (n-1) want * Rm.msD a b c d n want - Rm.msN a b c d n want * Rm.msD a b c d (n-1) want := rfl
    rw [← EX] at CR
    clear EX M1 M2 x1 x2 x3 x4 y1 y2 y3 y4 z1 z2
    generalize Rm.msX a b c d want (n-1) n = X at *
    generalize Rm.msN a b c d (n-1) want = N1 at *
    generalize Rm.msD a b c d (n-1) want = D1 at *
    generalize Rm.msN a b c d n want = N2 at *
    generalize Rm.msD a b c d n want = D2 at *
    have wn : IntKind.i64.wrap (n - 1) = n - 1 := IntWalk.i64_in _ (by omega)
    have h1b : decide (1 < n) = true := decide_eq_true h1
    clear R wa1 wa2
    go_enter Tryz.func17, Tryz.ntmps17
    go_wp2_with fail
    refine (AT.out _ _ _ (by simp [go_sem])).mono ?_
    rintro e w1 ⟨rfl, hg1⟩
    rw [show Rm.err true 1 = 0 from rfl]
    obtain ⟨hc1, hf1, hz1⟩ := hg1.at (n := w.heap.size + 3) (by first | (simp; done) | (simp; omega) | omega)
    have : ¬ w1.heap.size = w.heap.size := (by omega); have : ¬ w.heap.size = w1.heap.size := (by omega); have : w.heap.size < w1.heap.size := (by omega); have : w.heap.size ≤ w1.heap.size := (by omega); have : ¬ w1.heap.size = w.heap.size + 1 := (by omega); have : ¬ w.heap.size + 1 = w1.heap.size := (by omega); have : w.heap.size + 1 < w1.heap.size := (by omega); have : w.heap.size + 1 ≤ w1.heap.size := (by omega); have : ¬ w1.heap.size = w.heap.size + 2 := (by omega); have : ¬ w.heap.size + 2 = w1.heap.size := (by omega); have : w.heap.size + 2 < w1.heap.size := (by omega); have : w.heap.size + 2 ≤ w1.heap.size := (by omega)
    go_wp2_with fail
    have m1 : MB w1.heap.size a b c d (w1.alloc (Obj.cells #[.int .i64 a, .int .i64 b, .int .i64 c, .int .i64 d] 77)) := ⟨by simp [go_sem], by simp [go_sem], by simp [go_sem], by simp [go_sem]⟩
    have w1q : w1.cell? ⟨w.heap.size + 1, 0, none⟩ = some (.int .i64 want) := by rw [hc1 _ _ (by omega)]; simp [go_sem]
    refine (F1.out _ _ _ m1 (by simp [go_sem, *])).mono ?_
    rintro e w2 ⟨rfl, hg2⟩
    obtain ⟨k0, k1, k2, k3⟩ := m1.gr hg2
    have kq : w2.cell? ⟨w.heap.size + 1, 0, none⟩ = some (.int .i64 want) := by rw [hg2.cells.1 _ _ (by simp; omega)]; simp [go_sem, *]
    have lz1 := World.block_lt_of_cell? _ _ k0
    have lzq := World.block_lt_of_cell? _ _ kq
    clear hc1 hf1 m1
    go_upto_region 5 with (fail)
    rw [HN.out]
    refine wp_region_plan [.val (.int .i64 n), .val (.bool true), .val (.bool true), .val (ru a b c d), .val (.int .i64 n), .val (.int .i64 (n-1)), .val (.int .i64 want), .val (fr N1 D1), .val (ru a b c d), .val (.int .i64 n), .val (.int .i64 want), .val (fr N2 D2), .val (.int .i64 X), .val (.bool (decide (X ≤ 0))), .val (.bool (decide (X ≤ 0)))] (by kernel_rfl) (by kernel_rfl) (fun G => by first | (simp only [finAct, Act.put, Plan.value, List.setIfInBounds_toArray, List.set_cons_zero, List.set_cons_succ]; rfl) | (simp only [finAct, Act.put, Plan.value, List.setIfInBounds_toArray, List.set_cons_zero, List.set_cons_succ, Nat.zero_add, Nat.reduceAdd]; rfl)) ?_ ?_
    · refine ⟨?_, ?_, ?_, ?_, ?_, ?_, ?_, ?_, ?_, ?_, ?_, ?_, ?_, ?_, ?_, trivial⟩ <;> (first | exact trivial | (intro G; first | (refine ⟨by kernel_rfl, fun u hu => ?_⟩; obtain ⟨hc, hf, hz⟩ := hu.cells; go_simp; first | exact ⟨rfl, Gr.refl _⟩ | skip) | (refine ⟨by kernel_rfl, fun u T z hu hG hj hb => ?_⟩; cases hj; obtain ⟨hbc, hbf, hbz⟩ := blk_cells hb; first | (refine ⟨_, ?_, ((GrL.of_gr (Gr.refl _)).set _ _ (Or.inr (by simp))).set _ _ (Or.inr (by simp)), put_two hb⟩; go_simp; done) | (refine ⟨_, ?_, (GrL.of_gr (Gr.refl _)).set _ _ (Or.inr (by simp)), put_one hb⟩; go_simp; done)) | (refine ⟨by kernel_rfl, fun u => ?_⟩; go_simp; done) | (show _ = false; kernel_rfl)))
      · exact M1'.out _
      · exact M2'.out _
      · exact CR.out _
    · intro G u hg hb hd
      clear hb hd
      by_cases hx : X ≤ 0
      · rw [decide_eq_true hx]
        have E : Hid (r = n - 1) := Lib.hid (by rw [HR.out, if_pos ⟨h1, hx⟩])
        go_wp2
        exact bodyPost_ret (v := .tuple #[.int .i64 (n-1), .int .i64 0]) (by simp [results, Tryz.results17, go_sem]) rfl ⟨by rw [E.out], (by repeat (first | exact Gr.refl _ | assumption | refine Gr.alloc ?_ _ | refine Gr.drew ?_ | refine Gr.drewN ?_ _ | refine Gr.set ?_ _ _ (by first | (simp; done) | (simp; omega)) | refine Gr.trans ?_ (by assumption)))⟩
      · rw [decide_eq_false hx]
        have E : Hid (r = n) := Lib.hid (by rw [HR.out, if_neg (fun k => hx k.2)])
        go_wp2
        exact bodyPost_ret (v := .tuple #[.int .i64 n, .int .i64 0]) (by simp [results, Tryz.results17, go_sem]) rfl ⟨by rw [E.out], (by repeat (first | exact Gr.refl _ | assumption | refine Gr.alloc ?_ _ | refine Gr.drew ?_ | refine Gr.drewN ?_ _ | refine Gr.set ?_ _ _ (by first | (simp; done) | (simp; omega)) | refine Gr.trans ?_ (by assumption)))⟩
  · have h1b : decide (1 < n) = false := decide_eq_false h1
    have E : Hid (r = n) := Lib.hid (by rw [HR.out, if_neg (fun k => h1 k.1)])
    clear R wa1 wa2 HR
    go_enter Tryz.func17, Tryz.ntmps17
    go_wp2_with fail
    refine (AT.out _ _ _ (by simp [go_sem])).mono ?_
    rintro e w1 ⟨rfl, hg1⟩
    rw [show Rm.err true 1 = 0 from rfl]
    obtain ⟨hc1, hf1, hz1⟩ := hg1.at (n := w.heap.size + 3) (by first | (simp; done) | (simp; omega) | omega)
    have : ¬ w1.heap.size = w.heap.size := (by omega); have : ¬ w.heap.size = w1.heap.size := (by omega); have : w.heap.size < w1.heap.size := (by omega); have : w.heap.size ≤ w1.heap.size := (by omega); have : ¬ w1.heap.size = w.heap.size + 1 := (by omega); have : ¬ w.heap.size + 1 = w1.heap.size := (by omega); have : w.heap.size + 1 < w1.heap.size := (by omega); have : w.heap.size + 1 ≤ w1.heap.size := (by omega); have : ¬ w1.heap.size = w.heap.size + 2 := (by omega); have : ¬ w.heap.size + 2 = w1.heap.size := (by omega); have : w.heap.size + 2 < w1.heap.size := (by omega); have : w.heap.size + 2 ≤ w1.heap.size := (by omega)
    go_wp2_with fail
    have m1 : MB w1.heap.size a b c d (w1.alloc (Obj.cells #[.int .i64 a, .int .i64 b, .int .i64 c, .int .i64 d] 77)) := ⟨by simp [go_sem], by simp [go_sem], by simp [go_sem], by simp [go_sem]⟩
    have w1q : w1.cell? ⟨w.heap.size + 1, 0, none⟩ = some (.int .i64 want) := by rw [hc1 _ _ (by omega)]; simp [go_sem]
    refine (F1.out _ _ _ m1 (by simp [go_sem, *])).mono ?_
    rintro e w2 ⟨rfl, hg2⟩
    obtain ⟨k0, k1, k2, k3⟩ := m1.gr hg2
    have kq : w2.cell? ⟨w.heap.size + 1, 0, none⟩ = some (.int .i64 want) := by rw [hg2.cells.1 _ _ (by simp; omega)]; simp [go_sem, *]
    have lz1 := World.block_lt_of_cell? _ _ k0
    have lzq := World.block_lt_of_cell? _ _ kq
    clear hc1 hf1 m1
    go_upto_region 5 with (fail)
    rw [HN.out]
    refine wp_region_plan [.val (.int .i64 n), .val (.bool false), .val (.bool false), .off, .off, .off, .off, .off, .off, .off, .off, .off, .off, .off, .val (.bool false)] (by kernel_rfl) (by kernel_rfl) (fun G => by first | (simp only [finAct, Act.put, Plan.value, List.setIfInBounds_toArray, List.set_cons_zero, List.set_cons_succ]; rfl) | (simp only [finAct, Act.put, Plan.value, List.setIfInBounds_toArray, List.set_cons_zero, List.set_cons_succ, Nat.zero_add, Nat.reduceAdd]; rfl)) ?_ ?_
    · refine ⟨?_, ?_, ?_, ?_, ?_, ?_, ?_, ?_, ?_, ?_, ?_, ?_, ?_, ?_, ?_, trivial⟩ <;> (first | exact trivial | (intro G; first | (refine ⟨by kernel_rfl, fun u hu => ?_⟩; obtain ⟨hc, hf, hz⟩ := hu.cells; go_simp; first | exact ⟨rfl, Gr.refl _⟩ | skip) | (refine ⟨by kernel_rfl, fun u T z hu hG hj hb => ?_⟩; cases hj; obtain ⟨hbc, hbf, hbz⟩ := blk_cells hb; first | (refine ⟨_, ?_, ((GrL.of_gr (Gr.refl _)).set _ _ (Or.inr (by simp))).set _ _ (Or.inr (by simp)), put_two hb⟩; go_simp; done) | (refine ⟨_, ?_, (GrL.of_gr (Gr.refl _)).set _ _ (Or.inr (by simp)), put_one hb⟩; go_simp; done)) | (refine ⟨by kernel_rfl, fun u => ?_⟩; go_simp; done) | (show _ = false; kernel_rfl)))
    · intro G u hg hb hd
      clear hb hd
      go_wp2
      exact bodyPost_ret (v := .tuple #[.int .i64 n, .int .i64 0]) (by simp [results, Tryz.results17, go_sem]) rfl ⟨by rw [E.out], (by repeat (first | exact Gr.refl _ | assumption | refine Gr.alloc ?_ _ | refine Gr.drew ?_ | refine Gr.drewN ?_ _ | refine Gr.set ?_ _ _ (by first | (simp; done) | (simp; omega)) | refine Gr.trans ?_ (by assumption)))⟩
/-- what Best returns -/
def bsR (a b c d want : Int) : Int := if ruOk a b c d && szOk want then Rm.best a b c d want else 0
theorem Best_any (a b c d want : Int) (w : World) :
    Calls Tryz.prog 17 #[ru a b c d, .int .i64 want] w fun e w' => e = .returned (.tuple #[.int .i64 (bsR a b c d want), .int .i64 (Rm.err (ruOk a b c d && szOk want) 1)]) ∧ Gr w w' := by
  cases h : (ruOk a b c d && szOk want)
  · have e : bsR a b c d want = 0 := by simp only [bsR, h]; rfl
    rw [e]; exact Best_bad a b c d want w h
  · have e : bsR a b c d want = Rm.best a b c d want := by simp only [bsR, h]; rfl
    rw [e]; exact Best_go a b c d want w h _ rfl
end Go.Proofs.YtconhikflghkdaaGreatDoor
