/- rule/frac.go: what its functions return. -/
import Derived.Test.YtconhikflghkdaaGreatDoorBase
import Derived.Deep.RegionHeld3
namespace Go.Proofs.YtconhikflghkdaaGreatDoor
open Go.RowKit
set_option maxHeartbeats 400000 in
theorem in_any (n a b : Int) (w : World) :
    Calls Tryz.prog 28 #[.int .i64 n, .int .i64 a, .int .i64 b] w fun e w' => e = .returned (.bool (decide (a ≤ n) && decide (n ≤ b))) ∧ w = w' := by
  by_cases h : a ≤ n
  · go_enter Tryz.func28, Tryz.ntmps28
    go_wp2
    go_ret
    exact ⟨ret_bool (by simp [h]), rfl⟩
  · go_enter Tryz.func28, Tryz.ntmps28
    go_wp2
    go_ret
    exact ⟨ret_bool (by have : ¬ a ≤ n := by omega
                        simp [this]), rfl⟩
set_option maxHeartbeats 400000 in
theorem size_any (n : Int) (w : World) (h1 : -4000000000000000000 ≤ n) (h2 : n ≤ 4000000000000000000) :
    Calls Tryz.prog 86 #[.int .i64 n] w fun e w' => e = .returned (.int .i64 (n.natAbs : Int)) ∧ w = w' := by
  by_cases h : n < -n
  · go_enter Tryz.func86, Tryz.ntmps86
    go_wp2
    go_ret
    exact ⟨ret_int (by omega), rfl⟩
  · go_enter Tryz.func86, Tryz.ntmps86
    go_wp2
    go_ret
    exact ⟨ret_int (by omega), rfl⟩
set_option maxHeartbeats 400000 in
theorem common_any (a b : Int) (w : World) (h1 : -4000000000000000000 ≤ a) (h2 : a ≤ 4000000000000000000) (h3 : -4000000000000000000 ≤ b) (h4 : b ≤ 4000000000000000000) :
    Calls Tryz.prog 83 #[.int .i64 a, .int .i64 b] w fun e w' => e = .returned (.int .i64 (Int.gcd a b : Int)) ∧ Gr w w' := by
  go_enter Tryz.func83, Tryz.ntmps83
  go_wp2
  go_loopw [0, 1] (fun p q wr => ∃ x y : Int, p = .int .i64 x ∧ q = .int .i64 y ∧ -4000000000000000000 ≤ x ∧ x ≤ 4000000000000000000 ∧ -4000000000000000000 ≤ y ∧ y ≤ 4000000000000000000 ∧ Hid (Int.gcd x y = Int.gcd a b) ∧ Gr w wr) (fun _ q _ => (intOf q).natAbs)
  case atStart => exact ⟨a, b, rfl, rfl, h1, h2, h3, h4, Lib.hid rfl, Gr.refl _⟩
  case round =>
    obtain ⟨x, y, rfl, rfl, b1, b2, b3, b4, hg, hw⟩ := hrel
    by_cases hy : y = 0
    · subst hy
      go_wp2_with (go_at_call 86; refine (size_any _ _ (by omega) (by omega)).mono ?_; rintro e w' ⟨rfl, rfl⟩)
      go_ret
      exact ⟨ret_int (by rw [← hg.out]; simp), hw⟩
    · have hl := Rm.tmod_lt x y hy
      have hl2 : (x.tmod y).natAbs ≤ x.natAbs := by rw [Int.natAbs_tmod]; exact Nat.mod_le _ _
      have hG : Hid (Int.gcd y (x.tmod y) = Int.gcd a b) := Lib.hid ((Rm.gcd_tmod x y).trans hg.out)
      clear hg
      go_wp2
      go_region
      go_roundw
      case rel =>
        (repeat apply Exists.intro); exact ⟨⟨y, x.tmod y, rfl, rfl, b3, b4, by omega, by omega, hG, hw.drew⟩, rfl⟩
      case measure => simpa [intOf] using hl
set_option maxHeartbeats 400000 in
theorem of_any (a b : Int) (w : World) :
    Calls Tryz.prog 34 #[fr a b] w fun e w' => e = .returned (fr a b) ∧ Gr w w' := by
  go_enter Tryz.func34, Tryz.ntmps34
  go_wp2
  exact bodyPost_ret (v := fr a b) (by simp [results, Tryz.results34, go_sem]) rfl ⟨rfl, ((Gr.refl _).alloc _).alloc _⟩
set_option maxHeartbeats 400000 in
theorem cross_any (a b c d : Int) (w : World) (h1 : -4000000000000000000 ≤ a*d) (h2 : a*d ≤ 4000000000000000000) (h3 : -4000000000000000000 ≤ c*b) (h4 : c*b ≤ 4000000000000000000) :
    Calls Tryz.prog 37 #[fr a b, fr c d] w fun e w' => e = .returned (.int .i64 (a*d-c*b)) ∧ Gr w w' := by
  go_enter Tryz.func37, Tryz.ntmps37
  go_wp2
  go_ret
  exact ⟨rfl, ((Gr.refl _).alloc _).alloc _⟩
theorem floor_of (a b : Int) (h : 1 ≤ b) : a.tdiv b + (if a.tmod b < 0 then -1 else 0) = Rm.fl a b := by
  have e := Int.tmod_add_tdiv_mul a b
  have l := Rm.tmod_lt a b (by omega)
  apply Rm.fl_unique h
  · split
    · have : (a.tdiv b + -1)*b = a.tdiv b * b - b := by grind
      omega
    · have : (a.tdiv b + 0)*b = a.tdiv b * b := by grind
      omega
  · split
    · have : (a.tdiv b + -1 + 1)*b = a.tdiv b * b := by grind
      omega
    · have : (a.tdiv b + 0 + 1)*b = a.tdiv b * b + b := by grind
      omega
set_option maxHeartbeats 400000 in
theorem floor_any (a b : Int) (w : World) (h : 1 ≤ b) (h1 : -4000000000000000000 ≤ a) (h2 : a ≤ 4000000000000000000) (h3 : b ≤ 4000000000000000000) :
    Calls Tryz.prog 63 #[fr a b] w fun e w' => e = .returned (.int .i64 (Rm.fl a b)) ∧ Gr w w' := by
  have hb : ¬ b = 0 := by omega
  have hq := floor_of a b h
  have hn : (a.tdiv b).natAbs ≤ a.natAbs := by rw [Int.natAbs_tdiv]; exact Nat.div_le_self _ _
  by_cases hm : a.tmod b < 0
  · rw [if_pos hm] at hq
    have hq := Lib.hid hq
    go_enter Tryz.func63, Tryz.ntmps63
    go_wp2
    go_ret
    exact ⟨ret_int (by have := hq.out; omega), (Gr.refl _).alloc _⟩
  · rw [if_neg hm] at hq
    have hq := Lib.hid hq
    go_enter Tryz.func63, Tryz.ntmps63
    go_wp2
    go_ret
    exact ⟨ret_int (by have := hq.out; omega), (Gr.refl _).alloc _⟩
set_option maxHeartbeats 400000 in
theorem small_any (a b : Int) (w : World) :
    Calls Tryz.prog 62 #[fr a b] w fun e w' => e = .returned (.bool (Rm.small a b)) ∧ Gr w w' := by
  cases h : (decide (-1000000000 ≤ a) && decide (a ≤ 1000000000))
  all_goals
    have H := Lib.hid h
    go_enter Tryz.func62, Tryz.ntmps62
    go_wp2_with (go_at_call 28; refine (in_any _ _ _ _).mono ?_; rintro e w' ⟨rfl, rfl⟩)
    go_ret
    exact ⟨ret_bool (by unfold Rm.small; rw [H.out]; simp), (Gr.refl _).alloc _⟩
set_option maxHeartbeats 400000 in
theorem reduced_any (a b : Int) (w : World) (h : 1 ≤ b) (h1 : -4000000000000000000 ≤ a) (h2 : a ≤ 4000000000000000000) (h3 : b ≤ 4000000000000000000) :
    Calls Tryz.prog 61 #[fr a b] w fun e w' => e = .returned (fr (Rm.redN a b) (Rm.redD a b)) ∧ Gr w w' := by
  have g1 := @Rm.gcd_pos a b h
  have g2 := Lib.hid (Rm.tdiv_red a b)
  go_enter Tryz.func61, Tryz.ntmps61
  go_wp2_with (go_at_call 83; refine (common_any _ _ _ (by omega) (by omega) (by omega) (by omega)).mono ?_; rintro e w1 ⟨rfl, hg1⟩)
  obtain ⟨hc1, hf1, hz1⟩ := hg1.cells
  go_region
  go_wp2
  have e1 : a.tdiv (Int.gcd a b : Int) = Rm.redN a b := g2.out.1
  exact bodyPost_ret (v := fr (Rm.redN a b) (b / (Int.gcd a b : Int))) (by simp [results, Tryz.results61, go_sem, hc1, e1]) rfl ⟨rfl, ((((((Gr.refl _).alloc _).alloc _).trans hg1).set _ _ (by simp)).set _ _ (by simp)).drew⟩
set_option maxHeartbeats 1000000 in
theorem CheckFrac_no (a b : Int) (w : World) (h : Rm.small a b = false) :
    Calls Tryz.prog 54 #[fr a b] w fun e w' => e = .returned (.int .i64 (Rm.err (Rm.okF a b) 1)) ∧ Gr w w' := by
  have HG := Lib.hid (Rm.err_false (e := 1) (Rm.okF_no h))
  go_enter Tryz.func54, Tryz.ntmps54
  go_wp2_with fail
  go_region_with (first
      | (go_at_call 34; refine (of_any _ _ _).mono ?_; rintro e w1 ⟨rfl, hg1⟩; obtain ⟨hc1, hf1, hz1⟩ := hg1.at (n := w.heap.size + 1) (by first | (simp; done) | (simp; omega) | omega))
      | (go_at_call 62; refine (small_any _ _ _).mono ?_; rintro e w2 ⟨rfl, hg2⟩; obtain ⟨hc2, hf2, hz2⟩ := hg2.at (n := w.heap.size + 1) (by first | (simp; done) | (simp; omega) | omega)))
  all_goals go_wp2
  all_goals go_ret
  all_goals exact ⟨ret_int (by rw [HG.out]), (by repeat (first | exact Gr.refl _ | assumption | refine Gr.alloc ?_ _ | refine Gr.drew ?_ | refine Gr.drewN ?_ _ | refine Gr.set ?_ _ _ (by first | (simp; done) | (simp; omega)) | refine Gr.trans ?_ (by assumption)))⟩
set_option maxHeartbeats 1000000 in
theorem CheckFrac_yes (a b : Int) (w : World) (h : Rm.small a b = true) :
    Calls Tryz.prog 54 #[fr a b] w fun e w' => e = .returned (.int .i64 (Rm.err (Rm.okF a b) 1)) ∧ Gr w w' := by
  obtain ⟨b1, b2, b3, b4⟩ : -1000000000 ≤ a ∧ a ≤ 1000000000 ∧ 1 ≤ b ∧ b ≤ 1000000 := by simpa [Rm.small, and_assoc] using h
  have e1 : (Int.gcd a b = 1) → Rm.redN a b = a ∧ Rm.redD a b = b := Rm.red_self
  have e2 := @Rm.red_ne a b b3
  by_cases hg : Int.gcd a b = 1
  · have ne : ∀ w, (binOp .neq 65 (fr (Rm.redN a b) (Rm.redD a b)) (fr a b)).run Tryz.prog w = .ok (.bool false) w := fun w => by
      rw [neq_frac, (e1 hg).1, (e1 hg).2]; simp
    have HG : Hid (Rm.err (Rm.okF a b) 1 = 0) := Lib.hid (Rm.err_true (by rw [Rm.okF_of h]; simp [hg]))
    clear e1 e2 hg
    go_enter Tryz.func54, Tryz.ntmps54
    go_wp2_with fail
    go_region_held3 (fun w' => w'.cell? ⟨w.heap.size, 0, none⟩ = some (.int .i64 a) ∧ w'.cell? ⟨w.heap.size, 1, none⟩ = some (.int .i64 b))
      (first | go_keep)
      ((first
      | (go_at_call 34; refine (of_any _ _ _).mono ?_; rintro e w1 ⟨rfl, hg1⟩; obtain ⟨hc1, hf1, hz1⟩ := hg1.at (n := w.heap.size + 1) (by first | (simp; done) | (simp; omega) | omega))
      | (go_at_call 61; refine (reduced_any _ _ _ (by omega) (by omega) (by omega) (by omega)).mono ?_; rintro e w3 ⟨rfl, hg3⟩; obtain ⟨hc3, hf3, hz3⟩ := hg3.at (n := w.heap.size + 1) (by first | (simp; done) | (simp; omega) | omega))
      | (go_at_call 62; refine (small_any _ _ _).mono ?_; rintro e w2 ⟨rfl, hg2⟩; obtain ⟨hc2, hf2, hz2⟩ := hg2.at (n := w.heap.size + 1) (by first | (simp; done) | (simp; omega) | omega))))
    all_goals go_wp2
    all_goals go_ret
    all_goals exact ⟨ret_int (by rw [HG.out]), (by repeat (first | exact Gr.refl _ | assumption | refine Gr.alloc ?_ _ | refine Gr.drew ?_ | refine Gr.drewN ?_ _ | refine Gr.set ?_ _ _ (by first | (simp; done) | (simp; omega)) | refine Gr.trans ?_ (by assumption)))⟩
  · have ne : ∀ w, (binOp .neq 65 (fr (Rm.redN a b) (Rm.redD a b)) (fr a b)).run Tryz.prog w = .ok (.bool true) w := fun w => by
      rw [neq_frac]; simp [e2 hg]
    have HG : Hid (Rm.err (Rm.okF a b) 1 = 1) := Lib.hid (Rm.err_false (by rw [Rm.okF_of h]; simp [hg]))
    clear e1 e2 hg
    go_enter Tryz.func54, Tryz.ntmps54
    go_wp2_with fail
    go_region_held3 (fun w' => w'.cell? ⟨w.heap.size, 0, none⟩ = some (.int .i64 a) ∧ w'.cell? ⟨w.heap.size, 1, none⟩ = some (.int .i64 b))
      (first | go_keep)
      ((first
      | (go_at_call 34; refine (of_any _ _ _).mono ?_; rintro e w1 ⟨rfl, hg1⟩; obtain ⟨hc1, hf1, hz1⟩ := hg1.at (n := w.heap.size + 1) (by first | (simp; done) | (simp; omega) | omega))
      | (go_at_call 61; refine (reduced_any _ _ _ (by omega) (by omega) (by omega) (by omega)).mono ?_; rintro e w3 ⟨rfl, hg3⟩; obtain ⟨hc3, hf3, hz3⟩ := hg3.at (n := w.heap.size + 1) (by first | (simp; done) | (simp; omega) | omega))
      | (go_at_call 62; refine (small_any _ _ _).mono ?_; rintro e w2 ⟨rfl, hg2⟩; obtain ⟨hc2, hf2, hz2⟩ := hg2.at (n := w.heap.size + 1) (by first | (simp; done) | (simp; omega) | omega))))
    all_goals go_wp2
    all_goals go_ret
    all_goals exact ⟨ret_int (by rw [HG.out]), (by repeat (first | exact Gr.refl _ | assumption | refine Gr.alloc ?_ _ | refine Gr.drew ?_ | refine Gr.drewN ?_ _ | refine Gr.set ?_ _ _ (by first | (simp; done) | (simp; omega)) | refine Gr.trans ?_ (by assumption)))⟩
theorem CheckFrac_any (a b : Int) (w : World) :
    Calls Tryz.prog 54 #[fr a b] w fun e w' => e = .returned (.int .i64 (Rm.err (Rm.okF a b) 1)) ∧ Gr w w' := by
  cases h : Rm.small a b
  · exact CheckFrac_no a b w h
  · exact CheckFrac_yes a b w h
end Go.Proofs.YtconhikflghkdaaGreatDoor
