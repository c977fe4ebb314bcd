/- rule/frac.go: checked, Compare, Floor, Ceil; the four operations. -/
import Derived.Test.YtconhikflghkdaaGreatDoorTold
import Derived.Test.YtconhikflghkdaaGreatDoorMath
import Derived.Laws.EntriesVeiled
namespace Go.Proofs.YtconhikflghkdaaGreatDoor
open Go.RowKit Go.Shelf
/-- the first n fractions of a row are as said -/
def allOk (x y : Nat → Int) : Nat → Bool
  | 0 => true
  | k+1 => allOk x y k && Rm.okF (x k) (y k)
theorem allOk_no {x y : Nat → Int} {n k : Nat} (hk : k < n) (h : Rm.okF (x k) (y k) = false) : allOk x y n = false := by
  induction n with
  | zero => omega
  | succ n ih =>
    by_cases e : k = n
    · subst e; simp [allOk, h]
    · simp [allOk, ih (by omega)]
set_option maxHeartbeats 1000000 in
theorem checked_any (b n cap : Nat) (x y : Nat → Int) (w : World) (hn : n ≤ 1000) (hx : ∀ i, i < n → w.cell? ⟨b, i * 2, none⟩ = some (.int .i64 (x i))) (hy : ∀ i, i < n → w.cell? ⟨b, i * 2 + 1, none⟩ = some (.int .i64 (y i))) :
    Calls Tryz.prog 21 #[.slice (some ⟨b, 0, none⟩) n cap] w fun e w' => e = .returned (.int .i64 (Rm.err (allOk x y n) 1)) ∧ Gr w w' := by
  have HX := Lib.hid hx
  have HY := Lib.hid hy
  clear hx hy
  go_enter Tryz.func21, Tryz.ntmps21
  go_wp2
  go_loopw [8] (fun i wr => ∃ k : Nat, k ≤ n ∧ i = .int .i64 k ∧ Hid (allOk x y k = true) ∧ Gr w wr) (fun i _ => n - (intOf i).toNat)
  case atStart => exact ⟨0, Nat.zero_le _, rfl, Lib.hid rfl, Gr.refl _⟩
  case round =>
    obtain ⟨k, hk, rfl, hok, hw⟩ := hrel
    by_cases hlt : k < n
    · have hb : b < w.heap.size := World.block_lt_of_cell? w _ (HX.out k hlt)
      obtain ⟨hc0, hf0, hz0⟩ := hw.at (Nat.le_refl _)
      have x1 := (hc0 b (k * 2) hb).trans (HX.out k hlt)
      have y1 := (hc0 b (k * 2 + 1) hb).trans (HY.out k hlt)
      clear hc0 hf0
      go_wp2_with fail
      refine (CheckFrac_any _ _ _).mono ?_
      rintro e w1 ⟨rfl, hg1⟩
      cases ho : Rm.okF (x k) (y k)
      · have HE := Lib.hid (Rm.err_false (e := 1) (allOk_no hlt ho))
        rw [Rm.err_false rfl]
        go_wp2
        go_ret
        exact ⟨ret_int (by rw [HE.out]), (by repeat (first | exact Gr.refl _ | assumption | refine Gr.alloc ?_ _ | refine Gr.drew ?_ | refine Gr.drewN ?_ _ | refine Gr.set ?_ _ _ (by first | (simp; done) | (simp; omega)) | refine Gr.trans ?_ (by assumption)))⟩
      · rw [Rm.err_true rfl]
        have HA : Hid (allOk x y (k + 1) = true) := Lib.hid (by simp [allOk, hok.out, ho])
        go_wp2
        go_roundw
        case rel => exact ⟨k + 1, by omega, by go_num, HA, (by repeat (first | exact Gr.refl _ | assumption | refine Gr.alloc ?_ _ | refine Gr.drew ?_ | refine Gr.drewN ?_ _ | refine Gr.set ?_ _ _ (by first | (simp; done) | (simp; omega)) | refine Gr.trans ?_ (by assumption)))⟩
        case measure => simp [intOf]; omega
    · have e : k = n := by omega
      have HE : Hid (Rm.err (allOk x y n) 1 = 0) := Lib.hid (Rm.err_true (by rw [← e]; exact hok.out))
      go_wp2
      go_ret
      exact ⟨ret_int (by rw [HE.out]), (by repeat (first | exact Gr.refl _ | assumption | refine Gr.alloc ?_ _ | refine Gr.drew ?_ | refine Gr.drewN ?_ _ | refine Gr.set ?_ _ _ (by first | (simp; done) | (simp; omega)) | refine Gr.trans ?_ (by assumption)))⟩
set_option maxHeartbeats 400000 in
theorem sum_any (a b c d : Int) (w : World) (h1 : -4000000000000000000 ≤ a*d) (h2 : a*d ≤ 4000000000000000000) (h3 : -4000000000000000000 ≤ c*b) (h4 : c*b ≤ 4000000000000000000) (h5 : -4000000000000000000 ≤ b*d) (h6 : b*d ≤ 4000000000000000000) :
    Calls Tryz.prog 87 #[fr a b, fr c d] w fun e w' => e = .returned (fr (a*d+c*b) (b*d)) ∧ Gr w w' := by
  go_enter Tryz.func87, Tryz.ntmps87
  go_wp2
  exact bodyPost_ret (v := fr (a*d+c*b) (b*d)) (by simp [results, Tryz.results87, go_sem]) rfl ⟨rfl, (by repeat (first | exact Gr.refl _ | assumption | refine Gr.alloc ?_ _ | refine Gr.drew ?_ | refine Gr.drewN ?_ _ | refine Gr.set ?_ _ _ (by first | (simp; done) | (simp; omega)) | refine Gr.trans ?_ (by assumption)))⟩
set_option maxHeartbeats 400000 in
theorem difference_any (a b c d : Int) (w : World) (h1 : -4000000000000000000 ≤ a*d) (h2 : a*d ≤ 4000000000000000000) (h3 : -4000000000000000000 ≤ c*b) (h4 : c*b ≤ 4000000000000000000) (h5 : -4000000000000000000 ≤ b*d) (h6 : b*d ≤ 4000000000000000000) :
    Calls Tryz.prog 46 #[fr a b, fr c d] w fun e w' => e = .returned (fr (a*d-c*b) (b*d)) ∧ Gr w w' := by
  have hw : IntKind.i64.wrap (b*d) = b*d := IntWalk.i64_in _ (by omega)
  have n1 : ¬ w.heap.size + 1 + 1 = w.heap.size := by omega
  have n2 : ¬ w.heap.size + 1 + 1 = w.heap.size + 1 := by omega
  have n3 : ¬ w.heap.size = w.heap.size + 1 + 1 := by omega
  have n4 : ¬ w.heap.size + 1 = w.heap.size + 1 + 1 := by omega
  go_enter Tryz.func46, Tryz.ntmps46
  go_wp2_with fail
  go_region_held3 (fun w' => w'.cell? ⟨w.heap.size, 0, none⟩ = some (.int .i64 a) ∧ w'.cell? ⟨w.heap.size, 1, none⟩ = some (.int .i64 b) ∧ w'.cell? ⟨w.heap.size + 1, 0, none⟩ = some (.int .i64 c) ∧ w'.cell? ⟨w.heap.size + 1, 1, none⟩ = some (.int .i64 d))
    (first | go_keep)
    ((go_at_call 37; refine (cross_any _ _ _ _ _ h1 h2 h3 h4).mono ?_; rintro e w1 ⟨rfl, hg1⟩; obtain ⟨hc1, hf1, hz1⟩ := hg1.at (n := w.heap.size + 3) (by first | (simp; done) | (simp; omega) | omega)))
  all_goals go_wp2
  all_goals exact bodyPost_ret (v := fr (a*d-c*b) (b*d)) (by simp [results, Tryz.results46, go_sem, hc1]) rfl ⟨rfl, (by repeat (first | exact Gr.refl _ | assumption | refine Gr.alloc ?_ _ | refine Gr.drew ?_ | refine Gr.drewN ?_ _ | refine Gr.set ?_ _ _ (by first | (simp; done) | (simp; omega)) | refine Gr.trans ?_ (by assumption)))⟩
set_option maxHeartbeats 400000 in
theorem product_any (a b c d : Int) (w : World) (h1 : -4000000000000000000 ≤ a*c) (h2 : a*c ≤ 4000000000000000000) (h5 : -4000000000000000000 ≤ b*d) (h6 : b*d ≤ 4000000000000000000) :
    Calls Tryz.prog 50 #[fr a b, fr c d] w fun e w' => e = .returned (fr (a*c) (b*d)) ∧ Gr w w' := by
  go_enter Tryz.func50, Tryz.ntmps50
  go_wp2
  exact bodyPost_ret (v := fr (a*c) (b*d)) (by simp [results, Tryz.results50, go_sem]) rfl ⟨rfl, (by repeat (first | exact Gr.refl _ | assumption | refine Gr.alloc ?_ _ | refine Gr.drew ?_ | refine Gr.drewN ?_ _ | refine Gr.set ?_ _ _ (by first | (simp; done) | (simp; omega)) | refine Gr.trans ?_ (by assumption)))⟩
set_option maxHeartbeats 400000 in
theorem quotient_any (a b c d : Int) (w : World) (ha1 : -4000000000000000000 ≤ a) (ha2 : a ≤ 4000000000000000000) (hb1 : -4000000000000000000 ≤ b) (hb2 : b ≤ 4000000000000000000)
    (h1 : -4000000000000000000 ≤ a*d) (h2 : a*d ≤ 4000000000000000000) (h5 : -4000000000000000000 ≤ b*c) (h6 : b*c ≤ 4000000000000000000) :
    Calls Tryz.prog 88 #[fr a b, fr c d] w fun e w' => e = .returned (fr (Rm.quoN a b c d) (Rm.quoD a b c d)) ∧ Gr w w' := by
  have e1 : -a*d = -(a*d) := Int.neg_mul _ _
  have e2 : -b*c = -(b*c) := Int.neg_mul _ _
  have g1 : -4000000000000000000 ≤ -a*d := by omega
  have g2 : -a*d ≤ 4000000000000000000 := by omega
  have g3 : -4000000000000000000 ≤ -b*c := by omega
  have g4 : -b*c ≤ 4000000000000000000 := by omega
  clear e1 e2
  by_cases hc : c < 0
  · have EN : Hid (Rm.quoN a b c d = -a*d ∧ Rm.quoD a b c d = -b*c) := Lib.hid (by simp [Rm.quoN, Rm.quoD, hc])
    go_enter Tryz.func88, Tryz.ntmps88
    go_wp2
    exact bodyPost_ret (v := fr (-a*d) (-b*c)) (by simp [results, Tryz.results88, go_sem]) rfl ⟨by rw [EN.out.1, EN.out.2], (by repeat (first | exact Gr.refl _ | assumption | refine Gr.alloc ?_ _ | refine Gr.drew ?_ | refine Gr.drewN ?_ _ | refine Gr.set ?_ _ _ (by first | (simp; done) | (simp; omega)) | refine Gr.trans ?_ (by assumption)))⟩
  · have EN : Hid (Rm.quoN a b c d = a*d ∧ Rm.quoD a b c d = b*c) := Lib.hid (by simp [Rm.quoN, Rm.quoD, hc])
    go_enter Tryz.func88, Tryz.ntmps88
    go_wp2
    exact bodyPost_ret (v := fr (a*d) (b*c)) (by simp [results, Tryz.results88, go_sem]) rfl ⟨by rw [EN.out.1, EN.out.2], (by repeat (first | exact Gr.refl _ | assumption | refine Gr.alloc ?_ _ | refine Gr.drew ?_ | refine Gr.drewN ?_ _ | refine Gr.set ?_ _ _ (by first | (simp; done) | (simp; omega)) | refine Gr.trans ?_ (by assumption)))⟩
set_option maxHeartbeats 400000 in
theorem operations_any (w : World) :
    Calls Tryz.prog 73 #[] w fun e w' => e = .returned (.agg #[.func (.func 87) #[] #[], .func (.func 46) #[] #[], .func (.func 50) #[] #[], .func (.func 88) #[] #[]]) ∧ Gr w w' := by
  go_enter Tryz.func73, Tryz.ntmps73
  go_wp2
  exact bodyPost_ret (v := .agg #[.func (.func 87) #[] #[], .func (.func 46) #[] #[], .func (.func 50) #[] #[], .func (.func 88) #[] #[]]) (by simp [results, Tryz.results73, go_sem]) rfl ⟨rfl, (by repeat (first | exact Gr.refl _ | assumption | refine Gr.alloc ?_ _ | refine Gr.drew ?_ | refine Gr.drewN ?_ _ | refine Gr.set ?_ _ _ (by first | (simp; done) | (simp; omega)) | refine Gr.trans ?_ (by assumption)))⟩
end Go.Proofs.YtconhikflghkdaaGreatDoor
