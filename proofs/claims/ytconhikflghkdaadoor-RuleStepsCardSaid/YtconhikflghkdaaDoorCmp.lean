/- rule/frac.go: Compare, Floor, Ceil. -/
import Derived.Test.YtconhikflghkdaaDoorArith
namespace Go.Proofs.YtconhikflghkdaaDoor
open Go.RowKit Go.Shelf
def sgn (n : Int) : Int := if n < 0 then -1 else if n > 0 then 1 else 0
def cmpN (a b c d : Int) : Int := if ok2 a b c d then sgn (a*d - c*b) else 0
def flN (a b : Int) : Int := if Rm.okF a b then Rm.fl a b else 0
def clN (a b : Int) : Int := if Rm.okF a b then Rm.cl a b else 0
theorem ok2_parts {a b c d : Int} (h : ok2 a b c d = true) : (-1000000000 ≤ a ∧ a ≤ 1000000000 ∧ 1 ≤ b ∧ b ≤ 1000000 ∧ Int.gcd a b = 1) ∧ (-1000000000 ≤ c ∧ c ≤ 1000000000 ∧ 1 ≤ d ∧ d ≤ 1000000 ∧ Int.gcd c d = 1) := by
  simpa [ok2, Rm.okF_iff] using h
set_option maxHeartbeats 1000000 in
theorem Compare_any (a b c d : Int) (w : World) :
    Calls Tryd.prog 50 #[fr a b, fr c d] w fun e w' => e = .returned (.tuple #[.int .i64 (cmpN a b c d), .int .i64 (Rm.err (ok2 a b c d) 1)]) ∧ Gr w w' := by
  cases h : ok2 a b c d
  · have e1 : cmpN a b c d = 0 := by simp [cmpN, h]
    rw [e1, Rm.err_false rfl]
    have hE := Lib.hid (Rm.err_false (e := 1) h)
    go_enter Tryd.func50, Tryd.ntmps50
    go_wp2_with fail
    refine (checked_two _ _ a b c d _ (by simp [go_sem]) (by simp [go_sem]) (by simp [go_sem]) (by simp [go_sem])).mono ?_
    rintro e w1 ⟨rfl, hg1⟩
    rw [hE.out]
    go_wp2
    go_ret2
    exact ⟨rfl, (by repeat (first | exact Gr.refl _ | assumption | refine Gr.alloc ?_ _ | refine Gr.drew ?_ | refine Gr.drewN ?_ _ | refine Gr.set ?_ _ _ (by first | (simp; done) | (simp; omega)) | refine Gr.trans ?_ (by assumption)))⟩
  · have e1 : cmpN a b c d = sgn (a*d - c*b) := by simp [cmpN, h]
    rw [e1, Rm.err_true rfl]
    have hE := Lib.hid (Rm.err_true (e := 1) h)
    obtain ⟨⟨x1, x2, x3, x4, _⟩, ⟨y1, y2, y3, y4, _⟩⟩ := ok2_parts h
    obtain ⟨u1, u2⟩ := Rm.nd_bound x1 x2 y3 y4
    obtain ⟨u3, u4⟩ := Rm.nd_bound y1 y2 x3 x4
    clear e1 h
    rcases (show a*d - c*b < 0 ∨ a*d - c*b = 0 ∨ 0 < a*d - c*b by omega) with hs | hs | hs
    all_goals
      have HS : Hid (sgn (a*d - c*b) = _) := Lib.hid (by unfold sgn; first | exact if_pos hs | exact (if_neg (by omega)).trans (if_pos (by omega)) | exact (if_neg (by omega)).trans (if_neg (by omega)))
      go_enter Tryd.func50, Tryd.ntmps50
      go_wp2_with fail
      refine (checked_two _ _ a b c d _ (by simp [go_sem]) (by simp [go_sem]) (by simp [go_sem]) (by simp [go_sem])).mono ?_
      rintro e w1 ⟨rfl, hg1⟩
      rw [hE.out]
      obtain ⟨hc1, hf1, hz1⟩ := hg1.at (n := w.heap.size + 2) (by first | (simp; done) | (simp; omega) | omega)
      go_wp2_with fail
      go_region_held3 (fun w' => w'.cell? ⟨w.heap.size, 0, none⟩ = some (.int .i64 a) ∧ w'.cell? ⟨w.heap.size, 1, none⟩ = some (.int .i64 b) ∧ w'.cell? ⟨w.heap.size + 1, 0, none⟩ = some (.int .i64 c) ∧ w'.cell? ⟨w.heap.size + 1, 1, none⟩ = some (.int .i64 d))
        (first | go_keep)
        ((first
        | (go_at_call 75; refine (of_any _ _ _).mono ?_; rintro e v1 ⟨rfl, hg2⟩; obtain ⟨hc2, hf2, hz2⟩ := hg2.at (n := w.heap.size + 2) (by first | (simp; done) | (simp; omega) | omega))
        | (go_at_call 83; refine (cross_any _ _ _ _ _ (by omega) (by omega) (by omega) (by omega)).mono ?_; rintro e v2 ⟨rfl, hg3⟩; obtain ⟨hc3, hf3, hz3⟩ := hg3.at (n := w.heap.size + 2) (by first | (simp; done) | (simp; omega) | omega))))
      all_goals go_wp2
      all_goals go_ret2
      all_goals exact ⟨by rw [HS.out]; rfl, (by repeat (first | exact Gr.refl _ | assumption | refine Gr.alloc ?_ _ | refine Gr.drew ?_ | refine Gr.drewN ?_ _ | refine Gr.set ?_ _ _ (by first | (simp; done) | (simp; omega)) | refine Gr.trans ?_ (by assumption)))⟩
set_option maxHeartbeats 1000000 in
theorem Floor_any (a b : Int) (w : World) :
    Calls Tryd.prog 53 #[fr a b] w fun e w' => e = .returned (.tuple #[.int .i64 (flN a b), .int .i64 (Rm.err (Rm.okF a b) 1)]) ∧ Gr w w' := by
  cases h : Rm.okF a b
  · have e1 : flN a b = 0 := by simp [flN, h]
    rw [e1, Rm.err_false rfl]
    have hE := Lib.hid (Rm.err_false (e := 1) h)
    go_enter Tryd.func53, Tryd.ntmps53
    go_wp2_with fail
    refine (checked_one _ _ a b _ (by simp [go_sem]) (by simp [go_sem])).mono ?_
    rintro e w1 ⟨rfl, hg1⟩
    rw [hE.out]
    go_wp2
    go_ret2
    exact ⟨rfl, (by repeat (first | exact Gr.refl _ | assumption | refine Gr.alloc ?_ _ | refine Gr.drew ?_ | refine Gr.drewN ?_ _ | refine Gr.set ?_ _ _ (by first | (simp; done) | (simp; omega)) | refine Gr.trans ?_ (by assumption)))⟩
  · have e1 : flN a b = Rm.fl a b := by simp [flN, h]
    rw [e1, Rm.err_true rfl]
    have hE := Lib.hid (Rm.err_true (e := 1) h)
    obtain ⟨x1, x2, x3, x4, _⟩ := Rm.okF_iff.1 h
    clear e1 h
    go_enter Tryd.func53, Tryd.ntmps53
    go_wp2_with fail
    refine (checked_one _ _ a b _ (by simp [go_sem]) (by simp [go_sem])).mono ?_
    rintro e w1 ⟨rfl, hg1⟩
    rw [hE.out]
    obtain ⟨hc1, hf1, hz1⟩ := hg1.at (n := w.heap.size + 1) (by first | (simp; done) | (simp; omega) | omega)
    go_wp2_with (first | (go_at_call 75; refine (of_any _ _ _).mono ?_; rintro e v1 ⟨rfl, hg2⟩) | (go_at_call 113; refine (floor_any _ _ _ (by omega) (by omega) (by omega) (by omega)).mono ?_; rintro e v2 ⟨rfl, hg3⟩))
    go_ret2
    exact ⟨rfl, (by repeat (first | exact Gr.refl _ | assumption | refine Gr.alloc ?_ _ | refine Gr.drew ?_ | refine Gr.drewN ?_ _ | refine Gr.set ?_ _ _ (by first | (simp; done) | (simp; omega)) | refine Gr.trans ?_ (by assumption)))⟩
set_option maxHeartbeats 1000000 in
theorem Ceil_any (a b : Int) (w : World) :
    Calls Tryd.prog 55 #[fr a b] w fun e w' => e = .returned (.tuple #[.int .i64 (clN a b), .int .i64 (Rm.err (Rm.okF a b) 1)]) ∧ Gr w w' := by
  cases h : Rm.okF a b
  · have e1 : clN a b = 0 := by simp [clN, h]
    rw [e1, Rm.err_false rfl]
    have hE := Lib.hid (Rm.err_false (e := 1) h)
    go_enter Tryd.func55, Tryd.ntmps55
    go_wp2_with fail
    refine (checked_one _ _ a b _ (by simp [go_sem]) (by simp [go_sem])).mono ?_
    rintro e w1 ⟨rfl, hg1⟩
    rw [hE.out]
    go_wp2
    go_ret2
    exact ⟨rfl, (by repeat (first | exact Gr.refl _ | assumption | refine Gr.alloc ?_ _ | refine Gr.drew ?_ | refine Gr.drewN ?_ _ | refine Gr.set ?_ _ _ (by first | (simp; done) | (simp; omega)) | refine Gr.trans ?_ (by assumption)))⟩
  · have e1 : clN a b = -Rm.fl (-a) b := by simp [clN, h, Rm.cl, Rm.fl]
    rw [e1, Rm.err_true rfl]
    have hE := Lib.hid (Rm.err_true (e := 1) h)
    obtain ⟨x1, x2, x3, x4, _⟩ := Rm.okF_iff.1 h
    have b1 := @Rm.fl_le (-a) b x3
    have b2 := @Rm.lt_fl (-a) b x3
    have b3 : -4000000000000000000 ≤ Rm.fl (-a) b ∧ Rm.fl (-a) b ≤ 4000000000000000000 := by
      have l1 : -1000000000 ≤ Rm.fl (-a) b := Rm.le_fl x3 (by omega)
      have l2 : Rm.fl (-a) b ≤ 1000000000 := by
        by_cases q : 0 ≤ Rm.fl (-a) b
        · have : Rm.fl (-a) b * 1 ≤ Rm.fl (-a) b * b := Int.mul_le_mul_of_nonneg_left x3 q
          omega
        · omega
      omega
    obtain ⟨b4, b5⟩ := b3
    clear e1 h b1 b2
    go_enter Tryd.func55, Tryd.ntmps55
    go_wp2_with fail
    refine (checked_one _ _ a b _ (by simp [go_sem]) (by simp [go_sem])).mono ?_
    rintro e w1 ⟨rfl, hg1⟩
    rw [hE.out]
    obtain ⟨hc1, hf1, hz1⟩ := hg1.at (n := w.heap.size + 1) (by first | (simp; done) | (simp; omega) | omega)
    go_wp2_with (first | (go_at_call 75; refine (of_any _ _ _).mono ?_; rintro e v1 ⟨rfl, hg2⟩) | (go_at_call 113; refine (floor_any _ _ _ (by omega) (by omega) (by omega) (by omega)).mono ?_; rintro e v2 ⟨rfl, hg3⟩))
    go_ret2
    exact ⟨rfl, (by repeat (first | exact Gr.refl _ | assumption | refine Gr.alloc ?_ _ | refine Gr.drew ?_ | refine Gr.drewN ?_ _ | refine Gr.set ?_ _ _ (by first | (simp; done) | (simp; omega)) | refine Gr.trans ?_ (by assumption)))⟩
end Go.Proofs.YtconhikflghkdaaDoor
