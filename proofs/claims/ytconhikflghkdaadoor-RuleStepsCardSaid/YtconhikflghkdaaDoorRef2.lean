/- strickleref01: Of, both, More, Compare, floor, ceil, Floor, Ceil, Add, Sub, Mul, Div, ranged. -/
import Derived.Test.YtconhikflghkdaaDoorRef
namespace Go.Proofs.YtconhikflghkdaaDoor
open Go.RowKit Go.Shelf
set_option maxHeartbeats 400000 in
theorem rOf_any (x y : Int) (w : World) :
    Calls Tryd.prog 49 #[.int .i64 x, .int .i64 y] w fun e w' => e = .returned (.tuple #[fr (ofN x y) (ofD x y), .int .i64 (ofE x y)]) ∧ Gr w w' := by
  cases hd : (decide (1 ≤ y) && decide (y ≤ 1000000000000))
  · have eN : ofN x y = 0 ∧ ofD x y = 0 ∧ ofE x y = 1 := by simp [ofN, ofD, ofE, ofOk, hd]
    rw [eN.1, eN.2.1, eN.2.2]
    clear eN
    go_enter Tryd.func49, Tryd.ntmps49
    go_wp2_with (go_at_call 82; refine (within_any _ _ _ _).mono ?_; rintro e w' ⟨rfl, rfl⟩)
    exact bodyPost_ret (v := .tuple #[fr 0 0, .int .i64 1]) (by simp [results, Tryd.results49, go_sem]) rfl ⟨rfl, (by repeat (first | exact Gr.refl _ | assumption | refine Gr.alloc ?_ _ | refine Gr.drew ?_ | refine Gr.drewN ?_ _ | refine Gr.set ?_ _ _ (by first | (simp; done) | (simp; omega)) | refine Gr.trans ?_ (by assumption)))⟩
  · cases hn : (decide (-1000000000000000 ≤ x) && decide (x ≤ 1000000000000000))
    · have eN : ofN x y = 0 ∧ ofD x y = 0 ∧ ofE x y = 1 := by simp [ofN, ofD, ofE, ofOk, hn]
      rw [eN.1, eN.2.1, eN.2.2]
      clear eN
      go_enter Tryd.func49, Tryd.ntmps49
      go_wp2_with (go_at_call 82; refine (within_any _ _ _ _).mono ?_; rintro e w' ⟨rfl, rfl⟩)
      exact bodyPost_ret (v := .tuple #[fr 0 0, .int .i64 1]) (by simp [results, Tryd.results49, go_sem]) rfl ⟨rfl, (by repeat (first | exact Gr.refl _ | assumption | refine Gr.alloc ?_ _ | refine Gr.drew ?_ | refine Gr.drewN ?_ _ | refine Gr.set ?_ _ _ (by first | (simp; done) | (simp; omega)) | refine Gr.trans ?_ (by assumption)))⟩
    · have b1 : 1 ≤ y ∧ y ≤ 1000000000000 ∧ -1000000000000000 ≤ x ∧ x ≤ 1000000000000000 := by simp at hd hn; omega
      obtain ⟨b1, b2, b3, b4⟩ := b1
      have eO : ofOk x y = true := by unfold ofOk; rw [hd, hn]; rfl
      have eN : ofN x y = Rm.mN x y ∧ ofD x y = Rm.mD x y ∧ ofE x y = Rm.mE x y := by simp [ofN, ofD, ofE, eO]
      rw [eN.1, eN.2.1, eN.2.2]
      clear eN eO
      go_enter Tryd.func49, Tryd.ntmps49
      go_wp2_with (first | (go_at_call 82; refine (within_any _ _ _ _).mono ?_; rintro e w' ⟨rfl, rfl⟩) | (go_at_call 98; refine (made_any _ _ _ (by omega) (by omega) (by omega) (by omega)).mono ?_; rintro e w1 ⟨rfl, hg1⟩; obtain ⟨hc1, hf1, hz1⟩ := hg1.at (n := w.heap.size + 1) (by first | (simp; done) | (simp; omega) | omega)))
      exact bodyPost_ret (v := .tuple #[fr (Rm.mN x y) (Rm.mD x y), .int .i64 (Rm.mE x y)]) (by simp [results, Tryd.results49, go_sem, hc1]) rfl ⟨rfl, (by repeat (first | exact Gr.refl _ | assumption | refine Gr.alloc ?_ _ | refine Gr.drew ?_ | refine Gr.drewN ?_ _ | refine Gr.set ?_ _ _ (by first | (simp; done) | (simp; omega)) | refine Gr.trans ?_ (by assumption)))⟩
set_option maxHeartbeats 400000 in
theorem both_any (a b c d : Int) (w : World) :
    Calls Tryd.prog 97 #[fr a b, fr c d] w fun e w' => e = .returned (.int .i64 (Rm.err (ok2 a b c d) 1)) ∧ Gr w w' := by
  cases h1 : Rm.okF a b
  · have hE := Lib.hid (Rm.err_false (e := 1) h1)
    have h : ok2 a b c d = false := by simp [ok2, h1]
    rw [h, Rm.err_false rfl]
    clear h h1
    go_enter Tryd.func97, Tryd.ntmps97
    go_wp2_with fail
    refine (rCheckFrac_any a b _).mono ?_
    rintro e w1 ⟨rfl, hg1⟩
    rw [hE.out]
    go_wp2
    go_ret
    exact ⟨rfl, (by repeat (first | exact Gr.refl _ | assumption | refine Gr.alloc ?_ _ | refine Gr.drew ?_ | refine Gr.drewN ?_ _ | refine Gr.set ?_ _ _ (by first | (simp; done) | (simp; omega)) | refine Gr.trans ?_ (by assumption)))⟩
  · have hE := Lib.hid (Rm.err_true (e := 1) h1)
    have h : ok2 a b c d = Rm.okF c d := by simp [ok2, h1]
    rw [h]
    clear h h1
    go_enter Tryd.func97, Tryd.ntmps97
    go_wp2_with fail
    refine (rCheckFrac_any a b _).mono ?_
    rintro e w1 ⟨rfl, hg1⟩
    rw [hE.out]
    obtain ⟨hc1, hf1, hz1⟩ := hg1.at (n := w.heap.size + 2) (by first | (simp; done) | (simp; omega) | omega)
    go_wp2_with fail
    refine (rCheckFrac_any c d _).mono ?_
    rintro e w2 ⟨rfl, hg2⟩
    go_wp2
    go_ret
    exact ⟨rfl, (by repeat (first | exact Gr.refl _ | assumption | refine Gr.alloc ?_ _ | refine Gr.drew ?_ | refine Gr.drewN ?_ _ | refine Gr.set ?_ _ _ (by first | (simp; done) | (simp; omega)) | refine Gr.trans ?_ (by assumption)))⟩
set_option maxHeartbeats 400000 in
theorem More_any (a b c d : Int) (w : World) (h1 : -4000000000000000000 ≤ a*d) (h2 : a*d ≤ 4000000000000000000) (h3 : -4000000000000000000 ≤ c*b) (h4 : c*b ≤ 4000000000000000000) :
    Calls Tryd.prog 84 #[fr a b, fr c d] w fun e w' => e = .returned (.int .i64 (a*d-c*b)) ∧ Gr w w' := by
  go_enter Tryd.func84, Tryd.ntmps84
  go_wp2
  go_ret
  exact ⟨rfl, (by repeat (first | exact Gr.refl _ | assumption | refine Gr.alloc ?_ _ | refine Gr.drew ?_ | refine Gr.drewN ?_ _ | refine Gr.set ?_ _ _ (by first | (simp; done) | (simp; omega)) | refine Gr.trans ?_ (by assumption)))⟩
theorem tdiv_fl (a b : Int) (h : 1 ≤ b) : Rm.fl a b = (if a < a.tdiv b * b then a.tdiv b - 1 else a.tdiv b) := by
  have := floor_of a b h
  have e := Int.tmod_add_tdiv_mul a b
  split
  · rw [if_pos (by omega)] at this; omega
  · rw [if_neg (by omega)] at this; omega
theorem tdiv_cl (a b : Int) (h : 1 ≤ b) : Rm.cl a b = (if a.tdiv b * b < a then a.tdiv b + 1 else a.tdiv b) := by
  have e := Int.tmod_add_tdiv_mul a b
  have l := Rm.tmod_lt a b (by omega)
  symm
  apply Rm.cl_unique h
  · split
    · have : (a.tdiv b + 1)*b = a.tdiv b * b + b := by grind
      omega
    · omega
  · split
    · have : (a.tdiv b + 1 - 1)*b = a.tdiv b * b := by grind
      omega
    · have : (a.tdiv b - 1)*b = a.tdiv b * b - b := by grind
      omega
theorem tdiv_bd {a b : Int} (h1 : -4000000000000000000 ≤ a) (h2 : a ≤ 4000000000000000000) : -4000000000000000000 ≤ a.tdiv b ∧ a.tdiv b ≤ 4000000000000000000 ∧ -4000000000000000000 ≤ a.tdiv b * b ∧ a.tdiv b * b ≤ 4000000000000000000 := by
  have hn : (a.tdiv b).natAbs ≤ a.natAbs := by rw [Int.natAbs_tdiv]; exact Nat.div_le_self _ _
  have hm : (a.tdiv b * b).natAbs ≤ a.natAbs := by rw [Int.natAbs_mul, Int.natAbs_tdiv]; exact Nat.div_mul_le_self _ _
  omega
set_option maxHeartbeats 400000 in
theorem rfloor_any (a b : Int) (w : World) (h : 1 ≤ b) (h1 : -4000000000000000000 ≤ a) (h2 : a ≤ 4000000000000000000) :
    Calls Tryd.prog 105 #[.int .i64 a, .int .i64 b] w fun e w' => e = .returned (.int .i64 (Rm.fl a b)) ∧ Gr w w' := by
  have hb : ¬ b = 0 := by omega
  have hq := tdiv_fl a b h
  obtain ⟨t1, t2, t3, t4⟩ := @tdiv_bd a b h1 h2
  by_cases hm : a < a.tdiv b * b
  · rw [if_pos hm] at hq
    have hq := Lib.hid hq
    go_enter Tryd.func105, Tryd.ntmps105
    go_wp2
    all_goals (try go_region)
    all_goals (try go_wp2)
    all_goals (try go_region)
    all_goals (try go_wp2)
    all_goals go_ret
    all_goals exact ⟨ret_int (by have := hq.out; omega), (by repeat (first | exact Gr.refl _ | assumption | refine Gr.alloc ?_ _ | refine Gr.drew ?_ | refine Gr.drewN ?_ _ | refine Gr.set ?_ _ _ (by first | (simp; done) | (simp; omega)) | refine Gr.trans ?_ (by assumption)))⟩
  · rw [if_neg hm] at hq
    have hq := Lib.hid hq
    go_enter Tryd.func105, Tryd.ntmps105
    go_wp2
    all_goals (try go_region)
    all_goals (try go_wp2)
    all_goals (try go_region)
    all_goals (try go_wp2)
    all_goals go_ret
    all_goals exact ⟨ret_int (by have := hq.out; omega), (by repeat (first | exact Gr.refl _ | assumption | refine Gr.alloc ?_ _ | refine Gr.drew ?_ | refine Gr.drewN ?_ _ | refine Gr.set ?_ _ _ (by first | (simp; done) | (simp; omega)) | refine Gr.trans ?_ (by assumption)))⟩
set_option maxHeartbeats 400000 in
theorem rceil_any (a b : Int) (w : World) (h : 1 ≤ b) (h1 : -4000000000000000000 ≤ a) (h2 : a ≤ 4000000000000000000) :
    Calls Tryd.prog 104 #[.int .i64 a, .int .i64 b] w fun e w' => e = .returned (.int .i64 (Rm.cl a b)) ∧ Gr w w' := by
  have hb : ¬ b = 0 := by omega
  have hq := tdiv_cl a b h
  obtain ⟨t1, t2, t3, t4⟩ := @tdiv_bd a b h1 h2
  by_cases hm : a.tdiv b * b < a
  · rw [if_pos hm] at hq
    have hq := Lib.hid hq
    go_enter Tryd.func104, Tryd.ntmps104
    go_wp2
    all_goals (try go_region)
    all_goals (try go_wp2)
    all_goals (try go_region)
    all_goals (try go_wp2)
    all_goals go_ret
    all_goals exact ⟨ret_int (by have := hq.out; omega), (by repeat (first | exact Gr.refl _ | assumption | refine Gr.alloc ?_ _ | refine Gr.drew ?_ | refine Gr.drewN ?_ _ | refine Gr.set ?_ _ _ (by first | (simp; done) | (simp; omega)) | refine Gr.trans ?_ (by assumption)))⟩
  · rw [if_neg hm] at hq
    have hq := Lib.hid hq
    go_enter Tryd.func104, Tryd.ntmps104
    go_wp2
    all_goals (try go_region)
    all_goals (try go_wp2)
    all_goals (try go_region)
    all_goals (try go_wp2)
    all_goals go_ret
    all_goals exact ⟨ret_int (by have := hq.out; omega), (by repeat (first | exact Gr.refl _ | assumption | refine Gr.alloc ?_ _ | refine Gr.drew ?_ | refine Gr.drewN ?_ _ | refine Gr.set ?_ _ _ (by first | (simp; done) | (simp; omega)) | refine Gr.trans ?_ (by assumption)))⟩
set_option maxHeartbeats 400000 in
theorem rFloor_any (a b : Int) (w : World) :
    Calls Tryd.prog 54 #[fr a b] w fun e w' => e = .returned (.tuple #[.int .i64 (flN a b), .int .i64 (Rm.err (Rm.okF a b) 1)]) ∧ Gr w w' := by
  cases h : Rm.okF a b
  · have e1 : flN a b = 0 := by simp [flN, h]
    rw [e1, Rm.err_false rfl]
    have hE := Lib.hid (Rm.err_false (e := 1) h)
    go_enter Tryd.func54, Tryd.ntmps54
    go_wp2_with fail
    refine (rCheckFrac_any a b _).mono ?_
    rintro e w1 ⟨rfl, hg1⟩
    rw [hE.out]
    go_wp2
    go_ret2
    exact ⟨rfl, (by repeat (first | exact Gr.refl _ | assumption | refine Gr.alloc ?_ _ | refine Gr.drew ?_ | refine Gr.drewN ?_ _ | refine Gr.set ?_ _ _ (by first | (simp; done) | (simp; omega)) | refine Gr.trans ?_ (by assumption)))⟩
  · have e1 : flN a b = Rm.fl a b := by simp [flN, h]
    rw [e1, Rm.err_true rfl]
    have hE := Lib.hid (Rm.err_true (e := 1) h)
    obtain ⟨x1, x2, x3, x4, _⟩ := Rm.okF_iff.1 h
    clear e1 h
    go_enter Tryd.func54, Tryd.ntmps54
    go_wp2_with fail
    refine (rCheckFrac_any a b _).mono ?_
    rintro e w1 ⟨rfl, hg1⟩
    rw [hE.out]
    obtain ⟨hc1, hf1, hz1⟩ := hg1.at (n := w.heap.size + 1) (by first | (simp; done) | (simp; omega) | omega)
    go_wp2_with (go_at_call 105; refine (rfloor_any _ _ _ (by omega) (by omega) (by omega)).mono ?_; rintro e v1 ⟨rfl, hg2⟩)
    go_ret2
    exact ⟨rfl, (by repeat (first | exact Gr.refl _ | assumption | refine Gr.alloc ?_ _ | refine Gr.drew ?_ | refine Gr.drewN ?_ _ | refine Gr.set ?_ _ _ (by first | (simp; done) | (simp; omega)) | refine Gr.trans ?_ (by assumption)))⟩
set_option maxHeartbeats 400000 in
theorem rCeil_any (a b : Int) (w : World) :
    Calls Tryd.prog 56 #[fr a b] w fun e w' => e = .returned (.tuple #[.int .i64 (clN a b), .int .i64 (Rm.err (Rm.okF a b) 1)]) ∧ Gr w w' := by
  cases h : Rm.okF a b
  · have e1 : clN a b = 0 := by simp [clN, h]
    rw [e1, Rm.err_false rfl]
    have hE := Lib.hid (Rm.err_false (e := 1) h)
    go_enter Tryd.func56, Tryd.ntmps56
    go_wp2_with fail
    refine (rCheckFrac_any a b _).mono ?_
    rintro e w1 ⟨rfl, hg1⟩
    rw [hE.out]
    go_wp2
    go_ret2
    exact ⟨rfl, (by repeat (first | exact Gr.refl _ | assumption | refine Gr.alloc ?_ _ | refine Gr.drew ?_ | refine Gr.drewN ?_ _ | refine Gr.set ?_ _ _ (by first | (simp; done) | (simp; omega)) | refine Gr.trans ?_ (by assumption)))⟩
  · have e1 : clN a b = Rm.cl a b := by simp [clN, h]
    rw [e1, Rm.err_true rfl]
    have hE := Lib.hid (Rm.err_true (e := 1) h)
    obtain ⟨x1, x2, x3, x4, _⟩ := Rm.okF_iff.1 h
    clear e1 h
    go_enter Tryd.func56, Tryd.ntmps56
    go_wp2_with fail
    refine (rCheckFrac_any a b _).mono ?_
    rintro e w1 ⟨rfl, hg1⟩
    rw [hE.out]
    obtain ⟨hc1, hf1, hz1⟩ := hg1.at (n := w.heap.size + 1) (by first | (simp; done) | (simp; omega) | omega)
    go_wp2_with (go_at_call 104; refine (rceil_any _ _ _ (by omega) (by omega) (by omega)).mono ?_; rintro e v1 ⟨rfl, hg2⟩)
    go_ret2
    exact ⟨rfl, (by repeat (first | exact Gr.refl _ | assumption | refine Gr.alloc ?_ _ | refine Gr.drew ?_ | refine Gr.drewN ?_ _ | refine Gr.set ?_ _ _ (by first | (simp; done) | (simp; omega)) | refine Gr.trans ?_ (by assumption)))⟩
set_option maxHeartbeats 400000 in
theorem rCompare_any (a b c d : Int) (w : World) :
    Calls Tryd.prog 51 #[fr a b, fr c d] w fun e w' => e = .returned (.tuple #[.int .i64 (cmpN a b c d), .int .i64 (Rm.err (ok2 a b c d) 1)]) ∧ Gr w w' := by
  cases h : ok2 a b c d
  · have e1 : cmpN a b c d = 0 := by simp [cmpN, h]
    rw [e1, Rm.err_false rfl]
    have hE := Lib.hid (Rm.err_false (e := 1) h)
    go_enter Tryd.func51, Tryd.ntmps51
    go_wp2_with fail
    refine (both_any a b c d _).mono ?_
    rintro e w1 ⟨rfl, hg1⟩
    rw [hE.out]
    go_wp2
    go_ret2
    exact ⟨rfl, (by repeat (first | exact Gr.refl _ | assumption | refine Gr.alloc ?_ _ | refine Gr.drew ?_ | refine Gr.drewN ?_ _ | refine Gr.set ?_ _ _ (by first | (simp; done) | (simp; omega)) | refine Gr.trans ?_ (by assumption)))⟩
  · have e1 : cmpN a b c d = sgn (a*d - c*b) := by simp [cmpN, h]
    rw [e1, Rm.err_true rfl]
    have hE := Lib.hid (Rm.err_true (e := 1) h)
    obtain ⟨⟨x1, x2, x3, x4, _⟩, ⟨y1, y2, y3, y4, _⟩⟩ := ok2_parts h
    obtain ⟨u1, u2⟩ := Rm.nd_bound x1 x2 y3 y4
    obtain ⟨u3, u4⟩ := Rm.nd_bound y1 y2 x3 x4
    clear e1 h
    rcases (show a*d - c*b < 0 ∨ a*d - c*b = 0 ∨ 0 < a*d - c*b by omega) with hs | hs | hs
    all_goals
      have HS : Hid (sgn (a*d - c*b) = _) := Lib.hid (by unfold sgn; first | exact if_pos hs | exact (if_neg (by omega)).trans (if_pos (by omega)) | exact (if_neg (by omega)).trans (if_neg (by omega)))
      go_enter Tryd.func51, Tryd.ntmps51
      go_wp2_with fail
      refine (both_any a b c d _).mono ?_
      rintro e w1 ⟨rfl, hg1⟩
      rw [hE.out]
      obtain ⟨hc1, hf1, hz1⟩ := hg1.at (n := w.heap.size + 2) (by first | (simp; done) | (simp; omega) | omega)
      go_wp2_with (go_at_call 84; refine (More_any _ _ _ _ _ (by omega) (by omega) (by omega) (by omega)).mono ?_; rintro e v2 ⟨rfl, hg3⟩)
      go_ret2
      exact ⟨by rw [HS.out]; rfl, (by repeat (first | exact Gr.refl _ | assumption | refine Gr.alloc ?_ _ | refine Gr.drew ?_ | refine Gr.drewN ?_ _ | refine Gr.set ?_ _ _ (by first | (simp; done) | (simp; omega)) | refine Gr.trans ?_ (by assumption)))⟩
set_option maxHeartbeats 1000000 in
theorem rAdd_any (a b c d : Int) (w : World) :
    Calls Tryd.prog 32 #[fr a b, fr c d] w fun e w' => e = .returned (.tuple #[fr (arN 0 a b c d) (arD 0 a b c d), .int .i64 (arE 0 a b c d)]) ∧ Gr w w' := by
  cases h : ok2 a b c d
  · have e : arN 0 a b c d = 0 ∧ arD 0 a b c d = 0 ∧ arE 0 a b c d = 1 := by simp [arN, arD, arE, arOk, h]
    rw [e.1, e.2.1, e.2.2]
    have hE := Lib.hid (Rm.err_false (e := 1) h)
    clear e h
    go_enter Tryd.func32, Tryd.ntmps32
    go_wp2_with fail
    refine (both_any a b c d _).mono ?_
    rintro e w1 ⟨rfl, hg1⟩
    rw [hE.out]
    obtain ⟨hc1, hf1, hz1⟩ := hg1.at (n := w.heap.size + 3) (by first | (simp; done) | (simp; omega) | omega)
    go_wp2
    exact bodyPost_ret (v := .tuple #[fr 0 0, .int .i64 1]) (by simp [results, Tryd.results32, go_sem, hc1]) rfl ⟨rfl, (by repeat (first | exact Gr.refl _ | assumption | refine Gr.alloc ?_ _ | refine Gr.drew ?_ | refine Gr.drewN ?_ _ | refine Gr.set ?_ _ _ (by first | (simp; done) | (simp; omega)) | refine Gr.trans ?_ (by assumption)))⟩
  · have hA : arOk 0 a b c d = true := by simp [arOk, h]
    have EE : Hid (arN 0 a b c d = Rm.mN (a*d + c*b) (b*d) ∧ arD 0 a b c d = Rm.mD (a*d + c*b) (b*d) ∧ arE 0 a b c d = Rm.mE (a*d + c*b) (b*d)) := Lib.hid (by simp [arN, arD, arE, hA, h, Rm.opN, Rm.opD])
    have hE := Lib.hid (Rm.err_true (e := 1) h)
    obtain ⟨⟨x1, x2, x3, x4, _⟩, ⟨y1, y2, y3, y4, _⟩⟩ := ok2_parts h
    obtain ⟨t1, t2, t3, t4⟩ := @Rm.op_bound 0 a b c d (by omega) (fun h => by omega) x1 x2 x3 x4 y1 y2 y3 y4
    obtain ⟨u1, u2⟩ := Rm.nd_bound x1 x2 y3 y4
    obtain ⟨u3, u4⟩ := Rm.nd_bound y1 y2 x3 x4
    simp only [Rm.opN, Rm.opD] at t1 t2 t3 t4
    clear hA h
    go_enter Tryd.func32, Tryd.ntmps32
    go_wp2_with fail
    refine (both_any a b c d _).mono ?_
    rintro e w1 ⟨rfl, hg1⟩
    rw [hE.out]
    obtain ⟨hc1, hf1, hz1⟩ := hg1.at (n := w.heap.size + 3) (by first | (simp; done) | (simp; omega) | omega)
    go_wp2_with fail
    refine (made_any _ _ _ (by omega) (by omega) (by omega) (by omega)).mono ?_
    rintro e w2 ⟨rfl, hg2⟩
    obtain ⟨hc2, hf2, hz2⟩ := hg2.at (n := w.heap.size + 3) (by first | (simp; done) | (simp; omega) | omega)
    go_wp2
    exact bodyPost_ret (v := .tuple #[fr (Rm.mN (a*d + c*b) (b*d)) (Rm.mD (a*d + c*b) (b*d)), .int .i64 (Rm.mE (a*d + c*b) (b*d))]) (by simp [results, Tryd.results32, go_sem, hc1, hc2]) rfl ⟨by rw [EE.out.1, EE.out.2.1, EE.out.2.2], (by repeat (first | exact Gr.refl _ | assumption | refine Gr.alloc ?_ _ | refine Gr.drew ?_ | refine Gr.drewN ?_ _ | refine Gr.set ?_ _ _ (by first | (simp; done) | (simp; omega)) | refine Gr.trans ?_ (by assumption)))⟩
set_option maxHeartbeats 1000000 in
theorem rSub_any (a b c d : Int) (w : World) :
    Calls Tryd.prog 34 #[fr a b, fr c d] w fun e w' => e = .returned (.tuple #[fr (arN 1 a b c d) (arD 1 a b c d), .int .i64 (arE 1 a b c d)]) ∧ Gr w w' := by
  cases h : ok2 a b c d
  · have e : arN 1 a b c d = 0 ∧ arD 1 a b c d = 0 ∧ arE 1 a b c d = 1 := by simp [arN, arD, arE, arOk, h]
    rw [e.1, e.2.1, e.2.2]
    have hE := Lib.hid (Rm.err_false (e := 1) h)
    clear e h
    go_enter Tryd.func34, Tryd.ntmps34
    go_wp2_with fail
    refine (both_any a b c d _).mono ?_
    rintro e w1 ⟨rfl, hg1⟩
    rw [hE.out]
    obtain ⟨hc1, hf1, hz1⟩ := hg1.at (n := w.heap.size + 3) (by first | (simp; done) | (simp; omega) | omega)
    go_wp2
    exact bodyPost_ret (v := .tuple #[fr 0 0, .int .i64 1]) (by simp [results, Tryd.results34, go_sem, hc1]) rfl ⟨rfl, (by repeat (first | exact Gr.refl _ | assumption | refine Gr.alloc ?_ _ | refine Gr.drew ?_ | refine Gr.drewN ?_ _ | refine Gr.set ?_ _ _ (by first | (simp; done) | (simp; omega)) | refine Gr.trans ?_ (by assumption)))⟩
  · have hA : arOk 1 a b c d = true := by simp [arOk, h]
    have EE : Hid (arN 1 a b c d = Rm.mN (a*d - c*b) (b*d) ∧ arD 1 a b c d = Rm.mD (a*d - c*b) (b*d) ∧ arE 1 a b c d = Rm.mE (a*d - c*b) (b*d)) := Lib.hid (by simp [arN, arD, arE, hA, h, Rm.opN, Rm.opD])
    have hE := Lib.hid (Rm.err_true (e := 1) h)
    obtain ⟨⟨x1, x2, x3, x4, _⟩, ⟨y1, y2, y3, y4, _⟩⟩ := ok2_parts h
    obtain ⟨t1, t2, t3, t4⟩ := @Rm.op_bound 1 a b c d (by omega) (fun h => by omega) x1 x2 x3 x4 y1 y2 y3 y4
    obtain ⟨u1, u2⟩ := Rm.nd_bound x1 x2 y3 y4
    obtain ⟨u3, u4⟩ := Rm.nd_bound y1 y2 x3 x4
    simp only [Rm.opN, Rm.opD] at t1 t2 t3 t4
    clear hA h
    go_enter Tryd.func34, Tryd.ntmps34
    go_wp2_with fail
    refine (both_any a b c d _).mono ?_
    rintro e w1 ⟨rfl, hg1⟩
    rw [hE.out]
    obtain ⟨hc1, hf1, hz1⟩ := hg1.at (n := w.heap.size + 3) (by first | (simp; done) | (simp; omega) | omega)
    go_wp2_with fail
    refine (made_any _ _ _ (by omega) (by omega) (by omega) (by omega)).mono ?_
    rintro e w2 ⟨rfl, hg2⟩
    obtain ⟨hc2, hf2, hz2⟩ := hg2.at (n := w.heap.size + 3) (by first | (simp; done) | (simp; omega) | omega)
    go_wp2
    exact bodyPost_ret (v := .tuple #[fr (Rm.mN (a*d - c*b) (b*d)) (Rm.mD (a*d - c*b) (b*d)), .int .i64 (Rm.mE (a*d - c*b) (b*d))]) (by simp [results, Tryd.results34, go_sem, hc1, hc2]) rfl ⟨by rw [EE.out.1, EE.out.2.1, EE.out.2.2], (by repeat (first | exact Gr.refl _ | assumption | refine Gr.alloc ?_ _ | refine Gr.drew ?_ | refine Gr.drewN ?_ _ | refine Gr.set ?_ _ _ (by first | (simp; done) | (simp; omega)) | refine Gr.trans ?_ (by assumption)))⟩
set_option maxHeartbeats 1000000 in
theorem rMul_any (a b c d : Int) (w : World) :
    Calls Tryd.prog 36 #[fr a b, fr c d] w fun e w' => e = .returned (.tuple #[fr (arN 2 a b c d) (arD 2 a b c d), .int .i64 (arE 2 a b c d)]) ∧ Gr w w' := by
  cases h : ok2 a b c d
  · have e : arN 2 a b c d = 0 ∧ arD 2 a b c d = 0 ∧ arE 2 a b c d = 1 := by simp [arN, arD, arE, arOk, h]
    rw [e.1, e.2.1, e.2.2]
    have hE := Lib.hid (Rm.err_false (e := 1) h)
    clear e h
    go_enter Tryd.func36, Tryd.ntmps36
    go_wp2_with fail
    refine (both_any a b c d _).mono ?_
    rintro e w1 ⟨rfl, hg1⟩
    rw [hE.out]
    obtain ⟨hc1, hf1, hz1⟩ := hg1.at (n := w.heap.size + 3) (by first | (simp; done) | (simp; omega) | omega)
    go_wp2
    exact bodyPost_ret (v := .tuple #[fr 0 0, .int .i64 1]) (by simp [results, Tryd.results36, go_sem, hc1]) rfl ⟨rfl, (by repeat (first | exact Gr.refl _ | assumption | refine Gr.alloc ?_ _ | refine Gr.drew ?_ | refine Gr.drewN ?_ _ | refine Gr.set ?_ _ _ (by first | (simp; done) | (simp; omega)) | refine Gr.trans ?_ (by assumption)))⟩
  · have hA : arOk 2 a b c d = true := by simp [arOk, h]
    have EE : Hid (arN 2 a b c d = Rm.mN (a*c) (b*d) ∧ arD 2 a b c d = Rm.mD (a*c) (b*d) ∧ arE 2 a b c d = Rm.mE (a*c) (b*d)) := Lib.hid (by simp [arN, arD, arE, hA, h, Rm.opN, Rm.opD])
    have hE := Lib.hid (Rm.err_true (e := 1) h)
    obtain ⟨⟨x1, x2, x3, x4, _⟩, ⟨y1, y2, y3, y4, _⟩⟩ := ok2_parts h
    obtain ⟨t1, t2, t3, t4⟩ := @Rm.op_bound 2 a b c d (by omega) (fun h => by omega) x1 x2 x3 x4 y1 y2 y3 y4
    obtain ⟨u1, u2⟩ := Rm.nd_bound x1 x2 y3 y4
    obtain ⟨u3, u4⟩ := Rm.nd_bound y1 y2 x3 x4
    simp only [Rm.opN, Rm.opD] at t1 t2 t3 t4
    clear hA h
    go_enter Tryd.func36, Tryd.ntmps36
    go_wp2_with fail
    refine (both_any a b c d _).mono ?_
    rintro e w1 ⟨rfl, hg1⟩
    rw [hE.out]
    obtain ⟨hc1, hf1, hz1⟩ := hg1.at (n := w.heap.size + 3) (by first | (simp; done) | (simp; omega) | omega)
    go_wp2_with fail
    refine (made_any _ _ _ (by omega) (by omega) (by omega) (by omega)).mono ?_
    rintro e w2 ⟨rfl, hg2⟩
    obtain ⟨hc2, hf2, hz2⟩ := hg2.at (n := w.heap.size + 3) (by first | (simp; done) | (simp; omega) | omega)
    go_wp2
    exact bodyPost_ret (v := .tuple #[fr (Rm.mN (a*c) (b*d)) (Rm.mD (a*c) (b*d)), .int .i64 (Rm.mE (a*c) (b*d))]) (by simp [results, Tryd.results36, go_sem, hc1, hc2]) rfl ⟨by rw [EE.out.1, EE.out.2.1, EE.out.2.2], (by repeat (first | exact Gr.refl _ | assumption | refine Gr.alloc ?_ _ | refine Gr.drew ?_ | refine Gr.drewN ?_ _ | refine Gr.set ?_ _ _ (by first | (simp; done) | (simp; omega)) | refine Gr.trans ?_ (by assumption)))⟩
set_option maxHeartbeats 1000000 in
theorem rDiv_any (a b c d : Int) (w : World) :
    Calls Tryd.prog 38 #[fr a b, fr c d] w fun e w' => e = .returned (.tuple #[fr (arN 3 a b c d) (arD 3 a b c d), .int .i64 (arE 3 a b c d)]) ∧ Gr w w' := by
  cases h : ok2 a b c d
  · have e : arN 3 a b c d = 0 ∧ arD 3 a b c d = 0 ∧ arE 3 a b c d = 1 := by simp [arN, arD, arE, arOk, h]
    rw [e.1, e.2.1, e.2.2]
    have hE := Lib.hid (Rm.err_false (e := 1) h)
    clear e h
    go_enter Tryd.func38, Tryd.ntmps38
    go_wp2_with fail
    refine (both_any a b c d _).mono ?_
    rintro e w1 ⟨rfl, hg1⟩
    rw [hE.out]
    obtain ⟨hc1, hf1, hz1⟩ := hg1.at (n := w.heap.size + 3) (by first | (simp; done) | (simp; omega) | omega)
    go_wp2
    exact bodyPost_ret (v := .tuple #[fr 0 0, .int .i64 1]) (by simp [results, Tryd.results38, go_sem, hc1]) rfl ⟨rfl, (by repeat (first | exact Gr.refl _ | assumption | refine Gr.alloc ?_ _ | refine Gr.drew ?_ | refine Gr.drewN ?_ _ | refine Gr.set ?_ _ _ (by first | (simp; done) | (simp; omega)) | refine Gr.trans ?_ (by assumption)))⟩
  · by_cases hz : c = 0
    · subst hz
      have e : arN 3 a b 0 d = 0 ∧ arD 3 a b 0 d = 0 ∧ arE 3 a b 0 d = 11 := by simp [arN, arD, arE, arOk, h]
      rw [e.1, e.2.1, e.2.2]
      have hE := Lib.hid (Rm.err_true (e := 1) h)
      clear e h
      go_enter Tryd.func38, Tryd.ntmps38
      go_wp2_with fail
      refine (both_any a b 0 d _).mono ?_
      rintro e w1 ⟨rfl, hg1⟩
      rw [hE.out]
      obtain ⟨hc1, hf1, hz1⟩ := hg1.at (n := w.heap.size + 3) (by first | (simp; done) | (simp; omega) | omega)
      go_wp2
      exact bodyPost_ret (v := .tuple #[fr 0 0, .int .i64 11]) (by simp [results, Tryd.results38, go_sem, hc1]) rfl ⟨rfl, (by repeat (first | exact Gr.refl _ | assumption | refine Gr.alloc ?_ _ | refine Gr.drew ?_ | refine Gr.drewN ?_ _ | refine Gr.set ?_ _ _ (by first | (simp; done) | (simp; omega)) | refine Gr.trans ?_ (by assumption)))⟩
    have hA : arOk 3 a b c d = true := by simp [arOk, h, hz]
    have EE : Hid (arN 3 a b c d = Rm.mN (Rm.quoN a b c d) (Rm.quoD a b c d) ∧ arD 3 a b c d = Rm.mD (Rm.quoN a b c d) (Rm.quoD a b c d) ∧ arE 3 a b c d = Rm.mE (Rm.quoN a b c d) (Rm.quoD a b c d)) := Lib.hid (by simp [arN, arD, arE, hA, h, Rm.opN, Rm.opD, hz])
    have hE := Lib.hid (Rm.err_true (e := 1) h)
    obtain ⟨⟨x1, x2, x3, x4, _⟩, ⟨y1, y2, y3, y4, _⟩⟩ := ok2_parts h
    obtain ⟨t1, t2, t3, t4⟩ := @Rm.op_bound 3 a b c d (by omega) (fun _ => hz) x1 x2 x3 x4 y1 y2 y3 y4
    obtain ⟨u1, u2⟩ := Rm.nd_bound x1 x2 y3 y4
    obtain ⟨u3, u4⟩ := Rm.nd_bound y1 y2 x3 x4
    simp only [Rm.opN, Rm.opD] at t1 t2 t3 t4
    have hzb : (c == 0) = false := beq_eq_false_iff_ne.2 hz
    have e6 : b*c = c*b := Int.mul_comm _ _
    have u5 : -1000000000000000 ≤ b*c := by omega
    have u6 : b*c ≤ 1000000000000000 := by omega
    have e7 : -a*d = -(a*d) := Int.neg_mul _ _
    have e8 : b * -c = -(b*c) := Int.mul_neg _ _
    have u7 : -1000000000000000 ≤ -a*d := by omega
    have u8 : -a*d ≤ 1000000000000000 := by omega
    have u9 : -1000000000000000 ≤ b * -c := by omega
    have u10 : b * -c ≤ 1000000000000000 := by omega
    clear e6 e7 e8 hA h
    by_cases hc : c < 0
    · have q1 : Rm.quoN a b c d = -a*d ∧ Rm.quoD a b c d = b * -c := by simp [Rm.quoN, Rm.quoD, hc, Int.neg_mul, Int.mul_neg]
      obtain ⟨q1, q2⟩ := q1
      rw [q1] at t3 t4 EE
      rw [q2] at t1 t2 EE
      clear q1 q2 hz
      go_enter Tryd.func38, Tryd.ntmps38
      go_wp2_with fail
      refine (both_any a b c d _).mono ?_
      rintro e w1 ⟨rfl, hg1⟩
      rw [hE.out]
      obtain ⟨hc1, hf1, hz1⟩ := hg1.at (n := w.heap.size + 3) (by first | (simp; done) | (simp; omega) | omega)
      go_wp2_with fail
      refine (made_any _ _ _ (by omega) (by omega) (by omega) (by omega)).mono ?_
      rintro e w2 ⟨rfl, hg2⟩
      obtain ⟨hc2, hf2, hz2⟩ := hg2.at (n := w.heap.size + 3) (by first | (simp; done) | (simp; omega) | omega)
      go_wp2
      exact bodyPost_ret (v := .tuple #[fr (Rm.mN (-a*d) (b * -c)) (Rm.mD (-a*d) (b * -c)), .int .i64 (Rm.mE (-a*d) (b * -c))]) (by simp [results, Tryd.results38, go_sem, hc1, hc2]) rfl ⟨by rw [EE.out.1, EE.out.2.1, EE.out.2.2], (by repeat (first | exact Gr.refl _ | assumption | refine Gr.alloc ?_ _ | refine Gr.drew ?_ | refine Gr.drewN ?_ _ | refine Gr.set ?_ _ _ (by first | (simp; done) | (simp; omega)) | refine Gr.trans ?_ (by assumption)))⟩
    · have q1 : Rm.quoN a b c d = a*d ∧ Rm.quoD a b c d = b*c := by simp [Rm.quoN, Rm.quoD, hc]
      obtain ⟨q1, q2⟩ := q1
      rw [q1] at t3 t4 EE
      rw [q2] at t1 t2 EE
      clear q1 q2 hz
      go_enter Tryd.func38, Tryd.ntmps38
      go_wp2_with fail
      refine (both_any a b c d _).mono ?_
      rintro e w1 ⟨rfl, hg1⟩
      rw [hE.out]
      obtain ⟨hc1, hf1, hz1⟩ := hg1.at (n := w.heap.size + 3) (by first | (simp; done) | (simp; omega) | omega)
      go_wp2_with fail
      refine (made_any _ _ _ (by omega) (by omega) (by omega) (by omega)).mono ?_
      rintro e w2 ⟨rfl, hg2⟩
      obtain ⟨hc2, hf2, hz2⟩ := hg2.at (n := w.heap.size + 3) (by first | (simp; done) | (simp; omega) | omega)
      go_wp2
      exact bodyPost_ret (v := .tuple #[fr (Rm.mN (a*d) (b*c)) (Rm.mD (a*d) (b*c)), .int .i64 (Rm.mE (a*d) (b*c))]) (by simp [results, Tryd.results38, go_sem, hc1, hc2]) rfl ⟨by rw [EE.out.1, EE.out.2.1, EE.out.2.2], (by repeat (first | exact Gr.refl _ | assumption | refine Gr.alloc ?_ _ | refine Gr.drew ?_ | refine Gr.drewN ?_ _ | refine Gr.set ?_ _ _ (by first | (simp; done) | (simp; omega)) | refine Gr.trans ?_ (by assumption)))⟩
/-- the error of a range -/
def rgE (a b c d : Int) : Int := if ok2 a b c d then (if 0 < a*d - c*b then 12 else 0) else 1
set_option maxHeartbeats 400000 in
theorem rranged_any (a b c d : Int) (w : World) :
    Calls Tryd.prog 103 #[fr a b, fr c d] w fun e w' => e = .returned (.int .i64 (rgE a b c d)) ∧ Gr w w' := by
  cases h : ok2 a b c d
  · have e1 : rgE a b c d = 1 := by simp [rgE, h]
    rw [e1]
    have hE := Lib.hid (Rm.err_false (e := 1) h)
    go_enter Tryd.func103, Tryd.ntmps103
    go_wp2_with fail
    refine (both_any a b c d _).mono ?_
    rintro e w1 ⟨rfl, hg1⟩
    rw [hE.out]
    go_wp2
    go_ret
    exact ⟨rfl, (by repeat (first | exact Gr.refl _ | assumption | refine Gr.alloc ?_ _ | refine Gr.drew ?_ | refine Gr.drewN ?_ _ | refine Gr.set ?_ _ _ (by first | (simp; done) | (simp; omega)) | refine Gr.trans ?_ (by assumption)))⟩
  · have hE := Lib.hid (Rm.err_true (e := 1) h)
    obtain ⟨⟨x1, x2, x3, x4, _⟩, ⟨y1, y2, y3, y4, _⟩⟩ := ok2_parts h
    obtain ⟨u1, u2⟩ := Rm.nd_bound x1 x2 y3 y4
    obtain ⟨u3, u4⟩ := Rm.nd_bound y1 y2 x3 x4
    by_cases hs : 0 < a*d - c*b
    all_goals
      have HS : Hid (rgE a b c d = if 0 < a*d - c*b then 12 else 0) := Lib.hid (by unfold rgE; rw [if_pos h])
      have HT := Lib.hid hs
      go_enter Tryd.func103, Tryd.ntmps103
      go_wp2_with fail
      refine (both_any a b c d _).mono ?_
      rintro e w1 ⟨rfl, hg1⟩
      rw [hE.out]
      obtain ⟨hc1, hf1, hz1⟩ := hg1.at (n := w.heap.size + 2) (by first | (simp; done) | (simp; omega) | omega)
      go_wp2_with (go_at_call 84; refine (More_any _ _ _ _ _ (by omega) (by omega) (by omega) (by omega)).mono ?_; rintro e v2 ⟨rfl, hg3⟩)
      go_ret
      exact ⟨by rw [HS.out]; first | (rw [if_pos HT.out]; rfl) | (rw [if_neg (Int.not_lt.2 HT.out)]; rfl), (by repeat (first | exact Gr.refl _ | assumption | refine Gr.alloc ?_ _ | refine Gr.drew ?_ | refine Gr.drewN ?_ _ | refine Gr.set ?_ _ _ (by first | (simp; done) | (simp; omega)) | refine Gr.trans ?_ (by assumption)))⟩
end Go.Proofs.YtconhikflghkdaaDoor
