/- rule/shrink.go: miss, Best. -/
import Derived.Test.YtconhikflghkdaaGreatDoorSized
import Derived.Test.YtconhikflghkdaaGreatDoorPlan
import Derived.Test.YtconhikflghkdaaGreatDoorMath
namespace Go.Proofs.YtconhikflghkdaaGreatDoor
open Go.RowKit Go.Shelf
/-- all that is asked of a miss -/
structure MsB (a b c d n want : Int) : Prop where
  b1 : 1 ≤ b
  b2 : b ≤ 1000
  d1 : 1 ≤ d
  d2 : d ≤ 1000
  p1 : 1 ≤ want*d
  p2 : want*d ≤ 1000000000
  p3 : 1 ≤ want*b
  p4 : want*b ≤ 1000000000
  q1 : 1 ≤ n*(d-c)
  q2 : n*(d-c) ≤ 1000000000
  q3 : 1 ≤ n*(b-a)
  q4 : n*(b-a) ≤ 1000000000
  m1 : -1000000000000 ≤ Rm.msB c d n want * b
  m2 : Rm.msB c d n want * b ≤ 1000000000000
  m3 : -1000000000000 ≤ Rm.msA a b n want * d
  m4 : Rm.msA a b n want * d ≤ 1000000000000
theorem MsB.of {a b c d n want : Int} (h : RuB a b c d) (n1 : 1 ≤ n) (n2 : n ≤ 1000000) (l1 : 1 ≤ want) (l2 : want ≤ 1000000) : MsB a b c d n want := by
  have x1 := left_bd n1 n2 h.a0 h.b1 h.b2 h.ab
  have x2 := left_bd n1 n2 h.c0 h.d1 h.d2 h.cd
  have := h.b1
  have := h.d1
  have y1 := Rm.mul_bound (a := want) (b := d) (A := 1000000) (B := 1000) (by omega) (by omega) l2 (by omega) h.d2
  have y2 := Rm.mul_bound (a := want) (b := b) (A := 1000000) (B := 1000) (by omega) (by omega) l2 (by omega) h.b2
  have y3 := Int.mul_pos (show 0 < want by omega) (show 0 < d by omega)
  have y4 := Int.mul_pos (show 0 < want by omega) (show 0 < b by omega)
  have z1 := Rm.mul_bound (a := Rm.msB c d n want) (b := b) (A := 1000000000) (B := 1000) (by omega) (by unfold Rm.msB; omega) (by unfold Rm.msB; omega) (by omega) h.b2
  have z2 := Rm.mul_bound (a := Rm.msA a b n want) (b := d) (A := 1000000000) (B := 1000) (by omega) (by unfold Rm.msA; omega) (by unfold Rm.msA; omega) (by omega) h.d2
  exact ⟨h.b1, h.b2, h.d1, h.d2, by omega, by omega, by omega, by omega, by omega, by omega, by omega, by omega, by omega, by omega, by omega, by omega⟩
set_option maxRecDepth 100000 in
set_option maxHeartbeats 1000000 in
theorem miss_any (a b c d n want : Int) (w : World) (h : RuB a b c d) (n1 : 1 ≤ n) (n2 : n ≤ 1000000) (l1 : 1 ≤ want) (l2 : want ≤ 1000000) :
    Calls Tryz.prog 47 #[ru a b c d, .int .i64 n, .int .i64 want] w fun e w' => e = .returned (fr (Rm.msN a b c d n want) (Rm.msD a b c d n want)) ∧ Gr w w' := by
  have CA := Lib.hid (fun w => cast_ok w h n1 n2)
  obtain ⟨b1, b2, d1, d2, p1, p2, p3, p4, q1, q2, q3, q4, m1, m2, m3, m4⟩ := MsB.of h n1 n2 l1 l2
  have D1 := Lib.hid (fun w => by
    have := difference_any want 1 (n*(d-c)) d w (by omega) (by omega) (by omega) (by omega) (by omega) (by omega)
    rwa [Int.mul_one, Int.one_mul] at this)
  have D2 := Lib.hid (fun w => by
    have := difference_any (n*(b-a)) b want 1 w (by omega) (by omega) (by omega) (by omega) (by omega) (by omega)
    rwa [Int.mul_one, Int.mul_one] at this)
  have CR := Lib.hid (fun w => cross_any (Rm.msB c d n want) d (Rm.msA a b n want) b w (by omega) (by omega) (by omega) (by omega))
  have EN : Hid (Rm.msN a b c d n want = if 0 < Rm.msB c d n want * b - Rm.msA a b n want * d then Rm.msB c d n want else Rm.msA a b n want) := Lib.hid rfl
  have ED : Hid (Rm.msD a b c d n want = if 0 < Rm.msB c d n want * b - Rm.msA a b n want * d then d else b) := Lib.hid rfl
  unfold Rm.msB Rm.msA at CR EN ED
  clear h l1 l2 n1 n2 p1 p2 p3 p4 q1 q2 q3 q4 m1 m2 m3 m4
  generalize n*(d-c) = X at *
  generalize n*(b-a) = X' at *
  generalize want*d - X = B at *
  generalize X' - want*b = A at *
  generalize Rm.msN a b c d n want = N at *
  generalize Rm.msD a b c d n want = D at *
  go_enter Tryz.func47, Tryz.ntmps47
  go_wp2_with fail
  refine (CA.out _).mono ?_
  rintro e w1 ⟨rfl, hg1⟩
  obtain ⟨hc1, hf1, hz1⟩ := hg1.at (n := w.heap.size) (by first | (simp; done) | (simp; omega) | omega)
  clear hc1 hf1
  go_upto_region 2 with (fail)
  have hgv : Gr w1 ((w1.alloc (Obj.cells #[.int .i64 X, .int .i64 d] 65)).alloc (Obj.cells #[.int .i64 X', .int .i64 b] 65)) := (by repeat (first | exact Gr.refl _ | assumption | refine Gr.alloc ?_ _ | refine Gr.drew ?_ | refine Gr.drewN ?_ _ | refine Gr.set ?_ _ _ (by first | (simp; done) | (simp; omega)) | refine Gr.trans ?_ (by assumption)))
  have hS : Hid (∀ W, W = ((w1.alloc (Obj.cells #[.int .i64 X, .int .i64 d] 65)).alloc (Obj.cells #[.int .i64 X', .int .i64 b] 65)) → W.cell? ⟨w1.heap.size, 0, none⟩ = some (.int .i64 X) ∧ W.cell? ⟨w1.heap.size, 1, none⟩ = some (.int .i64 d) ∧ W.cell? ⟨w1.heap.size + 1, 0, none⟩ = some (.int .i64 X') ∧ W.cell? ⟨w1.heap.size + 1, 1, none⟩ = some (.int .i64 b) ∧ W.heap.size = w1.heap.size + 2) := Lib.hid (by rintro _ rfl; simp [go_sem])
  generalize hwv : ((w1.alloc (Obj.cells #[.int .i64 X, .int .i64 d] 65)).alloc (Obj.cells #[.int .i64 X', .int .i64 b] 65)) = wv at *
  obtain ⟨k0, k1, k2, k3, kz⟩ := hS.out _ rfl
  have kz1 : w1.heap.size < wv.heap.size := by omega
  have kz2 : w1.heap.size + 1 < wv.heap.size := by omega
  clear hS hwv kz
  refine wp_region_plan [.val (.int .i64 want), .val (fr want 1), .val (fr X d), .val (fr B d), .val (fr X' b), .val (.int .i64 want), .val (fr want 1), .val (fr A b), .new 65 #[.int .i64 0, .int .i64 0], .new 65 #[.int .i64 0, .int .i64 0], .put 8 #[.int .i64 B, .int .i64 d], .put 9 #[.int .i64 A, .int .i64 b]] (by kernel_rfl) (by kernel_rfl) (fun G => by first | (simp only [finAct, Act.put, Plan.value, List.setIfInBounds_toArray, List.set_cons_zero, List.set_cons_succ]; rfl) | (simp only [finAct, Act.put, Plan.value, List.setIfInBounds_toArray, List.set_cons_zero, List.set_cons_succ, Nat.zero_add, Nat.reduceAdd]; rfl)) ?_ ?_
  · refine ⟨?_, ?_, ?_, ?_, ?_, ?_, ?_, ?_, ?_, ?_, ?_, ?_, trivial⟩ <;> (first | exact trivial | (intro G; first | (refine ⟨by kernel_rfl, fun u hu => ?_⟩; obtain ⟨hc, hf, hz⟩ := hu.cells; go_simp; first | exact ⟨rfl, Gr.refl _⟩ | skip) | (refine ⟨by kernel_rfl, fun u T z hu hG hj hb => ?_⟩; cases hj; obtain ⟨hbc, hbf, hbz⟩ := blk_cells hb; first | (refine ⟨_, ?_, ((GrL.of_gr (Gr.refl _)).set _ _ (Or.inr (by simp))).set _ _ (Or.inr (by simp)), put_two hb⟩; go_simp; done) | (refine ⟨_, ?_, (GrL.of_gr (Gr.refl _)).set _ _ (Or.inr (by simp)), put_one hb⟩; go_simp; done)) | (refine ⟨by kernel_rfl, fun u => ?_⟩; go_simp; done) | (show _ = false; kernel_rfl)))
    · exact D1.out _
    · exact D2.out _
  · intro G u hg hb hd
    have b8 : u.heap[G 8]? = some (.cells #[.int .i64 B, .int .i64 d] 65 (0, 0)) := (hb 8 _ _ rfl).2
    have b9 : u.heap[G 9]? = some (.cells #[.int .i64 A, .int .i64 b] 65 (0, 0)) := (hb 9 _ _ rfl).2
    have n8 := (hb 8 _ _ rfl).1
    have n9 := (hb 9 _ _ rfl).1
    clear hb hd
    generalize G 8 = g8 at *
    generalize G 9 = g9 at *
    obtain ⟨c8, f8, z8⟩ := blk_cells b8
    obtain ⟨c9, f9, z9⟩ := blk_cells b9
    clear b8 b9
    go_wp2_with fail
    refine (CR.out _).mono ?_
    rintro e w2 ⟨rfl, hg2⟩
    obtain ⟨hcA, hfA, hzA⟩ := (hg1.trans (hgv.trans (hg.trans hg2))).at (n := w.heap.size + 2) (by first | (simp; done) | (simp; omega) | omega)
    obtain ⟨hc2, hf2, hz2⟩ := hg2.cells
    have r0 : w2.cell? ⟨w.heap.size + 1, 0, none⟩ = some (.int .i64 0) := by rw [hcA _ _ (by omega)]; simp [go_sem]
    have r1 : w2.cell? ⟨w.heap.size + 1, 1, none⟩ = some (.int .i64 0) := by rw [hcA _ _ (by omega)]; simp [go_sem]
    have rf0 : w2.frozen? ⟨w.heap.size + 1, 0, none⟩ = false := by rw [hfA _ _ (by omega)]; simp [go_sem]
    have rf1 : w2.frozen? ⟨w.heap.size + 1, 1, none⟩ = false := by rw [hfA _ _ (by omega)]; simp [go_sem]
    clear hcA hfA
    by_cases hp : 0 < B * b - A * d
    · have E : Hid (N = B ∧ D = d) := Lib.hid (by rw [EN.out, ED.out, if_pos hp, if_pos hp]; exact ⟨rfl, rfl⟩)
      go_wp2
      exact bodyPost_ret (v := fr B d) (by simp [results, Tryz.results47, go_sem, *]) rfl ⟨by rw [E.out.1, E.out.2], (by repeat (first | exact Gr.refl _ | assumption | refine Gr.alloc ?_ _ | refine Gr.drew ?_ | refine Gr.drewN ?_ _ | refine Gr.set ?_ _ _ (by first | (simp; done) | (simp; omega)) | refine Gr.trans ?_ (by assumption)))⟩
    · have E : Hid (N = A ∧ D = b) := Lib.hid (by rw [EN.out, ED.out, if_neg hp, if_neg hp]; exact ⟨rfl, rfl⟩)
      go_wp2
      exact bodyPost_ret (v := fr A b) (by simp [results, Tryz.results47, go_sem, *]) rfl ⟨by rw [E.out.1, E.out.2], (by repeat (first | exact Gr.refl _ | assumption | refine Gr.alloc ?_ _ | refine Gr.drew ?_ | refine Gr.drewN ?_ _ | refine Gr.set ?_ _ _ (by first | (simp; done) | (simp; omega)) | refine Gr.trans ?_ (by assumption)))⟩
/-- the first size of which a casting is at least as far above as below -/
def bsL (a b c d want : Int) : Nat := (min (Rm.bsT a b c d want) 1000001).toNat
theorem bsL_le {a b c d want : Int} {n : Nat} (h : RuB a b c d) (hw : 1 ≤ want) (hn : n ≤ 1000000) : decide (Rm.msB c d (n : Int) want * b - Rm.msA a b (n : Int) want * d ≤ 0) = decide (bsL a b c d want ≤ n) := by
  rw [decide_eq_decide, ← Rm.bsT_iff' h.b1 h.d1 (by have := h.ab; have := h.b1; omega) (by have := h.cd; have := h.d1; omega)]
  have := Rm.bsT_pos (a := a) (c := c) (want := want) h.b1 h.d1 (by have := h.ab; have := h.b1; omega) (by have := h.cd; have := h.d1; omega) hw
  unfold bsL
  omega
set_option maxRecDepth 100000 in
set_option maxHeartbeats 1000000 in
theorem Best1_any (p q : Nat) (a b c d n want : Int) (w : World) (hm : MB p a b c d w) (hq : w.cell? ⟨q, 0, none⟩ = some (.int .i64 want)) (h : RuB a b c d) (n1 : 1 ≤ n) (n2 : n ≤ 1000000) (l1 : 1 ≤ want) (l2 : want ≤ 1000000) :
    Calls Tryz.prog 45 #[.int .i64 n, .pointer (some ⟨p, 0, none⟩), .pointer (some ⟨q, 0, none⟩)] w fun e w' => e = .returned (.bool (decide (Rm.msB c d n want * b - Rm.msA a b n want * d ≤ 0))) ∧ Gr w w' := by
  have CA := Lib.hid (fun w => cast_ok w h n1 n2)
  obtain ⟨b1, b2, d1, d2, p1, p2, p3, p4, q1, q2, q3, q4, m1, m2, m3, m4⟩ := MsB.of h n1 n2 l1 l2
  have D1 := Lib.hid (fun w => by
    have := difference_any want 1 (n*(d-c)) d w (by omega) (by omega) (by omega) (by omega) (by omega) (by omega)
    rwa [Int.mul_one, Int.one_mul] at this)
  have D2 := Lib.hid (fun w => by
    have := difference_any (n*(b-a)) b want 1 w (by omega) (by omega) (by omega) (by omega) (by omega) (by omega)
    rwa [Int.mul_one, Int.mul_one] at this)
  have CR := Lib.hid (fun w => cross_any (Rm.msB c d n want) d (Rm.msA a b n want) b w (by omega) (by omega) (by omega) (by omega))
  obtain ⟨k0, k1, k2, k3⟩ := hm
  have lq := World.block_lt_of_cell? _ _ hq
  have lp := World.block_lt_of_cell? _ _ k0
  unfold Rm.msB Rm.msA at CR ⊢
  clear h l1 l2 n1 n2 p1 p2 p3 p4 q1 q2 q3 q4 m1 m2 m3 m4
  generalize n*(d-c) = X at *
  generalize n*(b-a) = X' at *
  generalize want*d - X = B at *
  generalize X' - want*b = A at *
  go_enter Tryz.func45, Tryz.ntmps45
  go_wp2_with fail
  refine (CA.out _).mono ?_
  rintro e w1 ⟨rfl, hg1⟩
  have q1 : w1.cell? ⟨q, 0, none⟩ = some (.int .i64 want) := (hg1.cells.1 _ _ lq).trans hq
  have lq1 : q < w1.heap.size := World.block_lt_of_cell? _ _ q1
  have lq2 : q < w1.heap.size + 1 := by omega
  go_upto_region 2 with (fail)
  have hgv : Gr w1 ((w1.alloc (Obj.cells #[.int .i64 X, .int .i64 d] 65)).alloc (Obj.cells #[.int .i64 X', .int .i64 b] 65)) := (by repeat (first | exact Gr.refl _ | assumption | refine Gr.alloc ?_ _ | refine Gr.drew ?_ | refine Gr.drewN ?_ _ | refine Gr.set ?_ _ _ (by first | (simp; done) | (simp; omega)) | refine Gr.trans ?_ (by assumption)))
  have hS : Hid (∀ W, W = ((w1.alloc (Obj.cells #[.int .i64 X, .int .i64 d] 65)).alloc (Obj.cells #[.int .i64 X', .int .i64 b] 65)) → W.cell? ⟨w1.heap.size, 0, none⟩ = some (.int .i64 X) ∧ W.cell? ⟨w1.heap.size, 1, none⟩ = some (.int .i64 d) ∧ W.cell? ⟨w1.heap.size + 1, 0, none⟩ = some (.int .i64 X') ∧ W.cell? ⟨w1.heap.size + 1, 1, none⟩ = some (.int .i64 b) ∧ W.heap.size = w1.heap.size + 2) := Lib.hid (by rintro _ rfl; simp [go_sem])
  generalize hwv : ((w1.alloc (Obj.cells #[.int .i64 X, .int .i64 d] 65)).alloc (Obj.cells #[.int .i64 X', .int .i64 b] 65)) = wv at *
  obtain ⟨k0, k1, k2, k3, kz⟩ := hS.out _ rfl
  have kz1 : w1.heap.size < wv.heap.size := by omega
  have kz2 : w1.heap.size + 1 < wv.heap.size := by omega
  have kq : wv.cell? ⟨q, 0, none⟩ = some (.int .i64 want) := (hgv.cells.1 _ _ lq1).trans q1
  have lqv : q < wv.heap.size := by omega
  clear hS hwv kz
  refine wp_region_plan [.val (.int .i64 want), .val (fr want 1), .val (fr X d), .val (fr B d), .val (fr X' b), .val (.int .i64 want), .val (fr want 1), .val (fr A b), .val (.int .i64 (B*b-A*d)), .val (.bool (decide (B*b-A*d ≤ 0))), .val (.bool (decide (B*b-A*d ≤ 0)))] (by kernel_rfl) (by kernel_rfl) (fun G => by first | (simp only [finAct, Act.put, Plan.value, List.setIfInBounds_toArray, List.set_cons_zero, List.set_cons_succ]; rfl) | (simp only [finAct, Act.put, Plan.value, List.setIfInBounds_toArray, List.set_cons_zero, List.set_cons_succ, Nat.zero_add, Nat.reduceAdd]; rfl)) ?_ ?_
  · refine ⟨?_, ?_, ?_, ?_, ?_, ?_, ?_, ?_, ?_, ?_, ?_, trivial⟩ <;> (first | exact trivial | (intro G; first | (refine ⟨by kernel_rfl, fun u hu => ?_⟩; obtain ⟨hc, hf, hz⟩ := hu.cells; go_simp; first | exact ⟨rfl, Gr.refl _⟩ | skip) | (refine ⟨by kernel_rfl, fun u T z hu hG hj hb => ?_⟩; cases hj; obtain ⟨hbc, hbf, hbz⟩ := blk_cells hb; first | (refine ⟨_, ?_, ((GrL.of_gr (Gr.refl _)).set _ _ (Or.inr (by simp))).set _ _ (Or.inr (by simp)), put_two hb⟩; go_simp; done) | (refine ⟨_, ?_, (GrL.of_gr (Gr.refl _)).set _ _ (Or.inr (by simp)), put_one hb⟩; go_simp; done)) | (refine ⟨by kernel_rfl, fun u => ?_⟩; go_simp; done) | (show _ = false; kernel_rfl)))
    · exact D1.out _
    · exact D2.out _
    · exact CR.out _
  · intro G u hg hb hd
    clear hb hd
    go_wp2
    go_ret
    exact ⟨rfl, (by repeat (first | exact Gr.refl _ | assumption | refine Gr.alloc ?_ _ | refine Gr.drew ?_ | refine Gr.drewN ?_ _ | refine Gr.set ?_ _ _ (by first | (simp; done) | (simp; omega)) | refine Gr.trans ?_ (by assumption)))⟩
end Go.Proofs.YtconhikflghkdaaGreatDoor
