/- stricklelaw01.RuleField. -/
import Derived.Test.YtconhikflghkdaaDoorAlive
import Derived.Test.YtconhikflghkdaaDoorMath
namespace Go.Proofs.YtconhikflghkdaaDoor
open Go.RowKit Go.Shelf
theorem arE_zero {k : Nat} {a b c d : Int} (hk : k ≠ 3) (h : arE k a b c d = 0) : ok2 a b c d = true ∧ Rm.okR (Rm.opN k a b c d) (Rm.opD k a b c d) = true ∧
    arN k a b c d = Rm.redN (Rm.opN k a b c d) (Rm.opD k a b c d) ∧ arD k a b c d = Rm.redD (Rm.opN k a b c d) (Rm.opD k a b c d) := by
  have h2 : ok2 a b c d = true := by
    cases h' : ok2 a b c d
    · simp [arE, h'] at h
    · rfl
  have hm : Rm.mE (Rm.opN k a b c d) (Rm.opD k a b c d) = 0 := by simpa [arE, h2, hk] using h
  have hr := Rm.mE_zero hm
  obtain ⟨e1, e2, _⟩ := Rm.made_yes hr
  have ho : arOk k a b c d = true := by simp [arOk, h2, hk]
  refine ⟨h2, hr, ?_, ?_⟩
  · simp only [arN, ho, if_true]; exact e1
  · simp only [arD, ho, if_true]; exact e2
theorem ar_comm0 (a b c d : Int) : arN 0 c d a b = arN 0 a b c d ∧ arD 0 c d a b = arD 0 a b c d ∧ arE 0 c d a b = arE 0 a b c d := by
  have e : ok2 c d a b = ok2 a b c d := by simp only [ok2, Bool.and_comm]
  have e1 : Rm.opN 0 c d a b = Rm.opN 0 a b c d := by simp only [Rm.opN]; exact Int.add_comm _ _
  have e2 : Rm.opD 0 c d a b = Rm.opD 0 a b c d := by simp only [Rm.opD]; exact Int.mul_comm _ _
  simp [arN, arD, arE, arOk, e, e1, e2]
theorem ar_comm2 (a b c d : Int) : arN 2 c d a b = arN 2 a b c d ∧ arD 2 c d a b = arD 2 a b c d ∧ arE 2 c d a b = arE 2 a b c d := by
  have e : ok2 c d a b = ok2 a b c d := by simp only [ok2, Bool.and_comm]
  have e1 : Rm.opN 2 c d a b = Rm.opN 2 a b c d := by simp only [Rm.opN]; exact Int.mul_comm _ _
  have e2 : Rm.opD 2 c d a b = Rm.opD 2 a b c d := by simp only [Rm.opD]; exact Int.mul_comm _ _
  simp [arN, arD, arE, arOk, e, e1, e2]
theorem ok2_red {n m c d : Int} (hm : 1 ≤ m) (hr : Rm.okR n m = true) (h2 : Rm.okF c d = true) : ok2 (Rm.redN n m) (Rm.redD n m) c d = true := by
  simp only [ok2, h2, Bool.and_true]
  rw [Rm.okF_red hm]
  exact hr
theorem field_sub {a b c d : Int} (h : arE 0 a b c d = 0) : arN 1 (arN 0 a b c d) (arD 0 a b c d) c d = a ∧ arD 1 (arN 0 a b c d) (arD 0 a b c d) c d = b ∧ arE 1 (arN 0 a b c d) (arD 0 a b c d) c d = 0 := by
  obtain ⟨h2, hr, e1, e2⟩ := arE_zero (by decide) h
  obtain ⟨⟨_, _, x3, _, x5⟩, ⟨_, _, y3, _, _⟩⟩ := ok2_parts h2
  have hF : Rm.okF a b = true ∧ Rm.okF c d = true := by simpa [ok2] using h2
  have hm : 1 ≤ Rm.opD 0 a b c d := by
    have : 0 < b * d := Int.mul_pos (by omega) (by omega)
    simp only [Rm.opD]; omega
  have hD := @Rm.redD_pos (Rm.opN 0 a b c d) _ hm
  have k2 := ok2_red hm hr hF.2
  have cr := @Rm.red_cross (Rm.opN 0 a b c d) (Rm.opD 0 a b c d)
  rw [e1, e2]
  generalize Rm.redN (Rm.opN 0 a b c d) (Rm.opD 0 a b c d) = N at *
  generalize Rm.redD (Rm.opN 0 a b c d) (Rm.opD 0 a b c d) = D at *
  have hm' : 1 ≤ Rm.opD 1 N D c d := by
    have : 0 < D * d := Int.mul_pos (by omega) (by omega)
    simp only [Rm.opD]; omega
  obtain ⟨r1, r2, r3⟩ := Rm.made_of (n := Rm.opN 1 N D c d) hm' x3 x5 (Rm.okF_small hF.1) (by simp only [Rm.opN, Rm.opD] at cr ⊢; exact Rm.sub_add cr)
  have ho : arOk 1 N D c d = true := by simp [arOk, k2]
  refine ⟨?_, ?_, ?_⟩
  · simp only [arN, ho, if_true]; exact r1
  · simp only [arD, ho, if_true]; exact r2
  · simpa [arE, k2] using r3
theorem field_div {a b c d : Int} (h : arE 2 a b c d = 0) (hc : c ≠ 0) : arN 3 (arN 2 a b c d) (arD 2 a b c d) c d = a ∧ arD 3 (arN 2 a b c d) (arD 2 a b c d) c d = b ∧ arE 3 (arN 2 a b c d) (arD 2 a b c d) c d = 0 := by
  obtain ⟨h2, hr, e1, e2⟩ := arE_zero (by decide) h
  obtain ⟨⟨_, _, x3, _, x5⟩, ⟨_, _, y3, _, _⟩⟩ := ok2_parts h2
  have hF : Rm.okF a b = true ∧ Rm.okF c d = true := by simpa [ok2] using h2
  have hm : 1 ≤ Rm.opD 2 a b c d := by
    have : 0 < b * d := Int.mul_pos (by omega) (by omega)
    simp only [Rm.opD]; omega
  have hD := @Rm.redD_pos (Rm.opN 2 a b c d) _ hm
  have k2 := ok2_red hm hr hF.2
  have cr := @Rm.red_cross (Rm.opN 2 a b c d) (Rm.opD 2 a b c d)
  rw [e1, e2]
  generalize Rm.redN (Rm.opN 2 a b c d) (Rm.opD 2 a b c d) = N at *
  generalize Rm.redD (Rm.opN 2 a b c d) (Rm.opD 2 a b c d) = D at *
  have hm' : 1 ≤ Rm.opD 3 N D c d := by simp only [Rm.opD]; exact Rm.quoD_pos hD hc
  obtain ⟨r1, r2, r3⟩ := Rm.made_of (n := Rm.opN 3 N D c d) hm' x3 x5 (Rm.okF_small hF.1) (by simp only [Rm.opN, Rm.opD] at cr ⊢; exact Rm.quo_mul cr)
  have ho : arOk 3 N D c d = true := by simp [arOk, k2, hc]
  refine ⟨?_, ?_, ?_⟩
  · simp only [arN, ho, if_true]; exact r1
  · simp only [arD, ho, if_true]; exact r2
  · simpa [arE, k2, hc] using r3
set_option maxRecDepth 100000 in
set_option maxHeartbeats 8000000 in
theorem RuleField_no_no (a b c d N0 D0 E0 N2 D2 E2 : Int) (w : World) (ht : Tab w)
    (A : Hid (Says 31 #[fr a b, fr c d] (.tuple #[fr N0 D0, .int .i64 E0]) ∧ Says 31 #[fr c d, fr a b] (.tuple #[fr N0 D0, .int .i64 E0])))
    (M : Hid (Says 35 #[fr a b, fr c d] (.tuple #[fr N2 D2, .int .i64 E2]) ∧ Says 35 #[fr c d, fr a b] (.tuple #[fr N2 D2, .int .i64 E2])))
    (hE0 : ¬ E0 = 0)
    (hE2 : ¬ E2 = 0)
    : Calls Tryd.prog 8 #[fr a b, fr c d] w fun e w' => e = .returned (.bool true) ∧ Gr w w' := by
  have HT := Lib.hid ht
  clear ht
  go_enter Tryd.func8, Tryd.ntmps8
  go_wp2_with fail
  have G := Gr.refl w
  have b2 := heap_alloc_self w (.cells #[.int .i64 a, .int .i64 b] 23)
  replace G := G.alloc (.cells #[.int .i64 a, .int .i64 b] 23)
  replace b2 := ((Gr.refl _).alloc (.cells #[.int .i64 c, .int .i64 d] 23)).heap b2
  have b3 := heap_alloc_self (w.alloc (.cells #[.int .i64 a, .int .i64 b] 23)) (.cells #[.int .i64 c, .int .i64 d] 23)
  replace G := G.alloc (.cells #[.int .i64 c, .int .i64 d] 23)
  generalize hW : ((w.alloc (.cells #[.int .i64 a, .int .i64 b] 23)).alloc (.cells #[.int .i64 c, .int .i64 d] 23)) = W1 at *
  simp only [World.size_alloc] at b3
  have w0 : w.heap.size ≤ w.heap.size := Nat.le_refl _
  obtain ⟨p3, hp3⟩ : ∃ p3, w.heap.size + 1 = p3 := ⟨_, rfl⟩
  obtain ⟨p2, hp2⟩ : ∃ p2, w.heap.size = p2 := ⟨_, rfl⟩
  rw [hp3] at b3
  rw [hp2] at b2
  try simp only [hp3]
  try simp only [hp2]
  have s2 : w.heap.size ≤ p2 := by omega
  have n2_3 : ¬ p2 = p3 := by omega
  have n3_2 : ¬ p3 = p2 := by omega
  have s3 : w.heap.size ≤ p3 := by omega
  clear  w0
  clear hp2
  clear hp3
  clear hW
  refine (A.out.1 _).mono ?_
  rintro e w1 ⟨rfl, g1⟩
  obtain ⟨c2, f2, z2⟩ := blk_cells (g1.heap b2)
  obtain ⟨c3, f3, z3⟩ := blk_cells (g1.heap b3)
  have z0 : w.heap.size ≤ w1.heap.size := (Gr.trans G g1).b.size
  go_wp2_with fail
  clear c2 f2 c3 f3
  replace b2 := g1.heap b2
  replace b3 := g1.heap b3
  have G := G.trans g1
  replace b2 := ((Gr.refl _).alloc (.cells #[.int .i64 N0, .int .i64 D0] 23)).heap b2
  replace b3 := ((Gr.refl _).alloc (.cells #[.int .i64 N0, .int .i64 D0] 23)).heap b3
  have b5 := heap_alloc_self w1 (.cells #[.int .i64 N0, .int .i64 D0] 23)
  replace G := G.alloc (.cells #[.int .i64 N0, .int .i64 D0] 23)
  generalize hW : (w1.alloc (.cells #[.int .i64 N0, .int .i64 D0] 23)) = W2 at *
  have o2 : p2 < w1.heap.size := z2
  have o3 : p3 < w1.heap.size := z3
  have w0 : w.heap.size ≤ w1.heap.size := z0
  obtain ⟨p5, hp5⟩ : ∃ p5, w1.heap.size = p5 := ⟨_, rfl⟩
  rw [hp5] at b5
  try simp only [hp5]
  have n2_5 : ¬ p2 = p5 := by omega
  have n5_2 : ¬ p5 = p2 := by omega
  have n3_5 : ¬ p3 = p5 := by omega
  have n5_3 : ¬ p5 = p3 := by omega
  have s5 : w.heap.size ≤ p5 := by omega
  clear o2 o3 w0
  clear hp5
  clear hW
  clear z2 z3 z0
  clear g1
  refine (A.out.2 _).mono ?_
  rintro e w2 ⟨rfl, g2⟩
  obtain ⟨c2, f2, z2⟩ := blk_cells (g2.heap b2)
  obtain ⟨c3, f3, z3⟩ := blk_cells (g2.heap b3)
  obtain ⟨c5, f5, z5⟩ := blk_cells (g2.heap b5)
  have z0 : w.heap.size ≤ w2.heap.size := (Gr.trans G g2).b.size
  go_wp2_with fail
  clear c2 f2 c3 f3 c5 f5
  replace b2 := g2.heap b2
  replace b3 := g2.heap b3
  replace b5 := g2.heap b5
  have G := G.trans g2
  replace b2 := ((Gr.refl _).alloc (.cells #[.int .i64 N0, .int .i64 D0] 23)).heap b2
  replace b3 := ((Gr.refl _).alloc (.cells #[.int .i64 N0, .int .i64 D0] 23)).heap b3
  replace b5 := ((Gr.refl _).alloc (.cells #[.int .i64 N0, .int .i64 D0] 23)).heap b5
  have b7 := heap_alloc_self w2 (.cells #[.int .i64 N0, .int .i64 D0] 23)
  replace G := G.alloc (.cells #[.int .i64 N0, .int .i64 D0] 23)
  generalize hW : (w2.alloc (.cells #[.int .i64 N0, .int .i64 D0] 23)) = W3 at *
  have o2 : p2 < w2.heap.size := z2
  have o3 : p3 < w2.heap.size := z3
  have o5 : p5 < w2.heap.size := z5
  have w0 : w.heap.size ≤ w2.heap.size := z0
  obtain ⟨p7, hp7⟩ : ∃ p7, w2.heap.size = p7 := ⟨_, rfl⟩
  rw [hp7] at b7
  try simp only [hp7]
  have n2_7 : ¬ p2 = p7 := by omega
  have n7_2 : ¬ p7 = p2 := by omega
  have n3_7 : ¬ p3 = p7 := by omega
  have n7_3 : ¬ p7 = p3 := by omega
  have n5_7 : ¬ p5 = p7 := by omega
  have n7_5 : ¬ p7 = p5 := by omega
  have s7 : w.heap.size ≤ p7 := by omega
  clear o2 o3 o5 w0
  clear hp7
  clear hW
  clear z2 z3 z5 z0
  clear g2
  refine (M.out.1 _).mono ?_
  rintro e w3 ⟨rfl, g3⟩
  obtain ⟨c2, f2, z2⟩ := blk_cells (g3.heap b2)
  obtain ⟨c3, f3, z3⟩ := blk_cells (g3.heap b3)
  obtain ⟨c5, f5, z5⟩ := blk_cells (g3.heap b5)
  obtain ⟨c7, f7, z7⟩ := blk_cells (g3.heap b7)
  have z0 : w.heap.size ≤ w3.heap.size := (Gr.trans G g3).b.size
  go_wp2_with fail
  clear c2 f2 c3 f3 c5 f5 c7 f7
  replace b2 := g3.heap b2
  replace b3 := g3.heap b3
  replace b5 := g3.heap b5
  replace b7 := g3.heap b7
  have G := G.trans g3
  replace b2 := ((Gr.refl _).alloc (.cells #[.int .i64 N2, .int .i64 D2] 23)).heap b2
  replace b3 := ((Gr.refl _).alloc (.cells #[.int .i64 N2, .int .i64 D2] 23)).heap b3
  replace b5 := ((Gr.refl _).alloc (.cells #[.int .i64 N2, .int .i64 D2] 23)).heap b5
  replace b7 := ((Gr.refl _).alloc (.cells #[.int .i64 N2, .int .i64 D2] 23)).heap b7
  have b9 := heap_alloc_self w3 (.cells #[.int .i64 N2, .int .i64 D2] 23)
  replace G := G.alloc (.cells #[.int .i64 N2, .int .i64 D2] 23)
  generalize hW : (w3.alloc (.cells #[.int .i64 N2, .int .i64 D2] 23)) = W4 at *
  have o2 : p2 < w3.heap.size := z2
  have o3 : p3 < w3.heap.size := z3
  have o5 : p5 < w3.heap.size := z5
  have o7 : p7 < w3.heap.size := z7
  have w0 : w.heap.size ≤ w3.heap.size := z0
  obtain ⟨p9, hp9⟩ : ∃ p9, w3.heap.size = p9 := ⟨_, rfl⟩
  rw [hp9] at b9
  try simp only [hp9]
  have n2_9 : ¬ p2 = p9 := by omega
  have n9_2 : ¬ p9 = p2 := by omega
  have n3_9 : ¬ p3 = p9 := by omega
  have n9_3 : ¬ p9 = p3 := by omega
  have n5_9 : ¬ p5 = p9 := by omega
  have n9_5 : ¬ p9 = p5 := by omega
  have n7_9 : ¬ p7 = p9 := by omega
  have n9_7 : ¬ p9 = p7 := by omega
  have s9 : w.heap.size ≤ p9 := by omega
  clear o2 o3 o5 o7 w0
  clear hp9
  clear hW
  clear z2 z3 z5 z7 z0
  clear g3
  refine (M.out.2 _).mono ?_
  rintro e w4 ⟨rfl, g4⟩
  obtain ⟨c2, f2, z2⟩ := blk_cells (g4.heap b2)
  obtain ⟨c3, f3, z3⟩ := blk_cells (g4.heap b3)
  obtain ⟨c5, f5, z5⟩ := blk_cells (g4.heap b5)
  obtain ⟨c7, f7, z7⟩ := blk_cells (g4.heap b7)
  obtain ⟨c9, f9, z9⟩ := blk_cells (g4.heap b9)
  have z0 : w.heap.size ≤ w4.heap.size := (Gr.trans G g4).b.size
  go_wp2_with fail
  clear c2 f2 c3 f3 c5 f5 c7 f7 c9 f9
  replace b2 := g4.heap b2
  replace b3 := g4.heap b3
  replace b5 := g4.heap b5
  replace b7 := g4.heap b7
  replace b9 := g4.heap b9
  have G := G.trans g4
  replace b2 := ((Gr.refl _).alloc (.cells #[.int .i64 N2, .int .i64 D2] 23)).heap b2
  replace b3 := ((Gr.refl _).alloc (.cells #[.int .i64 N2, .int .i64 D2] 23)).heap b3
  replace b5 := ((Gr.refl _).alloc (.cells #[.int .i64 N2, .int .i64 D2] 23)).heap b5
  replace b7 := ((Gr.refl _).alloc (.cells #[.int .i64 N2, .int .i64 D2] 23)).heap b7
  replace b9 := ((Gr.refl _).alloc (.cells #[.int .i64 N2, .int .i64 D2] 23)).heap b9
  have b11 := heap_alloc_self w4 (.cells #[.int .i64 N2, .int .i64 D2] 23)
  replace G := G.alloc (.cells #[.int .i64 N2, .int .i64 D2] 23)
  generalize hW : (w4.alloc (.cells #[.int .i64 N2, .int .i64 D2] 23)) = W5 at *
  have o2 : p2 < w4.heap.size := z2
  have o3 : p3 < w4.heap.size := z3
  have o5 : p5 < w4.heap.size := z5
  have o7 : p7 < w4.heap.size := z7
  have o9 : p9 < w4.heap.size := z9
  have w0 : w.heap.size ≤ w4.heap.size := z0
  obtain ⟨p11, hp11⟩ : ∃ p11, w4.heap.size = p11 := ⟨_, rfl⟩
  rw [hp11] at b11
  try simp only [hp11]
  have n2_11 : ¬ p2 = p11 := by omega
  have n11_2 : ¬ p11 = p2 := by omega
  have n3_11 : ¬ p3 = p11 := by omega
  have n11_3 : ¬ p11 = p3 := by omega
  have n5_11 : ¬ p5 = p11 := by omega
  have n11_5 : ¬ p11 = p5 := by omega
  have n7_11 : ¬ p7 = p11 := by omega
  have n11_7 : ¬ p11 = p7 := by omega
  have n9_11 : ¬ p9 = p11 := by omega
  have n11_9 : ¬ p11 = p9 := by omega
  have s11 : w.heap.size ≤ p11 := by omega
  clear o2 o3 o5 o7 o9 w0
  clear hp11
  clear hW
  clear z2 z3 z5 z7 z9 z0
  clear g4
  refine (alive_any _ (HT.out.gr G)).mono ?_
  rintro e wz ⟨rfl, gz⟩
  go_wp2
  go_ret
  exact ⟨rfl, G.trans gz⟩
set_option maxRecDepth 100000 in
set_option maxHeartbeats 8000000 in
theorem RuleField_no_zero (a b c d N0 D0 E0 N2 D2 E2 : Int) (w : World) (ht : Tab w)
    (A : Hid (Says 31 #[fr a b, fr c d] (.tuple #[fr N0 D0, .int .i64 E0]) ∧ Says 31 #[fr c d, fr a b] (.tuple #[fr N0 D0, .int .i64 E0])))
    (M : Hid (Says 35 #[fr a b, fr c d] (.tuple #[fr N2 D2, .int .i64 E2]) ∧ Says 35 #[fr c d, fr a b] (.tuple #[fr N2 D2, .int .i64 E2])))
    (hE0 : ¬ E0 = 0)
    (hE2 : E2 = 0) (hc : c = 0)
    : Calls Tryd.prog 8 #[fr a b, fr c d] w fun e w' => e = .returned (.bool true) ∧ Gr w w' := by
  have HT := Lib.hid ht
  clear ht
  subst hE2
  subst hc
  go_enter Tryd.func8, Tryd.ntmps8
  go_wp2_with fail
  have G := Gr.refl w
  have b2 := heap_alloc_self w (.cells #[.int .i64 a, .int .i64 b] 23)
  replace G := G.alloc (.cells #[.int .i64 a, .int .i64 b] 23)
  replace b2 := ((Gr.refl _).alloc (.cells #[.int .i64 0, .int .i64 d] 23)).heap b2
  have b3 := heap_alloc_self (w.alloc (.cells #[.int .i64 a, .int .i64 b] 23)) (.cells #[.int .i64 0, .int .i64 d] 23)
  replace G := G.alloc (.cells #[.int .i64 0, .int .i64 d] 23)
  generalize hW : ((w.alloc (.cells #[.int .i64 a, .int .i64 b] 23)).alloc (.cells #[.int .i64 0, .int .i64 d] 23)) = W1 at *
  simp only [World.size_alloc] at b3
  have w0 : w.heap.size ≤ w.heap.size := Nat.le_refl _
  obtain ⟨p3, hp3⟩ : ∃ p3, w.heap.size + 1 = p3 := ⟨_, rfl⟩
  obtain ⟨p2, hp2⟩ : ∃ p2, w.heap.size = p2 := ⟨_, rfl⟩
  rw [hp3] at b3
  rw [hp2] at b2
  try simp only [hp3]
  try simp only [hp2]
  have s2 : w.heap.size ≤ p2 := by omega
  have n2_3 : ¬ p2 = p3 := by omega
  have n3_2 : ¬ p3 = p2 := by omega
  have s3 : w.heap.size ≤ p3 := by omega
  clear  w0
  clear hp2
  clear hp3
  clear hW
  refine (A.out.1 _).mono ?_
  rintro e w1 ⟨rfl, g1⟩
  obtain ⟨c2, f2, z2⟩ := blk_cells (g1.heap b2)
  obtain ⟨c3, f3, z3⟩ := blk_cells (g1.heap b3)
  have z0 : w.heap.size ≤ w1.heap.size := (Gr.trans G g1).b.size
  go_wp2_with fail
  clear c2 f2 c3 f3
  replace b2 := g1.heap b2
  replace b3 := g1.heap b3
  have G := G.trans g1
  replace b2 := ((Gr.refl _).alloc (.cells #[.int .i64 N0, .int .i64 D0] 23)).heap b2
  replace b3 := ((Gr.refl _).alloc (.cells #[.int .i64 N0, .int .i64 D0] 23)).heap b3
  have b5 := heap_alloc_self w1 (.cells #[.int .i64 N0, .int .i64 D0] 23)
  replace G := G.alloc (.cells #[.int .i64 N0, .int .i64 D0] 23)
  generalize hW : (w1.alloc (.cells #[.int .i64 N0, .int .i64 D0] 23)) = W2 at *
  have o2 : p2 < w1.heap.size := z2
  have o3 : p3 < w1.heap.size := z3
  have w0 : w.heap.size ≤ w1.heap.size := z0
  obtain ⟨p5, hp5⟩ : ∃ p5, w1.heap.size = p5 := ⟨_, rfl⟩
  rw [hp5] at b5
  try simp only [hp5]
  have n2_5 : ¬ p2 = p5 := by omega
  have n5_2 : ¬ p5 = p2 := by omega
  have n3_5 : ¬ p3 = p5 := by omega
  have n5_3 : ¬ p5 = p3 := by omega
  have s5 : w.heap.size ≤ p5 := by omega
  clear o2 o3 w0
  clear hp5
  clear hW
  clear z2 z3 z0
  clear g1
  refine (A.out.2 _).mono ?_
  rintro e w2 ⟨rfl, g2⟩
  obtain ⟨c2, f2, z2⟩ := blk_cells (g2.heap b2)
  obtain ⟨c3, f3, z3⟩ := blk_cells (g2.heap b3)
  obtain ⟨c5, f5, z5⟩ := blk_cells (g2.heap b5)
  have z0 : w.heap.size ≤ w2.heap.size := (Gr.trans G g2).b.size
  go_wp2_with fail
  clear c2 f2 c3 f3 c5 f5
  replace b2 := g2.heap b2
  replace b3 := g2.heap b3
  replace b5 := g2.heap b5
  have G := G.trans g2
  replace b2 := ((Gr.refl _).alloc (.cells #[.int .i64 N0, .int .i64 D0] 23)).heap b2
  replace b3 := ((Gr.refl _).alloc (.cells #[.int .i64 N0, .int .i64 D0] 23)).heap b3
  replace b5 := ((Gr.refl _).alloc (.cells #[.int .i64 N0, .int .i64 D0] 23)).heap b5
  have b7 := heap_alloc_self w2 (.cells #[.int .i64 N0, .int .i64 D0] 23)
  replace G := G.alloc (.cells #[.int .i64 N0, .int .i64 D0] 23)
  generalize hW : (w2.alloc (.cells #[.int .i64 N0, .int .i64 D0] 23)) = W3 at *
  have o2 : p2 < w2.heap.size := z2
  have o3 : p3 < w2.heap.size := z3
  have o5 : p5 < w2.heap.size := z5
  have w0 : w.heap.size ≤ w2.heap.size := z0
  obtain ⟨p7, hp7⟩ : ∃ p7, w2.heap.size = p7 := ⟨_, rfl⟩
  rw [hp7] at b7
  try simp only [hp7]
  have n2_7 : ¬ p2 = p7 := by omega
  have n7_2 : ¬ p7 = p2 := by omega
  have n3_7 : ¬ p3 = p7 := by omega
  have n7_3 : ¬ p7 = p3 := by omega
  have n5_7 : ¬ p5 = p7 := by omega
  have n7_5 : ¬ p7 = p5 := by omega
  have s7 : w.heap.size ≤ p7 := by omega
  clear o2 o3 o5 w0
  clear hp7
  clear hW
  clear z2 z3 z5 z0
  clear g2
  refine (M.out.1 _).mono ?_
  rintro e w3 ⟨rfl, g3⟩
  obtain ⟨c2, f2, z2⟩ := blk_cells (g3.heap b2)
  obtain ⟨c3, f3, z3⟩ := blk_cells (g3.heap b3)
  obtain ⟨c5, f5, z5⟩ := blk_cells (g3.heap b5)
  obtain ⟨c7, f7, z7⟩ := blk_cells (g3.heap b7)
  have z0 : w.heap.size ≤ w3.heap.size := (Gr.trans G g3).b.size
  go_wp2_with fail
  clear c2 f2 c3 f3 c5 f5 c7 f7
  replace b2 := g3.heap b2
  replace b3 := g3.heap b3
  replace b5 := g3.heap b5
  replace b7 := g3.heap b7
  have G := G.trans g3
  replace b2 := ((Gr.refl _).alloc (.cells #[.int .i64 N2, .int .i64 D2] 23)).heap b2
  replace b3 := ((Gr.refl _).alloc (.cells #[.int .i64 N2, .int .i64 D2] 23)).heap b3
  replace b5 := ((Gr.refl _).alloc (.cells #[.int .i64 N2, .int .i64 D2] 23)).heap b5
  replace b7 := ((Gr.refl _).alloc (.cells #[.int .i64 N2, .int .i64 D2] 23)).heap b7
  have b9 := heap_alloc_self w3 (.cells #[.int .i64 N2, .int .i64 D2] 23)
  replace G := G.alloc (.cells #[.int .i64 N2, .int .i64 D2] 23)
  generalize hW : (w3.alloc (.cells #[.int .i64 N2, .int .i64 D2] 23)) = W4 at *
  have o2 : p2 < w3.heap.size := z2
  have o3 : p3 < w3.heap.size := z3
  have o5 : p5 < w3.heap.size := z5
  have o7 : p7 < w3.heap.size := z7
  have w0 : w.heap.size ≤ w3.heap.size := z0
  obtain ⟨p9, hp9⟩ : ∃ p9, w3.heap.size = p9 := ⟨_, rfl⟩
  rw [hp9] at b9
  try simp only [hp9]
  have n2_9 : ¬ p2 = p9 := by omega
  have n9_2 : ¬ p9 = p2 := by omega
  have n3_9 : ¬ p3 = p9 := by omega
  have n9_3 : ¬ p9 = p3 := by omega
  have n5_9 : ¬ p5 = p9 := by omega
  have n9_5 : ¬ p9 = p5 := by omega
  have n7_9 : ¬ p7 = p9 := by omega
  have n9_7 : ¬ p9 = p7 := by omega
  have s9 : w.heap.size ≤ p9 := by omega
  clear o2 o3 o5 o7 w0
  clear hp9
  clear hW
  clear z2 z3 z5 z7 z0
  clear g3
  refine (M.out.2 _).mono ?_
  rintro e w4 ⟨rfl, g4⟩
  obtain ⟨c2, f2, z2⟩ := blk_cells (g4.heap b2)
  obtain ⟨c3, f3, z3⟩ := blk_cells (g4.heap b3)
  obtain ⟨c5, f5, z5⟩ := blk_cells (g4.heap b5)
  obtain ⟨c7, f7, z7⟩ := blk_cells (g4.heap b7)
  obtain ⟨c9, f9, z9⟩ := blk_cells (g4.heap b9)
  have z0 : w.heap.size ≤ w4.heap.size := (Gr.trans G g4).b.size
  go_wp2_with fail
  clear c2 f2 c3 f3 c5 f5 c7 f7 c9 f9
  replace b2 := g4.heap b2
  replace b3 := g4.heap b3
  replace b5 := g4.heap b5
  replace b7 := g4.heap b7
  replace b9 := g4.heap b9
  have G := G.trans g4
  replace b2 := ((Gr.refl _).alloc (.cells #[.int .i64 N2, .int .i64 D2] 23)).heap b2
  replace b3 := ((Gr.refl _).alloc (.cells #[.int .i64 N2, .int .i64 D2] 23)).heap b3
  replace b5 := ((Gr.refl _).alloc (.cells #[.int .i64 N2, .int .i64 D2] 23)).heap b5
  replace b7 := ((Gr.refl _).alloc (.cells #[.int .i64 N2, .int .i64 D2] 23)).heap b7
  replace b9 := ((Gr.refl _).alloc (.cells #[.int .i64 N2, .int .i64 D2] 23)).heap b9
  have b11 := heap_alloc_self w4 (.cells #[.int .i64 N2, .int .i64 D2] 23)
  replace G := G.alloc (.cells #[.int .i64 N2, .int .i64 D2] 23)
  generalize hW : (w4.alloc (.cells #[.int .i64 N2, .int .i64 D2] 23)) = W5 at *
  have o2 : p2 < w4.heap.size := z2
  have o3 : p3 < w4.heap.size := z3
  have o5 : p5 < w4.heap.size := z5
  have o7 : p7 < w4.heap.size := z7
  have o9 : p9 < w4.heap.size := z9
  have w0 : w.heap.size ≤ w4.heap.size := z0
  obtain ⟨p11, hp11⟩ : ∃ p11, w4.heap.size = p11 := ⟨_, rfl⟩
  rw [hp11] at b11
  try simp only [hp11]
  have n2_11 : ¬ p2 = p11 := by omega
  have n11_2 : ¬ p11 = p2 := by omega
  have n3_11 : ¬ p3 = p11 := by omega
  have n11_3 : ¬ p11 = p3 := by omega
  have n5_11 : ¬ p5 = p11 := by omega
  have n11_5 : ¬ p11 = p5 := by omega
  have n7_11 : ¬ p7 = p11 := by omega
  have n11_7 : ¬ p11 = p7 := by omega
  have n9_11 : ¬ p9 = p11 := by omega
  have n11_9 : ¬ p11 = p9 := by omega
  have s11 : w.heap.size ≤ p11 := by omega
  clear o2 o3 o5 o7 o9 w0
  clear hp11
  clear hW
  clear z2 z3 z5 z7 z9 z0
  clear g4
  refine (alive_any _ (HT.out.gr G)).mono ?_
  rintro e wz ⟨rfl, gz⟩
  go_wp2
  go_ret
  exact ⟨rfl, G.trans gz⟩
set_option maxRecDepth 100000 in
set_option maxHeartbeats 8000000 in
theorem RuleField_no_yes (a b c d N0 D0 E0 N2 D2 E2 : Int) (w : World) (ht : Tab w)
    (A : Hid (Says 31 #[fr a b, fr c d] (.tuple #[fr N0 D0, .int .i64 E0]) ∧ Says 31 #[fr c d, fr a b] (.tuple #[fr N0 D0, .int .i64 E0])))
    (M : Hid (Says 35 #[fr a b, fr c d] (.tuple #[fr N2 D2, .int .i64 E2]) ∧ Says 35 #[fr c d, fr a b] (.tuple #[fr N2 D2, .int .i64 E2])))
    (hE0 : ¬ E0 = 0)
    (hE2 : E2 = 0) (hc : ¬ c = 0) (V : Hid (Says 37 #[fr N2 D2, fr c d] (.tuple #[fr a b, .int .i64 0])))
    : Calls Tryd.prog 8 #[fr a b, fr c d] w fun e w' => e = .returned (.bool true) ∧ Gr w w' := by
  have HT := Lib.hid ht
  clear ht
  subst hE2
  go_enter Tryd.func8, Tryd.ntmps8
  go_wp2_with fail
  have G := Gr.refl w
  have b2 := heap_alloc_self w (.cells #[.int .i64 a, .int .i64 b] 23)
  replace G := G.alloc (.cells #[.int .i64 a, .int .i64 b] 23)
  replace b2 := ((Gr.refl _).alloc (.cells #[.int .i64 c, .int .i64 d] 23)).heap b2
  have b3 := heap_alloc_self (w.alloc (.cells #[.int .i64 a, .int .i64 b] 23)) (.cells #[.int .i64 c, .int .i64 d] 23)
  replace G := G.alloc (.cells #[.int .i64 c, .int .i64 d] 23)
  generalize hW : ((w.alloc (.cells #[.int .i64 a, .int .i64 b] 23)).alloc (.cells #[.int .i64 c, .int .i64 d] 23)) = W1 at *
  simp only [World.size_alloc] at b3
  have w0 : w.heap.size ≤ w.heap.size := Nat.le_refl _
  obtain ⟨p3, hp3⟩ : ∃ p3, w.heap.size + 1 = p3 := ⟨_, rfl⟩
  obtain ⟨p2, hp2⟩ : ∃ p2, w.heap.size = p2 := ⟨_, rfl⟩
  rw [hp3] at b3
  rw [hp2] at b2
  try simp only [hp3]
  try simp only [hp2]
  have s2 : w.heap.size ≤ p2 := by omega
  have n2_3 : ¬ p2 = p3 := by omega
  have n3_2 : ¬ p3 = p2 := by omega
  have s3 : w.heap.size ≤ p3 := by omega
  clear  w0
  clear hp2
  clear hp3
  clear hW
  refine (A.out.1 _).mono ?_
  rintro e w1 ⟨rfl, g1⟩
  obtain ⟨c2, f2, z2⟩ := blk_cells (g1.heap b2)
  obtain ⟨c3, f3, z3⟩ := blk_cells (g1.heap b3)
  have z0 : w.heap.size ≤ w1.heap.size := (Gr.trans G g1).b.size
  go_wp2_with fail
  clear c2 f2 c3 f3
  replace b2 := g1.heap b2
  replace b3 := g1.heap b3
  have G := G.trans g1
  replace b2 := ((Gr.refl _).alloc (.cells #[.int .i64 N0, .int .i64 D0] 23)).heap b2
  replace b3 := ((Gr.refl _).alloc (.cells #[.int .i64 N0, .int .i64 D0] 23)).heap b3
  have b5 := heap_alloc_self w1 (.cells #[.int .i64 N0, .int .i64 D0] 23)
  replace G := G.alloc (.cells #[.int .i64 N0, .int .i64 D0] 23)
  generalize hW : (w1.alloc (.cells #[.int .i64 N0, .int .i64 D0] 23)) = W2 at *
  have o2 : p2 < w1.heap.size := z2
  have o3 : p3 < w1.heap.size := z3
  have w0 : w.heap.size ≤ w1.heap.size := z0
  obtain ⟨p5, hp5⟩ : ∃ p5, w1.heap.size = p5 := ⟨_, rfl⟩
  rw [hp5] at b5
  try simp only [hp5]
  have n2_5 : ¬ p2 = p5 := by omega
  have n5_2 : ¬ p5 = p2 := by omega
  have n3_5 : ¬ p3 = p5 := by omega
  have n5_3 : ¬ p5 = p3 := by omega
  have s5 : w.heap.size ≤ p5 := by omega
  clear o2 o3 w0
  clear hp5
  clear hW
  clear z2 z3 z0
  clear g1
  refine (A.out.2 _).mono ?_
  rintro e w2 ⟨rfl, g2⟩
  obtain ⟨c2, f2, z2⟩ := blk_cells (g2.heap b2)
  obtain ⟨c3, f3, z3⟩ := blk_cells (g2.heap b3)
  obtain ⟨c5, f5, z5⟩ := blk_cells (g2.heap b5)
  have z0 : w.heap.size ≤ w2.heap.size := (Gr.trans G g2).b.size
  go_wp2_with fail
  clear c2 f2 c3 f3 c5 f5
  replace b2 := g2.heap b2
  replace b3 := g2.heap b3
  replace b5 := g2.heap b5
  have G := G.trans g2
  replace b2 := ((Gr.refl _).alloc (.cells #[.int .i64 N0, .int .i64 D0] 23)).heap b2
  replace b3 := ((Gr.refl _).alloc (.cells #[.int .i64 N0, .int .i64 D0] 23)).heap b3
  replace b5 := ((Gr.refl _).alloc (.cells #[.int .i64 N0, .int .i64 D0] 23)).heap b5
  have b7 := heap_alloc_self w2 (.cells #[.int .i64 N0, .int .i64 D0] 23)
  replace G := G.alloc (.cells #[.int .i64 N0, .int .i64 D0] 23)
  generalize hW : (w2.alloc (.cells #[.int .i64 N0, .int .i64 D0] 23)) = W3 at *
  have o2 : p2 < w2.heap.size := z2
  have o3 : p3 < w2.heap.size := z3
  have o5 : p5 < w2.heap.size := z5
  have w0 : w.heap.size ≤ w2.heap.size := z0
  obtain ⟨p7, hp7⟩ : ∃ p7, w2.heap.size = p7 := ⟨_, rfl⟩
  rw [hp7] at b7
  try simp only [hp7]
  have n2_7 : ¬ p2 = p7 := by omega
  have n7_2 : ¬ p7 = p2 := by omega
  have n3_7 : ¬ p3 = p7 := by omega
  have n7_3 : ¬ p7 = p3 := by omega
  have n5_7 : ¬ p5 = p7 := by omega
  have n7_5 : ¬ p7 = p5 := by omega
  have s7 : w.heap.size ≤ p7 := by omega
  clear o2 o3 o5 w0
  clear hp7
  clear hW
  clear z2 z3 z5 z0
  clear g2
  refine (M.out.1 _).mono ?_
  rintro e w3 ⟨rfl, g3⟩
  obtain ⟨c2, f2, z2⟩ := blk_cells (g3.heap b2)
  obtain ⟨c3, f3, z3⟩ := blk_cells (g3.heap b3)
  obtain ⟨c5, f5, z5⟩ := blk_cells (g3.heap b5)
  obtain ⟨c7, f7, z7⟩ := blk_cells (g3.heap b7)
  have z0 : w.heap.size ≤ w3.heap.size := (Gr.trans G g3).b.size
  go_wp2_with fail
  clear c2 f2 c3 f3 c5 f5 c7 f7
  replace b2 := g3.heap b2
  replace b3 := g3.heap b3
  replace b5 := g3.heap b5
  replace b7 := g3.heap b7
  have G := G.trans g3
  replace b2 := ((Gr.refl _).alloc (.cells #[.int .i64 N2, .int .i64 D2] 23)).heap b2
  replace b3 := ((Gr.refl _).alloc (.cells #[.int .i64 N2, .int .i64 D2] 23)).heap b3
  replace b5 := ((Gr.refl _).alloc (.cells #[.int .i64 N2, .int .i64 D2] 23)).heap b5
  replace b7 := ((Gr.refl _).alloc (.cells #[.int .i64 N2, .int .i64 D2] 23)).heap b7
  have b9 := heap_alloc_self w3 (.cells #[.int .i64 N2, .int .i64 D2] 23)
  replace G := G.alloc (.cells #[.int .i64 N2, .int .i64 D2] 23)
  generalize hW : (w3.alloc (.cells #[.int .i64 N2, .int .i64 D2] 23)) = W4 at *
  have o2 : p2 < w3.heap.size := z2
  have o3 : p3 < w3.heap.size := z3
  have o5 : p5 < w3.heap.size := z5
  have o7 : p7 < w3.heap.size := z7
  have w0 : w.heap.size ≤ w3.heap.size := z0
  obtain ⟨p9, hp9⟩ : ∃ p9, w3.heap.size = p9 := ⟨_, rfl⟩
  rw [hp9] at b9
  try simp only [hp9]
  have n2_9 : ¬ p2 = p9 := by omega
  have n9_2 : ¬ p9 = p2 := by omega
  have n3_9 : ¬ p3 = p9 := by omega
  have n9_3 : ¬ p9 = p3 := by omega
  have n5_9 : ¬ p5 = p9 := by omega
  have n9_5 : ¬ p9 = p5 := by omega
  have n7_9 : ¬ p7 = p9 := by omega
  have n9_7 : ¬ p9 = p7 := by omega
  have s9 : w.heap.size ≤ p9 := by omega
  clear o2 o3 o5 o7 w0
  clear hp9
  clear hW
  clear z2 z3 z5 z7 z0
  clear g3
  refine (M.out.2 _).mono ?_
  rintro e w4 ⟨rfl, g4⟩
  obtain ⟨c2, f2, z2⟩ := blk_cells (g4.heap b2)
  obtain ⟨c3, f3, z3⟩ := blk_cells (g4.heap b3)
  obtain ⟨c5, f5, z5⟩ := blk_cells (g4.heap b5)
  obtain ⟨c7, f7, z7⟩ := blk_cells (g4.heap b7)
  obtain ⟨c9, f9, z9⟩ := blk_cells (g4.heap b9)
  have z0 : w.heap.size ≤ w4.heap.size := (Gr.trans G g4).b.size
  go_wp2_with fail
  clear c2 f2 c3 f3 c5 f5 c7 f7 c9 f9
  replace b2 := g4.heap b2
  replace b3 := g4.heap b3
  replace b5 := g4.heap b5
  replace b7 := g4.heap b7
  replace b9 := g4.heap b9
  have G := G.trans g4
  replace b2 := ((Gr.refl _).alloc (.cells #[.int .i64 N2, .int .i64 D2] 23)).heap b2
  replace b3 := ((Gr.refl _).alloc (.cells #[.int .i64 N2, .int .i64 D2] 23)).heap b3
  replace b5 := ((Gr.refl _).alloc (.cells #[.int .i64 N2, .int .i64 D2] 23)).heap b5
  replace b7 := ((Gr.refl _).alloc (.cells #[.int .i64 N2, .int .i64 D2] 23)).heap b7
  replace b9 := ((Gr.refl _).alloc (.cells #[.int .i64 N2, .int .i64 D2] 23)).heap b9
  have b11 := heap_alloc_self w4 (.cells #[.int .i64 N2, .int .i64 D2] 23)
  replace G := G.alloc (.cells #[.int .i64 N2, .int .i64 D2] 23)
  generalize hW : (w4.alloc (.cells #[.int .i64 N2, .int .i64 D2] 23)) = W5 at *
  have o2 : p2 < w4.heap.size := z2
  have o3 : p3 < w4.heap.size := z3
  have o5 : p5 < w4.heap.size := z5
  have o7 : p7 < w4.heap.size := z7
  have o9 : p9 < w4.heap.size := z9
  have w0 : w.heap.size ≤ w4.heap.size := z0
  obtain ⟨p11, hp11⟩ : ∃ p11, w4.heap.size = p11 := ⟨_, rfl⟩
  rw [hp11] at b11
  try simp only [hp11]
  have n2_11 : ¬ p2 = p11 := by omega
  have n11_2 : ¬ p11 = p2 := by omega
  have n3_11 : ¬ p3 = p11 := by omega
  have n11_3 : ¬ p11 = p3 := by omega
  have n5_11 : ¬ p5 = p11 := by omega
  have n11_5 : ¬ p11 = p5 := by omega
  have n7_11 : ¬ p7 = p11 := by omega
  have n11_7 : ¬ p11 = p7 := by omega
  have n9_11 : ¬ p9 = p11 := by omega
  have n11_9 : ¬ p11 = p9 := by omega
  have s11 : w.heap.size ≤ p11 := by omega
  clear o2 o3 o5 o7 o9 w0
  clear hp11
  clear hW
  clear z2 z3 z5 z7 z9 z0
  clear g4
  refine (V.out _).mono ?_
  rintro e w5 ⟨rfl, g5⟩
  obtain ⟨c2, f2, z2⟩ := blk_cells (g5.heap b2)
  obtain ⟨c3, f3, z3⟩ := blk_cells (g5.heap b3)
  obtain ⟨c5, f5, z5⟩ := blk_cells (g5.heap b5)
  obtain ⟨c7, f7, z7⟩ := blk_cells (g5.heap b7)
  obtain ⟨c9, f9, z9⟩ := blk_cells (g5.heap b9)
  obtain ⟨c11, f11, z11⟩ := blk_cells (g5.heap b11)
  have z0 : w.heap.size ≤ w5.heap.size := (Gr.trans G g5).b.size
  go_wp2_with fail
  clear c2 f2 c3 f3 c5 f5 c7 f7 c9 f9 c11 f11
  replace b2 := g5.heap b2
  replace b3 := g5.heap b3
  replace b5 := g5.heap b5
  replace b7 := g5.heap b7
  replace b9 := g5.heap b9
  replace b11 := g5.heap b11
  have G := G.trans g5
  replace b2 := ((Gr.refl _).alloc (.cells #[.int .i64 a, .int .i64 b] 23)).heap b2
  replace b3 := ((Gr.refl _).alloc (.cells #[.int .i64 a, .int .i64 b] 23)).heap b3
  replace b5 := ((Gr.refl _).alloc (.cells #[.int .i64 a, .int .i64 b] 23)).heap b5
  replace b7 := ((Gr.refl _).alloc (.cells #[.int .i64 a, .int .i64 b] 23)).heap b7
  replace b9 := ((Gr.refl _).alloc (.cells #[.int .i64 a, .int .i64 b] 23)).heap b9
  replace b11 := ((Gr.refl _).alloc (.cells #[.int .i64 a, .int .i64 b] 23)).heap b11
  have b15 := heap_alloc_self w5 (.cells #[.int .i64 a, .int .i64 b] 23)
  replace G := G.alloc (.cells #[.int .i64 a, .int .i64 b] 23)
  generalize hW : (w5.alloc (.cells #[.int .i64 a, .int .i64 b] 23)) = W6 at *
  have o2 : p2 < w5.heap.size := z2
  have o3 : p3 < w5.heap.size := z3
  have o5 : p5 < w5.heap.size := z5
  have o7 : p7 < w5.heap.size := z7
  have o9 : p9 < w5.heap.size := z9
  have o11 : p11 < w5.heap.size := z11
  have w0 : w.heap.size ≤ w5.heap.size := z0
  obtain ⟨p15, hp15⟩ : ∃ p15, w5.heap.size = p15 := ⟨_, rfl⟩
  rw [hp15] at b15
  try simp only [hp15]
  have n2_15 : ¬ p2 = p15 := by omega
  have n15_2 : ¬ p15 = p2 := by omega
  have n3_15 : ¬ p3 = p15 := by omega
  have n15_3 : ¬ p15 = p3 := by omega
  have n5_15 : ¬ p5 = p15 := by omega
  have n15_5 : ¬ p15 = p5 := by omega
  have n7_15 : ¬ p7 = p15 := by omega
  have n15_7 : ¬ p15 = p7 := by omega
  have n9_15 : ¬ p9 = p15 := by omega
  have n15_9 : ¬ p15 = p9 := by omega
  have n11_15 : ¬ p11 = p15 := by omega
  have n15_11 : ¬ p15 = p11 := by omega
  have s15 : w.heap.size ≤ p15 := by omega
  clear o2 o3 o5 o7 o9 o11 w0
  clear hp15
  clear hW
  clear z2 z3 z5 z7 z9 z11 z0
  clear g5
  refine (alive_any _ (HT.out.gr G)).mono ?_
  rintro e wz ⟨rfl, gz⟩
  go_wp2
  go_ret
  exact ⟨rfl, G.trans gz⟩
set_option maxRecDepth 100000 in
set_option maxHeartbeats 8000000 in
theorem RuleField_yes_no (a b c d N0 D0 E0 N2 D2 E2 : Int) (w : World) (ht : Tab w)
    (A : Hid (Says 31 #[fr a b, fr c d] (.tuple #[fr N0 D0, .int .i64 E0]) ∧ Says 31 #[fr c d, fr a b] (.tuple #[fr N0 D0, .int .i64 E0])))
    (M : Hid (Says 35 #[fr a b, fr c d] (.tuple #[fr N2 D2, .int .i64 E2]) ∧ Says 35 #[fr c d, fr a b] (.tuple #[fr N2 D2, .int .i64 E2])))
    (hE0 : E0 = 0) (S : Hid (Says 33 #[fr N0 D0, fr c d] (.tuple #[fr a b, .int .i64 0])))
    (hE2 : ¬ E2 = 0)
    : Calls Tryd.prog 8 #[fr a b, fr c d] w fun e w' => e = .returned (.bool true) ∧ Gr w w' := by
  have HT := Lib.hid ht
  clear ht
  subst hE0
  go_enter Tryd.func8, Tryd.ntmps8
  go_wp2_with fail
  have G := Gr.refl w
  have b2 := heap_alloc_self w (.cells #[.int .i64 a, .int .i64 b] 23)
  replace G := G.alloc (.cells #[.int .i64 a, .int .i64 b] 23)
  replace b2 := ((Gr.refl _).alloc (.cells #[.int .i64 c, .int .i64 d] 23)).heap b2
  have b3 := heap_alloc_self (w.alloc (.cells #[.int .i64 a, .int .i64 b] 23)) (.cells #[.int .i64 c, .int .i64 d] 23)
  replace G := G.alloc (.cells #[.int .i64 c, .int .i64 d] 23)
  generalize hW : ((w.alloc (.cells #[.int .i64 a, .int .i64 b] 23)).alloc (.cells #[.int .i64 c, .int .i64 d] 23)) = W1 at *
  simp only [World.size_alloc] at b3
  have w0 : w.heap.size ≤ w.heap.size := Nat.le_refl _
  obtain ⟨p3, hp3⟩ : ∃ p3, w.heap.size + 1 = p3 := ⟨_, rfl⟩
  obtain ⟨p2, hp2⟩ : ∃ p2, w.heap.size = p2 := ⟨_, rfl⟩
  rw [hp3] at b3
  rw [hp2] at b2
  try simp only [hp3]
  try simp only [hp2]
  have s2 : w.heap.size ≤ p2 := by omega
  have n2_3 : ¬ p2 = p3 := by omega
  have n3_2 : ¬ p3 = p2 := by omega
  have s3 : w.heap.size ≤ p3 := by omega
  clear  w0
  clear hp2
  clear hp3
  clear hW
  refine (A.out.1 _).mono ?_
  rintro e w1 ⟨rfl, g1⟩
  obtain ⟨c2, f2, z2⟩ := blk_cells (g1.heap b2)
  obtain ⟨c3, f3, z3⟩ := blk_cells (g1.heap b3)
  have z0 : w.heap.size ≤ w1.heap.size := (Gr.trans G g1).b.size
  go_wp2_with fail
  clear c2 f2 c3 f3
  replace b2 := g1.heap b2
  replace b3 := g1.heap b3
  have G := G.trans g1
  replace b2 := ((Gr.refl _).alloc (.cells #[.int .i64 N0, .int .i64 D0] 23)).heap b2
  replace b3 := ((Gr.refl _).alloc (.cells #[.int .i64 N0, .int .i64 D0] 23)).heap b3
  have b5 := heap_alloc_self w1 (.cells #[.int .i64 N0, .int .i64 D0] 23)
  replace G := G.alloc (.cells #[.int .i64 N0, .int .i64 D0] 23)
  generalize hW : (w1.alloc (.cells #[.int .i64 N0, .int .i64 D0] 23)) = W2 at *
  have o2 : p2 < w1.heap.size := z2
  have o3 : p3 < w1.heap.size := z3
  have w0 : w.heap.size ≤ w1.heap.size := z0
  obtain ⟨p5, hp5⟩ : ∃ p5, w1.heap.size = p5 := ⟨_, rfl⟩
  rw [hp5] at b5
  try simp only [hp5]
  have n2_5 : ¬ p2 = p5 := by omega
  have n5_2 : ¬ p5 = p2 := by omega
  have n3_5 : ¬ p3 = p5 := by omega
  have n5_3 : ¬ p5 = p3 := by omega
  have s5 : w.heap.size ≤ p5 := by omega
  clear o2 o3 w0
  clear hp5
  clear hW
  clear z2 z3 z0
  clear g1
  refine (A.out.2 _).mono ?_
  rintro e w2 ⟨rfl, g2⟩
  obtain ⟨c2, f2, z2⟩ := blk_cells (g2.heap b2)
  obtain ⟨c3, f3, z3⟩ := blk_cells (g2.heap b3)
  obtain ⟨c5, f5, z5⟩ := blk_cells (g2.heap b5)
  have z0 : w.heap.size ≤ w2.heap.size := (Gr.trans G g2).b.size
  go_wp2_with fail
  clear c2 f2 c3 f3 c5 f5
  replace b2 := g2.heap b2
  replace b3 := g2.heap b3
  replace b5 := g2.heap b5
  have G := G.trans g2
  replace b2 := ((Gr.refl _).alloc (.cells #[.int .i64 N0, .int .i64 D0] 23)).heap b2
  replace b3 := ((Gr.refl _).alloc (.cells #[.int .i64 N0, .int .i64 D0] 23)).heap b3
  replace b5 := ((Gr.refl _).alloc (.cells #[.int .i64 N0, .int .i64 D0] 23)).heap b5
  have b7 := heap_alloc_self w2 (.cells #[.int .i64 N0, .int .i64 D0] 23)
  replace G := G.alloc (.cells #[.int .i64 N0, .int .i64 D0] 23)
  generalize hW : (w2.alloc (.cells #[.int .i64 N0, .int .i64 D0] 23)) = W3 at *
  have o2 : p2 < w2.heap.size := z2
  have o3 : p3 < w2.heap.size := z3
  have o5 : p5 < w2.heap.size := z5
  have w0 : w.heap.size ≤ w2.heap.size := z0
  obtain ⟨p7, hp7⟩ : ∃ p7, w2.heap.size = p7 := ⟨_, rfl⟩
  rw [hp7] at b7
  try simp only [hp7]
  have n2_7 : ¬ p2 = p7 := by omega
  have n7_2 : ¬ p7 = p2 := by omega
  have n3_7 : ¬ p3 = p7 := by omega
  have n7_3 : ¬ p7 = p3 := by omega
  have n5_7 : ¬ p5 = p7 := by omega
  have n7_5 : ¬ p7 = p5 := by omega
  have s7 : w.heap.size ≤ p7 := by omega
  clear o2 o3 o5 w0
  clear hp7
  clear hW
  clear z2 z3 z5 z0
  clear g2
  refine (M.out.1 _).mono ?_
  rintro e w3 ⟨rfl, g3⟩
  obtain ⟨c2, f2, z2⟩ := blk_cells (g3.heap b2)
  obtain ⟨c3, f3, z3⟩ := blk_cells (g3.heap b3)
  obtain ⟨c5, f5, z5⟩ := blk_cells (g3.heap b5)
  obtain ⟨c7, f7, z7⟩ := blk_cells (g3.heap b7)
  have z0 : w.heap.size ≤ w3.heap.size := (Gr.trans G g3).b.size
  go_wp2_with fail
  clear c2 f2 c3 f3 c5 f5 c7 f7
  replace b2 := g3.heap b2
  replace b3 := g3.heap b3
  replace b5 := g3.heap b5
  replace b7 := g3.heap b7
  have G := G.trans g3
  replace b2 := ((Gr.refl _).alloc (.cells #[.int .i64 N2, .int .i64 D2] 23)).heap b2
  replace b3 := ((Gr.refl _).alloc (.cells #[.int .i64 N2, .int .i64 D2] 23)).heap b3
  replace b5 := ((Gr.refl _).alloc (.cells #[.int .i64 N2, .int .i64 D2] 23)).heap b5
  replace b7 := ((Gr.refl _).alloc (.cells #[.int .i64 N2, .int .i64 D2] 23)).heap b7
  have b9 := heap_alloc_self w3 (.cells #[.int .i64 N2, .int .i64 D2] 23)
  replace G := G.alloc (.cells #[.int .i64 N2, .int .i64 D2] 23)
  generalize hW : (w3.alloc (.cells #[.int .i64 N2, .int .i64 D2] 23)) = W4 at *
  have o2 : p2 < w3.heap.size := z2
  have o3 : p3 < w3.heap.size := z3
  have o5 : p5 < w3.heap.size := z5
  have o7 : p7 < w3.heap.size := z7
  have w0 : w.heap.size ≤ w3.heap.size := z0
  obtain ⟨p9, hp9⟩ : ∃ p9, w3.heap.size = p9 := ⟨_, rfl⟩
  rw [hp9] at b9
  try simp only [hp9]
  have n2_9 : ¬ p2 = p9 := by omega
  have n9_2 : ¬ p9 = p2 := by omega
  have n3_9 : ¬ p3 = p9 := by omega
  have n9_3 : ¬ p9 = p3 := by omega
  have n5_9 : ¬ p5 = p9 := by omega
  have n9_5 : ¬ p9 = p5 := by omega
  have n7_9 : ¬ p7 = p9 := by omega
  have n9_7 : ¬ p9 = p7 := by omega
  have s9 : w.heap.size ≤ p9 := by omega
  clear o2 o3 o5 o7 w0
  clear hp9
  clear hW
  clear z2 z3 z5 z7 z0
  clear g3
  refine (M.out.2 _).mono ?_
  rintro e w4 ⟨rfl, g4⟩
  obtain ⟨c2, f2, z2⟩ := blk_cells (g4.heap b2)
  obtain ⟨c3, f3, z3⟩ := blk_cells (g4.heap b3)
  obtain ⟨c5, f5, z5⟩ := blk_cells (g4.heap b5)
  obtain ⟨c7, f7, z7⟩ := blk_cells (g4.heap b7)
  obtain ⟨c9, f9, z9⟩ := blk_cells (g4.heap b9)
  have z0 : w.heap.size ≤ w4.heap.size := (Gr.trans G g4).b.size
  go_wp2_with fail
  clear c2 f2 c3 f3 c5 f5 c7 f7 c9 f9
  replace b2 := g4.heap b2
  replace b3 := g4.heap b3
  replace b5 := g4.heap b5
  replace b7 := g4.heap b7
  replace b9 := g4.heap b9
  have G := G.trans g4
  replace b2 := ((Gr.refl _).alloc (.cells #[.int .i64 N2, .int .i64 D2] 23)).heap b2
  replace b3 := ((Gr.refl _).alloc (.cells #[.int .i64 N2, .int .i64 D2] 23)).heap b3
  replace b5 := ((Gr.refl _).alloc (.cells #[.int .i64 N2, .int .i64 D2] 23)).heap b5
  replace b7 := ((Gr.refl _).alloc (.cells #[.int .i64 N2, .int .i64 D2] 23)).heap b7
  replace b9 := ((Gr.refl _).alloc (.cells #[.int .i64 N2, .int .i64 D2] 23)).heap b9
  have b11 := heap_alloc_self w4 (.cells #[.int .i64 N2, .int .i64 D2] 23)
  replace G := G.alloc (.cells #[.int .i64 N2, .int .i64 D2] 23)
  generalize hW : (w4.alloc (.cells #[.int .i64 N2, .int .i64 D2] 23)) = W5 at *
  have o2 : p2 < w4.heap.size := z2
  have o3 : p3 < w4.heap.size := z3
  have o5 : p5 < w4.heap.size := z5
  have o7 : p7 < w4.heap.size := z7
  have o9 : p9 < w4.heap.size := z9
  have w0 : w.heap.size ≤ w4.heap.size := z0
  obtain ⟨p11, hp11⟩ : ∃ p11, w4.heap.size = p11 := ⟨_, rfl⟩
  rw [hp11] at b11
  try simp only [hp11]
  have n2_11 : ¬ p2 = p11 := by omega
  have n11_2 : ¬ p11 = p2 := by omega
  have n3_11 : ¬ p3 = p11 := by omega
  have n11_3 : ¬ p11 = p3 := by omega
  have n5_11 : ¬ p5 = p11 := by omega
  have n11_5 : ¬ p11 = p5 := by omega
  have n7_11 : ¬ p7 = p11 := by omega
  have n11_7 : ¬ p11 = p7 := by omega
  have n9_11 : ¬ p9 = p11 := by omega
  have n11_9 : ¬ p11 = p9 := by omega
  have s11 : w.heap.size ≤ p11 := by omega
  clear o2 o3 o5 o7 o9 w0
  clear hp11
  clear hW
  clear z2 z3 z5 z7 z9 z0
  clear g4
  refine (S.out _).mono ?_
  rintro e w5 ⟨rfl, g5⟩
  obtain ⟨c2, f2, z2⟩ := blk_cells (g5.heap b2)
  obtain ⟨c3, f3, z3⟩ := blk_cells (g5.heap b3)
  obtain ⟨c5, f5, z5⟩ := blk_cells (g5.heap b5)
  obtain ⟨c7, f7, z7⟩ := blk_cells (g5.heap b7)
  obtain ⟨c9, f9, z9⟩ := blk_cells (g5.heap b9)
  obtain ⟨c11, f11, z11⟩ := blk_cells (g5.heap b11)
  have z0 : w.heap.size ≤ w5.heap.size := (Gr.trans G g5).b.size
  go_wp2_with fail
  clear c2 f2 c3 f3 c5 f5 c7 f7 c9 f9 c11 f11
  replace b2 := g5.heap b2
  replace b3 := g5.heap b3
  replace b5 := g5.heap b5
  replace b7 := g5.heap b7
  replace b9 := g5.heap b9
  replace b11 := g5.heap b11
  have G := G.trans g5
  replace b2 := ((Gr.refl _).alloc (.cells #[.int .i64 a, .int .i64 b] 23)).heap b2
  replace b3 := ((Gr.refl _).alloc (.cells #[.int .i64 a, .int .i64 b] 23)).heap b3
  replace b5 := ((Gr.refl _).alloc (.cells #[.int .i64 a, .int .i64 b] 23)).heap b5
  replace b7 := ((Gr.refl _).alloc (.cells #[.int .i64 a, .int .i64 b] 23)).heap b7
  replace b9 := ((Gr.refl _).alloc (.cells #[.int .i64 a, .int .i64 b] 23)).heap b9
  replace b11 := ((Gr.refl _).alloc (.cells #[.int .i64 a, .int .i64 b] 23)).heap b11
  have b13 := heap_alloc_self w5 (.cells #[.int .i64 a, .int .i64 b] 23)
  replace G := G.alloc (.cells #[.int .i64 a, .int .i64 b] 23)
  generalize hW : (w5.alloc (.cells #[.int .i64 a, .int .i64 b] 23)) = W6 at *
  have o2 : p2 < w5.heap.size := z2
  have o3 : p3 < w5.heap.size := z3
  have o5 : p5 < w5.heap.size := z5
  have o7 : p7 < w5.heap.size := z7
  have o9 : p9 < w5.heap.size := z9
  have o11 : p11 < w5.heap.size := z11
  have w0 : w.heap.size ≤ w5.heap.size := z0
  obtain ⟨p13, hp13⟩ : ∃ p13, w5.heap.size = p13 := ⟨_, rfl⟩
  rw [hp13] at b13
  try simp only [hp13]
  have n2_13 : ¬ p2 = p13 := by omega
  have n13_2 : ¬ p13 = p2 := by omega
  have n3_13 : ¬ p3 = p13 := by omega
  have n13_3 : ¬ p13 = p3 := by omega
  have n5_13 : ¬ p5 = p13 := by omega
  have n13_5 : ¬ p13 = p5 := by omega
  have n7_13 : ¬ p7 = p13 := by omega
  have n13_7 : ¬ p13 = p7 := by omega
  have n9_13 : ¬ p9 = p13 := by omega
  have n13_9 : ¬ p13 = p9 := by omega
  have n11_13 : ¬ p11 = p13 := by omega
  have n13_11 : ¬ p13 = p11 := by omega
  have s13 : w.heap.size ≤ p13 := by omega
  clear o2 o3 o5 o7 o9 o11 w0
  clear hp13
  clear hW
  clear z2 z3 z5 z7 z9 z11 z0
  clear g5
  refine (alive_any _ (HT.out.gr G)).mono ?_
  rintro e wz ⟨rfl, gz⟩
  go_wp2
  go_ret
  exact ⟨rfl, G.trans gz⟩
set_option maxRecDepth 100000 in
set_option maxHeartbeats 8000000 in
theorem RuleField_yes_zero (a b c d N0 D0 E0 N2 D2 E2 : Int) (w : World) (ht : Tab w)
    (A : Hid (Says 31 #[fr a b, fr c d] (.tuple #[fr N0 D0, .int .i64 E0]) ∧ Says 31 #[fr c d, fr a b] (.tuple #[fr N0 D0, .int .i64 E0])))
    (M : Hid (Says 35 #[fr a b, fr c d] (.tuple #[fr N2 D2, .int .i64 E2]) ∧ Says 35 #[fr c d, fr a b] (.tuple #[fr N2 D2, .int .i64 E2])))
    (hE0 : E0 = 0) (S : Hid (Says 33 #[fr N0 D0, fr c d] (.tuple #[fr a b, .int .i64 0])))
    (hE2 : E2 = 0) (hc : c = 0)
    : Calls Tryd.prog 8 #[fr a b, fr c d] w fun e w' => e = .returned (.bool true) ∧ Gr w w' := by
  have HT := Lib.hid ht
  clear ht
  subst hE0
  subst hE2
  subst hc
  go_enter Tryd.func8, Tryd.ntmps8
  go_wp2_with fail
  have G := Gr.refl w
  have b2 := heap_alloc_self w (.cells #[.int .i64 a, .int .i64 b] 23)
  replace G := G.alloc (.cells #[.int .i64 a, .int .i64 b] 23)
  replace b2 := ((Gr.refl _).alloc (.cells #[.int .i64 0, .int .i64 d] 23)).heap b2
  have b3 := heap_alloc_self (w.alloc (.cells #[.int .i64 a, .int .i64 b] 23)) (.cells #[.int .i64 0, .int .i64 d] 23)
  replace G := G.alloc (.cells #[.int .i64 0, .int .i64 d] 23)
  generalize hW : ((w.alloc (.cells #[.int .i64 a, .int .i64 b] 23)).alloc (.cells #[.int .i64 0, .int .i64 d] 23)) = W1 at *
  simp only [World.size_alloc] at b3
  have w0 : w.heap.size ≤ w.heap.size := Nat.le_refl _
  obtain ⟨p3, hp3⟩ : ∃ p3, w.heap.size + 1 = p3 := ⟨_, rfl⟩
  obtain ⟨p2, hp2⟩ : ∃ p2, w.heap.size = p2 := ⟨_, rfl⟩
  rw [hp3] at b3
  rw [hp2] at b2
  try simp only [hp3]
  try simp only [hp2]
  have s2 : w.heap.size ≤ p2 := by omega
  have n2_3 : ¬ p2 = p3 := by omega
  have n3_2 : ¬ p3 = p2 := by omega
  have s3 : w.heap.size ≤ p3 := by omega
  clear  w0
  clear hp2
  clear hp3
  clear hW
  refine (A.out.1 _).mono ?_
  rintro e w1 ⟨rfl, g1⟩
  obtain ⟨c2, f2, z2⟩ := blk_cells (g1.heap b2)
  obtain ⟨c3, f3, z3⟩ := blk_cells (g1.heap b3)
  have z0 : w.heap.size ≤ w1.heap.size := (Gr.trans G g1).b.size
  go_wp2_with fail
  clear c2 f2 c3 f3
  replace b2 := g1.heap b2
  replace b3 := g1.heap b3
  have G := G.trans g1
  replace b2 := ((Gr.refl _).alloc (.cells #[.int .i64 N0, .int .i64 D0] 23)).heap b2
  replace b3 := ((Gr.refl _).alloc (.cells #[.int .i64 N0, .int .i64 D0] 23)).heap b3
  have b5 := heap_alloc_self w1 (.cells #[.int .i64 N0, .int .i64 D0] 23)
  replace G := G.alloc (.cells #[.int .i64 N0, .int .i64 D0] 23)
  generalize hW : (w1.alloc (.cells #[.int .i64 N0, .int .i64 D0] 23)) = W2 at *
  have o2 : p2 < w1.heap.size := z2
  have o3 : p3 < w1.heap.size := z3
  have w0 : w.heap.size ≤ w1.heap.size := z0
  obtain ⟨p5, hp5⟩ : ∃ p5, w1.heap.size = p5 := ⟨_, rfl⟩
  rw [hp5] at b5
  try simp only [hp5]
  have n2_5 : ¬ p2 = p5 := by omega
  have n5_2 : ¬ p5 = p2 := by omega
  have n3_5 : ¬ p3 = p5 := by omega
  have n5_3 : ¬ p5 = p3 := by omega
  have s5 : w.heap.size ≤ p5 := by omega
  clear o2 o3 w0
  clear hp5
  clear hW
  clear z2 z3 z0
  clear g1
  refine (A.out.2 _).mono ?_
  rintro e w2 ⟨rfl, g2⟩
  obtain ⟨c2, f2, z2⟩ := blk_cells (g2.heap b2)
  obtain ⟨c3, f3, z3⟩ := blk_cells (g2.heap b3)
  obtain ⟨c5, f5, z5⟩ := blk_cells (g2.heap b5)
  have z0 : w.heap.size ≤ w2.heap.size := (Gr.trans G g2).b.size
  go_wp2_with fail
  clear c2 f2 c3 f3 c5 f5
  replace b2 := g2.heap b2
  replace b3 := g2.heap b3
  replace b5 := g2.heap b5
  have G := G.trans g2
  replace b2 := ((Gr.refl _).alloc (.cells #[.int .i64 N0, .int .i64 D0] 23)).heap b2
  replace b3 := ((Gr.refl _).alloc (.cells #[.int .i64 N0, .int .i64 D0] 23)).heap b3
  replace b5 := ((Gr.refl _).alloc (.cells #[.int .i64 N0, .int .i64 D0] 23)).heap b5
  have b7 := heap_alloc_self w2 (.cells #[.int .i64 N0, .int .i64 D0] 23)
  replace G := G.alloc (.cells #[.int .i64 N0, .int .i64 D0] 23)
  generalize hW : (w2.alloc (.cells #[.int .i64 N0, .int .i64 D0] 23)) = W3 at *
  have o2 : p2 < w2.heap.size := z2
  have o3 : p3 < w2.heap.size := z3
  have o5 : p5 < w2.heap.size := z5
  have w0 : w.heap.size ≤ w2.heap.size := z0
  obtain ⟨p7, hp7⟩ : ∃ p7, w2.heap.size = p7 := ⟨_, rfl⟩
  rw [hp7] at b7
  try simp only [hp7]
  have n2_7 : ¬ p2 = p7 := by omega
  have n7_2 : ¬ p7 = p2 := by omega
  have n3_7 : ¬ p3 = p7 := by omega
  have n7_3 : ¬ p7 = p3 := by omega
  have n5_7 : ¬ p5 = p7 := by omega
  have n7_5 : ¬ p7 = p5 := by omega
  have s7 : w.heap.size ≤ p7 := by omega
  clear o2 o3 o5 w0
  clear hp7
  clear hW
  clear z2 z3 z5 z0
  clear g2
  refine (M.out.1 _).mono ?_
  rintro e w3 ⟨rfl, g3⟩
  obtain ⟨c2, f2, z2⟩ := blk_cells (g3.heap b2)
  obtain ⟨c3, f3, z3⟩ := blk_cells (g3.heap b3)
  obtain ⟨c5, f5, z5⟩ := blk_cells (g3.heap b5)
  obtain ⟨c7, f7, z7⟩ := blk_cells (g3.heap b7)
  have z0 : w.heap.size ≤ w3.heap.size := (Gr.trans G g3).b.size
  go_wp2_with fail
  clear c2 f2 c3 f3 c5 f5 c7 f7
  replace b2 := g3.heap b2
  replace b3 := g3.heap b3
  replace b5 := g3.heap b5
  replace b7 := g3.heap b7
  have G := G.trans g3
  replace b2 := ((Gr.refl _).alloc (.cells #[.int .i64 N2, .int .i64 D2] 23)).heap b2
  replace b3 := ((Gr.refl _).alloc (.cells #[.int .i64 N2, .int .i64 D2] 23)).heap b3
  replace b5 := ((Gr.refl _).alloc (.cells #[.int .i64 N2, .int .i64 D2] 23)).heap b5
  replace b7 := ((Gr.refl _).alloc (.cells #[.int .i64 N2, .int .i64 D2] 23)).heap b7
  have b9 := heap_alloc_self w3 (.cells #[.int .i64 N2, .int .i64 D2] 23)
  replace G := G.alloc (.cells #[.int .i64 N2, .int .i64 D2] 23)
  generalize hW : (w3.alloc (.cells #[.int .i64 N2, .int .i64 D2] 23)) = W4 at *
  have o2 : p2 < w3.heap.size := z2
  have o3 : p3 < w3.heap.size := z3
  have o5 : p5 < w3.heap.size := z5
  have o7 : p7 < w3.heap.size := z7
  have w0 : w.heap.size ≤ w3.heap.size := z0
  obtain ⟨p9, hp9⟩ : ∃ p9, w3.heap.size = p9 := ⟨_, rfl⟩
  rw [hp9] at b9
  try simp only [hp9]
  have n2_9 : ¬ p2 = p9 := by omega
  have n9_2 : ¬ p9 = p2 := by omega
  have n3_9 : ¬ p3 = p9 := by omega
  have n9_3 : ¬ p9 = p3 := by omega
  have n5_9 : ¬ p5 = p9 := by omega
  have n9_5 : ¬ p9 = p5 := by omega
  have n7_9 : ¬ p7 = p9 := by omega
  have n9_7 : ¬ p9 = p7 := by omega
  have s9 : w.heap.size ≤ p9 := by omega
  clear o2 o3 o5 o7 w0
  clear hp9
  clear hW
  clear z2 z3 z5 z7 z0
  clear g3
  refine (M.out.2 _).mono ?_
  rintro e w4 ⟨rfl, g4⟩
  obtain ⟨c2, f2, z2⟩ := blk_cells (g4.heap b2)
  obtain ⟨c3, f3, z3⟩ := blk_cells (g4.heap b3)
  obtain ⟨c5, f5, z5⟩ := blk_cells (g4.heap b5)
  obtain ⟨c7, f7, z7⟩ := blk_cells (g4.heap b7)
  obtain ⟨c9, f9, z9⟩ := blk_cells (g4.heap b9)
  have z0 : w.heap.size ≤ w4.heap.size := (Gr.trans G g4).b.size
  go_wp2_with fail
  clear c2 f2 c3 f3 c5 f5 c7 f7 c9 f9
  replace b2 := g4.heap b2
  replace b3 := g4.heap b3
  replace b5 := g4.heap b5
  replace b7 := g4.heap b7
  replace b9 := g4.heap b9
  have G := G.trans g4
  replace b2 := ((Gr.refl _).alloc (.cells #[.int .i64 N2, .int .i64 D2] 23)).heap b2
  replace b3 := ((Gr.refl _).alloc (.cells #[.int .i64 N2, .int .i64 D2] 23)).heap b3
  replace b5 := ((Gr.refl _).alloc (.cells #[.int .i64 N2, .int .i64 D2] 23)).heap b5
  replace b7 := ((Gr.refl _).alloc (.cells #[.int .i64 N2, .int .i64 D2] 23)).heap b7
  replace b9 := ((Gr.refl _).alloc (.cells #[.int .i64 N2, .int .i64 D2] 23)).heap b9
  have b11 := heap_alloc_self w4 (.cells #[.int .i64 N2, .int .i64 D2] 23)
  replace G := G.alloc (.cells #[.int .i64 N2, .int .i64 D2] 23)
  generalize hW : (w4.alloc (.cells #[.int .i64 N2, .int .i64 D2] 23)) = W5 at *
  have o2 : p2 < w4.heap.size := z2
  have o3 : p3 < w4.heap.size := z3
  have o5 : p5 < w4.heap.size := z5
  have o7 : p7 < w4.heap.size := z7
  have o9 : p9 < w4.heap.size := z9
  have w0 : w.heap.size ≤ w4.heap.size := z0
  obtain ⟨p11, hp11⟩ : ∃ p11, w4.heap.size = p11 := ⟨_, rfl⟩
  rw [hp11] at b11
  try simp only [hp11]
  have n2_11 : ¬ p2 = p11 := by omega
  have n11_2 : ¬ p11 = p2 := by omega
  have n3_11 : ¬ p3 = p11 := by omega
  have n11_3 : ¬ p11 = p3 := by omega
  have n5_11 : ¬ p5 = p11 := by omega
  have n11_5 : ¬ p11 = p5 := by omega
  have n7_11 : ¬ p7 = p11 := by omega
  have n11_7 : ¬ p11 = p7 := by omega
  have n9_11 : ¬ p9 = p11 := by omega
  have n11_9 : ¬ p11 = p9 := by omega
  have s11 : w.heap.size ≤ p11 := by omega
  clear o2 o3 o5 o7 o9 w0
  clear hp11
  clear hW
  clear z2 z3 z5 z7 z9 z0
  clear g4
  refine (S.out _).mono ?_
  rintro e w5 ⟨rfl, g5⟩
  obtain ⟨c2, f2, z2⟩ := blk_cells (g5.heap b2)
  obtain ⟨c3, f3, z3⟩ := blk_cells (g5.heap b3)
  obtain ⟨c5, f5, z5⟩ := blk_cells (g5.heap b5)
  obtain ⟨c7, f7, z7⟩ := blk_cells (g5.heap b7)
  obtain ⟨c9, f9, z9⟩ := blk_cells (g5.heap b9)
  obtain ⟨c11, f11, z11⟩ := blk_cells (g5.heap b11)
  have z0 : w.heap.size ≤ w5.heap.size := (Gr.trans G g5).b.size
  go_wp2_with fail
  clear c2 f2 c3 f3 c5 f5 c7 f7 c9 f9 c11 f11
  replace b2 := g5.heap b2
  replace b3 := g5.heap b3
  replace b5 := g5.heap b5
  replace b7 := g5.heap b7
  replace b9 := g5.heap b9
  replace b11 := g5.heap b11
  have G := G.trans g5
  replace b2 := ((Gr.refl _).alloc (.cells #[.int .i64 a, .int .i64 b] 23)).heap b2
  replace b3 := ((Gr.refl _).alloc (.cells #[.int .i64 a, .int .i64 b] 23)).heap b3
  replace b5 := ((Gr.refl _).alloc (.cells #[.int .i64 a, .int .i64 b] 23)).heap b5
  replace b7 := ((Gr.refl _).alloc (.cells #[.int .i64 a, .int .i64 b] 23)).heap b7
  replace b9 := ((Gr.refl _).alloc (.cells #[.int .i64 a, .int .i64 b] 23)).heap b9
  replace b11 := ((Gr.refl _).alloc (.cells #[.int .i64 a, .int .i64 b] 23)).heap b11
  have b13 := heap_alloc_self w5 (.cells #[.int .i64 a, .int .i64 b] 23)
  replace G := G.alloc (.cells #[.int .i64 a, .int .i64 b] 23)
  generalize hW : (w5.alloc (.cells #[.int .i64 a, .int .i64 b] 23)) = W6 at *
  have o2 : p2 < w5.heap.size := z2
  have o3 : p3 < w5.heap.size := z3
  have o5 : p5 < w5.heap.size := z5
  have o7 : p7 < w5.heap.size := z7
  have o9 : p9 < w5.heap.size := z9
  have o11 : p11 < w5.heap.size := z11
  have w0 : w.heap.size ≤ w5.heap.size := z0
  obtain ⟨p13, hp13⟩ : ∃ p13, w5.heap.size = p13 := ⟨_, rfl⟩
  rw [hp13] at b13
  try simp only [hp13]
  have n2_13 : ¬ p2 = p13 := by omega
  have n13_2 : ¬ p13 = p2 := by omega
  have n3_13 : ¬ p3 = p13 := by omega
  have n13_3 : ¬ p13 = p3 := by omega
  have n5_13 : ¬ p5 = p13 := by omega
  have n13_5 : ¬ p13 = p5 := by omega
  have n7_13 : ¬ p7 = p13 := by omega
  have n13_7 : ¬ p13 = p7 := by omega
  have n9_13 : ¬ p9 = p13 := by omega
  have n13_9 : ¬ p13 = p9 := by omega
  have n11_13 : ¬ p11 = p13 := by omega
  have n13_11 : ¬ p13 = p11 := by omega
  have s13 : w.heap.size ≤ p13 := by omega
  clear o2 o3 o5 o7 o9 o11 w0
  clear hp13
  clear hW
  clear z2 z3 z5 z7 z9 z11 z0
  clear g5
  refine (alive_any _ (HT.out.gr G)).mono ?_
  rintro e wz ⟨rfl, gz⟩
  go_wp2
  go_ret
  exact ⟨rfl, G.trans gz⟩
set_option maxRecDepth 100000 in
set_option maxHeartbeats 8000000 in
theorem RuleField_yes_yes (a b c d N0 D0 E0 N2 D2 E2 : Int) (w : World) (ht : Tab w)
    (A : Hid (Says 31 #[fr a b, fr c d] (.tuple #[fr N0 D0, .int .i64 E0]) ∧ Says 31 #[fr c d, fr a b] (.tuple #[fr N0 D0, .int .i64 E0])))
    (M : Hid (Says 35 #[fr a b, fr c d] (.tuple #[fr N2 D2, .int .i64 E2]) ∧ Says 35 #[fr c d, fr a b] (.tuple #[fr N2 D2, .int .i64 E2])))
    (hE0 : E0 = 0) (S : Hid (Says 33 #[fr N0 D0, fr c d] (.tuple #[fr a b, .int .i64 0])))
    (hE2 : E2 = 0) (hc : ¬ c = 0) (V : Hid (Says 37 #[fr N2 D2, fr c d] (.tuple #[fr a b, .int .i64 0])))
    : Calls Tryd.prog 8 #[fr a b, fr c d] w fun e w' => e = .returned (.bool true) ∧ Gr w w' := by
  have HT := Lib.hid ht
  clear ht
  subst hE0
  subst hE2
  go_enter Tryd.func8, Tryd.ntmps8
  go_wp2_with fail
  have G := Gr.refl w
  have b2 := heap_alloc_self w (.cells #[.int .i64 a, .int .i64 b] 23)
  replace G := G.alloc (.cells #[.int .i64 a, .int .i64 b] 23)
  replace b2 := ((Gr.refl _).alloc (.cells #[.int .i64 c, .int .i64 d] 23)).heap b2
  have b3 := heap_alloc_self (w.alloc (.cells #[.int .i64 a, .int .i64 b] 23)) (.cells #[.int .i64 c, .int .i64 d] 23)
  replace G := G.alloc (.cells #[.int .i64 c, .int .i64 d] 23)
  generalize hW : ((w.alloc (.cells #[.int .i64 a, .int .i64 b] 23)).alloc (.cells #[.int .i64 c, .int .i64 d] 23)) = W1 at *
  simp only [World.size_alloc] at b3
  have w0 : w.heap.size ≤ w.heap.size := Nat.le_refl _
  obtain ⟨p3, hp3⟩ : ∃ p3, w.heap.size + 1 = p3 := ⟨_, rfl⟩
  obtain ⟨p2, hp2⟩ : ∃ p2, w.heap.size = p2 := ⟨_, rfl⟩
  rw [hp3] at b3
  rw [hp2] at b2
  try simp only [hp3]
  try simp only [hp2]
  have s2 : w.heap.size ≤ p2 := by omega
  have n2_3 : ¬ p2 = p3 := by omega
  have n3_2 : ¬ p3 = p2 := by omega
  have s3 : w.heap.size ≤ p3 := by omega
  clear  w0
  clear hp2
  clear hp3
  clear hW
  refine (A.out.1 _).mono ?_
  rintro e w1 ⟨rfl, g1⟩
  obtain ⟨c2, f2, z2⟩ := blk_cells (g1.heap b2)
  obtain ⟨c3, f3, z3⟩ := blk_cells (g1.heap b3)
  have z0 : w.heap.size ≤ w1.heap.size := (Gr.trans G g1).b.size
  go_wp2_with fail
  clear c2 f2 c3 f3
  replace b2 := g1.heap b2
  replace b3 := g1.heap b3
  have G := G.trans g1
  replace b2 := ((Gr.refl _).alloc (.cells #[.int .i64 N0, .int .i64 D0] 23)).heap b2
  replace b3 := ((Gr.refl _).alloc (.cells #[.int .i64 N0, .int .i64 D0] 23)).heap b3
  have b5 := heap_alloc_self w1 (.cells #[.int .i64 N0, .int .i64 D0] 23)
  replace G := G.alloc (.cells #[.int .i64 N0, .int .i64 D0] 23)
  generalize hW : (w1.alloc (.cells #[.int .i64 N0, .int .i64 D0] 23)) = W2 at *
  have o2 : p2 < w1.heap.size := z2
  have o3 : p3 < w1.heap.size := z3
  have w0 : w.heap.size ≤ w1.heap.size := z0
  obtain ⟨p5, hp5⟩ : ∃ p5, w1.heap.size = p5 := ⟨_, rfl⟩
  rw [hp5] at b5
  try simp only [hp5]
  have n2_5 : ¬ p2 = p5 := by omega
  have n5_2 : ¬ p5 = p2 := by omega
  have n3_5 : ¬ p3 = p5 := by omega
  have n5_3 : ¬ p5 = p3 := by omega
  have s5 : w.heap.size ≤ p5 := by omega
  clear o2 o3 w0
  clear hp5
  clear hW
  clear z2 z3 z0
  clear g1
  refine (A.out.2 _).mono ?_
  rintro e w2 ⟨rfl, g2⟩
  obtain ⟨c2, f2, z2⟩ := blk_cells (g2.heap b2)
  obtain ⟨c3, f3, z3⟩ := blk_cells (g2.heap b3)
  obtain ⟨c5, f5, z5⟩ := blk_cells (g2.heap b5)
  have z0 : w.heap.size ≤ w2.heap.size := (Gr.trans G g2).b.size
  go_wp2_with fail
  clear c2 f2 c3 f3 c5 f5
  replace b2 := g2.heap b2
  replace b3 := g2.heap b3
  replace b5 := g2.heap b5
  have G := G.trans g2
  replace b2 := ((Gr.refl _).alloc (.cells #[.int .i64 N0, .int .i64 D0] 23)).heap b2
  replace b3 := ((Gr.refl _).alloc (.cells #[.int .i64 N0, .int .i64 D0] 23)).heap b3
  replace b5 := ((Gr.refl _).alloc (.cells #[.int .i64 N0, .int .i64 D0] 23)).heap b5
  have b7 := heap_alloc_self w2 (.cells #[.int .i64 N0, .int .i64 D0] 23)
  replace G := G.alloc (.cells #[.int .i64 N0, .int .i64 D0] 23)
  generalize hW : (w2.alloc (.cells #[.int .i64 N0, .int .i64 D0] 23)) = W3 at *
  have o2 : p2 < w2.heap.size := z2
  have o3 : p3 < w2.heap.size := z3
  have o5 : p5 < w2.heap.size := z5
  have w0 : w.heap.size ≤ w2.heap.size := z0
  obtain ⟨p7, hp7⟩ : ∃ p7, w2.heap.size = p7 := ⟨_, rfl⟩
  rw [hp7] at b7
  try simp only [hp7]
  have n2_7 : ¬ p2 = p7 := by omega
  have n7_2 : ¬ p7 = p2 := by omega
  have n3_7 : ¬ p3 = p7 := by omega
  have n7_3 : ¬ p7 = p3 := by omega
  have n5_7 : ¬ p5 = p7 := by omega
  have n7_5 : ¬ p7 = p5 := by omega
  have s7 : w.heap.size ≤ p7 := by omega
  clear o2 o3 o5 w0
  clear hp7
  clear hW
  clear z2 z3 z5 z0
  clear g2
  refine (M.out.1 _).mono ?_
  rintro e w3 ⟨rfl, g3⟩
  obtain ⟨c2, f2, z2⟩ := blk_cells (g3.heap b2)
  obtain ⟨c3, f3, z3⟩ := blk_cells (g3.heap b3)
  obtain ⟨c5, f5, z5⟩ := blk_cells (g3.heap b5)
  obtain ⟨c7, f7, z7⟩ := blk_cells (g3.heap b7)
  have z0 : w.heap.size ≤ w3.heap.size := (Gr.trans G g3).b.size
  go_wp2_with fail
  clear c2 f2 c3 f3 c5 f5 c7 f7
  replace b2 := g3.heap b2
  replace b3 := g3.heap b3
  replace b5 := g3.heap b5
  replace b7 := g3.heap b7
  have G := G.trans g3
  replace b2 := ((Gr.refl _).alloc (.cells #[.int .i64 N2, .int .i64 D2] 23)).heap b2
  replace b3 := ((Gr.refl _).alloc (.cells #[.int .i64 N2, .int .i64 D2] 23)).heap b3
  replace b5 := ((Gr.refl _).alloc (.cells #[.int .i64 N2, .int .i64 D2] 23)).heap b5
  replace b7 := ((Gr.refl _).alloc (.cells #[.int .i64 N2, .int .i64 D2] 23)).heap b7
  have b9 := heap_alloc_self w3 (.cells #[.int .i64 N2, .int .i64 D2] 23)
  replace G := G.alloc (.cells #[.int .i64 N2, .int .i64 D2] 23)
  generalize hW : (w3.alloc (.cells #[.int .i64 N2, .int .i64 D2] 23)) = W4 at *
  have o2 : p2 < w3.heap.size := z2
  have o3 : p3 < w3.heap.size := z3
  have o5 : p5 < w3.heap.size := z5
  have o7 : p7 < w3.heap.size := z7
  have w0 : w.heap.size ≤ w3.heap.size := z0
  obtain ⟨p9, hp9⟩ : ∃ p9, w3.heap.size = p9 := ⟨_, rfl⟩
  rw [hp9] at b9
  try simp only [hp9]
  have n2_9 : ¬ p2 = p9 := by omega
  have n9_2 : ¬ p9 = p2 := by omega
  have n3_9 : ¬ p3 = p9 := by omega
  have n9_3 : ¬ p9 = p3 := by omega
  have n5_9 : ¬ p5 = p9 := by omega
  have n9_5 : ¬ p9 = p5 := by omega
  have n7_9 : ¬ p7 = p9 := by omega
  have n9_7 : ¬ p9 = p7 := by omega
  have s9 : w.heap.size ≤ p9 := by omega
  clear o2 o3 o5 o7 w0
  clear hp9
  clear hW
  clear z2 z3 z5 z7 z0
  clear g3
  refine (M.out.2 _).mono ?_
  rintro e w4 ⟨rfl, g4⟩
  obtain ⟨c2, f2, z2⟩ := blk_cells (g4.heap b2)
  obtain ⟨c3, f3, z3⟩ := blk_cells (g4.heap b3)
  obtain ⟨c5, f5, z5⟩ := blk_cells (g4.heap b5)
  obtain ⟨c7, f7, z7⟩ := blk_cells (g4.heap b7)
  obtain ⟨c9, f9, z9⟩ := blk_cells (g4.heap b9)
  have z0 : w.heap.size ≤ w4.heap.size := (Gr.trans G g4).b.size
  go_wp2_with fail
  clear c2 f2 c3 f3 c5 f5 c7 f7 c9 f9
  replace b2 := g4.heap b2
  replace b3 := g4.heap b3
  replace b5 := g4.heap b5
  replace b7 := g4.heap b7
  replace b9 := g4.heap b9
  have G := G.trans g4
  replace b2 := ((Gr.refl _).alloc (.cells #[.int .i64 N2, .int .i64 D2] 23)).heap b2
  replace b3 := ((Gr.refl _).alloc (.cells #[.int .i64 N2, .int .i64 D2] 23)).heap b3
  replace b5 := ((Gr.refl _).alloc (.cells #[.int .i64 N2, .int .i64 D2] 23)).heap b5
  replace b7 := ((Gr.refl _).alloc (.cells #[.int .i64 N2, .int .i64 D2] 23)).heap b7
  replace b9 := ((Gr.refl _).alloc (.cells #[.int .i64 N2, .int .i64 D2] 23)).heap b9
  have b11 := heap_alloc_self w4 (.cells #[.int .i64 N2, .int .i64 D2] 23)
  replace G := G.alloc (.cells #[.int .i64 N2, .int .i64 D2] 23)
  generalize hW : (w4.alloc (.cells #[.int .i64 N2, .int .i64 D2] 23)) = W5 at *
  have o2 : p2 < w4.heap.size := z2
  have o3 : p3 < w4.heap.size := z3
  have o5 : p5 < w4.heap.size := z5
  have o7 : p7 < w4.heap.size := z7
  have o9 : p9 < w4.heap.size := z9
  have w0 : w.heap.size ≤ w4.heap.size := z0
  obtain ⟨p11, hp11⟩ : ∃ p11, w4.heap.size = p11 := ⟨_, rfl⟩
  rw [hp11] at b11
  try simp only [hp11]
  have n2_11 : ¬ p2 = p11 := by omega
  have n11_2 : ¬ p11 = p2 := by omega
  have n3_11 : ¬ p3 = p11 := by omega
  have n11_3 : ¬ p11 = p3 := by omega
  have n5_11 : ¬ p5 = p11 := by omega
  have n11_5 : ¬ p11 = p5 := by omega
  have n7_11 : ¬ p7 = p11 := by omega
  have n11_7 : ¬ p11 = p7 := by omega
  have n9_11 : ¬ p9 = p11 := by omega
  have n11_9 : ¬ p11 = p9 := by omega
  have s11 : w.heap.size ≤ p11 := by omega
  clear o2 o3 o5 o7 o9 w0
  clear hp11
  clear hW
  clear z2 z3 z5 z7 z9 z0
  clear g4
  refine (S.out _).mono ?_
  rintro e w5 ⟨rfl, g5⟩
  obtain ⟨c2, f2, z2⟩ := blk_cells (g5.heap b2)
  obtain ⟨c3, f3, z3⟩ := blk_cells (g5.heap b3)
  obtain ⟨c5, f5, z5⟩ := blk_cells (g5.heap b5)
  obtain ⟨c7, f7, z7⟩ := blk_cells (g5.heap b7)
  obtain ⟨c9, f9, z9⟩ := blk_cells (g5.heap b9)
  obtain ⟨c11, f11, z11⟩ := blk_cells (g5.heap b11)
  have z0 : w.heap.size ≤ w5.heap.size := (Gr.trans G g5).b.size
  go_wp2_with fail
  clear c2 f2 c3 f3 c5 f5 c7 f7 c9 f9 c11 f11
  replace b2 := g5.heap b2
  replace b3 := g5.heap b3
  replace b5 := g5.heap b5
  replace b7 := g5.heap b7
  replace b9 := g5.heap b9
  replace b11 := g5.heap b11
  have G := G.trans g5
  replace b2 := ((Gr.refl _).alloc (.cells #[.int .i64 a, .int .i64 b] 23)).heap b2
  replace b3 := ((Gr.refl _).alloc (.cells #[.int .i64 a, .int .i64 b] 23)).heap b3
  replace b5 := ((Gr.refl _).alloc (.cells #[.int .i64 a, .int .i64 b] 23)).heap b5
  replace b7 := ((Gr.refl _).alloc (.cells #[.int .i64 a, .int .i64 b] 23)).heap b7
  replace b9 := ((Gr.refl _).alloc (.cells #[.int .i64 a, .int .i64 b] 23)).heap b9
  replace b11 := ((Gr.refl _).alloc (.cells #[.int .i64 a, .int .i64 b] 23)).heap b11
  have b13 := heap_alloc_self w5 (.cells #[.int .i64 a, .int .i64 b] 23)
  replace G := G.alloc (.cells #[.int .i64 a, .int .i64 b] 23)
  generalize hW : (w5.alloc (.cells #[.int .i64 a, .int .i64 b] 23)) = W6 at *
  have o2 : p2 < w5.heap.size := z2
  have o3 : p3 < w5.heap.size := z3
  have o5 : p5 < w5.heap.size := z5
  have o7 : p7 < w5.heap.size := z7
  have o9 : p9 < w5.heap.size := z9
  have o11 : p11 < w5.heap.size := z11
  have w0 : w.heap.size ≤ w5.heap.size := z0
  obtain ⟨p13, hp13⟩ : ∃ p13, w5.heap.size = p13 := ⟨_, rfl⟩
  rw [hp13] at b13
  try simp only [hp13]
  have n2_13 : ¬ p2 = p13 := by omega
  have n13_2 : ¬ p13 = p2 := by omega
  have n3_13 : ¬ p3 = p13 := by omega
  have n13_3 : ¬ p13 = p3 := by omega
  have n5_13 : ¬ p5 = p13 := by omega
  have n13_5 : ¬ p13 = p5 := by omega
  have n7_13 : ¬ p7 = p13 := by omega
  have n13_7 : ¬ p13 = p7 := by omega
  have n9_13 : ¬ p9 = p13 := by omega
  have n13_9 : ¬ p13 = p9 := by omega
  have n11_13 : ¬ p11 = p13 := by omega
  have n13_11 : ¬ p13 = p11 := by omega
  have s13 : w.heap.size ≤ p13 := by omega
  clear o2 o3 o5 o7 o9 o11 w0
  clear hp13
  clear hW
  clear z2 z3 z5 z7 z9 z11 z0
  clear g5
  refine (V.out _).mono ?_
  rintro e w6 ⟨rfl, g6⟩
  obtain ⟨c2, f2, z2⟩ := blk_cells (g6.heap b2)
  obtain ⟨c3, f3, z3⟩ := blk_cells (g6.heap b3)
  obtain ⟨c5, f5, z5⟩ := blk_cells (g6.heap b5)
  obtain ⟨c7, f7, z7⟩ := blk_cells (g6.heap b7)
  obtain ⟨c9, f9, z9⟩ := blk_cells (g6.heap b9)
  obtain ⟨c11, f11, z11⟩ := blk_cells (g6.heap b11)
  obtain ⟨c13, f13, z13⟩ := blk_cells (g6.heap b13)
  have z0 : w.heap.size ≤ w6.heap.size := (Gr.trans G g6).b.size
  go_wp2_with fail
  clear c2 f2 c3 f3 c5 f5 c7 f7 c9 f9 c11 f11 c13 f13
  replace b2 := g6.heap b2
  replace b3 := g6.heap b3
  replace b5 := g6.heap b5
  replace b7 := g6.heap b7
  replace b9 := g6.heap b9
  replace b11 := g6.heap b11
  replace b13 := g6.heap b13
  have G := G.trans g6
  replace b2 := ((Gr.refl _).alloc (.cells #[.int .i64 a, .int .i64 b] 23)).heap b2
  replace b3 := ((Gr.refl _).alloc (.cells #[.int .i64 a, .int .i64 b] 23)).heap b3
  replace b5 := ((Gr.refl _).alloc (.cells #[.int .i64 a, .int .i64 b] 23)).heap b5
  replace b7 := ((Gr.refl _).alloc (.cells #[.int .i64 a, .int .i64 b] 23)).heap b7
  replace b9 := ((Gr.refl _).alloc (.cells #[.int .i64 a, .int .i64 b] 23)).heap b9
  replace b11 := ((Gr.refl _).alloc (.cells #[.int .i64 a, .int .i64 b] 23)).heap b11
  replace b13 := ((Gr.refl _).alloc (.cells #[.int .i64 a, .int .i64 b] 23)).heap b13
  have b15 := heap_alloc_self w6 (.cells #[.int .i64 a, .int .i64 b] 23)
  replace G := G.alloc (.cells #[.int .i64 a, .int .i64 b] 23)
  generalize hW : (w6.alloc (.cells #[.int .i64 a, .int .i64 b] 23)) = W7 at *
  have o2 : p2 < w6.heap.size := z2
  have o3 : p3 < w6.heap.size := z3
  have o5 : p5 < w6.heap.size := z5
  have o7 : p7 < w6.heap.size := z7
  have o9 : p9 < w6.heap.size := z9
  have o11 : p11 < w6.heap.size := z11
  have o13 : p13 < w6.heap.size := z13
  have w0 : w.heap.size ≤ w6.heap.size := z0
  obtain ⟨p15, hp15⟩ : ∃ p15, w6.heap.size = p15 := ⟨_, rfl⟩
  rw [hp15] at b15
  try simp only [hp15]
  have n2_15 : ¬ p2 = p15 := by omega
  have n15_2 : ¬ p15 = p2 := by omega
  have n3_15 : ¬ p3 = p15 := by omega
  have n15_3 : ¬ p15 = p3 := by omega
  have n5_15 : ¬ p5 = p15 := by omega
  have n15_5 : ¬ p15 = p5 := by omega
  have n7_15 : ¬ p7 = p15 := by omega
  have n15_7 : ¬ p15 = p7 := by omega
  have n9_15 : ¬ p9 = p15 := by omega
  have n15_9 : ¬ p15 = p9 := by omega
  have n11_15 : ¬ p11 = p15 := by omega
  have n15_11 : ¬ p15 = p11 := by omega
  have n13_15 : ¬ p13 = p15 := by omega
  have n15_13 : ¬ p15 = p13 := by omega
  have s15 : w.heap.size ≤ p15 := by omega
  clear o2 o3 o5 o7 o9 o11 o13 w0
  clear hp15
  clear hW
  clear z2 z3 z5 z7 z9 z11 z13 z0
  clear g6
  refine (alive_any _ (HT.out.gr G)).mono ?_
  rintro e wz ⟨rfl, gz⟩
  go_wp2
  go_ret
  exact ⟨rfl, G.trans gz⟩
theorem RuleField_any (a b c d : Int) (w : World) (ht : Tab w) : Calls Tryd.prog 8 #[fr a b, fr c d] w fun e w' => e = .returned (.bool true) ∧ Gr w w' := by
  have A2 := Add_any c d a b
  obtain ⟨p1, p2, p3⟩ := ar_comm0 a b c d
  rw [p1, p2, p3] at A2
  have M2 := Mul_any c d a b
  obtain ⟨q1, q2, q3⟩ := ar_comm2 a b c d
  rw [q1, q2, q3] at M2
  have A := Lib.hid (And.intro (Add_any a b c d) A2)
  have M := Lib.hid (And.intro (Mul_any a b c d) M2)
  by_cases h0 : arE 0 a b c d = 0
  · have S := Sub_any (arN 0 a b c d) (arD 0 a b c d) c d
    obtain ⟨r1, r2, r3⟩ := field_sub h0
    rw [r1, r2, r3] at S
    by_cases h2 : arE 2 a b c d = 0
    · by_cases hc : c = 0
      · exact RuleField_yes_zero _ _ _ _ _ _ _ _ _ _ w ht A M h0 (Lib.hid S) h2 hc
      · have V := Div_any (arN 2 a b c d) (arD 2 a b c d) c d
        obtain ⟨s1, s2, s3⟩ := field_div h2 hc
        rw [s1, s2, s3] at V
        exact RuleField_yes_yes _ _ _ _ _ _ _ _ _ _ w ht A M h0 (Lib.hid S) h2 hc (Lib.hid V)
    · exact RuleField_yes_no _ _ _ _ _ _ _ _ _ _ w ht A M h0 (Lib.hid S) h2
  · by_cases h2 : arE 2 a b c d = 0
    · by_cases hc : c = 0
      · exact RuleField_no_zero _ _ _ _ _ _ _ _ _ _ w ht A M h0 h2 hc
      · have V := Div_any (arN 2 a b c d) (arD 2 a b c d) c d
        obtain ⟨s1, s2, s3⟩ := field_div h2 hc
        rw [s1, s2, s3] at V
        exact RuleField_no_yes _ _ _ _ _ _ _ _ _ _ w ht A M h0 h2 hc (Lib.hid V)
    · exact RuleField_no_no _ _ _ _ _ _ _ _ _ _ w ht A M h0 h2
end Go.Proofs.YtconhikflghkdaaDoor
