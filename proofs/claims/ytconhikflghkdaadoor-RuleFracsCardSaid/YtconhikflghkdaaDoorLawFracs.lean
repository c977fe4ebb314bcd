/- stricklelaw01.RuleFracs. -/
import Derived.Test.YtconhikflghkdaaDoorAlive
import Derived.Test.YtconhikflghkdaaDoorRef2
namespace Go.Proofs.YtconhikflghkdaaDoor
open Go.RowKit Go.Shelf
attribute [local go_sem] Oper.semAt_some
set_option maxRecDepth 100000 in
set_option maxHeartbeats 8000000 in
theorem RuleFracs_any (a b c d x y : Int) (w : World) (ht : Tab w) : Calls Tryd.prog 14 #[fr a b, fr c d, .int .i64 x, .int .i64 y] w fun e w' => e = .returned (.bool true) ∧ Gr w w' := by
  have HT := Lib.hid ht
  clear ht
  have AO := Lib.hid (And.intro (Of_any x y) (rOf_any x y))
  have AC := Lib.hid (And.intro (Compare_any a b c d) (rCompare_any a b c d))
  have AF := Lib.hid (And.intro (Floor_any a b) (rFloor_any a b))
  have AL := Lib.hid (And.intro (Ceil_any a b) (rCeil_any a b))
  have AK := Lib.hid (And.intro (CheckFrac_any a b) (rCheckFrac_any a b))
  generalize ofN x y = N at *
  generalize ofD x y = D at *
  generalize ofE x y = E at *
  generalize cmpN a b c d = C at *
  generalize Rm.err (ok2 a b c d) 1 = CE at *
  generalize flN a b = FN at *
  generalize clN a b = LN at *
  generalize Rm.err (Rm.okF a b) 1 = FE at *
  go_enter Tryd.func14, Tryd.ntmps14
  go_wp2_with fail
  have G := Gr.refl w
  have b4 := heap_alloc_self w (.cells #[.int .i64 a, .int .i64 b] 23)
  replace G := G.alloc (.cells #[.int .i64 a, .int .i64 b] 23)
  replace b4 := ((Gr.refl _).alloc (.cells #[.int .i64 c, .int .i64 d] 23)).heap b4
  have b5 := heap_alloc_self (w.alloc (.cells #[.int .i64 a, .int .i64 b] 23)) (.cells #[.int .i64 c, .int .i64 d] 23)
  replace G := G.alloc (.cells #[.int .i64 c, .int .i64 d] 23)
  generalize hW : ((w.alloc (.cells #[.int .i64 a, .int .i64 b] 23)).alloc (.cells #[.int .i64 c, .int .i64 d] 23)) = W1 at *
  simp only [World.size_alloc, World.size_setCell] at b5
  have w0 : w.heap.size ≤ w.heap.size := Nat.le_refl _
  obtain ⟨p5, hp5⟩ : ∃ p5, w.heap.size + 1 = p5 := ⟨_, rfl⟩
  obtain ⟨p4, hp4⟩ : ∃ p4, w.heap.size = p4 := ⟨_, rfl⟩
  rw [hp5] at b5
  rw [hp4] at b4
  try simp only [hp5]
  try simp only [hp4]
  have s4 : w.heap.size ≤ p4 := by omega
  have n4_5 : ¬ p4 = p5 := by omega
  have n5_4 : ¬ p5 = p4 := by omega
  have s5 : w.heap.size ≤ p5 := by omega
  clear  w0
  clear hp4
  clear hp5
  clear hW
  refine (AO.out.1 _).mono ?_
  rintro e w1 ⟨rfl, g1⟩
  obtain ⟨c4, f4, z4⟩ := blk_cells (g1.heap b4)
  obtain ⟨c5, f5, z5⟩ := blk_cells (g1.heap b5)
  have z0 : w.heap.size ≤ w1.heap.size := (Gr.trans G g1).b.size
  go_wp2_with fail
  clear c4 f4 c5 f5
  replace b4 := g1.heap b4
  replace b5 := g1.heap b5
  have G := G.trans g1
  replace b4 := ((Gr.refl _).alloc (.cells #[.int .i64 N, .int .i64 D] 23)).heap b4
  replace b5 := ((Gr.refl _).alloc (.cells #[.int .i64 N, .int .i64 D] 23)).heap b5
  have b9 := heap_alloc_self w1 (.cells #[.int .i64 N, .int .i64 D] 23)
  replace G := G.alloc (.cells #[.int .i64 N, .int .i64 D] 23)
  generalize hW : (w1.alloc (.cells #[.int .i64 N, .int .i64 D] 23)) = W2 at *
  have o4 : p4 < w1.heap.size := z4
  have o5 : p5 < w1.heap.size := z5
  have w0 : w.heap.size ≤ w1.heap.size := z0
  obtain ⟨p9, hp9⟩ : ∃ p9, w1.heap.size = p9 := ⟨_, rfl⟩
  rw [hp9] at b9
  try simp only [hp9]
  have n4_9 : ¬ p4 = p9 := by omega
  have n9_4 : ¬ p9 = p4 := by omega
  have n5_9 : ¬ p5 = p9 := by omega
  have n9_5 : ¬ p9 = p5 := by omega
  have s9 : w.heap.size ≤ p9 := by omega
  clear o4 o5 w0
  clear hp9
  clear hW
  clear z4 z5 z0
  clear g1
  refine (AO.out.2 _).mono ?_
  rintro e w2 ⟨rfl, g2⟩
  obtain ⟨c4, f4, z4⟩ := blk_cells (g2.heap b4)
  obtain ⟨c5, f5, z5⟩ := blk_cells (g2.heap b5)
  obtain ⟨c9, f9, z9⟩ := blk_cells (g2.heap b9)
  have z0 : w.heap.size ≤ w2.heap.size := (Gr.trans G g2).b.size
  go_wp2_with fail
  clear c4 f4 c5 f5 c9 f9
  replace b4 := g2.heap b4
  replace b5 := g2.heap b5
  replace b9 := g2.heap b9
  have G := G.trans g2
  replace b4 := ((Gr.refl _).alloc (.cells #[.int .i64 N, .int .i64 D] 23)).heap b4
  replace b5 := ((Gr.refl _).alloc (.cells #[.int .i64 N, .int .i64 D] 23)).heap b5
  replace b9 := ((Gr.refl _).alloc (.cells #[.int .i64 N, .int .i64 D] 23)).heap b9
  have b11 := heap_alloc_self w2 (.cells #[.int .i64 N, .int .i64 D] 23)
  replace G := G.alloc (.cells #[.int .i64 N, .int .i64 D] 23)
  generalize hW : (w2.alloc (.cells #[.int .i64 N, .int .i64 D] 23)) = W3 at *
  have o4 : p4 < w2.heap.size := z4
  have o5 : p5 < w2.heap.size := z5
  have o9 : p9 < w2.heap.size := z9
  have w0 : w.heap.size ≤ w2.heap.size := z0
  obtain ⟨p11, hp11⟩ : ∃ p11, w2.heap.size = p11 := ⟨_, rfl⟩
  rw [hp11] at b11
  try simp only [hp11]
  have n4_11 : ¬ p4 = p11 := by omega
  have n11_4 : ¬ p11 = p4 := by omega
  have n5_11 : ¬ p5 = p11 := by omega
  have n11_5 : ¬ p11 = p5 := by omega
  have n9_11 : ¬ p9 = p11 := by omega
  have n11_9 : ¬ p11 = p9 := by omega
  have s11 : w.heap.size ≤ p11 := by omega
  clear o4 o5 o9 w0
  clear hp11
  clear hW
  clear z4 z5 z9 z0
  clear g2
  refine (AC.out.1 _).mono ?_
  rintro e w3 ⟨rfl, g3⟩
  obtain ⟨c4, f4, z4⟩ := blk_cells (g3.heap b4)
  obtain ⟨c5, f5, z5⟩ := blk_cells (g3.heap b5)
  obtain ⟨c9, f9, z9⟩ := blk_cells (g3.heap b9)
  obtain ⟨c11, f11, z11⟩ := blk_cells (g3.heap b11)
  have z0 : w.heap.size ≤ w3.heap.size := (Gr.trans G g3).b.size
  go_wp2_with fail
  clear c4 f4 c5 f5 c9 f9 c11 f11
  replace b4 := g3.heap b4
  replace b5 := g3.heap b5
  replace b9 := g3.heap b9
  replace b11 := g3.heap b11
  have G := G.trans g3
  clear z4 z5 z9 z11 z0
  clear g3
  refine (AC.out.2 _).mono ?_
  rintro e w4 ⟨rfl, g4⟩
  obtain ⟨c4, f4, z4⟩ := blk_cells (g4.heap b4)
  obtain ⟨c5, f5, z5⟩ := blk_cells (g4.heap b5)
  obtain ⟨c9, f9, z9⟩ := blk_cells (g4.heap b9)
  obtain ⟨c11, f11, z11⟩ := blk_cells (g4.heap b11)
  have z0 : w.heap.size ≤ w4.heap.size := (Gr.trans G g4).b.size
  go_upto_region 5 with (fail)
  clear c4 f4 c5 f5 c9 f9 c11 f11
  replace b4 := g4.heap b4
  replace b5 := g4.heap b5
  replace b9 := g4.heap b9
  replace b11 := g4.heap b11
  have G := G.trans g4
  clear z4 z5 z9 z11 z0
  clear g4
  obtain ⟨c4, f4, z4⟩ := blk_cells b4
  obtain ⟨c5, f5, z5⟩ := blk_cells b5
  obtain ⟨c9, f9, z9⟩ := blk_cells b9
  obtain ⟨c11, f11, z11⟩ := blk_cells b11
  refine wp_region_plan [.val (fr N D), .val (fr N D), .val (.bool false), .val (.bool false), .val (.int .i64 E), .val (.int .i64 E), .val (.bool false), .val (.bool false), .val (.bool false), .val (.int .i64 C), .val (.int .i64 C), .val (.bool false), .val (.bool false), .val (.bool false), .val (.int .i64 CE), .val (.int .i64 CE), .val (.bool false), .val (.bool false), .val (.bool false), .val (fr a b), .val (.int .i64 FE), .val (fr a b), .val (.int .i64 FE), .val (.bool false), .val (.bool false)] (by kernel_rfl) (by kernel_rfl) (fun G => by simp only [finAct, Act.put, Plan.value, List.setIfInBounds_toArray, List.set_cons_zero, List.set_cons_succ, Nat.zero_add, Nat.reduceAdd]; rfl) ?_ ?_
  · refine ⟨?_, ?_, ?_, ?_, ?_, ?_, ?_, ?_, ?_, ?_, ?_, ?_, ?_, ?_, ?_, ?_, ?_, ?_, ?_, ?_, ?_, ?_, ?_, ?_, ?_, trivial⟩ <;> (first | exact trivial | (intro G; first | (refine ⟨by kernel_rfl, fun u hu => ?_⟩; obtain ⟨hc, hf, hz⟩ := hu.cells; go_simp; first | exact ⟨rfl, Gr.refl _⟩ | skip) | (refine ⟨by kernel_rfl, fun u T z hu hG hj hb => ?_⟩; cases hj; obtain ⟨hbc, hbf, hbz⟩ := blk_cells hb; first | (refine ⟨_, ?_, ((GrL.of_gr (Gr.refl _)).set _ _ (Or.inr (by simp))).set _ _ (Or.inr (by simp)), put_two hb⟩; go_simp; done) | (refine ⟨_, ?_, (GrL.of_gr (Gr.refl _)).set _ _ (Or.inr (by simp)), put_one hb⟩; go_simp; done)) | (refine ⟨by kernel_rfl, fun u => ?_⟩; go_simp; done) | (show _ = false; kernel_rfl)))
    · exact AK.out.1 _
    · exact AK.out.2 _
  intro _ U hg _ _
  clear c4 f4 z4 c5 f5 z5 c9 f9 z9 c11 f11 z11
  replace b4 := hg.heap b4
  replace b5 := hg.heap b5
  replace b9 := hg.heap b9
  replace b11 := hg.heap b11
  have G := G.trans hg
  obtain ⟨c4, f4, z4⟩ := blk_cells b4
  obtain ⟨c5, f5, z5⟩ := blk_cells b5
  obtain ⟨c9, f9, z9⟩ := blk_cells b9
  obtain ⟨c11, f11, z11⟩ := blk_cells b11
  clear hg
  go_wp2_with fail
  clear c4 f4 z4 c5 f5 z5 c9 f9 z9 c11 f11 z11
  refine (AF.out.1 _).mono ?_
  rintro e w5 ⟨rfl, g5⟩
  obtain ⟨c4, f4, z4⟩ := blk_cells (g5.heap b4)
  obtain ⟨c5, f5, z5⟩ := blk_cells (g5.heap b5)
  obtain ⟨c9, f9, z9⟩ := blk_cells (g5.heap b9)
  obtain ⟨c11, f11, z11⟩ := blk_cells (g5.heap b11)
  have z0 : w.heap.size ≤ w5.heap.size := (Gr.trans G g5).b.size
  go_wp2_with fail
  clear c4 f4 c5 f5 c9 f9 c11 f11
  replace b4 := g5.heap b4
  replace b5 := g5.heap b5
  replace b9 := g5.heap b9
  replace b11 := g5.heap b11
  have G := G.trans g5
  clear z4 z5 z9 z11 z0
  clear g5
  refine (AF.out.2 _).mono ?_
  rintro e w6 ⟨rfl, g6⟩
  obtain ⟨c4, f4, z4⟩ := blk_cells (g6.heap b4)
  obtain ⟨c5, f5, z5⟩ := blk_cells (g6.heap b5)
  obtain ⟨c9, f9, z9⟩ := blk_cells (g6.heap b9)
  obtain ⟨c11, f11, z11⟩ := blk_cells (g6.heap b11)
  have z0 : w.heap.size ≤ w6.heap.size := (Gr.trans G g6).b.size
  go_wp2_with fail
  clear c4 f4 c5 f5 c9 f9 c11 f11
  replace b4 := g6.heap b4
  replace b5 := g6.heap b5
  replace b9 := g6.heap b9
  replace b11 := g6.heap b11
  have G := G.trans g6
  clear z4 z5 z9 z11 z0
  clear g6
  refine (AL.out.1 _).mono ?_
  rintro e w7 ⟨rfl, g7⟩
  obtain ⟨c4, f4, z4⟩ := blk_cells (g7.heap b4)
  obtain ⟨c5, f5, z5⟩ := blk_cells (g7.heap b5)
  obtain ⟨c9, f9, z9⟩ := blk_cells (g7.heap b9)
  obtain ⟨c11, f11, z11⟩ := blk_cells (g7.heap b11)
  have z0 : w.heap.size ≤ w7.heap.size := (Gr.trans G g7).b.size
  go_wp2_with fail
  clear c4 f4 c5 f5 c9 f9 c11 f11
  replace b4 := g7.heap b4
  replace b5 := g7.heap b5
  replace b9 := g7.heap b9
  replace b11 := g7.heap b11
  have G := G.trans g7
  clear z4 z5 z9 z11 z0
  clear g7
  refine (AL.out.2 _).mono ?_
  rintro e w8 ⟨rfl, g8⟩
  obtain ⟨c4, f4, z4⟩ := blk_cells (g8.heap b4)
  obtain ⟨c5, f5, z5⟩ := blk_cells (g8.heap b5)
  obtain ⟨c9, f9, z9⟩ := blk_cells (g8.heap b9)
  obtain ⟨c11, f11, z11⟩ := blk_cells (g8.heap b11)
  have z0 : w.heap.size ≤ w8.heap.size := (Gr.trans G g8).b.size
  go_wp2_with fail
  clear c4 f4 c5 f5 c9 f9 c11 f11
  replace b4 := g8.heap b4
  replace b5 := g8.heap b5
  replace b9 := g8.heap b9
  replace b11 := g8.heap b11
  have G := G.trans g8
  clear z4 z5 z9 z11 z0
  clear g8
  refine (alive_any _ (HT.out.gr G)).mono ?_
  rintro e wz ⟨rfl, gz⟩
  go_wp2
  go_ret
  exact ⟨rfl, G.trans gz⟩
end Go.Proofs.YtconhikflghkdaaDoor
