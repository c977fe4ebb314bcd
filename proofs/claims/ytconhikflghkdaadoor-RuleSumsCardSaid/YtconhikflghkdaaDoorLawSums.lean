/- stricklelaw01.RuleSums. -/
import Derived.Test.YtconhikflghkdaaDoorAlive
import Derived.Test.YtconhikflghkdaaDoorRef2
namespace Go.Proofs.YtconhikflghkdaaDoor
open Go.RowKit Go.Shelf
set_option maxRecDepth 100000 in
set_option maxHeartbeats 8000000 in
theorem RuleSums_any (a b c d : Int) (w : World) (ht : Tab w) : Calls Tryd.prog 7 #[fr a b, fr c d] w fun e w' => e = .returned (.bool true) ∧ Gr w w' := by
  have HT := Lib.hid ht
  clear ht
  have A0 := Lib.hid (And.intro (Add_any a b c d) (rAdd_any a b c d))
  generalize arN 0 a b c d = N0 at *
  generalize arD 0 a b c d = D0 at *
  generalize arE 0 a b c d = E0 at *
  have A1 := Lib.hid (And.intro (Sub_any a b c d) (rSub_any a b c d))
  generalize arN 1 a b c d = N1 at *
  generalize arD 1 a b c d = D1 at *
  generalize arE 1 a b c d = E1 at *
  have A2 := Lib.hid (And.intro (Mul_any a b c d) (rMul_any a b c d))
  generalize arN 2 a b c d = N2 at *
  generalize arD 2 a b c d = D2 at *
  generalize arE 2 a b c d = E2 at *
  have A3 := Lib.hid (And.intro (Div_any a b c d) (rDiv_any a b c d))
  generalize arN 3 a b c d = N3 at *
  generalize arD 3 a b c d = D3 at *
  generalize arE 3 a b c d = E3 at *
  go_enter Tryd.func7, Tryd.ntmps7
  go_wp2_with fail
  have G := Gr.refl w
  have b2 := heap_alloc_self w (.cells #[.int .i64 a, .int .i64 b] 23)
  replace G := G.alloc (.cells #[.int .i64 a, .int .i64 b] 23)
  replace b2 := ((Gr.refl _).alloc (.cells #[.int .i64 c, .int .i64 d] 23)).heap b2
  have b3 := heap_alloc_self (w.alloc (.cells #[.int .i64 a, .int .i64 b] 23)) (.cells #[.int .i64 c, .int .i64 d] 23)
  replace G := G.alloc (.cells #[.int .i64 c, .int .i64 d] 23)
  generalize hW : ((w.alloc (.cells #[.int .i64 a, .int .i64 b] 23)).alloc (.cells #[.int .i64 c, .int .i64 d] 23)) = W1 at *
  simp only [World.size_alloc, World.size_setCell] at b3
  have w0 : w.heap.size ≤ w.heap.size := Nat.le_refl _
  obtain ⟨p3, hp3⟩ : ∃ p3, w.heap.size + 1 = p3 := ⟨_, rfl⟩
  obtain ⟨p2, hp2⟩ : ∃ p2, w.heap.size = p2 := ⟨_, rfl⟩
  rw [hp3] at b3
  rw [hp2] at b2
  try simp only [hp3]
  try simp only [hp2]
  have s2 : w.heap.size ≤ p2 := by omega
  have n2_3 : ¬ p2 = p3 := by omega
  have n3_2 : ¬ p3 = p2 := by omega
  have s3 : w.heap.size ≤ p3 := by omega
  clear  w0
  clear hp2
  clear hp3
  clear hW
  refine (A0.out.1 _).mono ?_
  rintro e w1 ⟨rfl, g1⟩
  obtain ⟨c2, f2, z2⟩ := blk_cells (g1.heap b2)
  obtain ⟨c3, f3, z3⟩ := blk_cells (g1.heap b3)
  have z0 : w.heap.size ≤ w1.heap.size := (Gr.trans G g1).b.size
  go_wp2_with fail
  clear c2 f2 c3 f3
  replace b2 := g1.heap b2
  replace b3 := g1.heap b3
  have G := G.trans g1
  replace b2 := ((Gr.refl _).alloc (.cells #[.int .i64 N0, .int .i64 D0] 23)).heap b2
  replace b3 := ((Gr.refl _).alloc (.cells #[.int .i64 N0, .int .i64 D0] 23)).heap b3
  have b5 := heap_alloc_self w1 (.cells #[.int .i64 N0, .int .i64 D0] 23)
  replace G := G.alloc (.cells #[.int .i64 N0, .int .i64 D0] 23)
  generalize hW : (w1.alloc (.cells #[.int .i64 N0, .int .i64 D0] 23)) = W2 at *
  have o2 : p2 < w1.heap.size := z2
  have o3 : p3 < w1.heap.size := z3
  have w0 : w.heap.size ≤ w1.heap.size := z0
  obtain ⟨p5, hp5⟩ : ∃ p5, w1.heap.size = p5 := ⟨_, rfl⟩
  rw [hp5] at b5
  try simp only [hp5]
  have n2_5 : ¬ p2 = p5 := by omega
  have n5_2 : ¬ p5 = p2 := by omega
  have n3_5 : ¬ p3 = p5 := by omega
  have n5_3 : ¬ p5 = p3 := by omega
  have s5 : w.heap.size ≤ p5 := by omega
  clear o2 o3 w0
  clear hp5
  clear hW
  clear z2 z3 z0
  clear g1
  refine (A0.out.2 _).mono ?_
  rintro e w2 ⟨rfl, g2⟩
  obtain ⟨c2, f2, z2⟩ := blk_cells (g2.heap b2)
  obtain ⟨c3, f3, z3⟩ := blk_cells (g2.heap b3)
  obtain ⟨c5, f5, z5⟩ := blk_cells (g2.heap b5)
  have z0 : w.heap.size ≤ w2.heap.size := (Gr.trans G g2).b.size
  go_wp2_with fail
  clear c2 f2 c3 f3 c5 f5
  replace b2 := g2.heap b2
  replace b3 := g2.heap b3
  replace b5 := g2.heap b5
  have G := G.trans g2
  replace b2 := ((Gr.refl _).alloc (.cells #[.int .i64 N0, .int .i64 D0] 23)).heap b2
  replace b3 := ((Gr.refl _).alloc (.cells #[.int .i64 N0, .int .i64 D0] 23)).heap b3
  replace b5 := ((Gr.refl _).alloc (.cells #[.int .i64 N0, .int .i64 D0] 23)).heap b5
  have b7 := heap_alloc_self w2 (.cells #[.int .i64 N0, .int .i64 D0] 23)
  replace G := G.alloc (.cells #[.int .i64 N0, .int .i64 D0] 23)
  generalize hW : (w2.alloc (.cells #[.int .i64 N0, .int .i64 D0] 23)) = W3 at *
  have o2 : p2 < w2.heap.size := z2
  have o3 : p3 < w2.heap.size := z3
  have o5 : p5 < w2.heap.size := z5
  have w0 : w.heap.size ≤ w2.heap.size := z0
  obtain ⟨p7, hp7⟩ : ∃ p7, w2.heap.size = p7 := ⟨_, rfl⟩
  rw [hp7] at b7
  try simp only [hp7]
  have n2_7 : ¬ p2 = p7 := by omega
  have n7_2 : ¬ p7 = p2 := by omega
  have n3_7 : ¬ p3 = p7 := by omega
  have n7_3 : ¬ p7 = p3 := by omega
  have n5_7 : ¬ p5 = p7 := by omega
  have n7_5 : ¬ p7 = p5 := by omega
  have s7 : w.heap.size ≤ p7 := by omega
  clear o2 o3 o5 w0
  clear hp7
  clear hW
  clear z2 z3 z5 z0
  clear g2
  refine (A1.out.1 _).mono ?_
  rintro e w3 ⟨rfl, g3⟩
  obtain ⟨c2, f2, z2⟩ := blk_cells (g3.heap b2)
  obtain ⟨c3, f3, z3⟩ := blk_cells (g3.heap b3)
  obtain ⟨c5, f5, z5⟩ := blk_cells (g3.heap b5)
  obtain ⟨c7, f7, z7⟩ := blk_cells (g3.heap b7)
  have z0 : w.heap.size ≤ w3.heap.size := (Gr.trans G g3).b.size
  go_wp2_with fail
  clear c2 f2 c3 f3 c5 f5 c7 f7
  replace b2 := g3.heap b2
  replace b3 := g3.heap b3
  replace b5 := g3.heap b5
  replace b7 := g3.heap b7
  have G := G.trans g3
  replace b2 := ((Gr.refl _).alloc (.cells #[.int .i64 N1, .int .i64 D1] 23)).heap b2
  replace b3 := ((Gr.refl _).alloc (.cells #[.int .i64 N1, .int .i64 D1] 23)).heap b3
  replace b5 := ((Gr.refl _).alloc (.cells #[.int .i64 N1, .int .i64 D1] 23)).heap b5
  replace b7 := ((Gr.refl _).alloc (.cells #[.int .i64 N1, .int .i64 D1] 23)).heap b7
  have b9 := heap_alloc_self w3 (.cells #[.int .i64 N1, .int .i64 D1] 23)
  replace G := G.alloc (.cells #[.int .i64 N1, .int .i64 D1] 23)
  generalize hW : (w3.alloc (.cells #[.int .i64 N1, .int .i64 D1] 23)) = W4 at *
  have o2 : p2 < w3.heap.size := z2
  have o3 : p3 < w3.heap.size := z3
  have o5 : p5 < w3.heap.size := z5
  have o7 : p7 < w3.heap.size := z7
  have w0 : w.heap.size ≤ w3.heap.size := z0
  obtain ⟨p9, hp9⟩ : ∃ p9, w3.heap.size = p9 := ⟨_, rfl⟩
  rw [hp9] at b9
  try simp only [hp9]
  have n2_9 : ¬ p2 = p9 := by omega
  have n9_2 : ¬ p9 = p2 := by omega
  have n3_9 : ¬ p3 = p9 := by omega
  have n9_3 : ¬ p9 = p3 := by omega
  have n5_9 : ¬ p5 = p9 := by omega
  have n9_5 : ¬ p9 = p5 := by omega
  have n7_9 : ¬ p7 = p9 := by omega
  have n9_7 : ¬ p9 = p7 := by omega
  have s9 : w.heap.size ≤ p9 := by omega
  clear o2 o3 o5 o7 w0
  clear hp9
  clear hW
  clear z2 z3 z5 z7 z0
  clear g3
  refine (A1.out.2 _).mono ?_
  rintro e w4 ⟨rfl, g4⟩
  obtain ⟨c2, f2, z2⟩ := blk_cells (g4.heap b2)
  obtain ⟨c3, f3, z3⟩ := blk_cells (g4.heap b3)
  obtain ⟨c5, f5, z5⟩ := blk_cells (g4.heap b5)
  obtain ⟨c7, f7, z7⟩ := blk_cells (g4.heap b7)
  obtain ⟨c9, f9, z9⟩ := blk_cells (g4.heap b9)
  have z0 : w.heap.size ≤ w4.heap.size := (Gr.trans G g4).b.size
  go_wp2_with fail
  clear c2 f2 c3 f3 c5 f5 c7 f7 c9 f9
  replace b2 := g4.heap b2
  replace b3 := g4.heap b3
  replace b5 := g4.heap b5
  replace b7 := g4.heap b7
  replace b9 := g4.heap b9
  have G := G.trans g4
  replace b2 := ((Gr.refl _).alloc (.cells #[.int .i64 N1, .int .i64 D1] 23)).heap b2
  replace b3 := ((Gr.refl _).alloc (.cells #[.int .i64 N1, .int .i64 D1] 23)).heap b3
  replace b5 := ((Gr.refl _).alloc (.cells #[.int .i64 N1, .int .i64 D1] 23)).heap b5
  replace b7 := ((Gr.refl _).alloc (.cells #[.int .i64 N1, .int .i64 D1] 23)).heap b7
  replace b9 := ((Gr.refl _).alloc (.cells #[.int .i64 N1, .int .i64 D1] 23)).heap b9
  have b11 := heap_alloc_self w4 (.cells #[.int .i64 N1, .int .i64 D1] 23)
  replace G := G.alloc (.cells #[.int .i64 N1, .int .i64 D1] 23)
  generalize hW : (w4.alloc (.cells #[.int .i64 N1, .int .i64 D1] 23)) = W5 at *
  have o2 : p2 < w4.heap.size := z2
  have o3 : p3 < w4.heap.size := z3
  have o5 : p5 < w4.heap.size := z5
  have o7 : p7 < w4.heap.size := z7
  have o9 : p9 < w4.heap.size := z9
  have w0 : w.heap.size ≤ w4.heap.size := z0
  obtain ⟨p11, hp11⟩ : ∃ p11, w4.heap.size = p11 := ⟨_, rfl⟩
  rw [hp11] at b11
  try simp only [hp11]
  have n2_11 : ¬ p2 = p11 := by omega
  have n11_2 : ¬ p11 = p2 := by omega
  have n3_11 : ¬ p3 = p11 := by omega
  have n11_3 : ¬ p11 = p3 := by omega
  have n5_11 : ¬ p5 = p11 := by omega
  have n11_5 : ¬ p11 = p5 := by omega
  have n7_11 : ¬ p7 = p11 := by omega
  have n11_7 : ¬ p11 = p7 := by omega
  have n9_11 : ¬ p9 = p11 := by omega
  have n11_9 : ¬ p11 = p9 := by omega
  have s11 : w.heap.size ≤ p11 := by omega
  clear o2 o3 o5 o7 o9 w0
  clear hp11
  clear hW
  clear z2 z3 z5 z7 z9 z0
  clear g4
  refine (A2.out.1 _).mono ?_
  rintro e w5 ⟨rfl, g5⟩
  obtain ⟨c2, f2, z2⟩ := blk_cells (g5.heap b2)
  obtain ⟨c3, f3, z3⟩ := blk_cells (g5.heap b3)
  obtain ⟨c5, f5, z5⟩ := blk_cells (g5.heap b5)
  obtain ⟨c7, f7, z7⟩ := blk_cells (g5.heap b7)
  obtain ⟨c9, f9, z9⟩ := blk_cells (g5.heap b9)
  obtain ⟨c11, f11, z11⟩ := blk_cells (g5.heap b11)
  have z0 : w.heap.size ≤ w5.heap.size := (Gr.trans G g5).b.size
  go_wp2_with fail
  clear c2 f2 c3 f3 c5 f5 c7 f7 c9 f9 c11 f11
  replace b2 := g5.heap b2
  replace b3 := g5.heap b3
  replace b5 := g5.heap b5
  replace b7 := g5.heap b7
  replace b9 := g5.heap b9
  replace b11 := g5.heap b11
  have G := G.trans g5
  replace b2 := keep2 p5 (.int .i64 N2) (.int .i64 D2) b2 (by first | assumption | omega)
  replace b3 := keep2 p5 (.int .i64 N2) (.int .i64 D2) b3 (by first | assumption | omega)
  replace b5 := put_two (x := .int .i64 N2) (y := .int .i64 D2) b5
  replace b7 := keep2 p5 (.int .i64 N2) (.int .i64 D2) b7 (by first | assumption | omega)
  replace b9 := keep2 p5 (.int .i64 N2) (.int .i64 D2) b9 (by first | assumption | omega)
  replace b11 := keep2 p5 (.int .i64 N2) (.int .i64 D2) b11 (by first | assumption | omega)
  replace G := gr_set2 p5 (.int .i64 N2) (.int .i64 D2) G (by omega)
  generalize hW : ((w5.setCell ⟨p5, 0, none⟩ (.int .i64 N2)).setCell ⟨p5, 1, none⟩ (.int .i64 D2)) = W6 at *
  clear hW
  clear z2 z3 z5 z7 z9 z11 z0
  clear g5
  refine (A2.out.2 _).mono ?_
  rintro e w6 ⟨rfl, g6⟩
  obtain ⟨c2, f2, z2⟩ := blk_cells (g6.heap b2)
  obtain ⟨c3, f3, z3⟩ := blk_cells (g6.heap b3)
  obtain ⟨c5, f5, z5⟩ := blk_cells (g6.heap b5)
  obtain ⟨c7, f7, z7⟩ := blk_cells (g6.heap b7)
  obtain ⟨c9, f9, z9⟩ := blk_cells (g6.heap b9)
  obtain ⟨c11, f11, z11⟩ := blk_cells (g6.heap b11)
  have z0 : w.heap.size ≤ w6.heap.size := (Gr.trans G g6).b.size
  go_wp2_with fail
  clear c2 f2 c3 f3 c5 f5 c7 f7 c9 f9 c11 f11
  replace b2 := g6.heap b2
  replace b3 := g6.heap b3
  replace b5 := g6.heap b5
  replace b7 := g6.heap b7
  replace b9 := g6.heap b9
  replace b11 := g6.heap b11
  have G := G.trans g6
  replace b2 := keep2 p7 (.int .i64 N2) (.int .i64 D2) b2 (by first | assumption | omega)
  replace b3 := keep2 p7 (.int .i64 N2) (.int .i64 D2) b3 (by first | assumption | omega)
  replace b5 := keep2 p7 (.int .i64 N2) (.int .i64 D2) b5 (by first | assumption | omega)
  replace b7 := put_two (x := .int .i64 N2) (y := .int .i64 D2) b7
  replace b9 := keep2 p7 (.int .i64 N2) (.int .i64 D2) b9 (by first | assumption | omega)
  replace b11 := keep2 p7 (.int .i64 N2) (.int .i64 D2) b11 (by first | assumption | omega)
  replace G := gr_set2 p7 (.int .i64 N2) (.int .i64 D2) G (by omega)
  generalize hW : ((w6.setCell ⟨p7, 0, none⟩ (.int .i64 N2)).setCell ⟨p7, 1, none⟩ (.int .i64 D2)) = W7 at *
  clear hW
  clear z2 z3 z5 z7 z9 z11 z0
  clear g6
  refine (A3.out.1 _).mono ?_
  rintro e w7 ⟨rfl, g7⟩
  obtain ⟨c2, f2, z2⟩ := blk_cells (g7.heap b2)
  obtain ⟨c3, f3, z3⟩ := blk_cells (g7.heap b3)
  obtain ⟨c5, f5, z5⟩ := blk_cells (g7.heap b5)
  obtain ⟨c7, f7, z7⟩ := blk_cells (g7.heap b7)
  obtain ⟨c9, f9, z9⟩ := blk_cells (g7.heap b9)
  obtain ⟨c11, f11, z11⟩ := blk_cells (g7.heap b11)
  have z0 : w.heap.size ≤ w7.heap.size := (Gr.trans G g7).b.size
  go_wp2_with fail
  clear c2 f2 c3 f3 c5 f5 c7 f7 c9 f9 c11 f11
  replace b2 := g7.heap b2
  replace b3 := g7.heap b3
  replace b5 := g7.heap b5
  replace b7 := g7.heap b7
  replace b9 := g7.heap b9
  replace b11 := g7.heap b11
  have G := G.trans g7
  replace b2 := keep2 p9 (.int .i64 N3) (.int .i64 D3) b2 (by first | assumption | omega)
  replace b3 := keep2 p9 (.int .i64 N3) (.int .i64 D3) b3 (by first | assumption | omega)
  replace b5 := keep2 p9 (.int .i64 N3) (.int .i64 D3) b5 (by first | assumption | omega)
  replace b7 := keep2 p9 (.int .i64 N3) (.int .i64 D3) b7 (by first | assumption | omega)
  replace b9 := put_two (x := .int .i64 N3) (y := .int .i64 D3) b9
  replace b11 := keep2 p9 (.int .i64 N3) (.int .i64 D3) b11 (by first | assumption | omega)
  replace G := gr_set2 p9 (.int .i64 N3) (.int .i64 D3) G (by omega)
  generalize hW : ((w7.setCell ⟨p9, 0, none⟩ (.int .i64 N3)).setCell ⟨p9, 1, none⟩ (.int .i64 D3)) = W8 at *
  clear hW
  clear z2 z3 z5 z7 z9 z11 z0
  clear g7
  refine (A3.out.2 _).mono ?_
  rintro e w8 ⟨rfl, g8⟩
  obtain ⟨c2, f2, z2⟩ := blk_cells (g8.heap b2)
  obtain ⟨c3, f3, z3⟩ := blk_cells (g8.heap b3)
  obtain ⟨c5, f5, z5⟩ := blk_cells (g8.heap b5)
  obtain ⟨c7, f7, z7⟩ := blk_cells (g8.heap b7)
  obtain ⟨c9, f9, z9⟩ := blk_cells (g8.heap b9)
  obtain ⟨c11, f11, z11⟩ := blk_cells (g8.heap b11)
  have z0 : w.heap.size ≤ w8.heap.size := (Gr.trans G g8).b.size
  go_wp2_with fail
  clear c2 f2 c3 f3 c5 f5 c7 f7 c9 f9 c11 f11
  replace b2 := g8.heap b2
  replace b3 := g8.heap b3
  replace b5 := g8.heap b5
  replace b7 := g8.heap b7
  replace b9 := g8.heap b9
  replace b11 := g8.heap b11
  have G := G.trans g8
  replace b2 := keep2 p11 (.int .i64 N3) (.int .i64 D3) b2 (by first | assumption | omega)
  replace b3 := keep2 p11 (.int .i64 N3) (.int .i64 D3) b3 (by first | assumption | omega)
  replace b5 := keep2 p11 (.int .i64 N3) (.int .i64 D3) b5 (by first | assumption | omega)
  replace b7 := keep2 p11 (.int .i64 N3) (.int .i64 D3) b7 (by first | assumption | omega)
  replace b9 := keep2 p11 (.int .i64 N3) (.int .i64 D3) b9 (by first | assumption | omega)
  replace b11 := put_two (x := .int .i64 N3) (y := .int .i64 D3) b11
  replace G := gr_set2 p11 (.int .i64 N3) (.int .i64 D3) G (by omega)
  generalize hW : ((w8.setCell ⟨p11, 0, none⟩ (.int .i64 N3)).setCell ⟨p11, 1, none⟩ (.int .i64 D3)) = W9 at *
  clear hW
  clear z2 z3 z5 z7 z9 z11 z0
  clear g8
  refine (alive_any _ (HT.out.gr G)).mono ?_
  rintro e wz ⟨rfl, gz⟩
  obtain ⟨c2, f2, z2⟩ := blk_cells (gz.heap b2)
  obtain ⟨c3, f3, z3⟩ := blk_cells (gz.heap b3)
  obtain ⟨c5, f5, z5⟩ := blk_cells (gz.heap b5)
  obtain ⟨c7, f7, z7⟩ := blk_cells (gz.heap b7)
  obtain ⟨c9, f9, z9⟩ := blk_cells (gz.heap b9)
  obtain ⟨c11, f11, z11⟩ := blk_cells (gz.heap b11)
  go_wp2
  go_ret
  exact ⟨rfl, G.trans gz⟩
end Go.Proofs.YtconhikflghkdaaDoor
