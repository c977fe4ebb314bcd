/- stricklelaw01.RuleAround. -/
import Derived.Test.YtconhikflghkdaaDoorAlive
import Derived.Test.YtconhikflghkdaaDoorRefB
namespace Go.Proofs.YtconhikflghkdaaDoor
open Go.RowKit Go.Shelf
set_option maxRecDepth 100000 in
set_option maxHeartbeats 8000000 in
theorem RuleAround_any (n d m : Int) (w : World) (ht : Tab w) : Calls Tryd.prog 4 #[fr n d, .int .i64 m] w fun e w' => e = .returned (.bool true) ∧ Gr w w' := by
  have HT := Lib.hid ht
  clear ht
  have A1 := Lib.hid (Around_any n d m)
  have A2 := Lib.hid (rAround_any n d m)
  have A3 := Lib.hid (Nearest_any n d m)
  have A4 := Lib.hid (rNearest_any n d m)
  generalize abN n d m = a at *
  generalize abD n d m = b at *
  generalize ahN n d m = a' at *
  generalize ahD n d m = b' at *
  generalize nrN n d m = x at *
  generalize nrD n d m = y at *
  generalize Rm.err (abOk n d m) 1 = E at *
  go_enter Tryd.func4, Tryd.ntmps4
  go_wp2_with fail
  have G := Gr.refl w
  have b2 := heap_alloc_self w (.cells #[.int .i64 n, .int .i64 d] 23)
  replace G := G.alloc (.cells #[.int .i64 n, .int .i64 d] 23)
  generalize hW : (w.alloc (.cells #[.int .i64 n, .int .i64 d] 23)) = W1 at *
  have w0 : w.heap.size ≤ w.heap.size := Nat.le_refl _
  obtain ⟨p2, hp2⟩ : ∃ p2, w.heap.size = p2 := ⟨_, rfl⟩
  rw [hp2] at b2
  try simp only [hp2]
  have s2 : w.heap.size ≤ p2 := by omega
  clear  w0
  clear hp2
  clear hW
  refine (A1.out _).mono ?_
  rintro e w1 ⟨rfl, g1⟩
  obtain ⟨c2, f2, z2⟩ := blk_cells (g1.heap b2)
  have z0 : w.heap.size ≤ w1.heap.size := (Gr.trans G g1).b.size
  go_wp2_with fail
  clear c2 f2
  replace b2 := g1.heap b2
  have G := G.trans g1
  replace b2 := ((Gr.refl _).alloc (.cells #[.int .i64 a, .int .i64 b] 23)).heap b2
  have b5 := heap_alloc_self w1 (.cells #[.int .i64 a, .int .i64 b] 23)
  replace G := G.alloc (.cells #[.int .i64 a, .int .i64 b] 23)
  replace b2 := ((Gr.refl _).alloc (.cells #[.int .i64 (a'), .int .i64 (b')] 23)).heap b2
  replace b5 := ((Gr.refl _).alloc (.cells #[.int .i64 (a'), .int .i64 (b')] 23)).heap b5
  have b6 := heap_alloc_self (w1.alloc (.cells #[.int .i64 a, .int .i64 b] 23)) (.cells #[.int .i64 (a'), .int .i64 (b')] 23)
  replace G := G.alloc (.cells #[.int .i64 (a'), .int .i64 (b')] 23)
  generalize hW : ((w1.alloc (.cells #[.int .i64 a, .int .i64 b] 23)).alloc (.cells #[.int .i64 (a'), .int .i64 (b')] 23)) = W2 at *
  simp only [World.size_alloc] at b6
  have o2 : p2 < w1.heap.size := z2
  have w0 : w.heap.size ≤ w1.heap.size := z0
  obtain ⟨p6, hp6⟩ : ∃ p6, w1.heap.size + 1 = p6 := ⟨_, rfl⟩
  obtain ⟨p5, hp5⟩ : ∃ p5, w1.heap.size = p5 := ⟨_, rfl⟩
  rw [hp6] at b6
  rw [hp5] at b5
  try simp only [hp6]
  try simp only [hp5]
  have n2_5 : ¬ p2 = p5 := by omega
  have n5_2 : ¬ p5 = p2 := by omega
  have s5 : w.heap.size ≤ p5 := by omega
  have n2_6 : ¬ p2 = p6 := by omega
  have n6_2 : ¬ p6 = p2 := by omega
  have n5_6 : ¬ p5 = p6 := by omega
  have n6_5 : ¬ p6 = p5 := by omega
  have s6 : w.heap.size ≤ p6 := by omega
  clear o2 w0
  clear hp5
  clear hp6
  clear hW
  clear z2 z0
  clear g1
  refine (A2.out _).mono ?_
  rintro e w2 ⟨rfl, g2⟩
  obtain ⟨c2, f2, z2⟩ := blk_cells (g2.heap b2)
  obtain ⟨c5, f5, z5⟩ := blk_cells (g2.heap b5)
  obtain ⟨c6, f6, z6⟩ := blk_cells (g2.heap b6)
  have z0 : w.heap.size ≤ w2.heap.size := (Gr.trans G g2).b.size
  go_wp2_with fail
  clear c2 f2 c5 f5 c6 f6
  replace b2 := g2.heap b2
  replace b5 := g2.heap b5
  replace b6 := g2.heap b6
  have G := G.trans g2
  replace b2 := ((Gr.refl _).alloc (.cells #[.int .i64 a, .int .i64 b] 23)).heap b2
  replace b5 := ((Gr.refl _).alloc (.cells #[.int .i64 a, .int .i64 b] 23)).heap b5
  replace b6 := ((Gr.refl _).alloc (.cells #[.int .i64 a, .int .i64 b] 23)).heap b6
  have b8 := heap_alloc_self w2 (.cells #[.int .i64 a, .int .i64 b] 23)
  replace G := G.alloc (.cells #[.int .i64 a, .int .i64 b] 23)
  replace b2 := ((Gr.refl _).alloc (.cells #[.int .i64 (a'), .int .i64 (b')] 23)).heap b2
  replace b5 := ((Gr.refl _).alloc (.cells #[.int .i64 (a'), .int .i64 (b')] 23)).heap b5
  replace b6 := ((Gr.refl _).alloc (.cells #[.int .i64 (a'), .int .i64 (b')] 23)).heap b6
  replace b8 := ((Gr.refl _).alloc (.cells #[.int .i64 (a'), .int .i64 (b')] 23)).heap b8
  have b9 := heap_alloc_self (w2.alloc (.cells #[.int .i64 a, .int .i64 b] 23)) (.cells #[.int .i64 (a'), .int .i64 (b')] 23)
  replace G := G.alloc (.cells #[.int .i64 (a'), .int .i64 (b')] 23)
  generalize hW : ((w2.alloc (.cells #[.int .i64 a, .int .i64 b] 23)).alloc (.cells #[.int .i64 (a'), .int .i64 (b')] 23)) = W3 at *
  simp only [World.size_alloc] at b9
  have o2 : p2 < w2.heap.size := z2
  have o5 : p5 < w2.heap.size := z5
  have o6 : p6 < w2.heap.size := z6
  have w0 : w.heap.size ≤ w2.heap.size := z0
  obtain ⟨p9, hp9⟩ : ∃ p9, w2.heap.size + 1 = p9 := ⟨_, rfl⟩
  obtain ⟨p8, hp8⟩ : ∃ p8, w2.heap.size = p8 := ⟨_, rfl⟩
  rw [hp9] at b9
  rw [hp8] at b8
  try simp only [hp9]
  try simp only [hp8]
  have n2_8 : ¬ p2 = p8 := by omega
  have n8_2 : ¬ p8 = p2 := by omega
  have n5_8 : ¬ p5 = p8 := by omega
  have n8_5 : ¬ p8 = p5 := by omega
  have n6_8 : ¬ p6 = p8 := by omega
  have n8_6 : ¬ p8 = p6 := by omega
  have s8 : w.heap.size ≤ p8 := by omega
  have n2_9 : ¬ p2 = p9 := by omega
  have n9_2 : ¬ p9 = p2 := by omega
  have n5_9 : ¬ p5 = p9 := by omega
  have n9_5 : ¬ p9 = p5 := by omega
  have n6_9 : ¬ p6 = p9 := by omega
  have n9_6 : ¬ p9 = p6 := by omega
  have n8_9 : ¬ p8 = p9 := by omega
  have n9_8 : ¬ p9 = p8 := by omega
  have s9 : w.heap.size ≤ p9 := by omega
  clear o2 o5 o6 w0
  clear hp8
  clear hp9
  clear hW
  clear z2 z5 z6 z0
  clear g2
  refine (A3.out _).mono ?_
  rintro e w3 ⟨rfl, g3⟩
  obtain ⟨c2, f2, z2⟩ := blk_cells (g3.heap b2)
  obtain ⟨c5, f5, z5⟩ := blk_cells (g3.heap b5)
  obtain ⟨c6, f6, z6⟩ := blk_cells (g3.heap b6)
  obtain ⟨c8, f8, z8⟩ := blk_cells (g3.heap b8)
  obtain ⟨c9, f9, z9⟩ := blk_cells (g3.heap b9)
  have z0 : w.heap.size ≤ w3.heap.size := (Gr.trans G g3).b.size
  go_wp2_with fail
  clear c2 f2 c5 f5 c6 f6 c8 f8 c9 f9
  replace b2 := g3.heap b2
  replace b5 := g3.heap b5
  replace b6 := g3.heap b6
  replace b8 := g3.heap b8
  replace b9 := g3.heap b9
  have G := G.trans g3
  replace b2 := ((Gr.refl _).alloc (.cells #[.int .i64 x, .int .i64 y] 23)).heap b2
  replace b5 := ((Gr.refl _).alloc (.cells #[.int .i64 x, .int .i64 y] 23)).heap b5
  replace b6 := ((Gr.refl _).alloc (.cells #[.int .i64 x, .int .i64 y] 23)).heap b6
  replace b8 := ((Gr.refl _).alloc (.cells #[.int .i64 x, .int .i64 y] 23)).heap b8
  replace b9 := ((Gr.refl _).alloc (.cells #[.int .i64 x, .int .i64 y] 23)).heap b9
  have b11 := heap_alloc_self w3 (.cells #[.int .i64 x, .int .i64 y] 23)
  replace G := G.alloc (.cells #[.int .i64 x, .int .i64 y] 23)
  generalize hW : (w3.alloc (.cells #[.int .i64 x, .int .i64 y] 23)) = W4 at *
  have o2 : p2 < w3.heap.size := z2
  have o5 : p5 < w3.heap.size := z5
  have o6 : p6 < w3.heap.size := z6
  have o8 : p8 < w3.heap.size := z8
  have o9 : p9 < w3.heap.size := z9
  have w0 : w.heap.size ≤ w3.heap.size := z0
  obtain ⟨p11, hp11⟩ : ∃ p11, w3.heap.size = p11 := ⟨_, rfl⟩
  rw [hp11] at b11
  try simp only [hp11]
  have n2_11 : ¬ p2 = p11 := by omega
  have n11_2 : ¬ p11 = p2 := by omega
  have n5_11 : ¬ p5 = p11 := by omega
  have n11_5 : ¬ p11 = p5 := by omega
  have n6_11 : ¬ p6 = p11 := by omega
  have n11_6 : ¬ p11 = p6 := by omega
  have n8_11 : ¬ p8 = p11 := by omega
  have n11_8 : ¬ p11 = p8 := by omega
  have n9_11 : ¬ p9 = p11 := by omega
  have n11_9 : ¬ p11 = p9 := by omega
  have s11 : w.heap.size ≤ p11 := by omega
  clear o2 o5 o6 o8 o9 w0
  clear hp11
  clear hW
  clear z2 z5 z6 z8 z9 z0
  clear g3
  refine (A4.out _).mono ?_
  rintro e w4 ⟨rfl, g4⟩
  obtain ⟨c2, f2, z2⟩ := blk_cells (g4.heap b2)
  obtain ⟨c5, f5, z5⟩ := blk_cells (g4.heap b5)
  obtain ⟨c6, f6, z6⟩ := blk_cells (g4.heap b6)
  obtain ⟨c8, f8, z8⟩ := blk_cells (g4.heap b8)
  obtain ⟨c9, f9, z9⟩ := blk_cells (g4.heap b9)
  obtain ⟨c11, f11, z11⟩ := blk_cells (g4.heap b11)
  have z0 : w.heap.size ≤ w4.heap.size := (Gr.trans G g4).b.size
  go_wp2_with fail
  clear c2 f2 c5 f5 c6 f6 c8 f8 c9 f9 c11 f11
  replace b2 := g4.heap b2
  replace b5 := g4.heap b5
  replace b6 := g4.heap b6
  replace b8 := g4.heap b8
  replace b9 := g4.heap b9
  replace b11 := g4.heap b11
  have G := G.trans g4
  replace b2 := ((Gr.refl _).alloc (.cells #[.int .i64 x, .int .i64 y] 23)).heap b2
  replace b5 := ((Gr.refl _).alloc (.cells #[.int .i64 x, .int .i64 y] 23)).heap b5
  replace b6 := ((Gr.refl _).alloc (.cells #[.int .i64 x, .int .i64 y] 23)).heap b6
  replace b8 := ((Gr.refl _).alloc (.cells #[.int .i64 x, .int .i64 y] 23)).heap b8
  replace b9 := ((Gr.refl _).alloc (.cells #[.int .i64 x, .int .i64 y] 23)).heap b9
  replace b11 := ((Gr.refl _).alloc (.cells #[.int .i64 x, .int .i64 y] 23)).heap b11
  have b13 := heap_alloc_self w4 (.cells #[.int .i64 x, .int .i64 y] 23)
  replace G := G.alloc (.cells #[.int .i64 x, .int .i64 y] 23)
  generalize hW : (w4.alloc (.cells #[.int .i64 x, .int .i64 y] 23)) = W5 at *
  have o2 : p2 < w4.heap.size := z2
  have o5 : p5 < w4.heap.size := z5
  have o6 : p6 < w4.heap.size := z6
  have o8 : p8 < w4.heap.size := z8
  have o9 : p9 < w4.heap.size := z9
  have o11 : p11 < w4.heap.size := z11
  have w0 : w.heap.size ≤ w4.heap.size := z0
  obtain ⟨p13, hp13⟩ : ∃ p13, w4.heap.size = p13 := ⟨_, rfl⟩
  rw [hp13] at b13
  try simp only [hp13]
  have n2_13 : ¬ p2 = p13 := by omega
  have n13_2 : ¬ p13 = p2 := by omega
  have n5_13 : ¬ p5 = p13 := by omega
  have n13_5 : ¬ p13 = p5 := by omega
  have n6_13 : ¬ p6 = p13 := by omega
  have n13_6 : ¬ p13 = p6 := by omega
  have n8_13 : ¬ p8 = p13 := by omega
  have n13_8 : ¬ p13 = p8 := by omega
  have n9_13 : ¬ p9 = p13 := by omega
  have n13_9 : ¬ p13 = p9 := by omega
  have n11_13 : ¬ p11 = p13 := by omega
  have n13_11 : ¬ p13 = p11 := by omega
  have s13 : w.heap.size ≤ p13 := by omega
  clear o2 o5 o6 o8 o9 o11 w0
  clear hp13
  clear hW
  clear z2 z5 z6 z8 z9 z11 z0
  clear g4
  refine (alive_any _ (HT.out.gr G)).mono ?_
  rintro e wz ⟨rfl, gz⟩
  obtain ⟨c2, f2, z2⟩ := blk_cells (gz.heap b2)
  obtain ⟨c5, f5, z5⟩ := blk_cells (gz.heap b5)
  obtain ⟨c6, f6, z6⟩ := blk_cells (gz.heap b6)
  obtain ⟨c8, f8, z8⟩ := blk_cells (gz.heap b8)
  obtain ⟨c9, f9, z9⟩ := blk_cells (gz.heap b9)
  obtain ⟨c11, f11, z11⟩ := blk_cells (gz.heap b11)
  obtain ⟨c13, f13, z13⟩ := blk_cells (gz.heap b13)
  go_wp2
  go_ret
  exact ⟨rfl, G.trans gz⟩
end Go.Proofs.YtconhikflghkdaaDoor
