/- stricklelaw01.RuleCasts. -/
import Derived.Test.YtconhikflghkdaaDoorAlive
import Derived.Test.YtconhikflghkdaaDoorRefE
namespace Go.Proofs.YtconhikflghkdaaDoor
open Go.RowKit Go.Shelf
attribute [local go_sem] Oper.semAt_some
set_option maxRecDepth 100000 in
set_option maxHeartbeats 8000000 in
theorem RuleCasts_any (a b c d a' b' c' d' size want : Int) (w : World) (ht : Tab w) : Calls Tryd.prog 17 #[ru a b c d, ru a' b' c' d', .int .i64 size, .int .i64 want] w fun e w' => e = .returned (.bool true) ∧ Gr w w' := by
  have HT := Lib.hid ht
  clear ht
  have A1 := Lib.hid (Cast_any a b c d size)
  have A2 := Lib.hid (rCast_any a b c d size)
  have A3 := Lib.hid (Miss_any a b c d size want)
  have A4 := Lib.hid (rMiss_any a b c d size want)
  have A5 := Lib.hid (fun w => CheckRule_any a b c d w)
  have A6 := Lib.hid (fun w => rCheckRule_any a b c d w)
  have A7 := Lib.hid (Twice_any a b c d a' b' c' d')
  have A8 := Lib.hid (rTwice_any a b c d a' b' c' d')
  have A9 := Lib.hid (Both_any a b c d a' b' c' d')
  have A10 := Lib.hid (rBoth_any a b c d a' b' c' d')
  generalize caV a b c d size (Rm.redN (size*(d-c)) d) = N at *
  generalize caV a b c d size (Rm.redD (size*(d-c)) d) = D at *
  generalize caV a b c d size (Rm.redN (size*(b-a)) b) = N' at *
  generalize caV a b c d size (Rm.redD (size*(b-a)) b) = D' at *
  generalize Rm.err (caOk a b c d size) 1 = E at *
  generalize miN a b c d size want = X at *
  generalize miD a b c d size want = Y at *
  generalize miE a b c d size want = E' at *
  generalize Rm.err (ruOk a b c d) 1 = R at *
  generalize twV a b c d a' b' c' d' (tw1 a b c d a' b' c' d') = t1 at *
  generalize twV a b c d a' b' c' d' (tw2 a b c d a' b' c' d') = t2 at *
  generalize twV a b c d a' b' c' d' (tw3 a b c d a' b' c' d') = t3 at *
  generalize twV a b c d a' b' c' d' (tw4 a b c d a' b' c' d') = t4 at *
  generalize twE a b c d a' b' c' d' = ET at *
  generalize boV a b c d a' b' c' d' (boL a b a' b').1 = q1 at *
  generalize boV a b c d a' b' c' d' (boL a b a' b').2 = q2 at *
  generalize boV a b c d a' b' c' d' (boM c d c' d').1 = q3 at *
  generalize boV a b c d a' b' c' d' (boM c d c' d').2 = q4 at *
  generalize boE a b c d a' b' c' d' = EB at *
  go_enter Tryd.func17, Tryd.ntmps17
  go_wp2_with fail
  have G := Gr.refl w
  have b4 := heap_alloc_self w (.cells #[.int .i64 a, .int .i64 b, .int .i64 c, .int .i64 d] 34)
  replace G := G.alloc (.cells #[.int .i64 a, .int .i64 b, .int .i64 c, .int .i64 d] 34)
  replace b4 := ((Gr.refl _).alloc (.cells #[.int .i64 (a'), .int .i64 (b'), .int .i64 (c'), .int .i64 (d')] 34)).heap b4
  have b5 := heap_alloc_self (w.alloc (.cells #[.int .i64 a, .int .i64 b, .int .i64 c, .int .i64 d] 34)) (.cells #[.int .i64 (a'), .int .i64 (b'), .int .i64 (c'), .int .i64 (d')] 34)
  replace G := G.alloc (.cells #[.int .i64 (a'), .int .i64 (b'), .int .i64 (c'), .int .i64 (d')] 34)
  generalize hW : ((w.alloc (.cells #[.int .i64 a, .int .i64 b, .int .i64 c, .int .i64 d] 34)).alloc (.cells #[.int .i64 (a'), .int .i64 (b'), .int .i64 (c'), .int .i64 (d')] 34)) = W1 at *
  simp only [World.size_alloc] at b5
  have w0 : w.heap.size ≤ w.heap.size := Nat.le_refl _
  obtain ⟨p5, hp5⟩ : ∃ p5, w.heap.size + 1 = p5 := ⟨_, rfl⟩
  obtain ⟨p4, hp4⟩ : ∃ p4, w.heap.size = p4 := ⟨_, rfl⟩
  rw [hp5] at b5
  rw [hp4] at b4
  try simp only [hp5]
  try simp only [hp4]
  have s4 : w.heap.size ≤ p4 := by omega
  have n4_5 : ¬ p4 = p5 := by omega
  have n5_4 : ¬ p5 = p4 := by omega
  have s5 : w.heap.size ≤ p5 := by omega
  clear  w0
  clear hp4
  clear hp5
  clear hW
  refine (A1.out _).mono ?_
  rintro e w1 ⟨rfl, g1⟩
  obtain ⟨c4, f4, z4⟩ := blk_cells (g1.heap b4)
  obtain ⟨c5, f5, z5⟩ := blk_cells (g1.heap b5)
  have z0 : w.heap.size ≤ w1.heap.size := (Gr.trans G g1).b.size
  go_wp2_with fail
  clear c4 f4 c5 f5
  replace b4 := g1.heap b4
  replace b5 := g1.heap b5
  have G := G.trans g1
  replace b4 := ((Gr.refl _).alloc (.cells #[.int .i64 N, .int .i64 D] 23)).heap b4
  replace b5 := ((Gr.refl _).alloc (.cells #[.int .i64 N, .int .i64 D] 23)).heap b5
  have b9 := heap_alloc_self w1 (.cells #[.int .i64 N, .int .i64 D] 23)
  replace G := G.alloc (.cells #[.int .i64 N, .int .i64 D] 23)
  replace b4 := ((Gr.refl _).alloc (.cells #[.int .i64 (N'), .int .i64 (D')] 23)).heap b4
  replace b5 := ((Gr.refl _).alloc (.cells #[.int .i64 (N'), .int .i64 (D')] 23)).heap b5
  replace b9 := ((Gr.refl _).alloc (.cells #[.int .i64 (N'), .int .i64 (D')] 23)).heap b9
  have b10 := heap_alloc_self (w1.alloc (.cells #[.int .i64 N, .int .i64 D] 23)) (.cells #[.int .i64 (N'), .int .i64 (D')] 23)
  replace G := G.alloc (.cells #[.int .i64 (N'), .int .i64 (D')] 23)
  generalize hW : ((w1.alloc (.cells #[.int .i64 N, .int .i64 D] 23)).alloc (.cells #[.int .i64 (N'), .int .i64 (D')] 23)) = W2 at *
  simp only [World.size_alloc] at b10
  have o4 : p4 < w1.heap.size := z4
  have o5 : p5 < w1.heap.size := z5
  have w0 : w.heap.size ≤ w1.heap.size := z0
  obtain ⟨p10, hp10⟩ : ∃ p10, w1.heap.size + 1 = p10 := ⟨_, rfl⟩
  obtain ⟨p9, hp9⟩ : ∃ p9, w1.heap.size = p9 := ⟨_, rfl⟩
  rw [hp10] at b10
  rw [hp9] at b9
  try simp only [hp10]
  try simp only [hp9]
  have n4_9 : ¬ p4 = p9 := by omega
  have n9_4 : ¬ p9 = p4 := by omega
  have n5_9 : ¬ p5 = p9 := by omega
  have n9_5 : ¬ p9 = p5 := by omega
  have s9 : w.heap.size ≤ p9 := by omega
  have n4_10 : ¬ p4 = p10 := by omega
  have n10_4 : ¬ p10 = p4 := by omega
  have n5_10 : ¬ p5 = p10 := by omega
  have n10_5 : ¬ p10 = p5 := by omega
  have n9_10 : ¬ p9 = p10 := by omega
  have n10_9 : ¬ p10 = p9 := by omega
  have s10 : w.heap.size ≤ p10 := by omega
  clear o4 o5 w0
  clear hp9
  clear hp10
  clear hW
  clear z4 z5 z0
  clear g1
  refine (A2.out _).mono ?_
  rintro e w2 ⟨rfl, g2⟩
  obtain ⟨c4, f4, z4⟩ := blk_cells (g2.heap b4)
  obtain ⟨c5, f5, z5⟩ := blk_cells (g2.heap b5)
  obtain ⟨c9, f9, z9⟩ := blk_cells (g2.heap b9)
  obtain ⟨c10, f10, z10⟩ := blk_cells (g2.heap b10)
  have z0 : w.heap.size ≤ w2.heap.size := (Gr.trans G g2).b.size
  go_wp2_with fail
  clear c4 f4 c5 f5 c9 f9 c10 f10
  replace b4 := g2.heap b4
  replace b5 := g2.heap b5
  replace b9 := g2.heap b9
  replace b10 := g2.heap b10
  have G := G.trans g2
  replace b4 := ((Gr.refl _).alloc (.cells #[.int .i64 N, .int .i64 D] 23)).heap b4
  replace b5 := ((Gr.refl _).alloc (.cells #[.int .i64 N, .int .i64 D] 23)).heap b5
  replace b9 := ((Gr.refl _).alloc (.cells #[.int .i64 N, .int .i64 D] 23)).heap b9
  replace b10 := ((Gr.refl _).alloc (.cells #[.int .i64 N, .int .i64 D] 23)).heap b10
  have b12 := heap_alloc_self w2 (.cells #[.int .i64 N, .int .i64 D] 23)
  replace G := G.alloc (.cells #[.int .i64 N, .int .i64 D] 23)
  replace b4 := ((Gr.refl _).alloc (.cells #[.int .i64 (N'), .int .i64 (D')] 23)).heap b4
  replace b5 := ((Gr.refl _).alloc (.cells #[.int .i64 (N'), .int .i64 (D')] 23)).heap b5
  replace b9 := ((Gr.refl _).alloc (.cells #[.int .i64 (N'), .int .i64 (D')] 23)).heap b9
  replace b10 := ((Gr.refl _).alloc (.cells #[.int .i64 (N'), .int .i64 (D')] 23)).heap b10
  replace b12 := ((Gr.refl _).alloc (.cells #[.int .i64 (N'), .int .i64 (D')] 23)).heap b12
  have b13 := heap_alloc_self (w2.alloc (.cells #[.int .i64 N, .int .i64 D] 23)) (.cells #[.int .i64 (N'), .int .i64 (D')] 23)
  replace G := G.alloc (.cells #[.int .i64 (N'), .int .i64 (D')] 23)
  generalize hW : ((w2.alloc (.cells #[.int .i64 N, .int .i64 D] 23)).alloc (.cells #[.int .i64 (N'), .int .i64 (D')] 23)) = W3 at *
  simp only [World.size_alloc] at b13
  have o4 : p4 < w2.heap.size := z4
  have o5 : p5 < w2.heap.size := z5
  have o9 : p9 < w2.heap.size := z9
  have o10 : p10 < w2.heap.size := z10
  have w0 : w.heap.size ≤ w2.heap.size := z0
  obtain ⟨p13, hp13⟩ : ∃ p13, w2.heap.size + 1 = p13 := ⟨_, rfl⟩
  obtain ⟨p12, hp12⟩ : ∃ p12, w2.heap.size = p12 := ⟨_, rfl⟩
  rw [hp13] at b13
  rw [hp12] at b12
  try simp only [hp13]
  try simp only [hp12]
  have n4_12 : ¬ p4 = p12 := by omega
  have n12_4 : ¬ p12 = p4 := by omega
  have n5_12 : ¬ p5 = p12 := by omega
  have n12_5 : ¬ p12 = p5 := by omega
  have n9_12 : ¬ p9 = p12 := by omega
  have n12_9 : ¬ p12 = p9 := by omega
  have n10_12 : ¬ p10 = p12 := by omega
  have n12_10 : ¬ p12 = p10 := by omega
  have s12 : w.heap.size ≤ p12 := by omega
  have n4_13 : ¬ p4 = p13 := by omega
  have n13_4 : ¬ p13 = p4 := by omega
  have n5_13 : ¬ p5 = p13 := by omega
  have n13_5 : ¬ p13 = p5 := by omega
  have n9_13 : ¬ p9 = p13 := by omega
  have n13_9 : ¬ p13 = p9 := by omega
  have n10_13 : ¬ p10 = p13 := by omega
  have n13_10 : ¬ p13 = p10 := by omega
  have n12_13 : ¬ p12 = p13 := by omega
  have n13_12 : ¬ p13 = p12 := by omega
  have s13 : w.heap.size ≤ p13 := by omega
  clear o4 o5 o9 o10 w0
  clear hp12
  clear hp13
  clear hW
  clear z4 z5 z9 z10 z0
  clear g2
  refine (A3.out _).mono ?_
  rintro e w3 ⟨rfl, g3⟩
  obtain ⟨c4, f4, z4⟩ := blk_cells (g3.heap b4)
  obtain ⟨c5, f5, z5⟩ := blk_cells (g3.heap b5)
  obtain ⟨c9, f9, z9⟩ := blk_cells (g3.heap b9)
  obtain ⟨c10, f10, z10⟩ := blk_cells (g3.heap b10)
  obtain ⟨c12, f12, z12⟩ := blk_cells (g3.heap b12)
  obtain ⟨c13, f13, z13⟩ := blk_cells (g3.heap b13)
  have z0 : w.heap.size ≤ w3.heap.size := (Gr.trans G g3).b.size
  go_wp2_with fail
  clear c4 f4 c5 f5 c9 f9 c10 f10 c12 f12 c13 f13
  replace b4 := g3.heap b4
  replace b5 := g3.heap b5
  replace b9 := g3.heap b9
  replace b10 := g3.heap b10
  replace b12 := g3.heap b12
  replace b13 := g3.heap b13
  have G := G.trans g3
  replace b4 := ((Gr.refl _).alloc (.cells #[.int .i64 X, .int .i64 Y] 23)).heap b4
  replace b5 := ((Gr.refl _).alloc (.cells #[.int .i64 X, .int .i64 Y] 23)).heap b5
  replace b9 := ((Gr.refl _).alloc (.cells #[.int .i64 X, .int .i64 Y] 23)).heap b9
  replace b10 := ((Gr.refl _).alloc (.cells #[.int .i64 X, .int .i64 Y] 23)).heap b10
  replace b12 := ((Gr.refl _).alloc (.cells #[.int .i64 X, .int .i64 Y] 23)).heap b12
  replace b13 := ((Gr.refl _).alloc (.cells #[.int .i64 X, .int .i64 Y] 23)).heap b13
  have b15 := heap_alloc_self w3 (.cells #[.int .i64 X, .int .i64 Y] 23)
  replace G := G.alloc (.cells #[.int .i64 X, .int .i64 Y] 23)
  generalize hW : (w3.alloc (.cells #[.int .i64 X, .int .i64 Y] 23)) = W4 at *
  have o4 : p4 < w3.heap.size := z4
  have o5 : p5 < w3.heap.size := z5
  have o9 : p9 < w3.heap.size := z9
  have o10 : p10 < w3.heap.size := z10
  have o12 : p12 < w3.heap.size := z12
  have o13 : p13 < w3.heap.size := z13
  have w0 : w.heap.size ≤ w3.heap.size := z0
  obtain ⟨p15, hp15⟩ : ∃ p15, w3.heap.size = p15 := ⟨_, rfl⟩
  rw [hp15] at b15
  try simp only [hp15]
  have n4_15 : ¬ p4 = p15 := by omega
  have n15_4 : ¬ p15 = p4 := by omega
  have n5_15 : ¬ p5 = p15 := by omega
  have n15_5 : ¬ p15 = p5 := by omega
  have n9_15 : ¬ p9 = p15 := by omega
  have n15_9 : ¬ p15 = p9 := by omega
  have n10_15 : ¬ p10 = p15 := by omega
  have n15_10 : ¬ p15 = p10 := by omega
  have n12_15 : ¬ p12 = p15 := by omega
  have n15_12 : ¬ p15 = p12 := by omega
  have n13_15 : ¬ p13 = p15 := by omega
  have n15_13 : ¬ p15 = p13 := by omega
  have s15 : w.heap.size ≤ p15 := by omega
  clear o4 o5 o9 o10 o12 o13 w0
  clear hp15
  clear hW
  clear z4 z5 z9 z10 z12 z13 z0
  clear g3
  refine (A4.out _).mono ?_
  rintro e w4 ⟨rfl, g4⟩
  obtain ⟨c4, f4, z4⟩ := blk_cells (g4.heap b4)
  obtain ⟨c5, f5, z5⟩ := blk_cells (g4.heap b5)
  obtain ⟨c9, f9, z9⟩ := blk_cells (g4.heap b9)
  obtain ⟨c10, f10, z10⟩ := blk_cells (g4.heap b10)
  obtain ⟨c12, f12, z12⟩ := blk_cells (g4.heap b12)
  obtain ⟨c13, f13, z13⟩ := blk_cells (g4.heap b13)
  obtain ⟨c15, f15, z15⟩ := blk_cells (g4.heap b15)
  have z0 : w.heap.size ≤ w4.heap.size := (Gr.trans G g4).b.size
  go_upto_region 5 with (fail)
  clear c4 f4 c5 f5 c9 f9 c10 f10 c12 f12 c13 f13 c15 f15
  replace b4 := g4.heap b4
  replace b5 := g4.heap b5
  replace b9 := g4.heap b9
  replace b10 := g4.heap b10
  replace b12 := g4.heap b12
  replace b13 := g4.heap b13
  replace b15 := g4.heap b15
  have G := G.trans g4
  replace b4 := ((Gr.refl _).alloc (.cells #[.int .i64 X, .int .i64 Y] 23)).heap b4
  replace b5 := ((Gr.refl _).alloc (.cells #[.int .i64 X, .int .i64 Y] 23)).heap b5
  replace b9 := ((Gr.refl _).alloc (.cells #[.int .i64 X, .int .i64 Y] 23)).heap b9
  replace b10 := ((Gr.refl _).alloc (.cells #[.int .i64 X, .int .i64 Y] 23)).heap b10
  replace b12 := ((Gr.refl _).alloc (.cells #[.int .i64 X, .int .i64 Y] 23)).heap b12
  replace b13 := ((Gr.refl _).alloc (.cells #[.int .i64 X, .int .i64 Y] 23)).heap b13
  replace b15 := ((Gr.refl _).alloc (.cells #[.int .i64 X, .int .i64 Y] 23)).heap b15
  have b17 := heap_alloc_self w4 (.cells #[.int .i64 X, .int .i64 Y] 23)
  replace G := G.alloc (.cells #[.int .i64 X, .int .i64 Y] 23)
  generalize hW : (w4.alloc (.cells #[.int .i64 X, .int .i64 Y] 23)) = W5 at *
  have o4 : p4 < w4.heap.size := z4
  have o5 : p5 < w4.heap.size := z5
  have o9 : p9 < w4.heap.size := z9
  have o10 : p10 < w4.heap.size := z10
  have o12 : p12 < w4.heap.size := z12
  have o13 : p13 < w4.heap.size := z13
  have o15 : p15 < w4.heap.size := z15
  have w0 : w.heap.size ≤ w4.heap.size := z0
  obtain ⟨p17, hp17⟩ : ∃ p17, w4.heap.size = p17 := ⟨_, rfl⟩
  rw [hp17] at b17
  try simp only [hp17]
  have n4_17 : ¬ p4 = p17 := by omega
  have n17_4 : ¬ p17 = p4 := by omega
  have n5_17 : ¬ p5 = p17 := by omega
  have n17_5 : ¬ p17 = p5 := by omega
  have n9_17 : ¬ p9 = p17 := by omega
  have n17_9 : ¬ p17 = p9 := by omega
  have n10_17 : ¬ p10 = p17 := by omega
  have n17_10 : ¬ p17 = p10 := by omega
  have n12_17 : ¬ p12 = p17 := by omega
  have n17_12 : ¬ p17 = p12 := by omega
  have n13_17 : ¬ p13 = p17 := by omega
  have n17_13 : ¬ p17 = p13 := by omega
  have n15_17 : ¬ p15 = p17 := by omega
  have n17_15 : ¬ p17 = p15 := by omega
  have s17 : w.heap.size ≤ p17 := by omega
  clear o4 o5 o9 o10 o12 o13 o15 w0
  clear hp17
  clear hW
  clear z4 z5 z9 z10 z12 z13 z15 z0
  clear g4
  obtain ⟨c4, f4, z4⟩ := blk_cells b4
  obtain ⟨c5, f5, z5⟩ := blk_cells b5
  obtain ⟨c9, f9, z9⟩ := blk_cells b9
  obtain ⟨c10, f10, z10⟩ := blk_cells b10
  obtain ⟨c12, f12, z12⟩ := blk_cells b12
  obtain ⟨c13, f13, z13⟩ := blk_cells b13
  obtain ⟨c15, f15, z15⟩ := blk_cells b15
  obtain ⟨c17, f17, z17⟩ := blk_cells b17
  refine wp_region_plan [.val (fr (N) (D)), .val (fr (N) (D)), .val (.bool false), .val (.bool false), .val (fr (N') (D')), .val (fr (N') (D')), .val (.bool false), .val (.bool false), .val (.bool false), .val (.int .i64 (E)), .val (.int .i64 (E)), .val (.bool false), .val (.bool false), .val (.bool false), .val (fr (X) (Y)), .val (fr (X) (Y)), .val (.bool false), .val (.bool false), .val (.bool false), .val (.int .i64 (E')), .val (.int .i64 (E')), .val (.bool false), .val (.bool false), .val (.bool false), .val (ru a b c d), .val (.int .i64 (R)), .val (ru a b c d), .val (.int .i64 (R)), .val (.bool false), .val (.bool false)] (by kernel_rfl) (by kernel_rfl) (fun G => by first | (simp only [finAct, Act.put, Plan.value, List.setIfInBounds_toArray, List.set_cons_zero, List.set_cons_succ]; rfl) | (simp only [finAct, Act.put, Plan.value, List.setIfInBounds_toArray, List.set_cons_zero, List.set_cons_succ, Nat.zero_add, Nat.reduceAdd]; rfl)) ?_ ?_
  · refine ⟨?_, ?_, ?_, ?_, ?_, ?_, ?_, ?_, ?_, ?_, ?_, ?_, ?_, ?_, ?_, ?_, ?_, ?_, ?_, ?_, ?_, ?_, ?_, ?_, ?_, ?_, ?_, ?_, ?_, ?_, trivial⟩ <;> (first | exact trivial | (intro G; first | (refine ⟨by kernel_rfl, fun u hu => ?_⟩; obtain ⟨hc, hf, hz⟩ := hu.cells; go_simp; first | exact ⟨rfl, Gr.refl _⟩ | skip) | (refine ⟨by kernel_rfl, fun u T z hu hG hj hb => ?_⟩; cases hj; obtain ⟨hbc, hbf, hbz⟩ := blk_cells hb; first | (refine ⟨_, ?_, ((GrL.of_gr (Gr.refl _)).set _ _ (Or.inr (by simp))).set _ _ (Or.inr (by simp)), put_two hb⟩; go_simp; done) | (refine ⟨_, ?_, (GrL.of_gr (Gr.refl _)).set _ _ (Or.inr (by simp)), put_one hb⟩; go_simp; done)) | (refine ⟨by kernel_rfl, fun u => ?_⟩; go_simp; done) | (show _ = false; kernel_rfl)))
    · exact A5.out _
    · exact A6.out _
  intro _ U5 hg _ _
  clear c4 f4 z4 c5 f5 z5 c9 f9 z9 c10 f10 z10 c12 f12 z12 c13 f13 z13 c15 f15 z15 c17 f17 z17
  replace b4 := hg.heap b4
  replace b5 := hg.heap b5
  replace b9 := hg.heap b9
  replace b10 := hg.heap b10
  replace b12 := hg.heap b12
  replace b13 := hg.heap b13
  replace b15 := hg.heap b15
  replace b17 := hg.heap b17
  have G := G.trans hg
  clear hg
  obtain ⟨c4, f4, z4⟩ := blk_cells b4
  obtain ⟨c5, f5, z5⟩ := blk_cells b5
  obtain ⟨c9, f9, z9⟩ := blk_cells b9
  obtain ⟨c10, f10, z10⟩ := blk_cells b10
  obtain ⟨c12, f12, z12⟩ := blk_cells b12
  obtain ⟨c13, f13, z13⟩ := blk_cells b13
  obtain ⟨c15, f15, z15⟩ := blk_cells b15
  obtain ⟨c17, f17, z17⟩ := blk_cells b17
  go_wp2_with fail
  clear c4 f4 z4 c5 f5 z5 c9 f9 z9 c10 f10 z10 c12 f12 z12 c13 f13 z13 c15 f15 z15 c17 f17 z17
  refine (A7.out _).mono ?_
  rintro e w5 ⟨rfl, g5⟩
  obtain ⟨c4, f4, z4⟩ := blk_cells (g5.heap b4)
  obtain ⟨c5, f5, z5⟩ := blk_cells (g5.heap b5)
  obtain ⟨c9, f9, z9⟩ := blk_cells (g5.heap b9)
  obtain ⟨c10, f10, z10⟩ := blk_cells (g5.heap b10)
  obtain ⟨c12, f12, z12⟩ := blk_cells (g5.heap b12)
  obtain ⟨c13, f13, z13⟩ := blk_cells (g5.heap b13)
  obtain ⟨c15, f15, z15⟩ := blk_cells (g5.heap b15)
  obtain ⟨c17, f17, z17⟩ := blk_cells (g5.heap b17)
  have z0 : w.heap.size ≤ w5.heap.size := (Gr.trans G g5).b.size
  go_wp2_with fail
  clear c4 f4 c5 f5 c9 f9 c10 f10 c12 f12 c13 f13 c15 f15 c17 f17
  replace b4 := g5.heap b4
  replace b5 := g5.heap b5
  replace b9 := g5.heap b9
  replace b10 := g5.heap b10
  replace b12 := g5.heap b12
  replace b13 := g5.heap b13
  replace b15 := g5.heap b15
  replace b17 := g5.heap b17
  have G := G.trans g5
  replace b4 := ((Gr.refl _).alloc (.cells #[.int .i64 t1, .int .i64 t2, .int .i64 t3, .int .i64 t4] 34)).heap b4
  replace b5 := ((Gr.refl _).alloc (.cells #[.int .i64 t1, .int .i64 t2, .int .i64 t3, .int .i64 t4] 34)).heap b5
  replace b9 := ((Gr.refl _).alloc (.cells #[.int .i64 t1, .int .i64 t2, .int .i64 t3, .int .i64 t4] 34)).heap b9
  replace b10 := ((Gr.refl _).alloc (.cells #[.int .i64 t1, .int .i64 t2, .int .i64 t3, .int .i64 t4] 34)).heap b10
  replace b12 := ((Gr.refl _).alloc (.cells #[.int .i64 t1, .int .i64 t2, .int .i64 t3, .int .i64 t4] 34)).heap b12
  replace b13 := ((Gr.refl _).alloc (.cells #[.int .i64 t1, .int .i64 t2, .int .i64 t3, .int .i64 t4] 34)).heap b13
  replace b15 := ((Gr.refl _).alloc (.cells #[.int .i64 t1, .int .i64 t2, .int .i64 t3, .int .i64 t4] 34)).heap b15
  replace b17 := ((Gr.refl _).alloc (.cells #[.int .i64 t1, .int .i64 t2, .int .i64 t3, .int .i64 t4] 34)).heap b17
  have b19 := heap_alloc_self w5 (.cells #[.int .i64 t1, .int .i64 t2, .int .i64 t3, .int .i64 t4] 34)
  replace G := G.alloc (.cells #[.int .i64 t1, .int .i64 t2, .int .i64 t3, .int .i64 t4] 34)
  generalize hW : (w5.alloc (.cells #[.int .i64 t1, .int .i64 t2, .int .i64 t3, .int .i64 t4] 34)) = W7 at *
  have o4 : p4 < w5.heap.size := z4
  have o5 : p5 < w5.heap.size := z5
  have o9 : p9 < w5.heap.size := z9
  have o10 : p10 < w5.heap.size := z10
  have o12 : p12 < w5.heap.size := z12
  have o13 : p13 < w5.heap.size := z13
  have o15 : p15 < w5.heap.size := z15
  have o17 : p17 < w5.heap.size := z17
  have w0 : w.heap.size ≤ w5.heap.size := z0
  obtain ⟨p19, hp19⟩ : ∃ p19, w5.heap.size = p19 := ⟨_, rfl⟩
  rw [hp19] at b19
  try simp only [hp19]
  have n4_19 : ¬ p4 = p19 := by omega
  have n19_4 : ¬ p19 = p4 := by omega
  have n5_19 : ¬ p5 = p19 := by omega
  have n19_5 : ¬ p19 = p5 := by omega
  have n9_19 : ¬ p9 = p19 := by omega
  have n19_9 : ¬ p19 = p9 := by omega
  have n10_19 : ¬ p10 = p19 := by omega
  have n19_10 : ¬ p19 = p10 := by omega
  have n12_19 : ¬ p12 = p19 := by omega
  have n19_12 : ¬ p19 = p12 := by omega
  have n13_19 : ¬ p13 = p19 := by omega
  have n19_13 : ¬ p19 = p13 := by omega
  have n15_19 : ¬ p15 = p19 := by omega
  have n19_15 : ¬ p19 = p15 := by omega
  have n17_19 : ¬ p17 = p19 := by omega
  have n19_17 : ¬ p19 = p17 := by omega
  have s19 : w.heap.size ≤ p19 := by omega
  clear o4 o5 o9 o10 o12 o13 o15 o17 w0
  clear hp19
  clear hW
  clear z4 z5 z9 z10 z12 z13 z15 z17 z0
  clear g5
  refine (A8.out _).mono ?_
  rintro e w6 ⟨rfl, g6⟩
  obtain ⟨c4, f4, z4⟩ := blk_cells (g6.heap b4)
  obtain ⟨c5, f5, z5⟩ := blk_cells (g6.heap b5)
  obtain ⟨c9, f9, z9⟩ := blk_cells (g6.heap b9)
  obtain ⟨c10, f10, z10⟩ := blk_cells (g6.heap b10)
  obtain ⟨c12, f12, z12⟩ := blk_cells (g6.heap b12)
  obtain ⟨c13, f13, z13⟩ := blk_cells (g6.heap b13)
  obtain ⟨c15, f15, z15⟩ := blk_cells (g6.heap b15)
  obtain ⟨c17, f17, z17⟩ := blk_cells (g6.heap b17)
  obtain ⟨c19, f19, z19⟩ := blk_cells (g6.heap b19)
  have z0 : w.heap.size ≤ w6.heap.size := (Gr.trans G g6).b.size
  go_wp2_with fail
  clear c4 f4 c5 f5 c9 f9 c10 f10 c12 f12 c13 f13 c15 f15 c17 f17 c19 f19
  replace b4 := g6.heap b4
  replace b5 := g6.heap b5
  replace b9 := g6.heap b9
  replace b10 := g6.heap b10
  replace b12 := g6.heap b12
  replace b13 := g6.heap b13
  replace b15 := g6.heap b15
  replace b17 := g6.heap b17
  replace b19 := g6.heap b19
  have G := G.trans g6
  replace b4 := ((Gr.refl _).alloc (.cells #[.int .i64 t1, .int .i64 t2, .int .i64 t3, .int .i64 t4] 34)).heap b4
  replace b5 := ((Gr.refl _).alloc (.cells #[.int .i64 t1, .int .i64 t2, .int .i64 t3, .int .i64 t4] 34)).heap b5
  replace b9 := ((Gr.refl _).alloc (.cells #[.int .i64 t1, .int .i64 t2, .int .i64 t3, .int .i64 t4] 34)).heap b9
  replace b10 := ((Gr.refl _).alloc (.cells #[.int .i64 t1, .int .i64 t2, .int .i64 t3, .int .i64 t4] 34)).heap b10
  replace b12 := ((Gr.refl _).alloc (.cells #[.int .i64 t1, .int .i64 t2, .int .i64 t3, .int .i64 t4] 34)).heap b12
  replace b13 := ((Gr.refl _).alloc (.cells #[.int .i64 t1, .int .i64 t2, .int .i64 t3, .int .i64 t4] 34)).heap b13
  replace b15 := ((Gr.refl _).alloc (.cells #[.int .i64 t1, .int .i64 t2, .int .i64 t3, .int .i64 t4] 34)).heap b15
  replace b17 := ((Gr.refl _).alloc (.cells #[.int .i64 t1, .int .i64 t2, .int .i64 t3, .int .i64 t4] 34)).heap b17
  replace b19 := ((Gr.refl _).alloc (.cells #[.int .i64 t1, .int .i64 t2, .int .i64 t3, .int .i64 t4] 34)).heap b19
  have b20 := heap_alloc_self w6 (.cells #[.int .i64 t1, .int .i64 t2, .int .i64 t3, .int .i64 t4] 34)
  replace G := G.alloc (.cells #[.int .i64 t1, .int .i64 t2, .int .i64 t3, .int .i64 t4] 34)
  generalize hW : (w6.alloc (.cells #[.int .i64 t1, .int .i64 t2, .int .i64 t3, .int .i64 t4] 34)) = W8 at *
  have o4 : p4 < w6.heap.size := z4
  have o5 : p5 < w6.heap.size := z5
  have o9 : p9 < w6.heap.size := z9
  have o10 : p10 < w6.heap.size := z10
  have o12 : p12 < w6.heap.size := z12
  have o13 : p13 < w6.heap.size := z13
  have o15 : p15 < w6.heap.size := z15
  have o17 : p17 < w6.heap.size := z17
  have o19 : p19 < w6.heap.size := z19
  have w0 : w.heap.size ≤ w6.heap.size := z0
  obtain ⟨p20, hp20⟩ : ∃ p20, w6.heap.size = p20 := ⟨_, rfl⟩
  rw [hp20] at b20
  try simp only [hp20]
  have n4_20 : ¬ p4 = p20 := by omega
  have n20_4 : ¬ p20 = p4 := by omega
  have n5_20 : ¬ p5 = p20 := by omega
  have n20_5 : ¬ p20 = p5 := by omega
  have n9_20 : ¬ p9 = p20 := by omega
  have n20_9 : ¬ p20 = p9 := by omega
  have n10_20 : ¬ p10 = p20 := by omega
  have n20_10 : ¬ p20 = p10 := by omega
  have n12_20 : ¬ p12 = p20 := by omega
  have n20_12 : ¬ p20 = p12 := by omega
  have n13_20 : ¬ p13 = p20 := by omega
  have n20_13 : ¬ p20 = p13 := by omega
  have n15_20 : ¬ p15 = p20 := by omega
  have n20_15 : ¬ p20 = p15 := by omega
  have n17_20 : ¬ p17 = p20 := by omega
  have n20_17 : ¬ p20 = p17 := by omega
  have n19_20 : ¬ p19 = p20 := by omega
  have n20_19 : ¬ p20 = p19 := by omega
  have s20 : w.heap.size ≤ p20 := by omega
  clear o4 o5 o9 o10 o12 o13 o15 o17 o19 w0
  clear hp20
  clear hW
  clear z4 z5 z9 z10 z12 z13 z15 z17 z19 z0
  clear g6
  refine (A9.out _).mono ?_
  rintro e w7 ⟨rfl, g7⟩
  obtain ⟨c4, f4, z4⟩ := blk_cells (g7.heap b4)
  obtain ⟨c5, f5, z5⟩ := blk_cells (g7.heap b5)
  obtain ⟨c9, f9, z9⟩ := blk_cells (g7.heap b9)
  obtain ⟨c10, f10, z10⟩ := blk_cells (g7.heap b10)
  obtain ⟨c12, f12, z12⟩ := blk_cells (g7.heap b12)
  obtain ⟨c13, f13, z13⟩ := blk_cells (g7.heap b13)
  obtain ⟨c15, f15, z15⟩ := blk_cells (g7.heap b15)
  obtain ⟨c17, f17, z17⟩ := blk_cells (g7.heap b17)
  obtain ⟨c19, f19, z19⟩ := blk_cells (g7.heap b19)
  obtain ⟨c20, f20, z20⟩ := blk_cells (g7.heap b20)
  have z0 : w.heap.size ≤ w7.heap.size := (Gr.trans G g7).b.size
  go_wp2_with fail
  clear c4 f4 c5 f5 c9 f9 c10 f10 c12 f12 c13 f13 c15 f15 c17 f17 c19 f19 c20 f20
  replace b4 := g7.heap b4
  replace b5 := g7.heap b5
  replace b9 := g7.heap b9
  replace b10 := g7.heap b10
  replace b12 := g7.heap b12
  replace b13 := g7.heap b13
  replace b15 := g7.heap b15
  replace b17 := g7.heap b17
  replace b19 := g7.heap b19
  replace b20 := g7.heap b20
  have G := G.trans g7
  replace b4 := ((Gr.refl _).alloc (.cells #[.int .i64 q1, .int .i64 q2, .int .i64 q3, .int .i64 q4] 34)).heap b4
  replace b5 := ((Gr.refl _).alloc (.cells #[.int .i64 q1, .int .i64 q2, .int .i64 q3, .int .i64 q4] 34)).heap b5
  replace b9 := ((Gr.refl _).alloc (.cells #[.int .i64 q1, .int .i64 q2, .int .i64 q3, .int .i64 q4] 34)).heap b9
  replace b10 := ((Gr.refl _).alloc (.cells #[.int .i64 q1, .int .i64 q2, .int .i64 q3, .int .i64 q4] 34)).heap b10
  replace b12 := ((Gr.refl _).alloc (.cells #[.int .i64 q1, .int .i64 q2, .int .i64 q3, .int .i64 q4] 34)).heap b12
  replace b13 := ((Gr.refl _).alloc (.cells #[.int .i64 q1, .int .i64 q2, .int .i64 q3, .int .i64 q4] 34)).heap b13
  replace b15 := ((Gr.refl _).alloc (.cells #[.int .i64 q1, .int .i64 q2, .int .i64 q3, .int .i64 q4] 34)).heap b15
  replace b17 := ((Gr.refl _).alloc (.cells #[.int .i64 q1, .int .i64 q2, .int .i64 q3, .int .i64 q4] 34)).heap b17
  replace b19 := ((Gr.refl _).alloc (.cells #[.int .i64 q1, .int .i64 q2, .int .i64 q3, .int .i64 q4] 34)).heap b19
  replace b20 := ((Gr.refl _).alloc (.cells #[.int .i64 q1, .int .i64 q2, .int .i64 q3, .int .i64 q4] 34)).heap b20
  have b21 := heap_alloc_self w7 (.cells #[.int .i64 q1, .int .i64 q2, .int .i64 q3, .int .i64 q4] 34)
  replace G := G.alloc (.cells #[.int .i64 q1, .int .i64 q2, .int .i64 q3, .int .i64 q4] 34)
  generalize hW : (w7.alloc (.cells #[.int .i64 q1, .int .i64 q2, .int .i64 q3, .int .i64 q4] 34)) = W9 at *
  have o4 : p4 < w7.heap.size := z4
  have o5 : p5 < w7.heap.size := z5
  have o9 : p9 < w7.heap.size := z9
  have o10 : p10 < w7.heap.size := z10
  have o12 : p12 < w7.heap.size := z12
  have o13 : p13 < w7.heap.size := z13
  have o15 : p15 < w7.heap.size := z15
  have o17 : p17 < w7.heap.size := z17
  have o19 : p19 < w7.heap.size := z19
  have o20 : p20 < w7.heap.size := z20
  have w0 : w.heap.size ≤ w7.heap.size := z0
  obtain ⟨p21, hp21⟩ : ∃ p21, w7.heap.size = p21 := ⟨_, rfl⟩
  rw [hp21] at b21
  try simp only [hp21]
  have n4_21 : ¬ p4 = p21 := by omega
  have n21_4 : ¬ p21 = p4 := by omega
  have n5_21 : ¬ p5 = p21 := by omega
  have n21_5 : ¬ p21 = p5 := by omega
  have n9_21 : ¬ p9 = p21 := by omega
  have n21_9 : ¬ p21 = p9 := by omega
  have n10_21 : ¬ p10 = p21 := by omega
  have n21_10 : ¬ p21 = p10 := by omega
  have n12_21 : ¬ p12 = p21 := by omega
  have n21_12 : ¬ p21 = p12 := by omega
  have n13_21 : ¬ p13 = p21 := by omega
  have n21_13 : ¬ p21 = p13 := by omega
  have n15_21 : ¬ p15 = p21 := by omega
  have n21_15 : ¬ p21 = p15 := by omega
  have n17_21 : ¬ p17 = p21 := by omega
  have n21_17 : ¬ p21 = p17 := by omega
  have n19_21 : ¬ p19 = p21 := by omega
  have n21_19 : ¬ p21 = p19 := by omega
  have n20_21 : ¬ p20 = p21 := by omega
  have n21_20 : ¬ p21 = p20 := by omega
  have s21 : w.heap.size ≤ p21 := by omega
  clear o4 o5 o9 o10 o12 o13 o15 o17 o19 o20 w0
  clear hp21
  clear hW
  clear z4 z5 z9 z10 z12 z13 z15 z17 z19 z20 z0
  clear g7
  refine (A10.out _).mono ?_
  rintro e w8 ⟨rfl, g8⟩
  obtain ⟨c4, f4, z4⟩ := blk_cells (g8.heap b4)
  obtain ⟨c5, f5, z5⟩ := blk_cells (g8.heap b5)
  obtain ⟨c9, f9, z9⟩ := blk_cells (g8.heap b9)
  obtain ⟨c10, f10, z10⟩ := blk_cells (g8.heap b10)
  obtain ⟨c12, f12, z12⟩ := blk_cells (g8.heap b12)
  obtain ⟨c13, f13, z13⟩ := blk_cells (g8.heap b13)
  obtain ⟨c15, f15, z15⟩ := blk_cells (g8.heap b15)
  obtain ⟨c17, f17, z17⟩ := blk_cells (g8.heap b17)
  obtain ⟨c19, f19, z19⟩ := blk_cells (g8.heap b19)
  obtain ⟨c20, f20, z20⟩ := blk_cells (g8.heap b20)
  obtain ⟨c21, f21, z21⟩ := blk_cells (g8.heap b21)
  have z0 : w.heap.size ≤ w8.heap.size := (Gr.trans G g8).b.size
  go_wp2_with fail
  clear c4 f4 c5 f5 c9 f9 c10 f10 c12 f12 c13 f13 c15 f15 c17 f17 c19 f19 c20 f20 c21 f21
  replace b4 := g8.heap b4
  replace b5 := g8.heap b5
  replace b9 := g8.heap b9
  replace b10 := g8.heap b10
  replace b12 := g8.heap b12
  replace b13 := g8.heap b13
  replace b15 := g8.heap b15
  replace b17 := g8.heap b17
  replace b19 := g8.heap b19
  replace b20 := g8.heap b20
  replace b21 := g8.heap b21
  have G := G.trans g8
  replace b4 := ((Gr.refl _).alloc (.cells #[.int .i64 q1, .int .i64 q2, .int .i64 q3, .int .i64 q4] 34)).heap b4
  replace b5 := ((Gr.refl _).alloc (.cells #[.int .i64 q1, .int .i64 q2, .int .i64 q3, .int .i64 q4] 34)).heap b5
  replace b9 := ((Gr.refl _).alloc (.cells #[.int .i64 q1, .int .i64 q2, .int .i64 q3, .int .i64 q4] 34)).heap b9
  replace b10 := ((Gr.refl _).alloc (.cells #[.int .i64 q1, .int .i64 q2, .int .i64 q3, .int .i64 q4] 34)).heap b10
  replace b12 := ((Gr.refl _).alloc (.cells #[.int .i64 q1, .int .i64 q2, .int .i64 q3, .int .i64 q4] 34)).heap b12
  replace b13 := ((Gr.refl _).alloc (.cells #[.int .i64 q1, .int .i64 q2, .int .i64 q3, .int .i64 q4] 34)).heap b13
  replace b15 := ((Gr.refl _).alloc (.cells #[.int .i64 q1, .int .i64 q2, .int .i64 q3, .int .i64 q4] 34)).heap b15
  replace b17 := ((Gr.refl _).alloc (.cells #[.int .i64 q1, .int .i64 q2, .int .i64 q3, .int .i64 q4] 34)).heap b17
  replace b19 := ((Gr.refl _).alloc (.cells #[.int .i64 q1, .int .i64 q2, .int .i64 q3, .int .i64 q4] 34)).heap b19
  replace b20 := ((Gr.refl _).alloc (.cells #[.int .i64 q1, .int .i64 q2, .int .i64 q3, .int .i64 q4] 34)).heap b20
  replace b21 := ((Gr.refl _).alloc (.cells #[.int .i64 q1, .int .i64 q2, .int .i64 q3, .int .i64 q4] 34)).heap b21
  have b22 := heap_alloc_self w8 (.cells #[.int .i64 q1, .int .i64 q2, .int .i64 q3, .int .i64 q4] 34)
  replace G := G.alloc (.cells #[.int .i64 q1, .int .i64 q2, .int .i64 q3, .int .i64 q4] 34)
  generalize hW : (w8.alloc (.cells #[.int .i64 q1, .int .i64 q2, .int .i64 q3, .int .i64 q4] 34)) = W10 at *
  have o4 : p4 < w8.heap.size := z4
  have o5 : p5 < w8.heap.size := z5
  have o9 : p9 < w8.heap.size := z9
  have o10 : p10 < w8.heap.size := z10
  have o12 : p12 < w8.heap.size := z12
  have o13 : p13 < w8.heap.size := z13
  have o15 : p15 < w8.heap.size := z15
  have o17 : p17 < w8.heap.size := z17
  have o19 : p19 < w8.heap.size := z19
  have o20 : p20 < w8.heap.size := z20
  have o21 : p21 < w8.heap.size := z21
  have w0 : w.heap.size ≤ w8.heap.size := z0
  obtain ⟨p22, hp22⟩ : ∃ p22, w8.heap.size = p22 := ⟨_, rfl⟩
  rw [hp22] at b22
  try simp only [hp22]
  have n4_22 : ¬ p4 = p22 := by omega
  have n22_4 : ¬ p22 = p4 := by omega
  have n5_22 : ¬ p5 = p22 := by omega
  have n22_5 : ¬ p22 = p5 := by omega
  have n9_22 : ¬ p9 = p22 := by omega
  have n22_9 : ¬ p22 = p9 := by omega
  have n10_22 : ¬ p10 = p22 := by omega
  have n22_10 : ¬ p22 = p10 := by omega
  have n12_22 : ¬ p12 = p22 := by omega
  have n22_12 : ¬ p22 = p12 := by omega
  have n13_22 : ¬ p13 = p22 := by omega
  have n22_13 : ¬ p22 = p13 := by omega
  have n15_22 : ¬ p15 = p22 := by omega
  have n22_15 : ¬ p22 = p15 := by omega
  have n17_22 : ¬ p17 = p22 := by omega
  have n22_17 : ¬ p22 = p17 := by omega
  have n19_22 : ¬ p19 = p22 := by omega
  have n22_19 : ¬ p22 = p19 := by omega
  have n20_22 : ¬ p20 = p22 := by omega
  have n22_20 : ¬ p22 = p20 := by omega
  have n21_22 : ¬ p21 = p22 := by omega
  have n22_21 : ¬ p22 = p21 := by omega
  have s22 : w.heap.size ≤ p22 := by omega
  clear o4 o5 o9 o10 o12 o13 o15 o17 o19 o20 o21 w0
  clear hp22
  clear hW
  clear z4 z5 z9 z10 z12 z13 z15 z17 z19 z20 z21 z0
  clear g8
  refine (alive_any _ (HT.out.gr G)).mono ?_
  rintro e wz ⟨rfl, gz⟩
  obtain ⟨c4, f4, z4⟩ := blk_cells (gz.heap b4)
  obtain ⟨c5, f5, z5⟩ := blk_cells (gz.heap b5)
  obtain ⟨c9, f9, z9⟩ := blk_cells (gz.heap b9)
  obtain ⟨c10, f10, z10⟩ := blk_cells (gz.heap b10)
  obtain ⟨c12, f12, z12⟩ := blk_cells (gz.heap b12)
  obtain ⟨c13, f13, z13⟩ := blk_cells (gz.heap b13)
  obtain ⟨c15, f15, z15⟩ := blk_cells (gz.heap b15)
  obtain ⟨c17, f17, z17⟩ := blk_cells (gz.heap b17)
  obtain ⟨c19, f19, z19⟩ := blk_cells (gz.heap b19)
  obtain ⟨c20, f20, z20⟩ := blk_cells (gz.heap b20)
  obtain ⟨c21, f21, z21⟩ := blk_cells (gz.heap b21)
  obtain ⟨c22, f22, z22⟩ := blk_cells (gz.heap b22)
  go_wp2
  go_ret
  exact ⟨rfl, G.trans gz⟩
end Go.Proofs.YtconhikflghkdaaDoor
