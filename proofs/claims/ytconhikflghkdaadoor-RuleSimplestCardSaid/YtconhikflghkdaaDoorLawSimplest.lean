/- stricklelaw01.RuleSimplest. -/
import Derived.Test.YtconhikflghkdaaDoorAlive
import Derived.Test.YtconhikflghkdaaDoorCheckW
import Derived.Test.YtconhikflghkdaaDoorRefD
namespace Go.Proofs.YtconhikflghkdaaDoor
open Go.RowKit Go.Shelf
set_option maxRecDepth 100000 in
set_option maxHeartbeats 8000000 in
theorem RuleSimplest_any (a b c d n e : Int) (w : World) (ht : Tab w) : Calls Tryd.prog 11 #[fr a b, fr c d, fr n e] w fun e w' => e = .returned (.bool true) ∧ Gr w w' := by
  have HT := Lib.hid ht
  clear ht
  have A1 := Lib.hid (Simplest_any a b c d)
  have A2 := Lib.hid (rSimplest_any a b c d)
  have A3 := Lib.hid (CheckSimplest_any a b c d n e)
  have A4 := Lib.hid (rCheckSimplest_any a b c d n e)
  generalize smN a b c d = N at *
  generalize smD a b c d = D at *
  generalize rgE a b c d = E at *
  generalize csE a b c d n e = E' at *
  generalize csB a b c d n e = B at *
  cases B
  · go_enter Tryd.func11, Tryd.ntmps11
    go_wp2_with fail
    have G := Gr.refl w
    have b3 := heap_alloc_self w (.cells #[.int .i64 a, .int .i64 b] 23)
    replace G := G.alloc (.cells #[.int .i64 a, .int .i64 b] 23)
    replace b3 := ((Gr.refl _).alloc (.cells #[.int .i64 c, .int .i64 d] 23)).heap b3
    have b4 := heap_alloc_self (w.alloc (.cells #[.int .i64 a, .int .i64 b] 23)) (.cells #[.int .i64 c, .int .i64 d] 23)
    replace G := G.alloc (.cells #[.int .i64 c, .int .i64 d] 23)
    replace b3 := ((Gr.refl _).alloc (.cells #[.int .i64 n, .int .i64 e] 23)).heap b3
    replace b4 := ((Gr.refl _).alloc (.cells #[.int .i64 n, .int .i64 e] 23)).heap b4
    have b5 := heap_alloc_self ((w.alloc (.cells #[.int .i64 a, .int .i64 b] 23)).alloc (.cells #[.int .i64 c, .int .i64 d] 23)) (.cells #[.int .i64 n, .int .i64 e] 23)
    replace G := G.alloc (.cells #[.int .i64 n, .int .i64 e] 23)
    generalize hW : (((w.alloc (.cells #[.int .i64 a, .int .i64 b] 23)).alloc (.cells #[.int .i64 c, .int .i64 d] 23)).alloc (.cells #[.int .i64 n, .int .i64 e] 23)) = W1 at *
    simp only [World.size_alloc] at b4
    simp only [World.size_alloc] at b5
    have w0 : w.heap.size ≤ w.heap.size := Nat.le_refl _
    obtain ⟨p5, hp5⟩ : ∃ p5, w.heap.size + 1 + 1 = p5 := ⟨_, rfl⟩
    obtain ⟨p4, hp4⟩ : ∃ p4, w.heap.size + 1 = p4 := ⟨_, rfl⟩
    obtain ⟨p3, hp3⟩ : ∃ p3, w.heap.size = p3 := ⟨_, rfl⟩
    rw [hp5] at b5
    rw [hp4] at b4
    rw [hp3] at b3
    try simp only [hp5]
    try simp only [hp4]
    try simp only [hp3]
    have s3 : w.heap.size ≤ p3 := by omega
    have n3_4 : ¬ p3 = p4 := by omega
    have n4_3 : ¬ p4 = p3 := by omega
    have s4 : w.heap.size ≤ p4 := by omega
    have n3_5 : ¬ p3 = p5 := by omega
    have n5_3 : ¬ p5 = p3 := by omega
    have n4_5 : ¬ p4 = p5 := by omega
    have n5_4 : ¬ p5 = p4 := by omega
    have s5 : w.heap.size ≤ p5 := by omega
    clear  w0
    clear hp3
    clear hp4
    clear hp5
    clear hW
    refine (A1.out _).mono ?_
    rintro e w1 ⟨rfl, g1⟩
    obtain ⟨c3, f3, z3⟩ := blk_cells (g1.heap b3)
    obtain ⟨c4, f4, z4⟩ := blk_cells (g1.heap b4)
    obtain ⟨c5, f5, z5⟩ := blk_cells (g1.heap b5)
    have z0 : w.heap.size ≤ w1.heap.size := (Gr.trans G g1).b.size
    go_wp2_with fail
    clear c3 f3 c4 f4 c5 f5
    replace b3 := g1.heap b3
    replace b4 := g1.heap b4
    replace b5 := g1.heap b5
    have G := G.trans g1
    replace b3 := ((Gr.refl _).alloc (.cells #[.int .i64 N, .int .i64 D] 23)).heap b3
    replace b4 := ((Gr.refl _).alloc (.cells #[.int .i64 N, .int .i64 D] 23)).heap b4
    replace b5 := ((Gr.refl _).alloc (.cells #[.int .i64 N, .int .i64 D] 23)).heap b5
    have b6 := heap_alloc_self w1 (.cells #[.int .i64 N, .int .i64 D] 23)
    replace G := G.alloc (.cells #[.int .i64 N, .int .i64 D] 23)
    generalize hW : (w1.alloc (.cells #[.int .i64 N, .int .i64 D] 23)) = W2 at *
    have o3 : p3 < w1.heap.size := z3
    have o4 : p4 < w1.heap.size := z4
    have o5 : p5 < w1.heap.size := z5
    have w0 : w.heap.size ≤ w1.heap.size := z0
    obtain ⟨p6, hp6⟩ : ∃ p6, w1.heap.size = p6 := ⟨_, rfl⟩
    rw [hp6] at b6
    try simp only [hp6]
    have n3_6 : ¬ p3 = p6 := by omega
    have n6_3 : ¬ p6 = p3 := by omega
    have n4_6 : ¬ p4 = p6 := by omega
    have n6_4 : ¬ p6 = p4 := by omega
    have n5_6 : ¬ p5 = p6 := by omega
    have n6_5 : ¬ p6 = p5 := by omega
    have s6 : w.heap.size ≤ p6 := by omega
    clear o3 o4 o5 w0
    clear hp6
    clear hW
    clear z3 z4 z5 z0
    clear g1
    refine (A2.out _).mono ?_
    rintro e w2 ⟨rfl, g2⟩
    obtain ⟨c3, f3, z3⟩ := blk_cells (g2.heap b3)
    obtain ⟨c4, f4, z4⟩ := blk_cells (g2.heap b4)
    obtain ⟨c5, f5, z5⟩ := blk_cells (g2.heap b5)
    obtain ⟨c6, f6, z6⟩ := blk_cells (g2.heap b6)
    have z0 : w.heap.size ≤ w2.heap.size := (Gr.trans G g2).b.size
    go_wp2_with fail
    clear c3 f3 c4 f4 c5 f5 c6 f6
    replace b3 := g2.heap b3
    replace b4 := g2.heap b4
    replace b5 := g2.heap b5
    replace b6 := g2.heap b6
    have G := G.trans g2
    replace b3 := ((Gr.refl _).alloc (.cells #[.int .i64 N, .int .i64 D] 23)).heap b3
    replace b4 := ((Gr.refl _).alloc (.cells #[.int .i64 N, .int .i64 D] 23)).heap b4
    replace b5 := ((Gr.refl _).alloc (.cells #[.int .i64 N, .int .i64 D] 23)).heap b5
    replace b6 := ((Gr.refl _).alloc (.cells #[.int .i64 N, .int .i64 D] 23)).heap b6
    have b8 := heap_alloc_self w2 (.cells #[.int .i64 N, .int .i64 D] 23)
    replace G := G.alloc (.cells #[.int .i64 N, .int .i64 D] 23)
    generalize hW : (w2.alloc (.cells #[.int .i64 N, .int .i64 D] 23)) = W3 at *
    have o3 : p3 < w2.heap.size := z3
    have o4 : p4 < w2.heap.size := z4
    have o5 : p5 < w2.heap.size := z5
    have o6 : p6 < w2.heap.size := z6
    have w0 : w.heap.size ≤ w2.heap.size := z0
    obtain ⟨p8, hp8⟩ : ∃ p8, w2.heap.size = p8 := ⟨_, rfl⟩
    rw [hp8] at b8
    try simp only [hp8]
    have n3_8 : ¬ p3 = p8 := by omega
    have n8_3 : ¬ p8 = p3 := by omega
    have n4_8 : ¬ p4 = p8 := by omega
    have n8_4 : ¬ p8 = p4 := by omega
    have n5_8 : ¬ p5 = p8 := by omega
    have n8_5 : ¬ p8 = p5 := by omega
    have n6_8 : ¬ p6 = p8 := by omega
    have n8_6 : ¬ p8 = p6 := by omega
    have s8 : w.heap.size ≤ p8 := by omega
    clear o3 o4 o5 o6 w0
    clear hp8
    clear hW
    clear z3 z4 z5 z6 z0
    clear g2
    refine (A3.out _).mono ?_
    rintro e w3 ⟨rfl, g3⟩
    obtain ⟨c3, f3, z3⟩ := blk_cells (g3.heap b3)
    obtain ⟨c4, f4, z4⟩ := blk_cells (g3.heap b4)
    obtain ⟨c5, f5, z5⟩ := blk_cells (g3.heap b5)
    obtain ⟨c6, f6, z6⟩ := blk_cells (g3.heap b6)
    obtain ⟨c8, f8, z8⟩ := blk_cells (g3.heap b8)
    have z0 : w.heap.size ≤ w3.heap.size := (Gr.trans G g3).b.size
    go_wp2_with fail
    clear c3 f3 c4 f4 c5 f5 c6 f6 c8 f8
    replace b3 := g3.heap b3
    replace b4 := g3.heap b4
    replace b5 := g3.heap b5
    replace b6 := g3.heap b6
    replace b8 := g3.heap b8
    have G := G.trans g3
    clear z3 z4 z5 z6 z8 z0
    clear g3
    refine (A4.out _).mono ?_
    rintro e w4 ⟨rfl, g4⟩
    obtain ⟨c3, f3, z3⟩ := blk_cells (g4.heap b3)
    obtain ⟨c4, f4, z4⟩ := blk_cells (g4.heap b4)
    obtain ⟨c5, f5, z5⟩ := blk_cells (g4.heap b5)
    obtain ⟨c6, f6, z6⟩ := blk_cells (g4.heap b6)
    obtain ⟨c8, f8, z8⟩ := blk_cells (g4.heap b8)
    have z0 : w.heap.size ≤ w4.heap.size := (Gr.trans G g4).b.size
    go_wp2_with fail
    clear c3 f3 c4 f4 c5 f5 c6 f6 c8 f8
    replace b3 := g4.heap b3
    replace b4 := g4.heap b4
    replace b5 := g4.heap b5
    replace b6 := g4.heap b6
    replace b8 := g4.heap b8
    have G := G.trans g4
    clear z3 z4 z5 z6 z8 z0
    clear g4
    refine (alive_any _ (HT.out.gr G)).mono ?_
    rintro e wz ⟨rfl, gz⟩
    obtain ⟨c3, f3, z3⟩ := blk_cells (gz.heap b3)
    obtain ⟨c4, f4, z4⟩ := blk_cells (gz.heap b4)
    obtain ⟨c5, f5, z5⟩ := blk_cells (gz.heap b5)
    obtain ⟨c6, f6, z6⟩ := blk_cells (gz.heap b6)
    obtain ⟨c8, f8, z8⟩ := blk_cells (gz.heap b8)
    go_wp2
    go_ret
    exact ⟨rfl, G.trans gz⟩
  · go_enter Tryd.func11, Tryd.ntmps11
    go_wp2_with fail
    have G := Gr.refl w
    have b3 := heap_alloc_self w (.cells #[.int .i64 a, .int .i64 b] 23)
    replace G := G.alloc (.cells #[.int .i64 a, .int .i64 b] 23)
    replace b3 := ((Gr.refl _).alloc (.cells #[.int .i64 c, .int .i64 d] 23)).heap b3
    have b4 := heap_alloc_self (w.alloc (.cells #[.int .i64 a, .int .i64 b] 23)) (.cells #[.int .i64 c, .int .i64 d] 23)
    replace G := G.alloc (.cells #[.int .i64 c, .int .i64 d] 23)
    replace b3 := ((Gr.refl _).alloc (.cells #[.int .i64 n, .int .i64 e] 23)).heap b3
    replace b4 := ((Gr.refl _).alloc (.cells #[.int .i64 n, .int .i64 e] 23)).heap b4
    have b5 := heap_alloc_self ((w.alloc (.cells #[.int .i64 a, .int .i64 b] 23)).alloc (.cells #[.int .i64 c, .int .i64 d] 23)) (.cells #[.int .i64 n, .int .i64 e] 23)
    replace G := G.alloc (.cells #[.int .i64 n, .int .i64 e] 23)
    generalize hW : (((w.alloc (.cells #[.int .i64 a, .int .i64 b] 23)).alloc (.cells #[.int .i64 c, .int .i64 d] 23)).alloc (.cells #[.int .i64 n, .int .i64 e] 23)) = W1 at *
    simp only [World.size_alloc] at b4
    simp only [World.size_alloc] at b5
    have w0 : w.heap.size ≤ w.heap.size := Nat.le_refl _
    obtain ⟨p5, hp5⟩ : ∃ p5, w.heap.size + 1 + 1 = p5 := ⟨_, rfl⟩
    obtain ⟨p4, hp4⟩ : ∃ p4, w.heap.size + 1 = p4 := ⟨_, rfl⟩
    obtain ⟨p3, hp3⟩ : ∃ p3, w.heap.size = p3 := ⟨_, rfl⟩
    rw [hp5] at b5
    rw [hp4] at b4
    rw [hp3] at b3
    try simp only [hp5]
    try simp only [hp4]
    try simp only [hp3]
    have s3 : w.heap.size ≤ p3 := by omega
    have n3_4 : ¬ p3 = p4 := by omega
    have n4_3 : ¬ p4 = p3 := by omega
    have s4 : w.heap.size ≤ p4 := by omega
    have n3_5 : ¬ p3 = p5 := by omega
    have n5_3 : ¬ p5 = p3 := by omega
    have n4_5 : ¬ p4 = p5 := by omega
    have n5_4 : ¬ p5 = p4 := by omega
    have s5 : w.heap.size ≤ p5 := by omega
    clear  w0
    clear hp3
    clear hp4
    clear hp5
    clear hW
    refine (A1.out _).mono ?_
    rintro e w1 ⟨rfl, g1⟩
    obtain ⟨c3, f3, z3⟩ := blk_cells (g1.heap b3)
    obtain ⟨c4, f4, z4⟩ := blk_cells (g1.heap b4)
    obtain ⟨c5, f5, z5⟩ := blk_cells (g1.heap b5)
    have z0 : w.heap.size ≤ w1.heap.size := (Gr.trans G g1).b.size
    go_wp2_with fail
    clear c3 f3 c4 f4 c5 f5
    replace b3 := g1.heap b3
    replace b4 := g1.heap b4
    replace b5 := g1.heap b5
    have G := G.trans g1
    replace b3 := ((Gr.refl _).alloc (.cells #[.int .i64 N, .int .i64 D] 23)).heap b3
    replace b4 := ((Gr.refl _).alloc (.cells #[.int .i64 N, .int .i64 D] 23)).heap b4
    replace b5 := ((Gr.refl _).alloc (.cells #[.int .i64 N, .int .i64 D] 23)).heap b5
    have b6 := heap_alloc_self w1 (.cells #[.int .i64 N, .int .i64 D] 23)
    replace G := G.alloc (.cells #[.int .i64 N, .int .i64 D] 23)
    generalize hW : (w1.alloc (.cells #[.int .i64 N, .int .i64 D] 23)) = W2 at *
    have o3 : p3 < w1.heap.size := z3
    have o4 : p4 < w1.heap.size := z4
    have o5 : p5 < w1.heap.size := z5
    have w0 : w.heap.size ≤ w1.heap.size := z0
    obtain ⟨p6, hp6⟩ : ∃ p6, w1.heap.size = p6 := ⟨_, rfl⟩
    rw [hp6] at b6
    try simp only [hp6]
    have n3_6 : ¬ p3 = p6 := by omega
    have n6_3 : ¬ p6 = p3 := by omega
    have n4_6 : ¬ p4 = p6 := by omega
    have n6_4 : ¬ p6 = p4 := by omega
    have n5_6 : ¬ p5 = p6 := by omega
    have n6_5 : ¬ p6 = p5 := by omega
    have s6 : w.heap.size ≤ p6 := by omega
    clear o3 o4 o5 w0
    clear hp6
    clear hW
    clear z3 z4 z5 z0
    clear g1
    refine (A2.out _).mono ?_
    rintro e w2 ⟨rfl, g2⟩
    obtain ⟨c3, f3, z3⟩ := blk_cells (g2.heap b3)
    obtain ⟨c4, f4, z4⟩ := blk_cells (g2.heap b4)
    obtain ⟨c5, f5, z5⟩ := blk_cells (g2.heap b5)
    obtain ⟨c6, f6, z6⟩ := blk_cells (g2.heap b6)
    have z0 : w.heap.size ≤ w2.heap.size := (Gr.trans G g2).b.size
    go_wp2_with fail
    clear c3 f3 c4 f4 c5 f5 c6 f6
    replace b3 := g2.heap b3
    replace b4 := g2.heap b4
    replace b5 := g2.heap b5
    replace b6 := g2.heap b6
    have G := G.trans g2
    replace b3 := ((Gr.refl _).alloc (.cells #[.int .i64 N, .int .i64 D] 23)).heap b3
    replace b4 := ((Gr.refl _).alloc (.cells #[.int .i64 N, .int .i64 D] 23)).heap b4
    replace b5 := ((Gr.refl _).alloc (.cells #[.int .i64 N, .int .i64 D] 23)).heap b5
    replace b6 := ((Gr.refl _).alloc (.cells #[.int .i64 N, .int .i64 D] 23)).heap b6
    have b8 := heap_alloc_self w2 (.cells #[.int .i64 N, .int .i64 D] 23)
    replace G := G.alloc (.cells #[.int .i64 N, .int .i64 D] 23)
    generalize hW : (w2.alloc (.cells #[.int .i64 N, .int .i64 D] 23)) = W3 at *
    have o3 : p3 < w2.heap.size := z3
    have o4 : p4 < w2.heap.size := z4
    have o5 : p5 < w2.heap.size := z5
    have o6 : p6 < w2.heap.size := z6
    have w0 : w.heap.size ≤ w2.heap.size := z0
    obtain ⟨p8, hp8⟩ : ∃ p8, w2.heap.size = p8 := ⟨_, rfl⟩
    rw [hp8] at b8
    try simp only [hp8]
    have n3_8 : ¬ p3 = p8 := by omega
    have n8_3 : ¬ p8 = p3 := by omega
    have n4_8 : ¬ p4 = p8 := by omega
    have n8_4 : ¬ p8 = p4 := by omega
    have n5_8 : ¬ p5 = p8 := by omega
    have n8_5 : ¬ p8 = p5 := by omega
    have n6_8 : ¬ p6 = p8 := by omega
    have n8_6 : ¬ p8 = p6 := by omega
    have s8 : w.heap.size ≤ p8 := by omega
    clear o3 o4 o5 o6 w0
    clear hp8
    clear hW
    clear z3 z4 z5 z6 z0
    clear g2
    refine (A3.out _).mono ?_
    rintro e w3 ⟨rfl, g3⟩
    obtain ⟨c3, f3, z3⟩ := blk_cells (g3.heap b3)
    obtain ⟨c4, f4, z4⟩ := blk_cells (g3.heap b4)
    obtain ⟨c5, f5, z5⟩ := blk_cells (g3.heap b5)
    obtain ⟨c6, f6, z6⟩ := blk_cells (g3.heap b6)
    obtain ⟨c8, f8, z8⟩ := blk_cells (g3.heap b8)
    have z0 : w.heap.size ≤ w3.heap.size := (Gr.trans G g3).b.size
    go_wp2_with fail
    clear c3 f3 c4 f4 c5 f5 c6 f6 c8 f8
    replace b3 := g3.heap b3
    replace b4 := g3.heap b4
    replace b5 := g3.heap b5
    replace b6 := g3.heap b6
    replace b8 := g3.heap b8
    have G := G.trans g3
    clear z3 z4 z5 z6 z8 z0
    clear g3
    refine (A4.out _).mono ?_
    rintro e w4 ⟨rfl, g4⟩
    obtain ⟨c3, f3, z3⟩ := blk_cells (g4.heap b3)
    obtain ⟨c4, f4, z4⟩ := blk_cells (g4.heap b4)
    obtain ⟨c5, f5, z5⟩ := blk_cells (g4.heap b5)
    obtain ⟨c6, f6, z6⟩ := blk_cells (g4.heap b6)
    obtain ⟨c8, f8, z8⟩ := blk_cells (g4.heap b8)
    have z0 : w.heap.size ≤ w4.heap.size := (Gr.trans G g4).b.size
    go_wp2_with fail
    clear c3 f3 c4 f4 c5 f5 c6 f6 c8 f8
    replace b3 := g4.heap b3
    replace b4 := g4.heap b4
    replace b5 := g4.heap b5
    replace b6 := g4.heap b6
    replace b8 := g4.heap b8
    have G := G.trans g4
    clear z3 z4 z5 z6 z8 z0
    clear g4
    refine (alive_any _ (HT.out.gr G)).mono ?_
    rintro e wz ⟨rfl, gz⟩
    obtain ⟨c3, f3, z3⟩ := blk_cells (gz.heap b3)
    obtain ⟨c4, f4, z4⟩ := blk_cells (gz.heap b4)
    obtain ⟨c5, f5, z5⟩ := blk_cells (gz.heap b5)
    obtain ⟨c6, f6, z6⟩ := blk_cells (gz.heap b6)
    obtain ⟨c8, f8, z8⟩ := blk_cells (gz.heap b8)
    go_wp2
    go_ret
    exact ⟨rfl, G.trans gz⟩
end Go.Proofs.YtconhikflghkdaaDoor
