/- stricklelaw01.RuleSizes. -/
import Derived.Test.YtconhikflghkdaaDoorAlive
import Derived.Test.YtconhikflghkdaaDoorRefC
namespace Go.Proofs.YtconhikflghkdaaDoor
open Go.RowKit Go.Shelf
set_option maxRecDepth 100000 in
set_option maxHeartbeats 8000000 in
theorem RuleSizes_any (a b c d low high : Int) (w : World) (ht : Tab w) : Calls Tryd.prog 5 #[ru a b c d, .int .i64 low, .int .i64 high] w fun e w' => e = .returned (.bool true) ∧ Gr w w' := by
  have HT := Lib.hid ht
  clear ht
  have A1 := Lib.hid (Sizes_any a b c d low high)
  have A2 := Lib.hid (rSizes_any a b c d low high)
  generalize szLo a b c d low high = x at *
  generalize szHi a b c d low high = y at *
  generalize szE a b c d low high = E at *
  generalize szB a b c d low high = B at *
  cases B
  · go_enter Tryd.func5, Tryd.ntmps5
    go_wp2_with fail
    have G := Gr.refl w
    have b3 := heap_alloc_self w (.cells #[.int .i64 a, .int .i64 b, .int .i64 c, .int .i64 d] 34)
    replace G := G.alloc (.cells #[.int .i64 a, .int .i64 b, .int .i64 c, .int .i64 d] 34)
    generalize hW : (w.alloc (.cells #[.int .i64 a, .int .i64 b, .int .i64 c, .int .i64 d] 34)) = W1 at *
    have w0 : w.heap.size ≤ w.heap.size := Nat.le_refl _
    obtain ⟨p3, hp3⟩ : ∃ p3, w.heap.size = p3 := ⟨_, rfl⟩
    rw [hp3] at b3
    try simp only [hp3]
    have s3 : w.heap.size ≤ p3 := by omega
    clear  w0
    clear hp3
    clear hW
    refine (A1.out _).mono ?_
    rintro e w1 ⟨rfl, g1⟩
    obtain ⟨c3, f3, z3⟩ := blk_cells (g1.heap b3)
    have z0 : w.heap.size ≤ w1.heap.size := (Gr.trans G g1).b.size
    go_wp2_with fail
    clear c3 f3
    replace b3 := g1.heap b3
    have G := G.trans g1
    clear z3 z0
    clear g1
    refine (A2.out _).mono ?_
    rintro e w2 ⟨rfl, g2⟩
    obtain ⟨c3, f3, z3⟩ := blk_cells (g2.heap b3)
    have z0 : w.heap.size ≤ w2.heap.size := (Gr.trans G g2).b.size
    go_wp2_with fail
    clear c3 f3
    replace b3 := g2.heap b3
    have G := G.trans g2
    clear z3 z0
    clear g2
    refine (alive_any _ (HT.out.gr G)).mono ?_
    rintro e wz ⟨rfl, gz⟩
    obtain ⟨c3, f3, z3⟩ := blk_cells (gz.heap b3)
    go_wp2
    go_ret
    exact ⟨rfl, G.trans gz⟩
  · go_enter Tryd.func5, Tryd.ntmps5
    go_wp2_with fail
    have G := Gr.refl w
    have b3 := heap_alloc_self w (.cells #[.int .i64 a, .int .i64 b, .int .i64 c, .int .i64 d] 34)
    replace G := G.alloc (.cells #[.int .i64 a, .int .i64 b, .int .i64 c, .int .i64 d] 34)
    generalize hW : (w.alloc (.cells #[.int .i64 a, .int .i64 b, .int .i64 c, .int .i64 d] 34)) = W1 at *
    have w0 : w.heap.size ≤ w.heap.size := Nat.le_refl _
    obtain ⟨p3, hp3⟩ : ∃ p3, w.heap.size = p3 := ⟨_, rfl⟩
    rw [hp3] at b3
    try simp only [hp3]
    have s3 : w.heap.size ≤ p3 := by omega
    clear  w0
    clear hp3
    clear hW
    refine (A1.out _).mono ?_
    rintro e w1 ⟨rfl, g1⟩
    obtain ⟨c3, f3, z3⟩ := blk_cells (g1.heap b3)
    have z0 : w.heap.size ≤ w1.heap.size := (Gr.trans G g1).b.size
    go_wp2_with fail
    clear c3 f3
    replace b3 := g1.heap b3
    have G := G.trans g1
    clear z3 z0
    clear g1
    refine (A2.out _).mono ?_
    rintro e w2 ⟨rfl, g2⟩
    obtain ⟨c3, f3, z3⟩ := blk_cells (g2.heap b3)
    have z0 : w.heap.size ≤ w2.heap.size := (Gr.trans G g2).b.size
    go_wp2_with fail
    clear c3 f3
    replace b3 := g2.heap b3
    have G := G.trans g2
    clear z3 z0
    clear g2
    refine (alive_any _ (HT.out.gr G)).mono ?_
    rintro e wz ⟨rfl, gz⟩
    obtain ⟨c3, f3, z3⟩ := blk_cells (gz.heap b3)
    go_wp2
    go_ret
    exact ⟨rfl, G.trans gz⟩
end Go.Proofs.YtconhikflghkdaaDoor
