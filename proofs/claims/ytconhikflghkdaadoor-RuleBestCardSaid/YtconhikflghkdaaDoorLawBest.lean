/- stricklelaw01.RuleBest. -/
import Derived.Test.YtconhikflghkdaaDoorAlive
import Derived.Test.YtconhikflghkdaaDoorRefC
namespace Go.Proofs.YtconhikflghkdaaDoor
open Go.RowKit Go.Shelf
set_option maxRecDepth 100000 in
set_option maxHeartbeats 8000000 in
theorem RuleBest_any (a b c d want : Int) (w : World) (ht : Tab w) : Calls Tryd.prog 6 #[ru a b c d, .int .i64 want] w fun e w' => e = .returned (.bool true) ∧ Gr w w' := by
  have HT := Lib.hid ht
  clear ht
  have A1 := Lib.hid (Best_any a b c d want)
  have A2 := Lib.hid (rBest_any a b c d want)
  generalize bsR a b c d want = x at *
  generalize Rm.err (ruOk a b c d && szOk want) 1 = E at *
  go_enter Tryd.func6, Tryd.ntmps6
  go_wp2_with fail
  have G := Gr.refl w
  have b2 := heap_alloc_self w (.cells #[.int .i64 a, .int .i64 b, .int .i64 c, .int .i64 d] 34)
  replace G := G.alloc (.cells #[.int .i64 a, .int .i64 b, .int .i64 c, .int .i64 d] 34)
  generalize hW : (w.alloc (.cells #[.int .i64 a, .int .i64 b, .int .i64 c, .int .i64 d] 34)) = W1 at *
  have w0 : w.heap.size ≤ w.heap.size := Nat.le_refl _
  obtain ⟨p2, hp2⟩ : ∃ p2, w.heap.size = p2 := ⟨_, rfl⟩
  rw [hp2] at b2
  try simp only [hp2]
  have s2 : w.heap.size ≤ p2 := by omega
  clear  w0
  clear hp2
  clear hW
  refine (A1.out _).mono ?_
  rintro e w1 ⟨rfl, g1⟩
  obtain ⟨c2, f2, z2⟩ := blk_cells (g1.heap b2)
  have z0 : w.heap.size ≤ w1.heap.size := (Gr.trans G g1).b.size
  go_wp2_with fail
  clear c2 f2
  replace b2 := g1.heap b2
  have G := G.trans g1
  clear z2 z0
  clear g1
  refine (A2.out _).mono ?_
  rintro e w2 ⟨rfl, g2⟩
  obtain ⟨c2, f2, z2⟩ := blk_cells (g2.heap b2)
  have z0 : w.heap.size ≤ w2.heap.size := (Gr.trans G g2).b.size
  go_wp2_with fail
  clear c2 f2
  replace b2 := g2.heap b2
  have G := G.trans g2
  clear z2 z0
  clear g2
  refine (alive_any _ (HT.out.gr G)).mono ?_
  rintro e wz ⟨rfl, gz⟩
  obtain ⟨c2, f2, z2⟩ := blk_cells (gz.heap b2)
  go_wp2
  go_ret
  exact ⟨rfl, G.trans gz⟩
end Go.Proofs.YtconhikflghkdaaDoor
