/- stricklelaw01.RuleNeighbours. -/
import Derived.Test.YtconhikflghkdaaDoorAlive
import Derived.Test.YtconhikflghkdaaDoorRefB
namespace Go.Proofs.YtconhikflghkdaaDoor
open Go.RowKit Go.Shelf
set_option maxRecDepth 100000 in
set_option maxHeartbeats 8000000 in
theorem RuleNeighbours_any (n d : Int) (w : World) (ht : Tab w) : Calls Tryd.prog 3 #[fr n d] w fun e w' => e = .returned (.bool true) ∧ Gr w w' := by
  have HT := Lib.hid ht
  clear ht
  have A1 := Lib.hid (Neighbours_any n d)
  have A2 := Lib.hid (rNeighbours_any n d)
  unfold nbR at A1 A2
  generalize nbv n d (Rm.bkN n d (d-1)) = a at *
  generalize nbv n d (Rm.bkD n d (d-1)) = b at *
  generalize nbv n d (Rm.bhN n d (d-1)) = a' at *
  generalize nbv n d (Rm.bhD n d (d-1)) = b' at *
  generalize nbE n d = E at *
  go_enter Tryd.func3, Tryd.ntmps3
  go_wp2_with fail
  have G := Gr.refl w
  have b1 := heap_alloc_self w (.cells #[.int .i64 n, .int .i64 d] 23)
  replace G := G.alloc (.cells #[.int .i64 n, .int .i64 d] 23)
  generalize hW : (w.alloc (.cells #[.int .i64 n, .int .i64 d] 23)) = W1 at *
  have w0 : w.heap.size ≤ w.heap.size := Nat.le_refl _
  obtain ⟨p1, hp1⟩ : ∃ p1, w.heap.size = p1 := ⟨_, rfl⟩
  rw [hp1] at b1
  try simp only [hp1]
  have s1 : w.heap.size ≤ p1 := by omega
  clear  w0
  clear hp1
  clear hW
  refine (A1.out _).mono ?_
  rintro e w1 ⟨rfl, g1⟩
  obtain ⟨c1, f1, z1⟩ := blk_cells (g1.heap b1)
  have z0 : w.heap.size ≤ w1.heap.size := (Gr.trans G g1).b.size
  go_wp2_with fail
  clear c1 f1
  replace b1 := g1.heap b1
  have G := G.trans g1
  replace b1 := ((Gr.refl _).alloc (.cells #[.int .i64 a, .int .i64 b] 23)).heap b1
  have b3 := heap_alloc_self w1 (.cells #[.int .i64 a, .int .i64 b] 23)
  replace G := G.alloc (.cells #[.int .i64 a, .int .i64 b] 23)
  replace b1 := ((Gr.refl _).alloc (.cells #[.int .i64 (a'), .int .i64 (b')] 23)).heap b1
  replace b3 := ((Gr.refl _).alloc (.cells #[.int .i64 (a'), .int .i64 (b')] 23)).heap b3
  have b4 := heap_alloc_self (w1.alloc (.cells #[.int .i64 a, .int .i64 b] 23)) (.cells #[.int .i64 (a'), .int .i64 (b')] 23)
  replace G := G.alloc (.cells #[.int .i64 (a'), .int .i64 (b')] 23)
  generalize hW : ((w1.alloc (.cells #[.int .i64 a, .int .i64 b] 23)).alloc (.cells #[.int .i64 (a'), .int .i64 (b')] 23)) = W2 at *
  simp only [World.size_alloc] at b4
  have o1 : p1 < w1.heap.size := z1
  have w0 : w.heap.size ≤ w1.heap.size := z0
  obtain ⟨p4, hp4⟩ : ∃ p4, w1.heap.size + 1 = p4 := ⟨_, rfl⟩
  obtain ⟨p3, hp3⟩ : ∃ p3, w1.heap.size = p3 := ⟨_, rfl⟩
  rw [hp4] at b4
  rw [hp3] at b3
  try simp only [hp4]
  try simp only [hp3]
  have n1_3 : ¬ p1 = p3 := by omega
  have n3_1 : ¬ p3 = p1 := by omega
  have s3 : w.heap.size ≤ p3 := by omega
  have n1_4 : ¬ p1 = p4 := by omega
  have n4_1 : ¬ p4 = p1 := by omega
  have n3_4 : ¬ p3 = p4 := by omega
  have n4_3 : ¬ p4 = p3 := by omega
  have s4 : w.heap.size ≤ p4 := by omega
  clear o1 w0
  clear hp3
  clear hp4
  clear hW
  clear z1 z0
  clear g1
  refine (A2.out _).mono ?_
  rintro e w2 ⟨rfl, g2⟩
  obtain ⟨c1, f1, z1⟩ := blk_cells (g2.heap b1)
  obtain ⟨c3, f3, z3⟩ := blk_cells (g2.heap b3)
  obtain ⟨c4, f4, z4⟩ := blk_cells (g2.heap b4)
  have z0 : w.heap.size ≤ w2.heap.size := (Gr.trans G g2).b.size
  go_wp2_with fail
  clear c1 f1 c3 f3 c4 f4
  replace b1 := g2.heap b1
  replace b3 := g2.heap b3
  replace b4 := g2.heap b4
  have G := G.trans g2
  replace b1 := ((Gr.refl _).alloc (.cells #[.int .i64 a, .int .i64 b] 23)).heap b1
  replace b3 := ((Gr.refl _).alloc (.cells #[.int .i64 a, .int .i64 b] 23)).heap b3
  replace b4 := ((Gr.refl _).alloc (.cells #[.int .i64 a, .int .i64 b] 23)).heap b4
  have b6 := heap_alloc_self w2 (.cells #[.int .i64 a, .int .i64 b] 23)
  replace G := G.alloc (.cells #[.int .i64 a, .int .i64 b] 23)
  replace b1 := ((Gr.refl _).alloc (.cells #[.int .i64 (a'), .int .i64 (b')] 23)).heap b1
  replace b3 := ((Gr.refl _).alloc (.cells #[.int .i64 (a'), .int .i64 (b')] 23)).heap b3
  replace b4 := ((Gr.refl _).alloc (.cells #[.int .i64 (a'), .int .i64 (b')] 23)).heap b4
  replace b6 := ((Gr.refl _).alloc (.cells #[.int .i64 (a'), .int .i64 (b')] 23)).heap b6
  have b7 := heap_alloc_self (w2.alloc (.cells #[.int .i64 a, .int .i64 b] 23)) (.cells #[.int .i64 (a'), .int .i64 (b')] 23)
  replace G := G.alloc (.cells #[.int .i64 (a'), .int .i64 (b')] 23)
  generalize hW : ((w2.alloc (.cells #[.int .i64 a, .int .i64 b] 23)).alloc (.cells #[.int .i64 (a'), .int .i64 (b')] 23)) = W3 at *
  simp only [World.size_alloc] at b7
  have o1 : p1 < w2.heap.size := z1
  have o3 : p3 < w2.heap.size := z3
  have o4 : p4 < w2.heap.size := z4
  have w0 : w.heap.size ≤ w2.heap.size := z0
  obtain ⟨p7, hp7⟩ : ∃ p7, w2.heap.size + 1 = p7 := ⟨_, rfl⟩
  obtain ⟨p6, hp6⟩ : ∃ p6, w2.heap.size = p6 := ⟨_, rfl⟩
  rw [hp7] at b7
  rw [hp6] at b6
  try simp only [hp7]
  try simp only [hp6]
  have n1_6 : ¬ p1 = p6 := by omega
  have n6_1 : ¬ p6 = p1 := by omega
  have n3_6 : ¬ p3 = p6 := by omega
  have n6_3 : ¬ p6 = p3 := by omega
  have n4_6 : ¬ p4 = p6 := by omega
  have n6_4 : ¬ p6 = p4 := by omega
  have s6 : w.heap.size ≤ p6 := by omega
  have n1_7 : ¬ p1 = p7 := by omega
  have n7_1 : ¬ p7 = p1 := by omega
  have n3_7 : ¬ p3 = p7 := by omega
  have n7_3 : ¬ p7 = p3 := by omega
  have n4_7 : ¬ p4 = p7 := by omega
  have n7_4 : ¬ p7 = p4 := by omega
  have n6_7 : ¬ p6 = p7 := by omega
  have n7_6 : ¬ p7 = p6 := by omega
  have s7 : w.heap.size ≤ p7 := by omega
  clear o1 o3 o4 w0
  clear hp6
  clear hp7
  clear hW
  clear z1 z3 z4 z0
  clear g2
  refine (alive_any _ (HT.out.gr G)).mono ?_
  rintro e wz ⟨rfl, gz⟩
  obtain ⟨c1, f1, z1⟩ := blk_cells (gz.heap b1)
  obtain ⟨c3, f3, z3⟩ := blk_cells (gz.heap b3)
  obtain ⟨c4, f4, z4⟩ := blk_cells (gz.heap b4)
  obtain ⟨c6, f6, z6⟩ := blk_cells (gz.heap b6)
  obtain ⟨c7, f7, z7⟩ := blk_cells (gz.heap b7)
  go_wp2
  go_ret
  exact ⟨rfl, G.trans gz⟩
end Go.Proofs.YtconhikflghkdaaDoor
