/- strickleref01: twice, Twice, Both. -/
import Derived.Test.YtconhikflghkdaaDoorRefC
import Derived.Test.YtconhikflghkdaaDoorBoth
namespace Go.Proofs.YtconhikflghkdaaDoor
open Go.RowKit Go.Shelf
attribute [local go_sem] Oper.semAt_some
set_option maxRecDepth 100000 in
set_option maxHeartbeats 4000000 in
theorem rtwice_any (a b c d : Int) (w : World) (h : TwB a b c d) :
    Calls Tryd.prog 120 #[fr a b, fr c d] w fun e w' => e = .returned (.tuple #[fr (Rm.mN (twN a b c d) (twD a b c d)) (Rm.mD (twN a b c d) (twD a b c d)), .int .i64 (Rm.mE (twN a b c d) (twD a b c d))]) ∧ Gr w w' := by
  obtain ⟨k1, k2, k3, k4⟩ := h.bd
  obtain ⟨b1, b2, d1, d2, a0, ab, c0, cd⟩ := h
  have e1 : twN a b c d = b*d - (b-a)*(d-c) := rfl
  have e2 : twD a b c d = b*d := rfl
  have MD := Lib.hid (fun w => made_any (twN a b c d) (twD a b c d) w (by omega) (by omega) (by omega) (by omega))
  generalize Rm.mN (twN a b c d) (twD a b c d) = N at *
  generalize Rm.mD (twN a b c d) (twD a b c d) = D at *
  generalize Rm.mE (twN a b c d) (twD a b c d) = E at *
  rw [e1, e2] at MD
  clear e1 e2
  have w1 : IntKind.i64.wrap (b*d) = b*d := IntWalk.i64_in _ (by omega)
  have w2 : IntKind.i64.wrap (b-a) = b-a := IntWalk.i64_in _ (by omega)
  have w3 : IntKind.i64.wrap (d-c) = d-c := IntWalk.i64_in _ (by omega)
  have w4 : IntKind.i64.wrap ((b-a)*(d-c)) = (b-a)*(d-c) := IntWalk.i64_in _ (by omega)
  have w5 : IntKind.i64.wrap (b*d - (b-a)*(d-c)) = b*d - (b-a)*(d-c) := IntWalk.i64_in _ (by omega)
  go_enter Tryd.func120, Tryd.ntmps120
  go_wp2_with fail
  have G := Gr.refl w
  have b2 := heap_alloc_self w (.cells #[.int .i64 a, .int .i64 b] 23)
  replace G := G.alloc (.cells #[.int .i64 a, .int .i64 b] 23)
  replace b2 := ((Gr.refl _).alloc (.cells #[.int .i64 c, .int .i64 d] 23)).heap b2
  have b3 := heap_alloc_self (w.alloc (.cells #[.int .i64 a, .int .i64 b] 23)) (.cells #[.int .i64 c, .int .i64 d] 23)
  replace G := G.alloc (.cells #[.int .i64 c, .int .i64 d] 23)
  replace b2 := ((Gr.refl _).alloc (.cells #[.int .i64 0, .int .i64 0] 23)).heap b2
  replace b3 := ((Gr.refl _).alloc (.cells #[.int .i64 0, .int .i64 0] 23)).heap b3
  have b4 := heap_alloc_self ((w.alloc (.cells #[.int .i64 a, .int .i64 b] 23)).alloc (.cells #[.int .i64 c, .int .i64 d] 23)) (.cells #[.int .i64 0, .int .i64 0] 23)
  replace G := G.alloc (.cells #[.int .i64 0, .int .i64 0] 23)
  generalize hW : (((w.alloc (.cells #[.int .i64 a, .int .i64 b] 23)).alloc (.cells #[.int .i64 c, .int .i64 d] 23)).alloc (.cells #[.int .i64 0, .int .i64 0] 23)) = W1 at *
  simp only [World.size_alloc] at b3
  simp only [World.size_alloc] at b4
  have w0 : w.heap.size ≤ w.heap.size := Nat.le_refl _
  obtain ⟨p4, hp4⟩ : ∃ p4, w.heap.size + 1 + 1 = p4 := ⟨_, rfl⟩
  obtain ⟨p3, hp3⟩ : ∃ p3, w.heap.size + 1 = p3 := ⟨_, rfl⟩
  obtain ⟨p2, hp2⟩ : ∃ p2, w.heap.size = p2 := ⟨_, rfl⟩
  rw [hp4] at b4
  rw [hp3] at b3
  rw [hp2] at b2
  try simp only [hp4]
  try simp only [hp3]
  try simp only [hp2]
  have s2 : w.heap.size ≤ p2 := by omega
  have n2_3 : ¬ p2 = p3 := by omega
  have n3_2 : ¬ p3 = p2 := by omega
  have s3 : w.heap.size ≤ p3 := by omega
  have n2_4 : ¬ p2 = p4 := by omega
  have n4_2 : ¬ p4 = p2 := by omega
  have n3_4 : ¬ p3 = p4 := by omega
  have n4_3 : ¬ p4 = p3 := by omega
  have s4 : w.heap.size ≤ p4 := by omega
  clear  w0
  clear hp2
  clear hp3
  clear hp4
  clear hW
  refine (MD.out _).mono ?_
  rintro e w1 ⟨rfl, g1⟩
  obtain ⟨c2, f2, z2⟩ := blk_cells (g1.heap b2)
  obtain ⟨c3, f3, z3⟩ := blk_cells (g1.heap b3)
  obtain ⟨c4, f4, z4⟩ := blk_cells (g1.heap b4)
  have z0 : w.heap.size ≤ w1.heap.size := (Gr.trans G g1).b.size
  go_wp2_with fail
  clear c2 f2 c3 f3 c4 f4
  replace b2 := g1.heap b2
  replace b3 := g1.heap b3
  replace b4 := g1.heap b4
  have G := G.trans g1
  replace b2 := keep2 p4 (.int .i64 N) (.int .i64 D) b2 (by first | assumption | omega)
  replace b3 := keep2 p4 (.int .i64 N) (.int .i64 D) b3 (by first | assumption | omega)
  replace b4 := put_two (x := .int .i64 N) (y := .int .i64 D) b4
  replace G := gr_set2 p4 (.int .i64 N) (.int .i64 D) G (by omega)
  generalize hW : ((w1.setCell ⟨p4, 0, none⟩ (.int .i64 N)).setCell ⟨p4, 1, none⟩ (.int .i64 D)) = W2 at *
  clear hW
  clear z2 z3 z4 z0
  clear g1
  obtain ⟨c2, f2, z2⟩ := blk_cells b2
  obtain ⟨c3, f3, z3⟩ := blk_cells b3
  obtain ⟨c4, f4, z4⟩ := blk_cells b4
  exact bodyPost_ret (v := .tuple #[fr N D, .int .i64 E]) (by simp [results, Tryd.results120, go_sem, *]) rfl ⟨rfl, (by repeat (first | exact Gr.refl _ | assumption | refine Gr.alloc ?_ _ | refine Gr.drew ?_ | refine Gr.drewN ?_ _ | refine Gr.set ?_ _ _ (by first | (simp; done) | (simp; omega)) | refine Gr.trans ?_ (by assumption)))⟩
set_option maxRecDepth 100000 in
set_option maxHeartbeats 4000000 in
theorem rTwice_b1 (a b c d a' b' c' d' : Int) (w : World) (C1 : Hid (∀ w, Calls Tryd.prog 62 #[ru a b c d] w fun e w' => e = .returned (.int .i64 1) ∧ Gr w w')) :
    Calls Tryd.prog 63 #[ru a b c d, ru a' b' c' d'] w fun e w' => e = .returned (.tuple #[ru 0 0 0 0, .int .i64 1]) ∧ Gr w w' := by
  go_enter Tryd.func63, Tryd.ntmps63
  go_wp2_with fail
  have G := Gr.refl w
  have b2 := heap_alloc_self w (.cells #[.int .i64 a, .int .i64 b, .int .i64 c, .int .i64 d] 34)
  replace G := G.alloc (.cells #[.int .i64 a, .int .i64 b, .int .i64 c, .int .i64 d] 34)
  replace b2 := ((Gr.refl _).alloc (.cells #[.int .i64 (a'), .int .i64 (b'), .int .i64 (c'), .int .i64 (d')] 34)).heap b2
  have b3 := heap_alloc_self (w.alloc (.cells #[.int .i64 a, .int .i64 b, .int .i64 c, .int .i64 d] 34)) (.cells #[.int .i64 (a'), .int .i64 (b'), .int .i64 (c'), .int .i64 (d')] 34)
  replace G := G.alloc (.cells #[.int .i64 (a'), .int .i64 (b'), .int .i64 (c'), .int .i64 (d')] 34)
  replace b2 := ((Gr.refl _).alloc (.cells #[.int .i64 0, .int .i64 0, .int .i64 0, .int .i64 0] 34)).heap b2
  replace b3 := ((Gr.refl _).alloc (.cells #[.int .i64 0, .int .i64 0, .int .i64 0, .int .i64 0] 34)).heap b3
  have b4 := heap_alloc_self ((w.alloc (.cells #[.int .i64 a, .int .i64 b, .int .i64 c, .int .i64 d] 34)).alloc (.cells #[.int .i64 (a'), .int .i64 (b'), .int .i64 (c'), .int .i64 (d')] 34)) (.cells #[.int .i64 0, .int .i64 0, .int .i64 0, .int .i64 0] 34)
  replace G := G.alloc (.cells #[.int .i64 0, .int .i64 0, .int .i64 0, .int .i64 0] 34)
  generalize hW : (((w.alloc (.cells #[.int .i64 a, .int .i64 b, .int .i64 c, .int .i64 d] 34)).alloc (.cells #[.int .i64 (a'), .int .i64 (b'), .int .i64 (c'), .int .i64 (d')] 34)).alloc (.cells #[.int .i64 0, .int .i64 0, .int .i64 0, .int .i64 0] 34)) = W1 at *
  simp only [World.size_alloc] at b3
  simp only [World.size_alloc] at b4
  have w0 : w.heap.size ≤ w.heap.size := Nat.le_refl _
  obtain ⟨p4, hp4⟩ : ∃ p4, w.heap.size + 1 + 1 = p4 := ⟨_, rfl⟩
  obtain ⟨p3, hp3⟩ : ∃ p3, w.heap.size + 1 = p3 := ⟨_, rfl⟩
  obtain ⟨p2, hp2⟩ : ∃ p2, w.heap.size = p2 := ⟨_, rfl⟩
  rw [hp4] at b4
  rw [hp3] at b3
  rw [hp2] at b2
  try simp only [hp4]
  try simp only [hp3]
  try simp only [hp2]
  have s2 : w.heap.size ≤ p2 := by omega
  have n2_3 : ¬ p2 = p3 := by omega
  have n3_2 : ¬ p3 = p2 := by omega
  have s3 : w.heap.size ≤ p3 := by omega
  have n2_4 : ¬ p2 = p4 := by omega
  have n4_2 : ¬ p4 = p2 := by omega
  have n3_4 : ¬ p3 = p4 := by omega
  have n4_3 : ¬ p4 = p3 := by omega
  have s4 : w.heap.size ≤ p4 := by omega
  clear  w0
  clear hp2
  clear hp3
  clear hp4
  clear hW
  refine (C1.out _).mono ?_
  rintro e w1 ⟨rfl, g1⟩
  obtain ⟨c2, f2, z2⟩ := blk_cells (g1.heap b2)
  obtain ⟨c3, f3, z3⟩ := blk_cells (g1.heap b3)
  obtain ⟨c4, f4, z4⟩ := blk_cells (g1.heap b4)
  have z0 : w.heap.size ≤ w1.heap.size := (Gr.trans G g1).b.size
  go_wp2_with fail
  clear c2 f2 c3 f3 c4 f4
  replace b2 := g1.heap b2
  replace b3 := g1.heap b3
  replace b4 := g1.heap b4
  have G := G.trans g1
  clear z2 z3 z4 z0
  clear g1
  obtain ⟨c2, f2, z2⟩ := blk_cells b2
  obtain ⟨c3, f3, z3⟩ := blk_cells b3
  obtain ⟨c4, f4, z4⟩ := blk_cells b4
  exact bodyPost_ret (v := .tuple #[ru 0 0 0 0, .int .i64 1]) (by simp [results, Tryd.results63, go_sem, *]) rfl ⟨rfl, (by repeat (first | exact Gr.refl _ | assumption | refine Gr.alloc ?_ _ | refine Gr.drew ?_ | refine Gr.drewN ?_ _ | refine Gr.set ?_ _ _ (by first | (simp; done) | (simp; omega)) | refine Gr.trans ?_ (by assumption)))⟩
set_option maxRecDepth 100000 in
set_option maxHeartbeats 4000000 in
theorem rTwice_b2 (a b c d a' b' c' d' : Int) (w : World) (C1 : Hid (∀ w, Calls Tryd.prog 62 #[ru a b c d] w fun e w' => e = .returned (.int .i64 0) ∧ Gr w w')) (C2 : Hid (∀ w, Calls Tryd.prog 62 #[ru a' b' c' d'] w fun e w' => e = .returned (.int .i64 1) ∧ Gr w w')) :
    Calls Tryd.prog 63 #[ru a b c d, ru a' b' c' d'] w fun e w' => e = .returned (.tuple #[ru 0 0 0 0, .int .i64 1]) ∧ Gr w w' := by
  go_enter Tryd.func63, Tryd.ntmps63
  go_wp2_with fail
  have G := Gr.refl w
  have b2 := heap_alloc_self w (.cells #[.int .i64 a, .int .i64 b, .int .i64 c, .int .i64 d] 34)
  replace G := G.alloc (.cells #[.int .i64 a, .int .i64 b, .int .i64 c, .int .i64 d] 34)
  replace b2 := ((Gr.refl _).alloc (.cells #[.int .i64 (a'), .int .i64 (b'), .int .i64 (c'), .int .i64 (d')] 34)).heap b2
  have b3 := heap_alloc_self (w.alloc (.cells #[.int .i64 a, .int .i64 b, .int .i64 c, .int .i64 d] 34)) (.cells #[.int .i64 (a'), .int .i64 (b'), .int .i64 (c'), .int .i64 (d')] 34)
  replace G := G.alloc (.cells #[.int .i64 (a'), .int .i64 (b'), .int .i64 (c'), .int .i64 (d')] 34)
  replace b2 := ((Gr.refl _).alloc (.cells #[.int .i64 0, .int .i64 0, .int .i64 0, .int .i64 0] 34)).heap b2
  replace b3 := ((Gr.refl _).alloc (.cells #[.int .i64 0, .int .i64 0, .int .i64 0, .int .i64 0] 34)).heap b3
  have b4 := heap_alloc_self ((w.alloc (.cells #[.int .i64 a, .int .i64 b, .int .i64 c, .int .i64 d] 34)).alloc (.cells #[.int .i64 (a'), .int .i64 (b'), .int .i64 (c'), .int .i64 (d')] 34)) (.cells #[.int .i64 0, .int .i64 0, .int .i64 0, .int .i64 0] 34)
  replace G := G.alloc (.cells #[.int .i64 0, .int .i64 0, .int .i64 0, .int .i64 0] 34)
  generalize hW : (((w.alloc (.cells #[.int .i64 a, .int .i64 b, .int .i64 c, .int .i64 d] 34)).alloc (.cells #[.int .i64 (a'), .int .i64 (b'), .int .i64 (c'), .int .i64 (d')] 34)).alloc (.cells #[.int .i64 0, .int .i64 0, .int .i64 0, .int .i64 0] 34)) = W1 at *
  simp only [World.size_alloc] at b3
  simp only [World.size_alloc] at b4
  have w0 : w.heap.size ≤ w.heap.size := Nat.le_refl _
  obtain ⟨p4, hp4⟩ : ∃ p4, w.heap.size + 1 + 1 = p4 := ⟨_, rfl⟩
  obtain ⟨p3, hp3⟩ : ∃ p3, w.heap.size + 1 = p3 := ⟨_, rfl⟩
  obtain ⟨p2, hp2⟩ : ∃ p2, w.heap.size = p2 := ⟨_, rfl⟩
  rw [hp4] at b4
  rw [hp3] at b3
  rw [hp2] at b2
  try simp only [hp4]
  try simp only [hp3]
  try simp only [hp2]
  have s2 : w.heap.size ≤ p2 := by omega
  have n2_3 : ¬ p2 = p3 := by omega
  have n3_2 : ¬ p3 = p2 := by omega
  have s3 : w.heap.size ≤ p3 := by omega
  have n2_4 : ¬ p2 = p4 := by omega
  have n4_2 : ¬ p4 = p2 := by omega
  have n3_4 : ¬ p3 = p4 := by omega
  have n4_3 : ¬ p4 = p3 := by omega
  have s4 : w.heap.size ≤ p4 := by omega
  clear  w0
  clear hp2
  clear hp3
  clear hp4
  clear hW
  refine (C1.out _).mono ?_
  rintro e w1 ⟨rfl, g1⟩
  obtain ⟨c2, f2, z2⟩ := blk_cells (g1.heap b2)
  obtain ⟨c3, f3, z3⟩ := blk_cells (g1.heap b3)
  obtain ⟨c4, f4, z4⟩ := blk_cells (g1.heap b4)
  have z0 : w.heap.size ≤ w1.heap.size := (Gr.trans G g1).b.size
  go_wp2_with fail
  clear c2 f2 c3 f3 c4 f4
  replace b2 := g1.heap b2
  replace b3 := g1.heap b3
  replace b4 := g1.heap b4
  have G := G.trans g1
  clear z2 z3 z4 z0
  clear g1
  refine (C2.out _).mono ?_
  rintro e w2 ⟨rfl, g2⟩
  obtain ⟨c2, f2, z2⟩ := blk_cells (g2.heap b2)
  obtain ⟨c3, f3, z3⟩ := blk_cells (g2.heap b3)
  obtain ⟨c4, f4, z4⟩ := blk_cells (g2.heap b4)
  have z0 : w.heap.size ≤ w2.heap.size := (Gr.trans G g2).b.size
  go_wp2_with fail
  clear c2 f2 c3 f3 c4 f4
  replace b2 := g2.heap b2
  replace b3 := g2.heap b3
  replace b4 := g2.heap b4
  have G := G.trans g2
  clear z2 z3 z4 z0
  clear g2
  obtain ⟨c2, f2, z2⟩ := blk_cells b2
  obtain ⟨c3, f3, z3⟩ := blk_cells b3
  obtain ⟨c4, f4, z4⟩ := blk_cells b4
  exact bodyPost_ret (v := .tuple #[ru 0 0 0 0, .int .i64 1]) (by simp [results, Tryd.results63, go_sem, *]) rfl ⟨rfl, (by repeat (first | exact Gr.refl _ | assumption | refine Gr.alloc ?_ _ | refine Gr.drew ?_ | refine Gr.drewN ?_ _ | refine Gr.set ?_ _ _ (by first | (simp; done) | (simp; omega)) | refine Gr.trans ?_ (by assumption)))⟩
set_option maxRecDepth 100000 in
set_option maxHeartbeats 4000000 in
theorem rTwice_b3 (a b c d a' b' c' d' N D N' D' E : Int) (w : World) (C1 : Hid (∀ w, Calls Tryd.prog 62 #[ru a b c d] w fun e w' => e = .returned (.int .i64 0) ∧ Gr w w')) (C2 : Hid (∀ w, Calls Tryd.prog 62 #[ru a' b' c' d'] w fun e w' => e = .returned (.int .i64 0) ∧ Gr w w')) (T1 : Hid (∀ w, Calls Tryd.prog 120 #[fr a b, fr a' b'] w fun e w' => e = .returned (.tuple #[fr N D, .int .i64 10]) ∧ Gr w w')) (T2 : Hid (∀ w, Calls Tryd.prog 120 #[fr c d, fr c' d'] w fun e w' => e = .returned (.tuple #[fr N' D', .int .i64 E]) ∧ Gr w w')) :
    Calls Tryd.prog 63 #[ru a b c d, ru a' b' c' d'] w fun e w' => e = .returned (.tuple #[ru 0 0 0 0, .int .i64 10]) ∧ Gr w w' := by
  go_enter Tryd.func63, Tryd.ntmps63
  go_wp2_with fail
  have G := Gr.refl w
  have b2 := heap_alloc_self w (.cells #[.int .i64 a, .int .i64 b, .int .i64 c, .int .i64 d] 34)
  replace G := G.alloc (.cells #[.int .i64 a, .int .i64 b, .int .i64 c, .int .i64 d] 34)
  replace b2 := ((Gr.refl _).alloc (.cells #[.int .i64 (a'), .int .i64 (b'), .int .i64 (c'), .int .i64 (d')] 34)).heap b2
  have b3 := heap_alloc_self (w.alloc (.cells #[.int .i64 a, .int .i64 b, .int .i64 c, .int .i64 d] 34)) (.cells #[.int .i64 (a'), .int .i64 (b'), .int .i64 (c'), .int .i64 (d')] 34)
  replace G := G.alloc (.cells #[.int .i64 (a'), .int .i64 (b'), .int .i64 (c'), .int .i64 (d')] 34)
  replace b2 := ((Gr.refl _).alloc (.cells #[.int .i64 0, .int .i64 0, .int .i64 0, .int .i64 0] 34)).heap b2
  replace b3 := ((Gr.refl _).alloc (.cells #[.int .i64 0, .int .i64 0, .int .i64 0, .int .i64 0] 34)).heap b3
  have b4 := heap_alloc_self ((w.alloc (.cells #[.int .i64 a, .int .i64 b, .int .i64 c, .int .i64 d] 34)).alloc (.cells #[.int .i64 (a'), .int .i64 (b'), .int .i64 (c'), .int .i64 (d')] 34)) (.cells #[.int .i64 0, .int .i64 0, .int .i64 0, .int .i64 0] 34)
  replace G := G.alloc (.cells #[.int .i64 0, .int .i64 0, .int .i64 0, .int .i64 0] 34)
  generalize hW : (((w.alloc (.cells #[.int .i64 a, .int .i64 b, .int .i64 c, .int .i64 d] 34)).alloc (.cells #[.int .i64 (a'), .int .i64 (b'), .int .i64 (c'), .int .i64 (d')] 34)).alloc (.cells #[.int .i64 0, .int .i64 0, .int .i64 0, .int .i64 0] 34)) = W1 at *
  simp only [World.size_alloc] at b3
  simp only [World.size_alloc] at b4
  have w0 : w.heap.size ≤ w.heap.size := Nat.le_refl _
  obtain ⟨p4, hp4⟩ : ∃ p4, w.heap.size + 1 + 1 = p4 := ⟨_, rfl⟩
  obtain ⟨p3, hp3⟩ : ∃ p3, w.heap.size + 1 = p3 := ⟨_, rfl⟩
  obtain ⟨p2, hp2⟩ : ∃ p2, w.heap.size = p2 := ⟨_, rfl⟩
  rw [hp4] at b4
  rw [hp3] at b3
  rw [hp2] at b2
  try simp only [hp4]
  try simp only [hp3]
  try simp only [hp2]
  have s2 : w.heap.size ≤ p2 := by omega
  have n2_3 : ¬ p2 = p3 := by omega
  have n3_2 : ¬ p3 = p2 := by omega
  have s3 : w.heap.size ≤ p3 := by omega
  have n2_4 : ¬ p2 = p4 := by omega
  have n4_2 : ¬ p4 = p2 := by omega
  have n3_4 : ¬ p3 = p4 := by omega
  have n4_3 : ¬ p4 = p3 := by omega
  have s4 : w.heap.size ≤ p4 := by omega
  clear  w0
  clear hp2
  clear hp3
  clear hp4
  clear hW
  refine (C1.out _).mono ?_
  rintro e w1 ⟨rfl, g1⟩
  obtain ⟨c2, f2, z2⟩ := blk_cells (g1.heap b2)
  obtain ⟨c3, f3, z3⟩ := blk_cells (g1.heap b3)
  obtain ⟨c4, f4, z4⟩ := blk_cells (g1.heap b4)
  have z0 : w.heap.size ≤ w1.heap.size := (Gr.trans G g1).b.size
  go_wp2_with fail
  clear c2 f2 c3 f3 c4 f4
  replace b2 := g1.heap b2
  replace b3 := g1.heap b3
  replace b4 := g1.heap b4
  have G := G.trans g1
  clear z2 z3 z4 z0
  clear g1
  refine (C2.out _).mono ?_
  rintro e w2 ⟨rfl, g2⟩
  obtain ⟨c2, f2, z2⟩ := blk_cells (g2.heap b2)
  obtain ⟨c3, f3, z3⟩ := blk_cells (g2.heap b3)
  obtain ⟨c4, f4, z4⟩ := blk_cells (g2.heap b4)
  have z0 : w.heap.size ≤ w2.heap.size := (Gr.trans G g2).b.size
  go_wp2_with fail
  clear c2 f2 c3 f3 c4 f4
  replace b2 := g2.heap b2
  replace b3 := g2.heap b3
  replace b4 := g2.heap b4
  have G := G.trans g2
  clear z2 z3 z4 z0
  clear g2
  refine (T1.out _).mono ?_
  rintro e w3 ⟨rfl, g3⟩
  obtain ⟨c2, f2, z2⟩ := blk_cells (g3.heap b2)
  obtain ⟨c3, f3, z3⟩ := blk_cells (g3.heap b3)
  obtain ⟨c4, f4, z4⟩ := blk_cells (g3.heap b4)
  have z0 : w.heap.size ≤ w3.heap.size := (Gr.trans G g3).b.size
  go_wp2_with fail
  clear c2 f2 c3 f3 c4 f4
  replace b2 := g3.heap b2
  replace b3 := g3.heap b3
  replace b4 := g3.heap b4
  have G := G.trans g3
  replace b2 := ((Gr.refl _).alloc (.cells #[.int .i64 N, .int .i64 D] 23)).heap b2
  replace b3 := ((Gr.refl _).alloc (.cells #[.int .i64 N, .int .i64 D] 23)).heap b3
  replace b4 := ((Gr.refl _).alloc (.cells #[.int .i64 N, .int .i64 D] 23)).heap b4
  have b7 := heap_alloc_self w3 (.cells #[.int .i64 N, .int .i64 D] 23)
  replace G := G.alloc (.cells #[.int .i64 N, .int .i64 D] 23)
  generalize hW : (w3.alloc (.cells #[.int .i64 N, .int .i64 D] 23)) = W4 at *
  have o2 : p2 < w3.heap.size := z2
  have o3 : p3 < w3.heap.size := z3
  have o4 : p4 < w3.heap.size := z4
  have w0 : w.heap.size ≤ w3.heap.size := z0
  obtain ⟨p7, hp7⟩ : ∃ p7, w3.heap.size = p7 := ⟨_, rfl⟩
  rw [hp7] at b7
  try simp only [hp7]
  have n2_7 : ¬ p2 = p7 := by omega
  have n7_2 : ¬ p7 = p2 := by omega
  have n3_7 : ¬ p3 = p7 := by omega
  have n7_3 : ¬ p7 = p3 := by omega
  have n4_7 : ¬ p4 = p7 := by omega
  have n7_4 : ¬ p7 = p4 := by omega
  have s7 : w.heap.size ≤ p7 := by omega
  clear o2 o3 o4 w0
  clear hp7
  clear hW
  clear z2 z3 z4 z0
  clear g3
  refine (T2.out _).mono ?_
  rintro e w4 ⟨rfl, g4⟩
  obtain ⟨c2, f2, z2⟩ := blk_cells (g4.heap b2)
  obtain ⟨c3, f3, z3⟩ := blk_cells (g4.heap b3)
  obtain ⟨c4, f4, z4⟩ := blk_cells (g4.heap b4)
  obtain ⟨c7, f7, z7⟩ := blk_cells (g4.heap b7)
  have z0 : w.heap.size ≤ w4.heap.size := (Gr.trans G g4).b.size
  go_upto_region 9 with (fail)
  clear c2 f2 c3 f3 c4 f4 c7 f7
  replace b2 := g4.heap b2
  replace b3 := g4.heap b3
  replace b4 := g4.heap b4
  replace b7 := g4.heap b7
  have G := G.trans g4
  replace b2 := ((Gr.refl _).alloc (.cells #[.int .i64 (N'), .int .i64 (D')] 23)).heap b2
  replace b3 := ((Gr.refl _).alloc (.cells #[.int .i64 (N'), .int .i64 (D')] 23)).heap b3
  replace b4 := ((Gr.refl _).alloc (.cells #[.int .i64 (N'), .int .i64 (D')] 23)).heap b4
  replace b7 := ((Gr.refl _).alloc (.cells #[.int .i64 (N'), .int .i64 (D')] 23)).heap b7
  have b9 := heap_alloc_self w4 (.cells #[.int .i64 (N'), .int .i64 (D')] 23)
  replace G := G.alloc (.cells #[.int .i64 (N'), .int .i64 (D')] 23)
  replace b2 := ((Gr.refl _).alloc (.cells #[.int .i64 N, .int .i64 D, .int .i64 (N'), .int .i64 (D')] 34)).heap b2
  replace b3 := ((Gr.refl _).alloc (.cells #[.int .i64 N, .int .i64 D, .int .i64 (N'), .int .i64 (D')] 34)).heap b3
  replace b4 := ((Gr.refl _).alloc (.cells #[.int .i64 N, .int .i64 D, .int .i64 (N'), .int .i64 (D')] 34)).heap b4
  replace b7 := ((Gr.refl _).alloc (.cells #[.int .i64 N, .int .i64 D, .int .i64 (N'), .int .i64 (D')] 34)).heap b7
  replace b9 := ((Gr.refl _).alloc (.cells #[.int .i64 N, .int .i64 D, .int .i64 (N'), .int .i64 (D')] 34)).heap b9
  have b11 := heap_alloc_self (w4.alloc (.cells #[.int .i64 (N'), .int .i64 (D')] 23)) (.cells #[.int .i64 N, .int .i64 D, .int .i64 (N'), .int .i64 (D')] 34)
  replace G := G.alloc (.cells #[.int .i64 N, .int .i64 D, .int .i64 (N'), .int .i64 (D')] 34)
  generalize hW : ((w4.alloc (.cells #[.int .i64 (N'), .int .i64 (D')] 23)).alloc (.cells #[.int .i64 N, .int .i64 D, .int .i64 (N'), .int .i64 (D')] 34)) = W5 at *
  simp only [World.size_alloc] at b11
  have o2 : p2 < w4.heap.size := z2
  have o3 : p3 < w4.heap.size := z3
  have o4 : p4 < w4.heap.size := z4
  have o7 : p7 < w4.heap.size := z7
  have w0 : w.heap.size ≤ w4.heap.size := z0
  obtain ⟨p11, hp11⟩ : ∃ p11, w4.heap.size + 1 = p11 := ⟨_, rfl⟩
  obtain ⟨p9, hp9⟩ : ∃ p9, w4.heap.size = p9 := ⟨_, rfl⟩
  rw [hp11] at b11
  rw [hp9] at b9
  try simp only [hp11]
  try simp only [hp9]
  have n2_9 : ¬ p2 = p9 := by omega
  have n9_2 : ¬ p9 = p2 := by omega
  have n3_9 : ¬ p3 = p9 := by omega
  have n9_3 : ¬ p9 = p3 := by omega
  have n4_9 : ¬ p4 = p9 := by omega
  have n9_4 : ¬ p9 = p4 := by omega
  have n7_9 : ¬ p7 = p9 := by omega
  have n9_7 : ¬ p9 = p7 := by omega
  have s9 : w.heap.size ≤ p9 := by omega
  have n2_11 : ¬ p2 = p11 := by omega
  have n11_2 : ¬ p11 = p2 := by omega
  have n3_11 : ¬ p3 = p11 := by omega
  have n11_3 : ¬ p11 = p3 := by omega
  have n4_11 : ¬ p4 = p11 := by omega
  have n11_4 : ¬ p11 = p4 := by omega
  have n7_11 : ¬ p7 = p11 := by omega
  have n11_7 : ¬ p11 = p7 := by omega
  have n9_11 : ¬ p9 = p11 := by omega
  have n11_9 : ¬ p11 = p9 := by omega
  have s11 : w.heap.size ≤ p11 := by omega
  clear o2 o3 o4 o7 w0
  clear hp9
  clear hp11
  clear hW
  clear z2 z3 z4 z7 z0
  clear g4
  obtain ⟨c2, f2, z2⟩ := blk_cells b2
  obtain ⟨c3, f3, z3⟩ := blk_cells b3
  obtain ⟨c4, f4, z4⟩ := blk_cells b4
  obtain ⟨c7, f7, z7⟩ := blk_cells b7
  obtain ⟨c9, f9, z9⟩ := blk_cells b9
  obtain ⟨c11, f11, z11⟩ := blk_cells b11
  go_wp2_with fail
  exact bodyPost_ret (v := .tuple #[ru 0 0 0 0, .int .i64 10]) (by simp [results, Tryd.results63, go_sem, *]) rfl ⟨rfl, (by repeat (first | exact Gr.refl _ | assumption | refine Gr.alloc ?_ _ | refine Gr.drew ?_ | refine Gr.drewN ?_ _ | refine Gr.set ?_ _ _ (by first | (simp; done) | (simp; omega)) | refine Gr.trans ?_ (by assumption)))⟩
set_option maxRecDepth 100000 in
set_option maxHeartbeats 4000000 in
theorem rTwice_b4 (a b c d a' b' c' d' N D N' D' : Int) (w : World) (C1 : Hid (∀ w, Calls Tryd.prog 62 #[ru a b c d] w fun e w' => e = .returned (.int .i64 0) ∧ Gr w w')) (C2 : Hid (∀ w, Calls Tryd.prog 62 #[ru a' b' c' d'] w fun e w' => e = .returned (.int .i64 0) ∧ Gr w w')) (T1 : Hid (∀ w, Calls Tryd.prog 120 #[fr a b, fr a' b'] w fun e w' => e = .returned (.tuple #[fr N D, .int .i64 0]) ∧ Gr w w')) (T2 : Hid (∀ w, Calls Tryd.prog 120 #[fr c d, fr c' d'] w fun e w' => e = .returned (.tuple #[fr N' D', .int .i64 10]) ∧ Gr w w')) :
    Calls Tryd.prog 63 #[ru a b c d, ru a' b' c' d'] w fun e w' => e = .returned (.tuple #[ru 0 0 0 0, .int .i64 10]) ∧ Gr w w' := by
  go_enter Tryd.func63, Tryd.ntmps63
  go_wp2_with fail
  have G := Gr.refl w
  have b2 := heap_alloc_self w (.cells #[.int .i64 a, .int .i64 b, .int .i64 c, .int .i64 d] 34)
  replace G := G.alloc (.cells #[.int .i64 a, .int .i64 b, .int .i64 c, .int .i64 d] 34)
  replace b2 := ((Gr.refl _).alloc (.cells #[.int .i64 (a'), .int .i64 (b'), .int .i64 (c'), .int .i64 (d')] 34)).heap b2
  have b3 := heap_alloc_self (w.alloc (.cells #[.int .i64 a, .int .i64 b, .int .i64 c, .int .i64 d] 34)) (.cells #[.int .i64 (a'), .int .i64 (b'), .int .i64 (c'), .int .i64 (d')] 34)
  replace G := G.alloc (.cells #[.int .i64 (a'), .int .i64 (b'), .int .i64 (c'), .int .i64 (d')] 34)
  replace b2 := ((Gr.refl _).alloc (.cells #[.int .i64 0, .int .i64 0, .int .i64 0, .int .i64 0] 34)).heap b2
  replace b3 := ((Gr.refl _).alloc (.cells #[.int .i64 0, .int .i64 0, .int .i64 0, .int .i64 0] 34)).heap b3
  have b4 := heap_alloc_self ((w.alloc (.cells #[.int .i64 a, .int .i64 b, .int .i64 c, .int .i64 d] 34)).alloc (.cells #[.int .i64 (a'), .int .i64 (b'), .int .i64 (c'), .int .i64 (d')] 34)) (.cells #[.int .i64 0, .int .i64 0, .int .i64 0, .int .i64 0] 34)
  replace G := G.alloc (.cells #[.int .i64 0, .int .i64 0, .int .i64 0, .int .i64 0] 34)
  generalize hW : (((w.alloc (.cells #[.int .i64 a, .int .i64 b, .int .i64 c, .int .i64 d] 34)).alloc (.cells #[.int .i64 (a'), .int .i64 (b'), .int .i64 (c'), .int .i64 (d')] 34)).alloc (.cells #[.int .i64 0, .int .i64 0, .int .i64 0, .int .i64 0] 34)) = W1 at *
  simp only [World.size_alloc] at b3
  simp only [World.size_alloc] at b4
  have w0 : w.heap.size ≤ w.heap.size := Nat.le_refl _
  obtain ⟨p4, hp4⟩ : ∃ p4, w.heap.size + 1 + 1 = p4 := ⟨_, rfl⟩
  obtain ⟨p3, hp3⟩ : ∃ p3, w.heap.size + 1 = p3 := ⟨_, rfl⟩
  obtain ⟨p2, hp2⟩ : ∃ p2, w.heap.size = p2 := ⟨_, rfl⟩
  rw [hp4] at b4
  rw [hp3] at b3
  rw [hp2] at b2
  try simp only [hp4]
  try simp only [hp3]
  try simp only [hp2]
  have s2 : w.heap.size ≤ p2 := by omega
  have n2_3 : ¬ p2 = p3 := by omega
  have n3_2 : ¬ p3 = p2 := by omega
  have s3 : w.heap.size ≤ p3 := by omega
  have n2_4 : ¬ p2 = p4 := by omega
  have n4_2 : ¬ p4 = p2 := by omega
  have n3_4 : ¬ p3 = p4 := by omega
  have n4_3 : ¬ p4 = p3 := by omega
  have s4 : w.heap.size ≤ p4 := by omega
  clear  w0
  clear hp2
  clear hp3
  clear hp4
  clear hW
  refine (C1.out _).mono ?_
  rintro e w1 ⟨rfl, g1⟩
  obtain ⟨c2, f2, z2⟩ := blk_cells (g1.heap b2)
  obtain ⟨c3, f3, z3⟩ := blk_cells (g1.heap b3)
  obtain ⟨c4, f4, z4⟩ := blk_cells (g1.heap b4)
  have z0 : w.heap.size ≤ w1.heap.size := (Gr.trans G g1).b.size
  go_wp2_with fail
  clear c2 f2 c3 f3 c4 f4
  replace b2 := g1.heap b2
  replace b3 := g1.heap b3
  replace b4 := g1.heap b4
  have G := G.trans g1
  clear z2 z3 z4 z0
  clear g1
  refine (C2.out _).mono ?_
  rintro e w2 ⟨rfl, g2⟩
  obtain ⟨c2, f2, z2⟩ := blk_cells (g2.heap b2)
  obtain ⟨c3, f3, z3⟩ := blk_cells (g2.heap b3)
  obtain ⟨c4, f4, z4⟩ := blk_cells (g2.heap b4)
  have z0 : w.heap.size ≤ w2.heap.size := (Gr.trans G g2).b.size
  go_wp2_with fail
  clear c2 f2 c3 f3 c4 f4
  replace b2 := g2.heap b2
  replace b3 := g2.heap b3
  replace b4 := g2.heap b4
  have G := G.trans g2
  clear z2 z3 z4 z0
  clear g2
  refine (T1.out _).mono ?_
  rintro e w3 ⟨rfl, g3⟩
  obtain ⟨c2, f2, z2⟩ := blk_cells (g3.heap b2)
  obtain ⟨c3, f3, z3⟩ := blk_cells (g3.heap b3)
  obtain ⟨c4, f4, z4⟩ := blk_cells (g3.heap b4)
  have z0 : w.heap.size ≤ w3.heap.size := (Gr.trans G g3).b.size
  go_wp2_with fail
  clear c2 f2 c3 f3 c4 f4
  replace b2 := g3.heap b2
  replace b3 := g3.heap b3
  replace b4 := g3.heap b4
  have G := G.trans g3
  replace b2 := ((Gr.refl _).alloc (.cells #[.int .i64 N, .int .i64 D] 23)).heap b2
  replace b3 := ((Gr.refl _).alloc (.cells #[.int .i64 N, .int .i64 D] 23)).heap b3
  replace b4 := ((Gr.refl _).alloc (.cells #[.int .i64 N, .int .i64 D] 23)).heap b4
  have b7 := heap_alloc_self w3 (.cells #[.int .i64 N, .int .i64 D] 23)
  replace G := G.alloc (.cells #[.int .i64 N, .int .i64 D] 23)
  generalize hW : (w3.alloc (.cells #[.int .i64 N, .int .i64 D] 23)) = W4 at *
  have o2 : p2 < w3.heap.size := z2
  have o3 : p3 < w3.heap.size := z3
  have o4 : p4 < w3.heap.size := z4
  have w0 : w.heap.size ≤ w3.heap.size := z0
  obtain ⟨p7, hp7⟩ : ∃ p7, w3.heap.size = p7 := ⟨_, rfl⟩
  rw [hp7] at b7
  try simp only [hp7]
  have n2_7 : ¬ p2 = p7 := by omega
  have n7_2 : ¬ p7 = p2 := by omega
  have n3_7 : ¬ p3 = p7 := by omega
  have n7_3 : ¬ p7 = p3 := by omega
  have n4_7 : ¬ p4 = p7 := by omega
  have n7_4 : ¬ p7 = p4 := by omega
  have s7 : w.heap.size ≤ p7 := by omega
  clear o2 o3 o4 w0
  clear hp7
  clear hW
  clear z2 z3 z4 z0
  clear g3
  refine (T2.out _).mono ?_
  rintro e w4 ⟨rfl, g4⟩
  obtain ⟨c2, f2, z2⟩ := blk_cells (g4.heap b2)
  obtain ⟨c3, f3, z3⟩ := blk_cells (g4.heap b3)
  obtain ⟨c4, f4, z4⟩ := blk_cells (g4.heap b4)
  obtain ⟨c7, f7, z7⟩ := blk_cells (g4.heap b7)
  have z0 : w.heap.size ≤ w4.heap.size := (Gr.trans G g4).b.size
  go_upto_region 9 with (fail)
  clear c2 f2 c3 f3 c4 f4 c7 f7
  replace b2 := g4.heap b2
  replace b3 := g4.heap b3
  replace b4 := g4.heap b4
  replace b7 := g4.heap b7
  have G := G.trans g4
  replace b2 := ((Gr.refl _).alloc (.cells #[.int .i64 (N'), .int .i64 (D')] 23)).heap b2
  replace b3 := ((Gr.refl _).alloc (.cells #[.int .i64 (N'), .int .i64 (D')] 23)).heap b3
  replace b4 := ((Gr.refl _).alloc (.cells #[.int .i64 (N'), .int .i64 (D')] 23)).heap b4
  replace b7 := ((Gr.refl _).alloc (.cells #[.int .i64 (N'), .int .i64 (D')] 23)).heap b7
  have b9 := heap_alloc_self w4 (.cells #[.int .i64 (N'), .int .i64 (D')] 23)
  replace G := G.alloc (.cells #[.int .i64 (N'), .int .i64 (D')] 23)
  replace b2 := ((Gr.refl _).alloc (.cells #[.int .i64 N, .int .i64 D, .int .i64 (N'), .int .i64 (D')] 34)).heap b2
  replace b3 := ((Gr.refl _).alloc (.cells #[.int .i64 N, .int .i64 D, .int .i64 (N'), .int .i64 (D')] 34)).heap b3
  replace b4 := ((Gr.refl _).alloc (.cells #[.int .i64 N, .int .i64 D, .int .i64 (N'), .int .i64 (D')] 34)).heap b4
  replace b7 := ((Gr.refl _).alloc (.cells #[.int .i64 N, .int .i64 D, .int .i64 (N'), .int .i64 (D')] 34)).heap b7
  replace b9 := ((Gr.refl _).alloc (.cells #[.int .i64 N, .int .i64 D, .int .i64 (N'), .int .i64 (D')] 34)).heap b9
  have b11 := heap_alloc_self (w4.alloc (.cells #[.int .i64 (N'), .int .i64 (D')] 23)) (.cells #[.int .i64 N, .int .i64 D, .int .i64 (N'), .int .i64 (D')] 34)
  replace G := G.alloc (.cells #[.int .i64 N, .int .i64 D, .int .i64 (N'), .int .i64 (D')] 34)
  generalize hW : ((w4.alloc (.cells #[.int .i64 (N'), .int .i64 (D')] 23)).alloc (.cells #[.int .i64 N, .int .i64 D, .int .i64 (N'), .int .i64 (D')] 34)) = W5 at *
  simp only [World.size_alloc] at b11
  have o2 : p2 < w4.heap.size := z2
  have o3 : p3 < w4.heap.size := z3
  have o4 : p4 < w4.heap.size := z4
  have o7 : p7 < w4.heap.size := z7
  have w0 : w.heap.size ≤ w4.heap.size := z0
  obtain ⟨p11, hp11⟩ : ∃ p11, w4.heap.size + 1 = p11 := ⟨_, rfl⟩
  obtain ⟨p9, hp9⟩ : ∃ p9, w4.heap.size = p9 := ⟨_, rfl⟩
  rw [hp11] at b11
  rw [hp9] at b9
  try simp only [hp11]
  try simp only [hp9]
  have n2_9 : ¬ p2 = p9 := by omega
  have n9_2 : ¬ p9 = p2 := by omega
  have n3_9 : ¬ p3 = p9 := by omega
  have n9_3 : ¬ p9 = p3 := by omega
  have n4_9 : ¬ p4 = p9 := by omega
  have n9_4 : ¬ p9 = p4 := by omega
  have n7_9 : ¬ p7 = p9 := by omega
  have n9_7 : ¬ p9 = p7 := by omega
  have s9 : w.heap.size ≤ p9 := by omega
  have n2_11 : ¬ p2 = p11 := by omega
  have n11_2 : ¬ p11 = p2 := by omega
  have n3_11 : ¬ p3 = p11 := by omega
  have n11_3 : ¬ p11 = p3 := by omega
  have n4_11 : ¬ p4 = p11 := by omega
  have n11_4 : ¬ p11 = p4 := by omega
  have n7_11 : ¬ p7 = p11 := by omega
  have n11_7 : ¬ p11 = p7 := by omega
  have n9_11 : ¬ p9 = p11 := by omega
  have n11_9 : ¬ p11 = p9 := by omega
  have s11 : w.heap.size ≤ p11 := by omega
  clear o2 o3 o4 o7 w0
  clear hp9
  clear hp11
  clear hW
  clear z2 z3 z4 z7 z0
  clear g4
  obtain ⟨c2, f2, z2⟩ := blk_cells b2
  obtain ⟨c3, f3, z3⟩ := blk_cells b3
  obtain ⟨c4, f4, z4⟩ := blk_cells b4
  obtain ⟨c7, f7, z7⟩ := blk_cells b7
  obtain ⟨c9, f9, z9⟩ := blk_cells b9
  obtain ⟨c11, f11, z11⟩ := blk_cells b11
  go_wp2_with fail
  exact bodyPost_ret (v := .tuple #[ru 0 0 0 0, .int .i64 10]) (by simp [results, Tryd.results63, go_sem, *]) rfl ⟨rfl, (by repeat (first | exact Gr.refl _ | assumption | refine Gr.alloc ?_ _ | refine Gr.drew ?_ | refine Gr.drewN ?_ _ | refine Gr.set ?_ _ _ (by first | (simp; done) | (simp; omega)) | refine Gr.trans ?_ (by assumption)))⟩
set_option maxRecDepth 100000 in
set_option maxHeartbeats 4000000 in
theorem rTwice_b5 (a b c d a' b' c' d' N D N' D' : Int) (w : World) (C1 : Hid (∀ w, Calls Tryd.prog 62 #[ru a b c d] w fun e w' => e = .returned (.int .i64 0) ∧ Gr w w')) (C2 : Hid (∀ w, Calls Tryd.prog 62 #[ru a' b' c' d'] w fun e w' => e = .returned (.int .i64 0) ∧ Gr w w')) (T1 : Hid (∀ w, Calls Tryd.prog 120 #[fr a b, fr a' b'] w fun e w' => e = .returned (.tuple #[fr N D, .int .i64 0]) ∧ Gr w w')) (T2 : Hid (∀ w, Calls Tryd.prog 120 #[fr c d, fr c' d'] w fun e w' => e = .returned (.tuple #[fr N' D', .int .i64 0]) ∧ Gr w w')) (C3 : Hid (∀ w, Calls Tryd.prog 62 #[ru N D N' D'] w fun e w' => e = .returned (.int .i64 1) ∧ Gr w w')) :
    Calls Tryd.prog 63 #[ru a b c d, ru a' b' c' d'] w fun e w' => e = .returned (.tuple #[ru 0 0 0 0, .int .i64 10]) ∧ Gr w w' := by
  go_enter Tryd.func63, Tryd.ntmps63
  go_wp2_with fail
  have G := Gr.refl w
  have b2 := heap_alloc_self w (.cells #[.int .i64 a, .int .i64 b, .int .i64 c, .int .i64 d] 34)
  replace G := G.alloc (.cells #[.int .i64 a, .int .i64 b, .int .i64 c, .int .i64 d] 34)
  replace b2 := ((Gr.refl _).alloc (.cells #[.int .i64 (a'), .int .i64 (b'), .int .i64 (c'), .int .i64 (d')] 34)).heap b2
  have b3 := heap_alloc_self (w.alloc (.cells #[.int .i64 a, .int .i64 b, .int .i64 c, .int .i64 d] 34)) (.cells #[.int .i64 (a'), .int .i64 (b'), .int .i64 (c'), .int .i64 (d')] 34)
  replace G := G.alloc (.cells #[.int .i64 (a'), .int .i64 (b'), .int .i64 (c'), .int .i64 (d')] 34)
  replace b2 := ((Gr.refl _).alloc (.cells #[.int .i64 0, .int .i64 0, .int .i64 0, .int .i64 0] 34)).heap b2
  replace b3 := ((Gr.refl _).alloc (.cells #[.int .i64 0, .int .i64 0, .int .i64 0, .int .i64 0] 34)).heap b3
  have b4 := heap_alloc_self ((w.alloc (.cells #[.int .i64 a, .int .i64 b, .int .i64 c, .int .i64 d] 34)).alloc (.cells #[.int .i64 (a'), .int .i64 (b'), .int .i64 (c'), .int .i64 (d')] 34)) (.cells #[.int .i64 0, .int .i64 0, .int .i64 0, .int .i64 0] 34)
  replace G := G.alloc (.cells #[.int .i64 0, .int .i64 0, .int .i64 0, .int .i64 0] 34)
  generalize hW : (((w.alloc (.cells #[.int .i64 a, .int .i64 b, .int .i64 c, .int .i64 d] 34)).alloc (.cells #[.int .i64 (a'), .int .i64 (b'), .int .i64 (c'), .int .i64 (d')] 34)).alloc (.cells #[.int .i64 0, .int .i64 0, .int .i64 0, .int .i64 0] 34)) = W1 at *
  simp only [World.size_alloc] at b3
  simp only [World.size_alloc] at b4
  have w0 : w.heap.size ≤ w.heap.size := Nat.le_refl _
  obtain ⟨p4, hp4⟩ : ∃ p4, w.heap.size + 1 + 1 = p4 := ⟨_, rfl⟩
  obtain ⟨p3, hp3⟩ : ∃ p3, w.heap.size + 1 = p3 := ⟨_, rfl⟩
  obtain ⟨p2, hp2⟩ : ∃ p2, w.heap.size = p2 := ⟨_, rfl⟩
  rw [hp4] at b4
  rw [hp3] at b3
  rw [hp2] at b2
  try simp only [hp4]
  try simp only [hp3]
  try simp only [hp2]
  have s2 : w.heap.size ≤ p2 := by omega
  have n2_3 : ¬ p2 = p3 := by omega
  have n3_2 : ¬ p3 = p2 := by omega
  have s3 : w.heap.size ≤ p3 := by omega
  have n2_4 : ¬ p2 = p4 := by omega
  have n4_2 : ¬ p4 = p2 := by omega
  have n3_4 : ¬ p3 = p4 := by omega
  have n4_3 : ¬ p4 = p3 := by omega
  have s4 : w.heap.size ≤ p4 := by omega
  clear  w0
  clear hp2
  clear hp3
  clear hp4
  clear hW
  refine (C1.out _).mono ?_
  rintro e w1 ⟨rfl, g1⟩
  obtain ⟨c2, f2, z2⟩ := blk_cells (g1.heap b2)
  obtain ⟨c3, f3, z3⟩ := blk_cells (g1.heap b3)
  obtain ⟨c4, f4, z4⟩ := blk_cells (g1.heap b4)
  have z0 : w.heap.size ≤ w1.heap.size := (Gr.trans G g1).b.size
  go_wp2_with fail
  clear c2 f2 c3 f3 c4 f4
  replace b2 := g1.heap b2
  replace b3 := g1.heap b3
  replace b4 := g1.heap b4
  have G := G.trans g1
  clear z2 z3 z4 z0
  clear g1
  refine (C2.out _).mono ?_
  rintro e w2 ⟨rfl, g2⟩
  obtain ⟨c2, f2, z2⟩ := blk_cells (g2.heap b2)
  obtain ⟨c3, f3, z3⟩ := blk_cells (g2.heap b3)
  obtain ⟨c4, f4, z4⟩ := blk_cells (g2.heap b4)
  have z0 : w.heap.size ≤ w2.heap.size := (Gr.trans G g2).b.size
  go_wp2_with fail
  clear c2 f2 c3 f3 c4 f4
  replace b2 := g2.heap b2
  replace b3 := g2.heap b3
  replace b4 := g2.heap b4
  have G := G.trans g2
  clear z2 z3 z4 z0
  clear g2
  refine (T1.out _).mono ?_
  rintro e w3 ⟨rfl, g3⟩
  obtain ⟨c2, f2, z2⟩ := blk_cells (g3.heap b2)
  obtain ⟨c3, f3, z3⟩ := blk_cells (g3.heap b3)
  obtain ⟨c4, f4, z4⟩ := blk_cells (g3.heap b4)
  have z0 : w.heap.size ≤ w3.heap.size := (Gr.trans G g3).b.size
  go_wp2_with fail
  clear c2 f2 c3 f3 c4 f4
  replace b2 := g3.heap b2
  replace b3 := g3.heap b3
  replace b4 := g3.heap b4
  have G := G.trans g3
  replace b2 := ((Gr.refl _).alloc (.cells #[.int .i64 N, .int .i64 D] 23)).heap b2
  replace b3 := ((Gr.refl _).alloc (.cells #[.int .i64 N, .int .i64 D] 23)).heap b3
  replace b4 := ((Gr.refl _).alloc (.cells #[.int .i64 N, .int .i64 D] 23)).heap b4
  have b7 := heap_alloc_self w3 (.cells #[.int .i64 N, .int .i64 D] 23)
  replace G := G.alloc (.cells #[.int .i64 N, .int .i64 D] 23)
  generalize hW : (w3.alloc (.cells #[.int .i64 N, .int .i64 D] 23)) = W4 at *
  have o2 : p2 < w3.heap.size := z2
  have o3 : p3 < w3.heap.size := z3
  have o4 : p4 < w3.heap.size := z4
  have w0 : w.heap.size ≤ w3.heap.size := z0
  obtain ⟨p7, hp7⟩ : ∃ p7, w3.heap.size = p7 := ⟨_, rfl⟩
  rw [hp7] at b7
  try simp only [hp7]
  have n2_7 : ¬ p2 = p7 := by omega
  have n7_2 : ¬ p7 = p2 := by omega
  have n3_7 : ¬ p3 = p7 := by omega
  have n7_3 : ¬ p7 = p3 := by omega
  have n4_7 : ¬ p4 = p7 := by omega
  have n7_4 : ¬ p7 = p4 := by omega
  have s7 : w.heap.size ≤ p7 := by omega
  clear o2 o3 o4 w0
  clear hp7
  clear hW
  clear z2 z3 z4 z0
  clear g3
  refine (T2.out _).mono ?_
  rintro e w4 ⟨rfl, g4⟩
  obtain ⟨c2, f2, z2⟩ := blk_cells (g4.heap b2)
  obtain ⟨c3, f3, z3⟩ := blk_cells (g4.heap b3)
  obtain ⟨c4, f4, z4⟩ := blk_cells (g4.heap b4)
  obtain ⟨c7, f7, z7⟩ := blk_cells (g4.heap b7)
  have z0 : w.heap.size ≤ w4.heap.size := (Gr.trans G g4).b.size
  go_wp2_with fail
  clear c2 f2 c3 f3 c4 f4 c7 f7
  replace b2 := g4.heap b2
  replace b3 := g4.heap b3
  replace b4 := g4.heap b4
  replace b7 := g4.heap b7
  have G := G.trans g4
  replace b2 := ((Gr.refl _).alloc (.cells #[.int .i64 (N'), .int .i64 (D')] 23)).heap b2
  replace b3 := ((Gr.refl _).alloc (.cells #[.int .i64 (N'), .int .i64 (D')] 23)).heap b3
  replace b4 := ((Gr.refl _).alloc (.cells #[.int .i64 (N'), .int .i64 (D')] 23)).heap b4
  replace b7 := ((Gr.refl _).alloc (.cells #[.int .i64 (N'), .int .i64 (D')] 23)).heap b7
  have b9 := heap_alloc_self w4 (.cells #[.int .i64 (N'), .int .i64 (D')] 23)
  replace G := G.alloc (.cells #[.int .i64 (N'), .int .i64 (D')] 23)
  replace b2 := ((Gr.refl _).alloc (.cells #[.int .i64 N, .int .i64 D, .int .i64 (N'), .int .i64 (D')] 34)).heap b2
  replace b3 := ((Gr.refl _).alloc (.cells #[.int .i64 N, .int .i64 D, .int .i64 (N'), .int .i64 (D')] 34)).heap b3
  replace b4 := ((Gr.refl _).alloc (.cells #[.int .i64 N, .int .i64 D, .int .i64 (N'), .int .i64 (D')] 34)).heap b4
  replace b7 := ((Gr.refl _).alloc (.cells #[.int .i64 N, .int .i64 D, .int .i64 (N'), .int .i64 (D')] 34)).heap b7
  replace b9 := ((Gr.refl _).alloc (.cells #[.int .i64 N, .int .i64 D, .int .i64 (N'), .int .i64 (D')] 34)).heap b9
  have b11 := heap_alloc_self (w4.alloc (.cells #[.int .i64 (N'), .int .i64 (D')] 23)) (.cells #[.int .i64 N, .int .i64 D, .int .i64 (N'), .int .i64 (D')] 34)
  replace G := G.alloc (.cells #[.int .i64 N, .int .i64 D, .int .i64 (N'), .int .i64 (D')] 34)
  generalize hW : ((w4.alloc (.cells #[.int .i64 (N'), .int .i64 (D')] 23)).alloc (.cells #[.int .i64 N, .int .i64 D, .int .i64 (N'), .int .i64 (D')] 34)) = W5 at *
  simp only [World.size_alloc] at b11
  have o2 : p2 < w4.heap.size := z2
  have o3 : p3 < w4.heap.size := z3
  have o4 : p4 < w4.heap.size := z4
  have o7 : p7 < w4.heap.size := z7
  have w0 : w.heap.size ≤ w4.heap.size := z0
  obtain ⟨p11, hp11⟩ : ∃ p11, w4.heap.size + 1 = p11 := ⟨_, rfl⟩
  obtain ⟨p9, hp9⟩ : ∃ p9, w4.heap.size = p9 := ⟨_, rfl⟩
  rw [hp11] at b11
  rw [hp9] at b9
  try simp only [hp11]
  try simp only [hp9]
  have n2_9 : ¬ p2 = p9 := by omega
  have n9_2 : ¬ p9 = p2 := by omega
  have n3_9 : ¬ p3 = p9 := by omega
  have n9_3 : ¬ p9 = p3 := by omega
  have n4_9 : ¬ p4 = p9 := by omega
  have n9_4 : ¬ p9 = p4 := by omega
  have n7_9 : ¬ p7 = p9 := by omega
  have n9_7 : ¬ p9 = p7 := by omega
  have s9 : w.heap.size ≤ p9 := by omega
  have n2_11 : ¬ p2 = p11 := by omega
  have n11_2 : ¬ p11 = p2 := by omega
  have n3_11 : ¬ p3 = p11 := by omega
  have n11_3 : ¬ p11 = p3 := by omega
  have n4_11 : ¬ p4 = p11 := by omega
  have n11_4 : ¬ p11 = p4 := by omega
  have n7_11 : ¬ p7 = p11 := by omega
  have n11_7 : ¬ p11 = p7 := by omega
  have n9_11 : ¬ p9 = p11 := by omega
  have n11_9 : ¬ p11 = p9 := by omega
  have s11 : w.heap.size ≤ p11 := by omega
  clear o2 o3 o4 o7 w0
  clear hp9
  clear hp11
  clear hW
  clear z2 z3 z4 z7 z0
  clear g4
  refine (C3.out _).mono ?_
  rintro e w5 ⟨rfl, g5⟩
  obtain ⟨c2, f2, z2⟩ := blk_cells (g5.heap b2)
  obtain ⟨c3, f3, z3⟩ := blk_cells (g5.heap b3)
  obtain ⟨c4, f4, z4⟩ := blk_cells (g5.heap b4)
  obtain ⟨c7, f7, z7⟩ := blk_cells (g5.heap b7)
  obtain ⟨c9, f9, z9⟩ := blk_cells (g5.heap b9)
  obtain ⟨c11, f11, z11⟩ := blk_cells (g5.heap b11)
  have z0 : w.heap.size ≤ w5.heap.size := (Gr.trans G g5).b.size
  go_wp2_with fail
  clear c2 f2 c3 f3 c4 f4 c7 f7 c9 f9 c11 f11
  replace b2 := g5.heap b2
  replace b3 := g5.heap b3
  replace b4 := g5.heap b4
  replace b7 := g5.heap b7
  replace b9 := g5.heap b9
  replace b11 := g5.heap b11
  have G := G.trans g5
  clear z2 z3 z4 z7 z9 z11 z0
  clear g5
  obtain ⟨c2, f2, z2⟩ := blk_cells b2
  obtain ⟨c3, f3, z3⟩ := blk_cells b3
  obtain ⟨c4, f4, z4⟩ := blk_cells b4
  obtain ⟨c7, f7, z7⟩ := blk_cells b7
  obtain ⟨c9, f9, z9⟩ := blk_cells b9
  obtain ⟨c11, f11, z11⟩ := blk_cells b11
  exact bodyPost_ret (v := .tuple #[ru 0 0 0 0, .int .i64 10]) (by simp [results, Tryd.results63, go_sem, *]) rfl ⟨rfl, (by repeat (first | exact Gr.refl _ | assumption | refine Gr.alloc ?_ _ | refine Gr.drew ?_ | refine Gr.drewN ?_ _ | refine Gr.set ?_ _ _ (by first | (simp; done) | (simp; omega)) | refine Gr.trans ?_ (by assumption)))⟩
set_option maxRecDepth 100000 in
set_option maxHeartbeats 4000000 in
theorem rTwice_ok (a b c d a' b' c' d' N D N' D' : Int) (w : World) (C1 : Hid (∀ w, Calls Tryd.prog 62 #[ru a b c d] w fun e w' => e = .returned (.int .i64 0) ∧ Gr w w')) (C2 : Hid (∀ w, Calls Tryd.prog 62 #[ru a' b' c' d'] w fun e w' => e = .returned (.int .i64 0) ∧ Gr w w')) (T1 : Hid (∀ w, Calls Tryd.prog 120 #[fr a b, fr a' b'] w fun e w' => e = .returned (.tuple #[fr N D, .int .i64 0]) ∧ Gr w w')) (T2 : Hid (∀ w, Calls Tryd.prog 120 #[fr c d, fr c' d'] w fun e w' => e = .returned (.tuple #[fr N' D', .int .i64 0]) ∧ Gr w w')) (C3 : Hid (∀ w, Calls Tryd.prog 62 #[ru N D N' D'] w fun e w' => e = .returned (.int .i64 0) ∧ Gr w w')) :
    Calls Tryd.prog 63 #[ru a b c d, ru a' b' c' d'] w fun e w' => e = .returned (.tuple #[ru N D N' D', .int .i64 0]) ∧ Gr w w' := by
  go_enter Tryd.func63, Tryd.ntmps63
  go_wp2_with fail
  have G := Gr.refl w
  have b2 := heap_alloc_self w (.cells #[.int .i64 a, .int .i64 b, .int .i64 c, .int .i64 d] 34)
  replace G := G.alloc (.cells #[.int .i64 a, .int .i64 b, .int .i64 c, .int .i64 d] 34)
  replace b2 := ((Gr.refl _).alloc (.cells #[.int .i64 (a'), .int .i64 (b'), .int .i64 (c'), .int .i64 (d')] 34)).heap b2
  have b3 := heap_alloc_self (w.alloc (.cells #[.int .i64 a, .int .i64 b, .int .i64 c, .int .i64 d] 34)) (.cells #[.int .i64 (a'), .int .i64 (b'), .int .i64 (c'), .int .i64 (d')] 34)
  replace G := G.alloc (.cells #[.int .i64 (a'), .int .i64 (b'), .int .i64 (c'), .int .i64 (d')] 34)
  replace b2 := ((Gr.refl _).alloc (.cells #[.int .i64 0, .int .i64 0, .int .i64 0, .int .i64 0] 34)).heap b2
  replace b3 := ((Gr.refl _).alloc (.cells #[.int .i64 0, .int .i64 0, .int .i64 0, .int .i64 0] 34)).heap b3
  have b4 := heap_alloc_self ((w.alloc (.cells #[.int .i64 a, .int .i64 b, .int .i64 c, .int .i64 d] 34)).alloc (.cells #[.int .i64 (a'), .int .i64 (b'), .int .i64 (c'), .int .i64 (d')] 34)) (.cells #[.int .i64 0, .int .i64 0, .int .i64 0, .int .i64 0] 34)
  replace G := G.alloc (.cells #[.int .i64 0, .int .i64 0, .int .i64 0, .int .i64 0] 34)
  generalize hW : (((w.alloc (.cells #[.int .i64 a, .int .i64 b, .int .i64 c, .int .i64 d] 34)).alloc (.cells #[.int .i64 (a'), .int .i64 (b'), .int .i64 (c'), .int .i64 (d')] 34)).alloc (.cells #[.int .i64 0, .int .i64 0, .int .i64 0, .int .i64 0] 34)) = W1 at *
  simp only [World.size_alloc] at b3
  simp only [World.size_alloc] at b4
  have w0 : w.heap.size ≤ w.heap.size := Nat.le_refl _
  obtain ⟨p4, hp4⟩ : ∃ p4, w.heap.size + 1 + 1 = p4 := ⟨_, rfl⟩
  obtain ⟨p3, hp3⟩ : ∃ p3, w.heap.size + 1 = p3 := ⟨_, rfl⟩
  obtain ⟨p2, hp2⟩ : ∃ p2, w.heap.size = p2 := ⟨_, rfl⟩
  rw [hp4] at b4
  rw [hp3] at b3
  rw [hp2] at b2
  try simp only [hp4]
  try simp only [hp3]
  try simp only [hp2]
  have s2 : w.heap.size ≤ p2 := by omega
  have n2_3 : ¬ p2 = p3 := by omega
  have n3_2 : ¬ p3 = p2 := by omega
  have s3 : w.heap.size ≤ p3 := by omega
  have n2_4 : ¬ p2 = p4 := by omega
  have n4_2 : ¬ p4 = p2 := by omega
  have n3_4 : ¬ p3 = p4 := by omega
  have n4_3 : ¬ p4 = p3 := by omega
  have s4 : w.heap.size ≤ p4 := by omega
  clear  w0
  clear hp2
  clear hp3
  clear hp4
  clear hW
  refine (C1.out _).mono ?_
  rintro e w1 ⟨rfl, g1⟩
  obtain ⟨c2, f2, z2⟩ := blk_cells (g1.heap b2)
  obtain ⟨c3, f3, z3⟩ := blk_cells (g1.heap b3)
  obtain ⟨c4, f4, z4⟩ := blk_cells (g1.heap b4)
  have z0 : w.heap.size ≤ w1.heap.size := (Gr.trans G g1).b.size
  go_wp2_with fail
  clear c2 f2 c3 f3 c4 f4
  replace b2 := g1.heap b2
  replace b3 := g1.heap b3
  replace b4 := g1.heap b4
  have G := G.trans g1
  clear z2 z3 z4 z0
  clear g1
  refine (C2.out _).mono ?_
  rintro e w2 ⟨rfl, g2⟩
  obtain ⟨c2, f2, z2⟩ := blk_cells (g2.heap b2)
  obtain ⟨c3, f3, z3⟩ := blk_cells (g2.heap b3)
  obtain ⟨c4, f4, z4⟩ := blk_cells (g2.heap b4)
  have z0 : w.heap.size ≤ w2.heap.size := (Gr.trans G g2).b.size
  go_wp2_with fail
  clear c2 f2 c3 f3 c4 f4
  replace b2 := g2.heap b2
  replace b3 := g2.heap b3
  replace b4 := g2.heap b4
  have G := G.trans g2
  clear z2 z3 z4 z0
  clear g2
  refine (T1.out _).mono ?_
  rintro e w3 ⟨rfl, g3⟩
  obtain ⟨c2, f2, z2⟩ := blk_cells (g3.heap b2)
  obtain ⟨c3, f3, z3⟩ := blk_cells (g3.heap b3)
  obtain ⟨c4, f4, z4⟩ := blk_cells (g3.heap b4)
  have z0 : w.heap.size ≤ w3.heap.size := (Gr.trans G g3).b.size
  go_wp2_with fail
  clear c2 f2 c3 f3 c4 f4
  replace b2 := g3.heap b2
  replace b3 := g3.heap b3
  replace b4 := g3.heap b4
  have G := G.trans g3
  replace b2 := ((Gr.refl _).alloc (.cells #[.int .i64 N, .int .i64 D] 23)).heap b2
  replace b3 := ((Gr.refl _).alloc (.cells #[.int .i64 N, .int .i64 D] 23)).heap b3
  replace b4 := ((Gr.refl _).alloc (.cells #[.int .i64 N, .int .i64 D] 23)).heap b4
  have b7 := heap_alloc_self w3 (.cells #[.int .i64 N, .int .i64 D] 23)
  replace G := G.alloc (.cells #[.int .i64 N, .int .i64 D] 23)
  generalize hW : (w3.alloc (.cells #[.int .i64 N, .int .i64 D] 23)) = W4 at *
  have o2 : p2 < w3.heap.size := z2
  have o3 : p3 < w3.heap.size := z3
  have o4 : p4 < w3.heap.size := z4
  have w0 : w.heap.size ≤ w3.heap.size := z0
  obtain ⟨p7, hp7⟩ : ∃ p7, w3.heap.size = p7 := ⟨_, rfl⟩
  rw [hp7] at b7
  try simp only [hp7]
  have n2_7 : ¬ p2 = p7 := by omega
  have n7_2 : ¬ p7 = p2 := by omega
  have n3_7 : ¬ p3 = p7 := by omega
  have n7_3 : ¬ p7 = p3 := by omega
  have n4_7 : ¬ p4 = p7 := by omega
  have n7_4 : ¬ p7 = p4 := by omega
  have s7 : w.heap.size ≤ p7 := by omega
  clear o2 o3 o4 w0
  clear hp7
  clear hW
  clear z2 z3 z4 z0
  clear g3
  refine (T2.out _).mono ?_
  rintro e w4 ⟨rfl, g4⟩
  obtain ⟨c2, f2, z2⟩ := blk_cells (g4.heap b2)
  obtain ⟨c3, f3, z3⟩ := blk_cells (g4.heap b3)
  obtain ⟨c4, f4, z4⟩ := blk_cells (g4.heap b4)
  obtain ⟨c7, f7, z7⟩ := blk_cells (g4.heap b7)
  have z0 : w.heap.size ≤ w4.heap.size := (Gr.trans G g4).b.size
  go_wp2_with fail
  clear c2 f2 c3 f3 c4 f4 c7 f7
  replace b2 := g4.heap b2
  replace b3 := g4.heap b3
  replace b4 := g4.heap b4
  replace b7 := g4.heap b7
  have G := G.trans g4
  replace b2 := ((Gr.refl _).alloc (.cells #[.int .i64 (N'), .int .i64 (D')] 23)).heap b2
  replace b3 := ((Gr.refl _).alloc (.cells #[.int .i64 (N'), .int .i64 (D')] 23)).heap b3
  replace b4 := ((Gr.refl _).alloc (.cells #[.int .i64 (N'), .int .i64 (D')] 23)).heap b4
  replace b7 := ((Gr.refl _).alloc (.cells #[.int .i64 (N'), .int .i64 (D')] 23)).heap b7
  have b9 := heap_alloc_self w4 (.cells #[.int .i64 (N'), .int .i64 (D')] 23)
  replace G := G.alloc (.cells #[.int .i64 (N'), .int .i64 (D')] 23)
  replace b2 := ((Gr.refl _).alloc (.cells #[.int .i64 N, .int .i64 D, .int .i64 (N'), .int .i64 (D')] 34)).heap b2
  replace b3 := ((Gr.refl _).alloc (.cells #[.int .i64 N, .int .i64 D, .int .i64 (N'), .int .i64 (D')] 34)).heap b3
  replace b4 := ((Gr.refl _).alloc (.cells #[.int .i64 N, .int .i64 D, .int .i64 (N'), .int .i64 (D')] 34)).heap b4
  replace b7 := ((Gr.refl _).alloc (.cells #[.int .i64 N, .int .i64 D, .int .i64 (N'), .int .i64 (D')] 34)).heap b7
  replace b9 := ((Gr.refl _).alloc (.cells #[.int .i64 N, .int .i64 D, .int .i64 (N'), .int .i64 (D')] 34)).heap b9
  have b11 := heap_alloc_self (w4.alloc (.cells #[.int .i64 (N'), .int .i64 (D')] 23)) (.cells #[.int .i64 N, .int .i64 D, .int .i64 (N'), .int .i64 (D')] 34)
  replace G := G.alloc (.cells #[.int .i64 N, .int .i64 D, .int .i64 (N'), .int .i64 (D')] 34)
  generalize hW : ((w4.alloc (.cells #[.int .i64 (N'), .int .i64 (D')] 23)).alloc (.cells #[.int .i64 N, .int .i64 D, .int .i64 (N'), .int .i64 (D')] 34)) = W5 at *
  simp only [World.size_alloc] at b11
  have o2 : p2 < w4.heap.size := z2
  have o3 : p3 < w4.heap.size := z3
  have o4 : p4 < w4.heap.size := z4
  have o7 : p7 < w4.heap.size := z7
  have w0 : w.heap.size ≤ w4.heap.size := z0
  obtain ⟨p11, hp11⟩ : ∃ p11, w4.heap.size + 1 = p11 := ⟨_, rfl⟩
  obtain ⟨p9, hp9⟩ : ∃ p9, w4.heap.size = p9 := ⟨_, rfl⟩
  rw [hp11] at b11
  rw [hp9] at b9
  try simp only [hp11]
  try simp only [hp9]
  have n2_9 : ¬ p2 = p9 := by omega
  have n9_2 : ¬ p9 = p2 := by omega
  have n3_9 : ¬ p3 = p9 := by omega
  have n9_3 : ¬ p9 = p3 := by omega
  have n4_9 : ¬ p4 = p9 := by omega
  have n9_4 : ¬ p9 = p4 := by omega
  have n7_9 : ¬ p7 = p9 := by omega
  have n9_7 : ¬ p9 = p7 := by omega
  have s9 : w.heap.size ≤ p9 := by omega
  have n2_11 : ¬ p2 = p11 := by omega
  have n11_2 : ¬ p11 = p2 := by omega
  have n3_11 : ¬ p3 = p11 := by omega
  have n11_3 : ¬ p11 = p3 := by omega
  have n4_11 : ¬ p4 = p11 := by omega
  have n11_4 : ¬ p11 = p4 := by omega
  have n7_11 : ¬ p7 = p11 := by omega
  have n11_7 : ¬ p11 = p7 := by omega
  have n9_11 : ¬ p9 = p11 := by omega
  have n11_9 : ¬ p11 = p9 := by omega
  have s11 : w.heap.size ≤ p11 := by omega
  clear o2 o3 o4 o7 w0
  clear hp9
  clear hp11
  clear hW
  clear z2 z3 z4 z7 z0
  clear g4
  refine (C3.out _).mono ?_
  rintro e w5 ⟨rfl, g5⟩
  obtain ⟨c2, f2, z2⟩ := blk_cells (g5.heap b2)
  obtain ⟨c3, f3, z3⟩ := blk_cells (g5.heap b3)
  obtain ⟨c4, f4, z4⟩ := blk_cells (g5.heap b4)
  obtain ⟨c7, f7, z7⟩ := blk_cells (g5.heap b7)
  obtain ⟨c9, f9, z9⟩ := blk_cells (g5.heap b9)
  obtain ⟨c11, f11, z11⟩ := blk_cells (g5.heap b11)
  have z0 : w.heap.size ≤ w5.heap.size := (Gr.trans G g5).b.size
  go_wp2_with fail
  clear c2 f2 c3 f3 c4 f4 c7 f7 c9 f9 c11 f11
  replace b2 := g5.heap b2
  replace b3 := g5.heap b3
  replace b4 := g5.heap b4
  replace b7 := g5.heap b7
  replace b9 := g5.heap b9
  replace b11 := g5.heap b11
  have G := G.trans g5
  clear z2 z3 z4 z7 z9 z11 z0
  clear g5
  obtain ⟨c2, f2, z2⟩ := blk_cells b2
  obtain ⟨c3, f3, z3⟩ := blk_cells b3
  obtain ⟨c4, f4, z4⟩ := blk_cells b4
  obtain ⟨c7, f7, z7⟩ := blk_cells b7
  obtain ⟨c9, f9, z9⟩ := blk_cells b9
  obtain ⟨c11, f11, z11⟩ := blk_cells b11
  exact bodyPost_ret (v := .tuple #[ru N D N' D', .int .i64 0]) (by simp [results, Tryd.results63, go_sem, *]) rfl ⟨rfl, (by repeat (first | exact Gr.refl _ | assumption | refine Gr.alloc ?_ _ | refine Gr.drew ?_ | refine Gr.drewN ?_ _ | refine Gr.set ?_ _ _ (by first | (simp; done) | (simp; omega)) | refine Gr.trans ?_ (by assumption)))⟩
theorem rTwice_any (a b c d a' b' c' d' : Int) (w : World) :
    Calls Tryd.prog 63 #[ru a b c d, ru a' b' c' d'] w fun e w' => e = .returned (.tuple #[ru (twV a b c d a' b' c' d' (tw1 a b c d a' b' c' d')) (twV a b c d a' b' c' d' (tw2 a b c d a' b' c' d')) (twV a b c d a' b' c' d' (tw3 a b c d a' b' c' d')) (twV a b c d a' b' c' d' (tw4 a b c d a' b' c' d')), .int .i64 (twE a b c d a' b' c' d')]) ∧ Gr w w' := by
  have C1 := fun w => rCheckRule_any a b c d w
  have C2 := fun w => rCheckRule_any a' b' c' d' w
  cases h1 : ruOk a b c d
  · have e1 : twE a b c d a' b' c' d' = 1 := by simp [twE, h1]
    have e2 : ∀ x, twV a b c d a' b' c' d' x = 0 := fun x => by simp [twV, h1]
    rw [e1, e2, e2, e2, e2]
    rw [h1, Rm.err_false rfl] at C1
    exact rTwice_b1 a b c d a' b' c' d' w (Lib.hid C1)
  rw [h1, Rm.err_true rfl] at C1
  cases h2 : ruOk a' b' c' d'
  · have e1 : twE a b c d a' b' c' d' = 1 := by simp [twE, h2]
    have e2 : ∀ x, twV a b c d a' b' c' d' x = 0 := fun x => by simp [twV, h2]
    rw [e1, e2, e2, e2, e2]
    rw [h2, Rm.err_false rfl] at C2
    exact rTwice_b2 a b c d a' b' c' d' w (Lib.hid C1) (Lib.hid C2)
  rw [h2, Rm.err_true rfl] at C2
  obtain ⟨t1, t2⟩ := TwB.of (RuB.of h1) (RuB.of h2)
  have T1 := fun w => rtwice_any a b a' b' w t1
  have T2 := fun w => rtwice_any c d c' d' w t2
  have C3 := fun w => rCheckRule_any (tw1 a b c d a' b' c' d') (tw2 a b c d a' b' c' d') (tw3 a b c d a' b' c' d') (tw4 a b c d a' b' c' d') w
  have q1 : tw1 a b c d a' b' c' d' = Rm.redN (twN a b a' b') (twD a b a' b') := rfl
  have q2 : tw2 a b c d a' b' c' d' = Rm.redD (twN a b a' b') (twD a b a' b') := rfl
  have q3 : tw3 a b c d a' b' c' d' = Rm.redN (twN c d c' d') (twD c d c' d') := rfl
  have q4 : tw4 a b c d a' b' c' d' = Rm.redD (twN c d c' d') (twD c d c' d') := rfl
  have eG : twG a b c d a' b' c' d' = (Rm.okR (twN a b a' b') (twD a b a' b') && Rm.okR (twN c d c' d') (twD c d c' d') && ruOk (tw1 a b c d a' b' c' d') (tw2 a b c d a' b' c' d') (tw3 a b c d a' b' c' d') (tw4 a b c d a' b' c' d')) := rfl
  have no : twG a b c d a' b' c' d' = false → twE a b c d a' b' c' d' = 10 ∧ ∀ x, twV a b c d a' b' c' d' x = 0 := fun g => ⟨by simp [twE, h1, h2, g], fun x => by simp [twV, g]⟩
  rw [q1, q2, q3, q4] at C3 eG ⊢
  clear q1 q2 q3 q4
  cases k1 : Rm.okR (twN a b a' b') (twD a b a' b')
  · obtain ⟨n1, n2⟩ := no (by rw [eG, k1]; rfl)
    rw [n1, n2, n2, n2, n2]
    obtain ⟨m1, m2, m3⟩ := Rm.made_no k1
    rw [m3] at T1
    exact rTwice_b3 a b c d a' b' c' d' _ _ _ _ _ w (Lib.hid C1) (Lib.hid C2) (Lib.hid T1) (Lib.hid T2)
  · obtain ⟨m1, m2, m3⟩ := Rm.made_yes k1
    rw [m1, m2, m3] at T1
    cases k2 : Rm.okR (twN c d c' d') (twD c d c' d')
    · obtain ⟨n1, n2⟩ := no (by rw [eG, k2, Bool.and_false]; rfl)
      rw [n1, n2, n2, n2, n2]
      obtain ⟨_, _, m6⟩ := Rm.made_no k2
      rw [m6] at T2
      exact rTwice_b4 a b c d a' b' c' d' _ _ _ _ w (Lib.hid C1) (Lib.hid C2) (Lib.hid T1) (Lib.hid T2)
    · obtain ⟨m4, m5, m6⟩ := Rm.made_yes k2
      rw [m4, m5, m6] at T2
      rw [k1, k2] at eG
      cases k3 : ruOk (Rm.redN (twN a b a' b') (twD a b a' b')) (Rm.redD (twN a b a' b') (twD a b a' b')) (Rm.redN (twN c d c' d') (twD c d c' d')) (Rm.redD (twN c d c' d') (twD c d c' d'))
      · obtain ⟨n1, n2⟩ := no (by rw [eG, k3]; rfl)
        rw [n1, n2, n2, n2, n2]
        rw [k3, Rm.err_false rfl] at C3
        exact rTwice_b5 a b c d a' b' c' d' _ _ _ _ w (Lib.hid C1) (Lib.hid C2) (Lib.hid T1) (Lib.hid T2) (Lib.hid C3)
      · rw [k3] at eG
        have n1 : twE a b c d a' b' c' d' = 0 := by simp [twE, h1, h2, eG]
        have n2 : ∀ x, twV a b c d a' b' c' d' x = x := fun x => by simp [twV, h1, h2, eG]
        rw [n1, n2, n2, n2, n2]
        rw [k3, Rm.err_true rfl] at C3
        exact rTwice_ok a b c d a' b' c' d' _ _ _ _ w (Lib.hid C1) (Lib.hid C2) (Lib.hid T1) (Lib.hid T2) (Lib.hid C3)
set_option maxRecDepth 100000 in
set_option maxHeartbeats 4000000 in
theorem rBoth_bad (a b c d a' b' c' d' : Int) (w : World) (h : (ruOk a b c d && ruOk a' b' c' d') = false) :
    Calls Tryd.prog 64 #[ru a b c d, ru a' b' c' d'] w fun e w' => e = .returned (.tuple #[ru 0 0 0 0, .int .i64 1]) ∧ Gr w w' := by
  have C1 := Lib.hid (fun w => rCheckRule_any a b c d w)
  have C2 := Lib.hid (fun w => rCheckRule_any a' b' c' d' w)
  cases h1 : ruOk a b c d
  · rw [h1, Rm.err_false rfl] at C1
    clear h h1 C2
    go_enter Tryd.func64, Tryd.ntmps64
    go_wp2_with fail
    have G := Gr.refl w
    have b2 := heap_alloc_self w (.cells #[.int .i64 a, .int .i64 b, .int .i64 c, .int .i64 d] 34)
    replace G := G.alloc (.cells #[.int .i64 a, .int .i64 b, .int .i64 c, .int .i64 d] 34)
    replace b2 := ((Gr.refl _).alloc (.cells #[.int .i64 (a'), .int .i64 (b'), .int .i64 (c'), .int .i64 (d')] 34)).heap b2
    have b3 := heap_alloc_self (w.alloc (.cells #[.int .i64 a, .int .i64 b, .int .i64 c, .int .i64 d] 34)) (.cells #[.int .i64 (a'), .int .i64 (b'), .int .i64 (c'), .int .i64 (d')] 34)
    replace G := G.alloc (.cells #[.int .i64 (a'), .int .i64 (b'), .int .i64 (c'), .int .i64 (d')] 34)
    replace b2 := ((Gr.refl _).alloc (.cells #[.int .i64 0, .int .i64 0, .int .i64 0, .int .i64 0] 34)).heap b2
    replace b3 := ((Gr.refl _).alloc (.cells #[.int .i64 0, .int .i64 0, .int .i64 0, .int .i64 0] 34)).heap b3
    have b4 := heap_alloc_self ((w.alloc (.cells #[.int .i64 a, .int .i64 b, .int .i64 c, .int .i64 d] 34)).alloc (.cells #[.int .i64 (a'), .int .i64 (b'), .int .i64 (c'), .int .i64 (d')] 34)) (.cells #[.int .i64 0, .int .i64 0, .int .i64 0, .int .i64 0] 34)
    replace G := G.alloc (.cells #[.int .i64 0, .int .i64 0, .int .i64 0, .int .i64 0] 34)
    generalize hW : (((w.alloc (.cells #[.int .i64 a, .int .i64 b, .int .i64 c, .int .i64 d] 34)).alloc (.cells #[.int .i64 (a'), .int .i64 (b'), .int .i64 (c'), .int .i64 (d')] 34)).alloc (.cells #[.int .i64 0, .int .i64 0, .int .i64 0, .int .i64 0] 34)) = W1 at *
    simp only [World.size_alloc] at b3
    simp only [World.size_alloc] at b4
    have w0 : w.heap.size ≤ w.heap.size := Nat.le_refl _
    obtain ⟨p4, hp4⟩ : ∃ p4, w.heap.size + 1 + 1 = p4 := ⟨_, rfl⟩
    obtain ⟨p3, hp3⟩ : ∃ p3, w.heap.size + 1 = p3 := ⟨_, rfl⟩
    obtain ⟨p2, hp2⟩ : ∃ p2, w.heap.size = p2 := ⟨_, rfl⟩
    rw [hp4] at b4
    rw [hp3] at b3
    rw [hp2] at b2
    try simp only [hp4]
    try simp only [hp3]
    try simp only [hp2]
    have s2 : w.heap.size ≤ p2 := by omega
    have n2_3 : ¬ p2 = p3 := by omega
    have n3_2 : ¬ p3 = p2 := by omega
    have s3 : w.heap.size ≤ p3 := by omega
    have n2_4 : ¬ p2 = p4 := by omega
    have n4_2 : ¬ p4 = p2 := by omega
    have n3_4 : ¬ p3 = p4 := by omega
    have n4_3 : ¬ p4 = p3 := by omega
    have s4 : w.heap.size ≤ p4 := by omega
    clear  w0
    clear hp2
    clear hp3
    clear hp4
    clear hW
    refine (C1.out _).mono ?_
    rintro e w1 ⟨rfl, g1⟩
    obtain ⟨c2, f2, z2⟩ := blk_cells (g1.heap b2)
    obtain ⟨c3, f3, z3⟩ := blk_cells (g1.heap b3)
    obtain ⟨c4, f4, z4⟩ := blk_cells (g1.heap b4)
    have z0 : w.heap.size ≤ w1.heap.size := (Gr.trans G g1).b.size
    go_wp2_with fail
    clear c2 f2 c3 f3 c4 f4
    replace b2 := g1.heap b2
    replace b3 := g1.heap b3
    replace b4 := g1.heap b4
    have G := G.trans g1
    clear z2 z3 z4 z0
    clear g1
    obtain ⟨c2, f2, z2⟩ := blk_cells b2
    obtain ⟨c3, f3, z3⟩ := blk_cells b3
    obtain ⟨c4, f4, z4⟩ := blk_cells b4
    exact bodyPost_ret (v := .tuple #[ru 0 0 0 0, .int .i64 1]) (by simp [results, Tryd.results64, go_sem, *]) rfl ⟨rfl, (by repeat (first | exact Gr.refl _ | assumption | refine Gr.alloc ?_ _ | refine Gr.drew ?_ | refine Gr.drewN ?_ _ | refine Gr.set ?_ _ _ (by first | (simp; done) | (simp; omega)) | refine Gr.trans ?_ (by assumption)))⟩
  · rw [h1, Bool.true_and] at h
    rw [h1, Rm.err_true rfl] at C1
    rw [h, Rm.err_false rfl] at C2
    clear h h1
    go_enter Tryd.func64, Tryd.ntmps64
    go_wp2_with fail
    have G := Gr.refl w
    have b2 := heap_alloc_self w (.cells #[.int .i64 a, .int .i64 b, .int .i64 c, .int .i64 d] 34)
    replace G := G.alloc (.cells #[.int .i64 a, .int .i64 b, .int .i64 c, .int .i64 d] 34)
    replace b2 := ((Gr.refl _).alloc (.cells #[.int .i64 (a'), .int .i64 (b'), .int .i64 (c'), .int .i64 (d')] 34)).heap b2
    have b3 := heap_alloc_self (w.alloc (.cells #[.int .i64 a, .int .i64 b, .int .i64 c, .int .i64 d] 34)) (.cells #[.int .i64 (a'), .int .i64 (b'), .int .i64 (c'), .int .i64 (d')] 34)
    replace G := G.alloc (.cells #[.int .i64 (a'), .int .i64 (b'), .int .i64 (c'), .int .i64 (d')] 34)
    replace b2 := ((Gr.refl _).alloc (.cells #[.int .i64 0, .int .i64 0, .int .i64 0, .int .i64 0] 34)).heap b2
    replace b3 := ((Gr.refl _).alloc (.cells #[.int .i64 0, .int .i64 0, .int .i64 0, .int .i64 0] 34)).heap b3
    have b4 := heap_alloc_self ((w.alloc (.cells #[.int .i64 a, .int .i64 b, .int .i64 c, .int .i64 d] 34)).alloc (.cells #[.int .i64 (a'), .int .i64 (b'), .int .i64 (c'), .int .i64 (d')] 34)) (.cells #[.int .i64 0, .int .i64 0, .int .i64 0, .int .i64 0] 34)
    replace G := G.alloc (.cells #[.int .i64 0, .int .i64 0, .int .i64 0, .int .i64 0] 34)
    generalize hW : (((w.alloc (.cells #[.int .i64 a, .int .i64 b, .int .i64 c, .int .i64 d] 34)).alloc (.cells #[.int .i64 (a'), .int .i64 (b'), .int .i64 (c'), .int .i64 (d')] 34)).alloc (.cells #[.int .i64 0, .int .i64 0, .int .i64 0, .int .i64 0] 34)) = W1 at *
    simp only [World.size_alloc] at b3
    simp only [World.size_alloc] at b4
    have w0 : w.heap.size ≤ w.heap.size := Nat.le_refl _
    obtain ⟨p4, hp4⟩ : ∃ p4, w.heap.size + 1 + 1 = p4 := ⟨_, rfl⟩
    obtain ⟨p3, hp3⟩ : ∃ p3, w.heap.size + 1 = p3 := ⟨_, rfl⟩
    obtain ⟨p2, hp2⟩ : ∃ p2, w.heap.size = p2 := ⟨_, rfl⟩
    rw [hp4] at b4
    rw [hp3] at b3
    rw [hp2] at b2
    try simp only [hp4]
    try simp only [hp3]
    try simp only [hp2]
    have s2 : w.heap.size ≤ p2 := by omega
    have n2_3 : ¬ p2 = p3 := by omega
    have n3_2 : ¬ p3 = p2 := by omega
    have s3 : w.heap.size ≤ p3 := by omega
    have n2_4 : ¬ p2 = p4 := by omega
    have n4_2 : ¬ p4 = p2 := by omega
    have n3_4 : ¬ p3 = p4 := by omega
    have n4_3 : ¬ p4 = p3 := by omega
    have s4 : w.heap.size ≤ p4 := by omega
    clear  w0
    clear hp2
    clear hp3
    clear hp4
    clear hW
    refine (C1.out _).mono ?_
    rintro e w1 ⟨rfl, g1⟩
    obtain ⟨c2, f2, z2⟩ := blk_cells (g1.heap b2)
    obtain ⟨c3, f3, z3⟩ := blk_cells (g1.heap b3)
    obtain ⟨c4, f4, z4⟩ := blk_cells (g1.heap b4)
    have z0 : w.heap.size ≤ w1.heap.size := (Gr.trans G g1).b.size
    go_wp2_with fail
    clear c2 f2 c3 f3 c4 f4
    replace b2 := g1.heap b2
    replace b3 := g1.heap b3
    replace b4 := g1.heap b4
    have G := G.trans g1
    clear z2 z3 z4 z0
    clear g1
    refine (C2.out _).mono ?_
    rintro e w2 ⟨rfl, g2⟩
    obtain ⟨c2, f2, z2⟩ := blk_cells (g2.heap b2)
    obtain ⟨c3, f3, z3⟩ := blk_cells (g2.heap b3)
    obtain ⟨c4, f4, z4⟩ := blk_cells (g2.heap b4)
    have z0 : w.heap.size ≤ w2.heap.size := (Gr.trans G g2).b.size
    go_wp2_with fail
    clear c2 f2 c3 f3 c4 f4
    replace b2 := g2.heap b2
    replace b3 := g2.heap b3
    replace b4 := g2.heap b4
    have G := G.trans g2
    clear z2 z3 z4 z0
    clear g2
    obtain ⟨c2, f2, z2⟩ := blk_cells b2
    obtain ⟨c3, f3, z3⟩ := blk_cells b3
    obtain ⟨c4, f4, z4⟩ := blk_cells b4
    exact bodyPost_ret (v := .tuple #[ru 0 0 0 0, .int .i64 1]) (by simp [results, Tryd.results64, go_sem, *]) rfl ⟨rfl, (by repeat (first | exact Gr.refl _ | assumption | refine Gr.alloc ?_ _ | refine Gr.drew ?_ | refine Gr.drewN ?_ _ | refine Gr.set ?_ _ _ (by first | (simp; done) | (simp; omega)) | refine Gr.trans ?_ (by assumption)))⟩
set_option maxRecDepth 100000 in
set_option maxHeartbeats 4000000 in
theorem rBoth_go (a b c d a' b' c' d' L1 L2 M1 M2 : Int) (w : World) (h1 : ruOk a b c d = true) (h2 : ruOk a' b' c' d' = true) (hL : boL a b a' b' = (L1, L2)) (hM : boM c d c' d' = (M1, M2)) (u1 : -1000000 ≤ a'*b ∧ a'*b ≤ 1000000 ∧ -1000000 ≤ a*b' ∧ a*b' ≤ 1000000) (u2 : -1000000 ≤ c'*d ∧ c'*d ≤ 1000000 ∧ -1000000 ≤ c*d' ∧ c*d' ≤ 1000000) (u3 : -1000000 ≤ L1*M2 ∧ L1*M2 ≤ 1000000 ∧ -1000000 ≤ M1*L2 ∧ M1*L2 ≤ 1000000) :
    Calls Tryd.prog 64 #[ru a b c d, ru a' b' c' d'] w fun e w' => e = .returned (.tuple #[ru (if 0 < L1*M2 - M1*L2 then 0 else L1) (if 0 < L1*M2 - M1*L2 then 0 else L2) (if 0 < L1*M2 - M1*L2 then 0 else M1) (if 0 < L1*M2 - M1*L2 then 0 else M2), .int .i64 (if 0 < L1*M2 - M1*L2 then 5 else 0)]) ∧ Gr w w' := by
  have C1 := Lib.hid (fun w => rCheckRule_any a b c d w)
  have C2 := Lib.hid (fun w => rCheckRule_any a' b' c' d' w)
  rw [h1, Rm.err_true rfl] at C1
  rw [h2, Rm.err_true rfl] at C2
  have MA := Lib.hid (fun w => More_any a' b' a b w (by omega) (by omega) (by omega) (by omega))
  have MB := Lib.hid (fun w => More_any c' d' c d w (by omega) (by omega) (by omega) (by omega))
  have MC := Lib.hid (fun w => More_any L1 L2 M1 M2 w (by omega) (by omega) (by omega) (by omega))
  clear h1 h2 u1 u2 u3
  generalize hX : a'*b - a*b' = X at *
  generalize hY : c'*d - c*d' = Y at *
  by_cases kL : 0 < X
  · have eL : a' = L1 ∧ b' = L2 := by unfold boL at hL; rw [hX, if_pos kL, Prod.mk.injEq] at hL; exact hL
    obtain ⟨rfl, rfl⟩ := eL
    clear hL
    by_cases kM : Y < 0
    · have eM : c' = M1 ∧ d' = M2 := by unfold boM at hM; rw [hY, if_pos kM, Prod.mk.injEq] at hM; exact hM
      obtain ⟨rfl, rfl⟩ := eM
      clear hM hX hY
      generalize hZ : a'*d' - c'*b' = Z at *
      have HZ := Lib.hid hZ
      clear hZ
      by_cases kZ : 0 < Z
      · have KZ := Lib.hid kZ
        go_enter Tryd.func64, Tryd.ntmps64
        go_wp2_with fail
        have G := Gr.refl w
        have b2 := heap_alloc_self w (.cells #[.int .i64 a, .int .i64 b, .int .i64 c, .int .i64 d] 34)
        replace G := G.alloc (.cells #[.int .i64 a, .int .i64 b, .int .i64 c, .int .i64 d] 34)
        replace b2 := ((Gr.refl _).alloc (.cells #[.int .i64 (a'), .int .i64 (b'), .int .i64 (c'), .int .i64 (d')] 34)).heap b2
        have b3 := heap_alloc_self (w.alloc (.cells #[.int .i64 a, .int .i64 b, .int .i64 c, .int .i64 d] 34)) (.cells #[.int .i64 (a'), .int .i64 (b'), .int .i64 (c'), .int .i64 (d')] 34)
        replace G := G.alloc (.cells #[.int .i64 (a'), .int .i64 (b'), .int .i64 (c'), .int .i64 (d')] 34)
        replace b2 := ((Gr.refl _).alloc (.cells #[.int .i64 0, .int .i64 0, .int .i64 0, .int .i64 0] 34)).heap b2
        replace b3 := ((Gr.refl _).alloc (.cells #[.int .i64 0, .int .i64 0, .int .i64 0, .int .i64 0] 34)).heap b3
        have b4 := heap_alloc_self ((w.alloc (.cells #[.int .i64 a, .int .i64 b, .int .i64 c, .int .i64 d] 34)).alloc (.cells #[.int .i64 (a'), .int .i64 (b'), .int .i64 (c'), .int .i64 (d')] 34)) (.cells #[.int .i64 0, .int .i64 0, .int .i64 0, .int .i64 0] 34)
        replace G := G.alloc (.cells #[.int .i64 0, .int .i64 0, .int .i64 0, .int .i64 0] 34)
        generalize hW : (((w.alloc (.cells #[.int .i64 a, .int .i64 b, .int .i64 c, .int .i64 d] 34)).alloc (.cells #[.int .i64 (a'), .int .i64 (b'), .int .i64 (c'), .int .i64 (d')] 34)).alloc (.cells #[.int .i64 0, .int .i64 0, .int .i64 0, .int .i64 0] 34)) = W1 at *
        simp only [World.size_alloc] at b3
        simp only [World.size_alloc] at b4
        have w0 : w.heap.size ≤ w.heap.size := Nat.le_refl _
        obtain ⟨p4, hp4⟩ : ∃ p4, w.heap.size + 1 + 1 = p4 := ⟨_, rfl⟩
        obtain ⟨p3, hp3⟩ : ∃ p3, w.heap.size + 1 = p3 := ⟨_, rfl⟩
        obtain ⟨p2, hp2⟩ : ∃ p2, w.heap.size = p2 := ⟨_, rfl⟩
        rw [hp4] at b4
        rw [hp3] at b3
        rw [hp2] at b2
        try simp only [hp4]
        try simp only [hp3]
        try simp only [hp2]
        have s2 : w.heap.size ≤ p2 := by omega
        have n2_3 : ¬ p2 = p3 := by omega
        have n3_2 : ¬ p3 = p2 := by omega
        have s3 : w.heap.size ≤ p3 := by omega
        have n2_4 : ¬ p2 = p4 := by omega
        have n4_2 : ¬ p4 = p2 := by omega
        have n3_4 : ¬ p3 = p4 := by omega
        have n4_3 : ¬ p4 = p3 := by omega
        have s4 : w.heap.size ≤ p4 := by omega
        clear  w0
        clear hp2
        clear hp3
        clear hp4
        clear hW
        refine (C1.out _).mono ?_
        rintro e w1 ⟨rfl, g1⟩
        obtain ⟨c2, f2, z2⟩ := blk_cells (g1.heap b2)
        obtain ⟨c3, f3, z3⟩ := blk_cells (g1.heap b3)
        obtain ⟨c4, f4, z4⟩ := blk_cells (g1.heap b4)
        have z0 : w.heap.size ≤ w1.heap.size := (Gr.trans G g1).b.size
        go_wp2_with fail
        clear c2 f2 c3 f3 c4 f4
        replace b2 := g1.heap b2
        replace b3 := g1.heap b3
        replace b4 := g1.heap b4
        have G := G.trans g1
        clear z2 z3 z4 z0
        clear g1
        refine (C2.out _).mono ?_
        rintro e w2 ⟨rfl, g2⟩
        obtain ⟨c2, f2, z2⟩ := blk_cells (g2.heap b2)
        obtain ⟨c3, f3, z3⟩ := blk_cells (g2.heap b3)
        obtain ⟨c4, f4, z4⟩ := blk_cells (g2.heap b4)
        have z0 : w.heap.size ≤ w2.heap.size := (Gr.trans G g2).b.size
        go_wp2_with fail
        clear c2 f2 c3 f3 c4 f4
        replace b2 := g2.heap b2
        replace b3 := g2.heap b3
        replace b4 := g2.heap b4
        have G := G.trans g2
        replace b2 := ((Gr.refl _).alloc (.cells #[.int .i64 a, .int .i64 b, .int .i64 c, .int .i64 d] 34)).heap b2
        replace b3 := ((Gr.refl _).alloc (.cells #[.int .i64 a, .int .i64 b, .int .i64 c, .int .i64 d] 34)).heap b3
        replace b4 := ((Gr.refl _).alloc (.cells #[.int .i64 a, .int .i64 b, .int .i64 c, .int .i64 d] 34)).heap b4
        have b7 := heap_alloc_self w2 (.cells #[.int .i64 a, .int .i64 b, .int .i64 c, .int .i64 d] 34)
        replace G := G.alloc (.cells #[.int .i64 a, .int .i64 b, .int .i64 c, .int .i64 d] 34)
        generalize hW : (w2.alloc (.cells #[.int .i64 a, .int .i64 b, .int .i64 c, .int .i64 d] 34)) = W3 at *
        have o2 : p2 < w2.heap.size := z2
        have o3 : p3 < w2.heap.size := z3
        have o4 : p4 < w2.heap.size := z4
        have w0 : w.heap.size ≤ w2.heap.size := z0
        obtain ⟨p7, hp7⟩ : ∃ p7, w2.heap.size = p7 := ⟨_, rfl⟩
        rw [hp7] at b7
        try simp only [hp7]
        have n2_7 : ¬ p2 = p7 := by omega
        have n7_2 : ¬ p7 = p2 := by omega
        have n3_7 : ¬ p3 = p7 := by omega
        have n7_3 : ¬ p7 = p3 := by omega
        have n4_7 : ¬ p4 = p7 := by omega
        have n7_4 : ¬ p7 = p4 := by omega
        have s7 : w.heap.size ≤ p7 := by omega
        clear o2 o3 o4 w0
        clear hp7
        clear hW
        clear z2 z3 z4 z0
        clear g2
        refine (MA.out _).mono ?_
        rintro e w3 ⟨rfl, g3⟩
        obtain ⟨c2, f2, z2⟩ := blk_cells (g3.heap b2)
        obtain ⟨c3, f3, z3⟩ := blk_cells (g3.heap b3)
        obtain ⟨c4, f4, z4⟩ := blk_cells (g3.heap b4)
        obtain ⟨c7, f7, z7⟩ := blk_cells (g3.heap b7)
        have z0 : w.heap.size ≤ w3.heap.size := (Gr.trans G g3).b.size
        go_wp2_with fail
        clear c2 f2 c3 f3 c4 f4 c7 f7
        replace b2 := g3.heap b2
        replace b3 := g3.heap b3
        replace b4 := g3.heap b4
        replace b7 := g3.heap b7
        have G := G.trans g3
        replace b2 := keep_at p7 0 1 (.int .i64 a') (.int .i64 b') b2 (by first | assumption | omega)
        replace b3 := keep_at p7 0 1 (.int .i64 a') (.int .i64 b') b3 (by first | assumption | omega)
        replace b4 := keep_at p7 0 1 (.int .i64 a') (.int .i64 b') b4 (by first | assumption | omega)
        replace b7 := put_lo (x := .int .i64 a') (y := .int .i64 b') b7
        replace G := gr_at p7 0 1 (.int .i64 a') (.int .i64 b') G (by omega)
        generalize hW : ((w3.setCell ⟨p7, 0, none⟩ (.int .i64 a')).setCell ⟨p7, 1, none⟩ (.int .i64 b')) = W4 at *
        clear hW
        clear z2 z3 z4 z7 z0
        clear g3
        refine (MB.out _).mono ?_
        rintro e w4 ⟨rfl, g4⟩
        obtain ⟨c2, f2, z2⟩ := blk_cells (g4.heap b2)
        obtain ⟨c3, f3, z3⟩ := blk_cells (g4.heap b3)
        obtain ⟨c4, f4, z4⟩ := blk_cells (g4.heap b4)
        obtain ⟨c7, f7, z7⟩ := blk_cells (g4.heap b7)
        have z0 : w.heap.size ≤ w4.heap.size := (Gr.trans G g4).b.size
        go_wp2_with fail
        clear c2 f2 c3 f3 c4 f4 c7 f7
        replace b2 := g4.heap b2
        replace b3 := g4.heap b3
        replace b4 := g4.heap b4
        replace b7 := g4.heap b7
        have G := G.trans g4
        replace b2 := keep_at p7 2 3 (.int .i64 c') (.int .i64 d') b2 (by first | assumption | omega)
        replace b3 := keep_at p7 2 3 (.int .i64 c') (.int .i64 d') b3 (by first | assumption | omega)
        replace b4 := keep_at p7 2 3 (.int .i64 c') (.int .i64 d') b4 (by first | assumption | omega)
        replace b7 := put_hi (x := .int .i64 c') (y := .int .i64 d') b7
        replace G := gr_at p7 2 3 (.int .i64 c') (.int .i64 d') G (by omega)
        generalize hW : ((w4.setCell ⟨p7, 2, none⟩ (.int .i64 c')).setCell ⟨p7, 3, none⟩ (.int .i64 d')) = W5 at *
        clear hW
        clear z2 z3 z4 z7 z0
        clear g4
        refine (MC.out _).mono ?_
        rintro e w5 ⟨rfl, g5⟩
        obtain ⟨c2, f2, z2⟩ := blk_cells (g5.heap b2)
        obtain ⟨c3, f3, z3⟩ := blk_cells (g5.heap b3)
        obtain ⟨c4, f4, z4⟩ := blk_cells (g5.heap b4)
        obtain ⟨c7, f7, z7⟩ := blk_cells (g5.heap b7)
        have z0 : w.heap.size ≤ w5.heap.size := (Gr.trans G g5).b.size
        go_wp2_with fail
        clear c2 f2 c3 f3 c4 f4 c7 f7
        replace b2 := g5.heap b2
        replace b3 := g5.heap b3
        replace b4 := g5.heap b4
        replace b7 := g5.heap b7
        have G := G.trans g5
        clear z2 z3 z4 z7 z0
        clear g5
        obtain ⟨c2, f2, z2⟩ := blk_cells b2
        obtain ⟨c3, f3, z3⟩ := blk_cells b3
        obtain ⟨c4, f4, z4⟩ := blk_cells b4
        obtain ⟨c7, f7, z7⟩ := blk_cells b7
        all_goals first | exact bodyPost_ret (v := .tuple #[ru 0 0 0 0, .int .i64 5]) (by simp [results, Tryd.results64, go_sem, *]) rfl ⟨rfl, (by repeat (first | exact Gr.refl _ | assumption | refine Gr.alloc ?_ _ | refine Gr.drew ?_ | refine Gr.drewN ?_ _ | refine Gr.set ?_ _ _ (by first | (simp; done) | (simp; omega)) | refine Gr.trans ?_ (by assumption)))⟩ | (exfalso; have := HZ.out; have := KZ.out; omega)
      · have KZ := Lib.hid kZ
        go_enter Tryd.func64, Tryd.ntmps64
        go_wp2_with fail
        have G := Gr.refl w
        have b2 := heap_alloc_self w (.cells #[.int .i64 a, .int .i64 b, .int .i64 c, .int .i64 d] 34)
        replace G := G.alloc (.cells #[.int .i64 a, .int .i64 b, .int .i64 c, .int .i64 d] 34)
        replace b2 := ((Gr.refl _).alloc (.cells #[.int .i64 (a'), .int .i64 (b'), .int .i64 (c'), .int .i64 (d')] 34)).heap b2
        have b3 := heap_alloc_self (w.alloc (.cells #[.int .i64 a, .int .i64 b, .int .i64 c, .int .i64 d] 34)) (.cells #[.int .i64 (a'), .int .i64 (b'), .int .i64 (c'), .int .i64 (d')] 34)
        replace G := G.alloc (.cells #[.int .i64 (a'), .int .i64 (b'), .int .i64 (c'), .int .i64 (d')] 34)
        replace b2 := ((Gr.refl _).alloc (.cells #[.int .i64 0, .int .i64 0, .int .i64 0, .int .i64 0] 34)).heap b2
        replace b3 := ((Gr.refl _).alloc (.cells #[.int .i64 0, .int .i64 0, .int .i64 0, .int .i64 0] 34)).heap b3
        have b4 := heap_alloc_self ((w.alloc (.cells #[.int .i64 a, .int .i64 b, .int .i64 c, .int .i64 d] 34)).alloc (.cells #[.int .i64 (a'), .int .i64 (b'), .int .i64 (c'), .int .i64 (d')] 34)) (.cells #[.int .i64 0, .int .i64 0, .int .i64 0, .int .i64 0] 34)
        replace G := G.alloc (.cells #[.int .i64 0, .int .i64 0, .int .i64 0, .int .i64 0] 34)
        generalize hW : (((w.alloc (.cells #[.int .i64 a, .int .i64 b, .int .i64 c, .int .i64 d] 34)).alloc (.cells #[.int .i64 (a'), .int .i64 (b'), .int .i64 (c'), .int .i64 (d')] 34)).alloc (.cells #[.int .i64 0, .int .i64 0, .int .i64 0, .int .i64 0] 34)) = W1 at *
        simp only [World.size_alloc] at b3
        simp only [World.size_alloc] at b4
        have w0 : w.heap.size ≤ w.heap.size := Nat.le_refl _
        obtain ⟨p4, hp4⟩ : ∃ p4, w.heap.size + 1 + 1 = p4 := ⟨_, rfl⟩
        obtain ⟨p3, hp3⟩ : ∃ p3, w.heap.size + 1 = p3 := ⟨_, rfl⟩
        obtain ⟨p2, hp2⟩ : ∃ p2, w.heap.size = p2 := ⟨_, rfl⟩
        rw [hp4] at b4
        rw [hp3] at b3
        rw [hp2] at b2
        try simp only [hp4]
        try simp only [hp3]
        try simp only [hp2]
        have s2 : w.heap.size ≤ p2 := by omega
        have n2_3 : ¬ p2 = p3 := by omega
        have n3_2 : ¬ p3 = p2 := by omega
        have s3 : w.heap.size ≤ p3 := by omega
        have n2_4 : ¬ p2 = p4 := by omega
        have n4_2 : ¬ p4 = p2 := by omega
        have n3_4 : ¬ p3 = p4 := by omega
        have n4_3 : ¬ p4 = p3 := by omega
        have s4 : w.heap.size ≤ p4 := by omega
        clear  w0
        clear hp2
        clear hp3
        clear hp4
        clear hW
        refine (C1.out _).mono ?_
        rintro e w1 ⟨rfl, g1⟩
        obtain ⟨c2, f2, z2⟩ := blk_cells (g1.heap b2)
        obtain ⟨c3, f3, z3⟩ := blk_cells (g1.heap b3)
        obtain ⟨c4, f4, z4⟩ := blk_cells (g1.heap b4)
        have z0 : w.heap.size ≤ w1.heap.size := (Gr.trans G g1).b.size
        go_wp2_with fail
        clear c2 f2 c3 f3 c4 f4
        replace b2 := g1.heap b2
        replace b3 := g1.heap b3
        replace b4 := g1.heap b4
        have G := G.trans g1
        clear z2 z3 z4 z0
        clear g1
        refine (C2.out _).mono ?_
        rintro e w2 ⟨rfl, g2⟩
        obtain ⟨c2, f2, z2⟩ := blk_cells (g2.heap b2)
        obtain ⟨c3, f3, z3⟩ := blk_cells (g2.heap b3)
        obtain ⟨c4, f4, z4⟩ := blk_cells (g2.heap b4)
        have z0 : w.heap.size ≤ w2.heap.size := (Gr.trans G g2).b.size
        go_wp2_with fail
        clear c2 f2 c3 f3 c4 f4
        replace b2 := g2.heap b2
        replace b3 := g2.heap b3
        replace b4 := g2.heap b4
        have G := G.trans g2
        replace b2 := ((Gr.refl _).alloc (.cells #[.int .i64 a, .int .i64 b, .int .i64 c, .int .i64 d] 34)).heap b2
        replace b3 := ((Gr.refl _).alloc (.cells #[.int .i64 a, .int .i64 b, .int .i64 c, .int .i64 d] 34)).heap b3
        replace b4 := ((Gr.refl _).alloc (.cells #[.int .i64 a, .int .i64 b, .int .i64 c, .int .i64 d] 34)).heap b4
        have b7 := heap_alloc_self w2 (.cells #[.int .i64 a, .int .i64 b, .int .i64 c, .int .i64 d] 34)
        replace G := G.alloc (.cells #[.int .i64 a, .int .i64 b, .int .i64 c, .int .i64 d] 34)
        generalize hW : (w2.alloc (.cells #[.int .i64 a, .int .i64 b, .int .i64 c, .int .i64 d] 34)) = W3 at *
        have o2 : p2 < w2.heap.size := z2
        have o3 : p3 < w2.heap.size := z3
        have o4 : p4 < w2.heap.size := z4
        have w0 : w.heap.size ≤ w2.heap.size := z0
        obtain ⟨p7, hp7⟩ : ∃ p7, w2.heap.size = p7 := ⟨_, rfl⟩
        rw [hp7] at b7
        try simp only [hp7]
        have n2_7 : ¬ p2 = p7 := by omega
        have n7_2 : ¬ p7 = p2 := by omega
        have n3_7 : ¬ p3 = p7 := by omega
        have n7_3 : ¬ p7 = p3 := by omega
        have n4_7 : ¬ p4 = p7 := by omega
        have n7_4 : ¬ p7 = p4 := by omega
        have s7 : w.heap.size ≤ p7 := by omega
        clear o2 o3 o4 w0
        clear hp7
        clear hW
        clear z2 z3 z4 z0
        clear g2
        refine (MA.out _).mono ?_
        rintro e w3 ⟨rfl, g3⟩
        obtain ⟨c2, f2, z2⟩ := blk_cells (g3.heap b2)
        obtain ⟨c3, f3, z3⟩ := blk_cells (g3.heap b3)
        obtain ⟨c4, f4, z4⟩ := blk_cells (g3.heap b4)
        obtain ⟨c7, f7, z7⟩ := blk_cells (g3.heap b7)
        have z0 : w.heap.size ≤ w3.heap.size := (Gr.trans G g3).b.size
        go_wp2_with fail
        clear c2 f2 c3 f3 c4 f4 c7 f7
        replace b2 := g3.heap b2
        replace b3 := g3.heap b3
        replace b4 := g3.heap b4
        replace b7 := g3.heap b7
        have G := G.trans g3
        replace b2 := keep_at p7 0 1 (.int .i64 a') (.int .i64 b') b2 (by first | assumption | omega)
        replace b3 := keep_at p7 0 1 (.int .i64 a') (.int .i64 b') b3 (by first | assumption | omega)
        replace b4 := keep_at p7 0 1 (.int .i64 a') (.int .i64 b') b4 (by first | assumption | omega)
        replace b7 := put_lo (x := .int .i64 a') (y := .int .i64 b') b7
        replace G := gr_at p7 0 1 (.int .i64 a') (.int .i64 b') G (by omega)
        generalize hW : ((w3.setCell ⟨p7, 0, none⟩ (.int .i64 a')).setCell ⟨p7, 1, none⟩ (.int .i64 b')) = W4 at *
        clear hW
        clear z2 z3 z4 z7 z0
        clear g3
        refine (MB.out _).mono ?_
        rintro e w4 ⟨rfl, g4⟩
        obtain ⟨c2, f2, z2⟩ := blk_cells (g4.heap b2)
        obtain ⟨c3, f3, z3⟩ := blk_cells (g4.heap b3)
        obtain ⟨c4, f4, z4⟩ := blk_cells (g4.heap b4)
        obtain ⟨c7, f7, z7⟩ := blk_cells (g4.heap b7)
        have z0 : w.heap.size ≤ w4.heap.size := (Gr.trans G g4).b.size
        go_wp2_with fail
        clear c2 f2 c3 f3 c4 f4 c7 f7
        replace b2 := g4.heap b2
        replace b3 := g4.heap b3
        replace b4 := g4.heap b4
        replace b7 := g4.heap b7
        have G := G.trans g4
        replace b2 := keep_at p7 2 3 (.int .i64 c') (.int .i64 d') b2 (by first | assumption | omega)
        replace b3 := keep_at p7 2 3 (.int .i64 c') (.int .i64 d') b3 (by first | assumption | omega)
        replace b4 := keep_at p7 2 3 (.int .i64 c') (.int .i64 d') b4 (by first | assumption | omega)
        replace b7 := put_hi (x := .int .i64 c') (y := .int .i64 d') b7
        replace G := gr_at p7 2 3 (.int .i64 c') (.int .i64 d') G (by omega)
        generalize hW : ((w4.setCell ⟨p7, 2, none⟩ (.int .i64 c')).setCell ⟨p7, 3, none⟩ (.int .i64 d')) = W5 at *
        clear hW
        clear z2 z3 z4 z7 z0
        clear g4
        refine (MC.out _).mono ?_
        rintro e w5 ⟨rfl, g5⟩
        obtain ⟨c2, f2, z2⟩ := blk_cells (g5.heap b2)
        obtain ⟨c3, f3, z3⟩ := blk_cells (g5.heap b3)
        obtain ⟨c4, f4, z4⟩ := blk_cells (g5.heap b4)
        obtain ⟨c7, f7, z7⟩ := blk_cells (g5.heap b7)
        have z0 : w.heap.size ≤ w5.heap.size := (Gr.trans G g5).b.size
        go_wp2_with fail
        clear c2 f2 c3 f3 c4 f4 c7 f7
        replace b2 := g5.heap b2
        replace b3 := g5.heap b3
        replace b4 := g5.heap b4
        replace b7 := g5.heap b7
        have G := G.trans g5
        clear z2 z3 z4 z7 z0
        clear g5
        obtain ⟨c2, f2, z2⟩ := blk_cells b2
        obtain ⟨c3, f3, z3⟩ := blk_cells b3
        obtain ⟨c4, f4, z4⟩ := blk_cells b4
        obtain ⟨c7, f7, z7⟩ := blk_cells b7
        all_goals first | exact bodyPost_ret (v := .tuple #[ru a' b' c' d', .int .i64 0]) (by simp [results, Tryd.results64, go_sem, *]) rfl ⟨rfl, (by repeat (first | exact Gr.refl _ | assumption | refine Gr.alloc ?_ _ | refine Gr.drew ?_ | refine Gr.drewN ?_ _ | refine Gr.set ?_ _ _ (by first | (simp; done) | (simp; omega)) | refine Gr.trans ?_ (by assumption)))⟩ | (exfalso; have := HZ.out; have := KZ.out; omega)
    · have eM : c = M1 ∧ d = M2 := by unfold boM at hM; rw [hY, if_neg kM, Prod.mk.injEq] at hM; exact hM
      obtain ⟨rfl, rfl⟩ := eM
      clear hM hX hY
      generalize hZ : a'*d - c*b' = Z at *
      have HZ := Lib.hid hZ
      clear hZ
      by_cases kZ : 0 < Z
      · have KZ := Lib.hid kZ
        go_enter Tryd.func64, Tryd.ntmps64
        go_wp2_with fail
        have G := Gr.refl w
        have b2 := heap_alloc_self w (.cells #[.int .i64 a, .int .i64 b, .int .i64 c, .int .i64 d] 34)
        replace G := G.alloc (.cells #[.int .i64 a, .int .i64 b, .int .i64 c, .int .i64 d] 34)
        replace b2 := ((Gr.refl _).alloc (.cells #[.int .i64 (a'), .int .i64 (b'), .int .i64 (c'), .int .i64 (d')] 34)).heap b2
        have b3 := heap_alloc_self (w.alloc (.cells #[.int .i64 a, .int .i64 b, .int .i64 c, .int .i64 d] 34)) (.cells #[.int .i64 (a'), .int .i64 (b'), .int .i64 (c'), .int .i64 (d')] 34)
        replace G := G.alloc (.cells #[.int .i64 (a'), .int .i64 (b'), .int .i64 (c'), .int .i64 (d')] 34)
        replace b2 := ((Gr.refl _).alloc (.cells #[.int .i64 0, .int .i64 0, .int .i64 0, .int .i64 0] 34)).heap b2
        replace b3 := ((Gr.refl _).alloc (.cells #[.int .i64 0, .int .i64 0, .int .i64 0, .int .i64 0] 34)).heap b3
        have b4 := heap_alloc_self ((w.alloc (.cells #[.int .i64 a, .int .i64 b, .int .i64 c, .int .i64 d] 34)).alloc (.cells #[.int .i64 (a'), .int .i64 (b'), .int .i64 (c'), .int .i64 (d')] 34)) (.cells #[.int .i64 0, .int .i64 0, .int .i64 0, .int .i64 0] 34)
        replace G := G.alloc (.cells #[.int .i64 0, .int .i64 0, .int .i64 0, .int .i64 0] 34)
        generalize hW : (((w.alloc (.cells #[.int .i64 a, .int .i64 b, .int .i64 c, .int .i64 d] 34)).alloc (.cells #[.int .i64 (a'), .int .i64 (b'), .int .i64 (c'), .int .i64 (d')] 34)).alloc (.cells #[.int .i64 0, .int .i64 0, .int .i64 0, .int .i64 0] 34)) = W1 at *
        simp only [World.size_alloc] at b3
        simp only [World.size_alloc] at b4
        have w0 : w.heap.size ≤ w.heap.size := Nat.le_refl _
        obtain ⟨p4, hp4⟩ : ∃ p4, w.heap.size + 1 + 1 = p4 := ⟨_, rfl⟩
        obtain ⟨p3, hp3⟩ : ∃ p3, w.heap.size + 1 = p3 := ⟨_, rfl⟩
        obtain ⟨p2, hp2⟩ : ∃ p2, w.heap.size = p2 := ⟨_, rfl⟩
        rw [hp4] at b4
        rw [hp3] at b3
        rw [hp2] at b2
        try simp only [hp4]
        try simp only [hp3]
        try simp only [hp2]
        have s2 : w.heap.size ≤ p2 := by omega
        have n2_3 : ¬ p2 = p3 := by omega
        have n3_2 : ¬ p3 = p2 := by omega
        have s3 : w.heap.size ≤ p3 := by omega
        have n2_4 : ¬ p2 = p4 := by omega
        have n4_2 : ¬ p4 = p2 := by omega
        have n3_4 : ¬ p3 = p4 := by omega
        have n4_3 : ¬ p4 = p3 := by omega
        have s4 : w.heap.size ≤ p4 := by omega
        clear  w0
        clear hp2
        clear hp3
        clear hp4
        clear hW
        refine (C1.out _).mono ?_
        rintro e w1 ⟨rfl, g1⟩
        obtain ⟨c2, f2, z2⟩ := blk_cells (g1.heap b2)
        obtain ⟨c3, f3, z3⟩ := blk_cells (g1.heap b3)
        obtain ⟨c4, f4, z4⟩ := blk_cells (g1.heap b4)
        have z0 : w.heap.size ≤ w1.heap.size := (Gr.trans G g1).b.size
        go_wp2_with fail
        clear c2 f2 c3 f3 c4 f4
        replace b2 := g1.heap b2
        replace b3 := g1.heap b3
        replace b4 := g1.heap b4
        have G := G.trans g1
        clear z2 z3 z4 z0
        clear g1
        refine (C2.out _).mono ?_
        rintro e w2 ⟨rfl, g2⟩
        obtain ⟨c2, f2, z2⟩ := blk_cells (g2.heap b2)
        obtain ⟨c3, f3, z3⟩ := blk_cells (g2.heap b3)
        obtain ⟨c4, f4, z4⟩ := blk_cells (g2.heap b4)
        have z0 : w.heap.size ≤ w2.heap.size := (Gr.trans G g2).b.size
        go_wp2_with fail
        clear c2 f2 c3 f3 c4 f4
        replace b2 := g2.heap b2
        replace b3 := g2.heap b3
        replace b4 := g2.heap b4
        have G := G.trans g2
        replace b2 := ((Gr.refl _).alloc (.cells #[.int .i64 a, .int .i64 b, .int .i64 c, .int .i64 d] 34)).heap b2
        replace b3 := ((Gr.refl _).alloc (.cells #[.int .i64 a, .int .i64 b, .int .i64 c, .int .i64 d] 34)).heap b3
        replace b4 := ((Gr.refl _).alloc (.cells #[.int .i64 a, .int .i64 b, .int .i64 c, .int .i64 d] 34)).heap b4
        have b7 := heap_alloc_self w2 (.cells #[.int .i64 a, .int .i64 b, .int .i64 c, .int .i64 d] 34)
        replace G := G.alloc (.cells #[.int .i64 a, .int .i64 b, .int .i64 c, .int .i64 d] 34)
        generalize hW : (w2.alloc (.cells #[.int .i64 a, .int .i64 b, .int .i64 c, .int .i64 d] 34)) = W3 at *
        have o2 : p2 < w2.heap.size := z2
        have o3 : p3 < w2.heap.size := z3
        have o4 : p4 < w2.heap.size := z4
        have w0 : w.heap.size ≤ w2.heap.size := z0
        obtain ⟨p7, hp7⟩ : ∃ p7, w2.heap.size = p7 := ⟨_, rfl⟩
        rw [hp7] at b7
        try simp only [hp7]
        have n2_7 : ¬ p2 = p7 := by omega
        have n7_2 : ¬ p7 = p2 := by omega
        have n3_7 : ¬ p3 = p7 := by omega
        have n7_3 : ¬ p7 = p3 := by omega
        have n4_7 : ¬ p4 = p7 := by omega
        have n7_4 : ¬ p7 = p4 := by omega
        have s7 : w.heap.size ≤ p7 := by omega
        clear o2 o3 o4 w0
        clear hp7
        clear hW
        clear z2 z3 z4 z0
        clear g2
        refine (MA.out _).mono ?_
        rintro e w3 ⟨rfl, g3⟩
        obtain ⟨c2, f2, z2⟩ := blk_cells (g3.heap b2)
        obtain ⟨c3, f3, z3⟩ := blk_cells (g3.heap b3)
        obtain ⟨c4, f4, z4⟩ := blk_cells (g3.heap b4)
        obtain ⟨c7, f7, z7⟩ := blk_cells (g3.heap b7)
        have z0 : w.heap.size ≤ w3.heap.size := (Gr.trans G g3).b.size
        go_wp2_with fail
        clear c2 f2 c3 f3 c4 f4 c7 f7
        replace b2 := g3.heap b2
        replace b3 := g3.heap b3
        replace b4 := g3.heap b4
        replace b7 := g3.heap b7
        have G := G.trans g3
        replace b2 := keep_at p7 0 1 (.int .i64 a') (.int .i64 b') b2 (by first | assumption | omega)
        replace b3 := keep_at p7 0 1 (.int .i64 a') (.int .i64 b') b3 (by first | assumption | omega)
        replace b4 := keep_at p7 0 1 (.int .i64 a') (.int .i64 b') b4 (by first | assumption | omega)
        replace b7 := put_lo (x := .int .i64 a') (y := .int .i64 b') b7
        replace G := gr_at p7 0 1 (.int .i64 a') (.int .i64 b') G (by omega)
        generalize hW : ((w3.setCell ⟨p7, 0, none⟩ (.int .i64 a')).setCell ⟨p7, 1, none⟩ (.int .i64 b')) = W4 at *
        clear hW
        clear z2 z3 z4 z7 z0
        clear g3
        refine (MB.out _).mono ?_
        rintro e w4 ⟨rfl, g4⟩
        obtain ⟨c2, f2, z2⟩ := blk_cells (g4.heap b2)
        obtain ⟨c3, f3, z3⟩ := blk_cells (g4.heap b3)
        obtain ⟨c4, f4, z4⟩ := blk_cells (g4.heap b4)
        obtain ⟨c7, f7, z7⟩ := blk_cells (g4.heap b7)
        have z0 : w.heap.size ≤ w4.heap.size := (Gr.trans G g4).b.size
        go_wp2_with fail
        clear c2 f2 c3 f3 c4 f4 c7 f7
        replace b2 := g4.heap b2
        replace b3 := g4.heap b3
        replace b4 := g4.heap b4
        replace b7 := g4.heap b7
        have G := G.trans g4
        clear z2 z3 z4 z7 z0
        clear g4
        refine (MC.out _).mono ?_
        rintro e w5 ⟨rfl, g5⟩
        obtain ⟨c2, f2, z2⟩ := blk_cells (g5.heap b2)
        obtain ⟨c3, f3, z3⟩ := blk_cells (g5.heap b3)
        obtain ⟨c4, f4, z4⟩ := blk_cells (g5.heap b4)
        obtain ⟨c7, f7, z7⟩ := blk_cells (g5.heap b7)
        have z0 : w.heap.size ≤ w5.heap.size := (Gr.trans G g5).b.size
        go_wp2_with fail
        clear c2 f2 c3 f3 c4 f4 c7 f7
        replace b2 := g5.heap b2
        replace b3 := g5.heap b3
        replace b4 := g5.heap b4
        replace b7 := g5.heap b7
        have G := G.trans g5
        clear z2 z3 z4 z7 z0
        clear g5
        obtain ⟨c2, f2, z2⟩ := blk_cells b2
        obtain ⟨c3, f3, z3⟩ := blk_cells b3
        obtain ⟨c4, f4, z4⟩ := blk_cells b4
        obtain ⟨c7, f7, z7⟩ := blk_cells b7
        all_goals first | exact bodyPost_ret (v := .tuple #[ru 0 0 0 0, .int .i64 5]) (by simp [results, Tryd.results64, go_sem, *]) rfl ⟨rfl, (by repeat (first | exact Gr.refl _ | assumption | refine Gr.alloc ?_ _ | refine Gr.drew ?_ | refine Gr.drewN ?_ _ | refine Gr.set ?_ _ _ (by first | (simp; done) | (simp; omega)) | refine Gr.trans ?_ (by assumption)))⟩ | (exfalso; have := HZ.out; have := KZ.out; omega)
      · have KZ := Lib.hid kZ
        go_enter Tryd.func64, Tryd.ntmps64
        go_wp2_with fail
        have G := Gr.refl w
        have b2 := heap_alloc_self w (.cells #[.int .i64 a, .int .i64 b, .int .i64 c, .int .i64 d] 34)
        replace G := G.alloc (.cells #[.int .i64 a, .int .i64 b, .int .i64 c, .int .i64 d] 34)
        replace b2 := ((Gr.refl _).alloc (.cells #[.int .i64 (a'), .int .i64 (b'), .int .i64 (c'), .int .i64 (d')] 34)).heap b2
        have b3 := heap_alloc_self (w.alloc (.cells #[.int .i64 a, .int .i64 b, .int .i64 c, .int .i64 d] 34)) (.cells #[.int .i64 (a'), .int .i64 (b'), .int .i64 (c'), .int .i64 (d')] 34)
        replace G := G.alloc (.cells #[.int .i64 (a'), .int .i64 (b'), .int .i64 (c'), .int .i64 (d')] 34)
        replace b2 := ((Gr.refl _).alloc (.cells #[.int .i64 0, .int .i64 0, .int .i64 0, .int .i64 0] 34)).heap b2
        replace b3 := ((Gr.refl _).alloc (.cells #[.int .i64 0, .int .i64 0, .int .i64 0, .int .i64 0] 34)).heap b3
        have b4 := heap_alloc_self ((w.alloc (.cells #[.int .i64 a, .int .i64 b, .int .i64 c, .int .i64 d] 34)).alloc (.cells #[.int .i64 (a'), .int .i64 (b'), .int .i64 (c'), .int .i64 (d')] 34)) (.cells #[.int .i64 0, .int .i64 0, .int .i64 0, .int .i64 0] 34)
        replace G := G.alloc (.cells #[.int .i64 0, .int .i64 0, .int .i64 0, .int .i64 0] 34)
        generalize hW : (((w.alloc (.cells #[.int .i64 a, .int .i64 b, .int .i64 c, .int .i64 d] 34)).alloc (.cells #[.int .i64 (a'), .int .i64 (b'), .int .i64 (c'), .int .i64 (d')] 34)).alloc (.cells #[.int .i64 0, .int .i64 0, .int .i64 0, .int .i64 0] 34)) = W1 at *
        simp only [World.size_alloc] at b3
        simp only [World.size_alloc] at b4
        have w0 : w.heap.size ≤ w.heap.size := Nat.le_refl _
        obtain ⟨p4, hp4⟩ : ∃ p4, w.heap.size + 1 + 1 = p4 := ⟨_, rfl⟩
        obtain ⟨p3, hp3⟩ : ∃ p3, w.heap.size + 1 = p3 := ⟨_, rfl⟩
        obtain ⟨p2, hp2⟩ : ∃ p2, w.heap.size = p2 := ⟨_, rfl⟩
        rw [hp4] at b4
        rw [hp3] at b3
        rw [hp2] at b2
        try simp only [hp4]
        try simp only [hp3]
        try simp only [hp2]
        have s2 : w.heap.size ≤ p2 := by omega
        have n2_3 : ¬ p2 = p3 := by omega
        have n3_2 : ¬ p3 = p2 := by omega
        have s3 : w.heap.size ≤ p3 := by omega
        have n2_4 : ¬ p2 = p4 := by omega
        have n4_2 : ¬ p4 = p2 := by omega
        have n3_4 : ¬ p3 = p4 := by omega
        have n4_3 : ¬ p4 = p3 := by omega
        have s4 : w.heap.size ≤ p4 := by omega
        clear  w0
        clear hp2
        clear hp3
        clear hp4
        clear hW
        refine (C1.out _).mono ?_
        rintro e w1 ⟨rfl, g1⟩
        obtain ⟨c2, f2, z2⟩ := blk_cells (g1.heap b2)
        obtain ⟨c3, f3, z3⟩ := blk_cells (g1.heap b3)
        obtain ⟨c4, f4, z4⟩ := blk_cells (g1.heap b4)
        have z0 : w.heap.size ≤ w1.heap.size := (Gr.trans G g1).b.size
        go_wp2_with fail
        clear c2 f2 c3 f3 c4 f4
        replace b2 := g1.heap b2
        replace b3 := g1.heap b3
        replace b4 := g1.heap b4
        have G := G.trans g1
        clear z2 z3 z4 z0
        clear g1
        refine (C2.out _).mono ?_
        rintro e w2 ⟨rfl, g2⟩
        obtain ⟨c2, f2, z2⟩ := blk_cells (g2.heap b2)
        obtain ⟨c3, f3, z3⟩ := blk_cells (g2.heap b3)
        obtain ⟨c4, f4, z4⟩ := blk_cells (g2.heap b4)
        have z0 : w.heap.size ≤ w2.heap.size := (Gr.trans G g2).b.size
        go_wp2_with fail
        clear c2 f2 c3 f3 c4 f4
        replace b2 := g2.heap b2
        replace b3 := g2.heap b3
        replace b4 := g2.heap b4
        have G := G.trans g2
        replace b2 := ((Gr.refl _).alloc (.cells #[.int .i64 a, .int .i64 b, .int .i64 c, .int .i64 d] 34)).heap b2
        replace b3 := ((Gr.refl _).alloc (.cells #[.int .i64 a, .int .i64 b, .int .i64 c, .int .i64 d] 34)).heap b3
        replace b4 := ((Gr.refl _).alloc (.cells #[.int .i64 a, .int .i64 b, .int .i64 c, .int .i64 d] 34)).heap b4
        have b7 := heap_alloc_self w2 (.cells #[.int .i64 a, .int .i64 b, .int .i64 c, .int .i64 d] 34)
        replace G := G.alloc (.cells #[.int .i64 a, .int .i64 b, .int .i64 c, .int .i64 d] 34)
        generalize hW : (w2.alloc (.cells #[.int .i64 a, .int .i64 b, .int .i64 c, .int .i64 d] 34)) = W3 at *
        have o2 : p2 < w2.heap.size := z2
        have o3 : p3 < w2.heap.size := z3
        have o4 : p4 < w2.heap.size := z4
        have w0 : w.heap.size ≤ w2.heap.size := z0
        obtain ⟨p7, hp7⟩ : ∃ p7, w2.heap.size = p7 := ⟨_, rfl⟩
        rw [hp7] at b7
        try simp only [hp7]
        have n2_7 : ¬ p2 = p7 := by omega
        have n7_2 : ¬ p7 = p2 := by omega
        have n3_7 : ¬ p3 = p7 := by omega
        have n7_3 : ¬ p7 = p3 := by omega
        have n4_7 : ¬ p4 = p7 := by omega
        have n7_4 : ¬ p7 = p4 := by omega
        have s7 : w.heap.size ≤ p7 := by omega
        clear o2 o3 o4 w0
        clear hp7
        clear hW
        clear z2 z3 z4 z0
        clear g2
        refine (MA.out _).mono ?_
        rintro e w3 ⟨rfl, g3⟩
        obtain ⟨c2, f2, z2⟩ := blk_cells (g3.heap b2)
        obtain ⟨c3, f3, z3⟩ := blk_cells (g3.heap b3)
        obtain ⟨c4, f4, z4⟩ := blk_cells (g3.heap b4)
        obtain ⟨c7, f7, z7⟩ := blk_cells (g3.heap b7)
        have z0 : w.heap.size ≤ w3.heap.size := (Gr.trans G g3).b.size
        go_wp2_with fail
        clear c2 f2 c3 f3 c4 f4 c7 f7
        replace b2 := g3.heap b2
        replace b3 := g3.heap b3
        replace b4 := g3.heap b4
        replace b7 := g3.heap b7
        have G := G.trans g3
        replace b2 := keep_at p7 0 1 (.int .i64 a') (.int .i64 b') b2 (by first | assumption | omega)
        replace b3 := keep_at p7 0 1 (.int .i64 a') (.int .i64 b') b3 (by first | assumption | omega)
        replace b4 := keep_at p7 0 1 (.int .i64 a') (.int .i64 b') b4 (by first | assumption | omega)
        replace b7 := put_lo (x := .int .i64 a') (y := .int .i64 b') b7
        replace G := gr_at p7 0 1 (.int .i64 a') (.int .i64 b') G (by omega)
        generalize hW : ((w3.setCell ⟨p7, 0, none⟩ (.int .i64 a')).setCell ⟨p7, 1, none⟩ (.int .i64 b')) = W4 at *
        clear hW
        clear z2 z3 z4 z7 z0
        clear g3
        refine (MB.out _).mono ?_
        rintro e w4 ⟨rfl, g4⟩
        obtain ⟨c2, f2, z2⟩ := blk_cells (g4.heap b2)
        obtain ⟨c3, f3, z3⟩ := blk_cells (g4.heap b3)
        obtain ⟨c4, f4, z4⟩ := blk_cells (g4.heap b4)
        obtain ⟨c7, f7, z7⟩ := blk_cells (g4.heap b7)
        have z0 : w.heap.size ≤ w4.heap.size := (Gr.trans G g4).b.size
        go_wp2_with fail
        clear c2 f2 c3 f3 c4 f4 c7 f7
        replace b2 := g4.heap b2
        replace b3 := g4.heap b3
        replace b4 := g4.heap b4
        replace b7 := g4.heap b7
        have G := G.trans g4
        clear z2 z3 z4 z7 z0
        clear g4
        refine (MC.out _).mono ?_
        rintro e w5 ⟨rfl, g5⟩
        obtain ⟨c2, f2, z2⟩ := blk_cells (g5.heap b2)
        obtain ⟨c3, f3, z3⟩ := blk_cells (g5.heap b3)
        obtain ⟨c4, f4, z4⟩ := blk_cells (g5.heap b4)
        obtain ⟨c7, f7, z7⟩ := blk_cells (g5.heap b7)
        have z0 : w.heap.size ≤ w5.heap.size := (Gr.trans G g5).b.size
        go_wp2_with fail
        clear c2 f2 c3 f3 c4 f4 c7 f7
        replace b2 := g5.heap b2
        replace b3 := g5.heap b3
        replace b4 := g5.heap b4
        replace b7 := g5.heap b7
        have G := G.trans g5
        clear z2 z3 z4 z7 z0
        clear g5
        obtain ⟨c2, f2, z2⟩ := blk_cells b2
        obtain ⟨c3, f3, z3⟩ := blk_cells b3
        obtain ⟨c4, f4, z4⟩ := blk_cells b4
        obtain ⟨c7, f7, z7⟩ := blk_cells b7
        all_goals first | exact bodyPost_ret (v := .tuple #[ru a' b' c d, .int .i64 0]) (by simp [results, Tryd.results64, go_sem, *]) rfl ⟨rfl, (by repeat (first | exact Gr.refl _ | assumption | refine Gr.alloc ?_ _ | refine Gr.drew ?_ | refine Gr.drewN ?_ _ | refine Gr.set ?_ _ _ (by first | (simp; done) | (simp; omega)) | refine Gr.trans ?_ (by assumption)))⟩ | (exfalso; have := HZ.out; have := KZ.out; omega)
  · have eL : a = L1 ∧ b = L2 := by unfold boL at hL; rw [hX, if_neg kL, Prod.mk.injEq] at hL; exact hL
    obtain ⟨rfl, rfl⟩ := eL
    clear hL
    by_cases kM : Y < 0
    · have eM : c' = M1 ∧ d' = M2 := by unfold boM at hM; rw [hY, if_pos kM, Prod.mk.injEq] at hM; exact hM
      obtain ⟨rfl, rfl⟩ := eM
      clear hM hX hY
      generalize hZ : a*d' - c'*b = Z at *
      have HZ := Lib.hid hZ
      clear hZ
      by_cases kZ : 0 < Z
      · have KZ := Lib.hid kZ
        go_enter Tryd.func64, Tryd.ntmps64
        go_wp2_with fail
        have G := Gr.refl w
        have b2 := heap_alloc_self w (.cells #[.int .i64 a, .int .i64 b, .int .i64 c, .int .i64 d] 34)
        replace G := G.alloc (.cells #[.int .i64 a, .int .i64 b, .int .i64 c, .int .i64 d] 34)
        replace b2 := ((Gr.refl _).alloc (.cells #[.int .i64 (a'), .int .i64 (b'), .int .i64 (c'), .int .i64 (d')] 34)).heap b2
        have b3 := heap_alloc_self (w.alloc (.cells #[.int .i64 a, .int .i64 b, .int .i64 c, .int .i64 d] 34)) (.cells #[.int .i64 (a'), .int .i64 (b'), .int .i64 (c'), .int .i64 (d')] 34)
        replace G := G.alloc (.cells #[.int .i64 (a'), .int .i64 (b'), .int .i64 (c'), .int .i64 (d')] 34)
        replace b2 := ((Gr.refl _).alloc (.cells #[.int .i64 0, .int .i64 0, .int .i64 0, .int .i64 0] 34)).heap b2
        replace b3 := ((Gr.refl _).alloc (.cells #[.int .i64 0, .int .i64 0, .int .i64 0, .int .i64 0] 34)).heap b3
        have b4 := heap_alloc_self ((w.alloc (.cells #[.int .i64 a, .int .i64 b, .int .i64 c, .int .i64 d] 34)).alloc (.cells #[.int .i64 (a'), .int .i64 (b'), .int .i64 (c'), .int .i64 (d')] 34)) (.cells #[.int .i64 0, .int .i64 0, .int .i64 0, .int .i64 0] 34)
        replace G := G.alloc (.cells #[.int .i64 0, .int .i64 0, .int .i64 0, .int .i64 0] 34)
        generalize hW : (((w.alloc (.cells #[.int .i64 a, .int .i64 b, .int .i64 c, .int .i64 d] 34)).alloc (.cells #[.int .i64 (a'), .int .i64 (b'), .int .i64 (c'), .int .i64 (d')] 34)).alloc (.cells #[.int .i64 0, .int .i64 0, .int .i64 0, .int .i64 0] 34)) = W1 at *
        simp only [World.size_alloc] at b3
        simp only [World.size_alloc] at b4
        have w0 : w.heap.size ≤ w.heap.size := Nat.le_refl _
        obtain ⟨p4, hp4⟩ : ∃ p4, w.heap.size + 1 + 1 = p4 := ⟨_, rfl⟩
        obtain ⟨p3, hp3⟩ : ∃ p3, w.heap.size + 1 = p3 := ⟨_, rfl⟩
        obtain ⟨p2, hp2⟩ : ∃ p2, w.heap.size = p2 := ⟨_, rfl⟩
        rw [hp4] at b4
        rw [hp3] at b3
        rw [hp2] at b2
        try simp only [hp4]
        try simp only [hp3]
        try simp only [hp2]
        have s2 : w.heap.size ≤ p2 := by omega
        have n2_3 : ¬ p2 = p3 := by omega
        have n3_2 : ¬ p3 = p2 := by omega
        have s3 : w.heap.size ≤ p3 := by omega
        have n2_4 : ¬ p2 = p4 := by omega
        have n4_2 : ¬ p4 = p2 := by omega
        have n3_4 : ¬ p3 = p4 := by omega
        have n4_3 : ¬ p4 = p3 := by omega
        have s4 : w.heap.size ≤ p4 := by omega
        clear  w0
        clear hp2
        clear hp3
        clear hp4
        clear hW
        refine (C1.out _).mono ?_
        rintro e w1 ⟨rfl, g1⟩
        obtain ⟨c2, f2, z2⟩ := blk_cells (g1.heap b2)
        obtain ⟨c3, f3, z3⟩ := blk_cells (g1.heap b3)
        obtain ⟨c4, f4, z4⟩ := blk_cells (g1.heap b4)
        have z0 : w.heap.size ≤ w1.heap.size := (Gr.trans G g1).b.size
        go_wp2_with fail
        clear c2 f2 c3 f3 c4 f4
        replace b2 := g1.heap b2
        replace b3 := g1.heap b3
        replace b4 := g1.heap b4
        have G := G.trans g1
        clear z2 z3 z4 z0
        clear g1
        refine (C2.out _).mono ?_
        rintro e w2 ⟨rfl, g2⟩
        obtain ⟨c2, f2, z2⟩ := blk_cells (g2.heap b2)
        obtain ⟨c3, f3, z3⟩ := blk_cells (g2.heap b3)
        obtain ⟨c4, f4, z4⟩ := blk_cells (g2.heap b4)
        have z0 : w.heap.size ≤ w2.heap.size := (Gr.trans G g2).b.size
        go_wp2_with fail
        clear c2 f2 c3 f3 c4 f4
        replace b2 := g2.heap b2
        replace b3 := g2.heap b3
        replace b4 := g2.heap b4
        have G := G.trans g2
        replace b2 := ((Gr.refl _).alloc (.cells #[.int .i64 a, .int .i64 b, .int .i64 c, .int .i64 d] 34)).heap b2
        replace b3 := ((Gr.refl _).alloc (.cells #[.int .i64 a, .int .i64 b, .int .i64 c, .int .i64 d] 34)).heap b3
        replace b4 := ((Gr.refl _).alloc (.cells #[.int .i64 a, .int .i64 b, .int .i64 c, .int .i64 d] 34)).heap b4
        have b7 := heap_alloc_self w2 (.cells #[.int .i64 a, .int .i64 b, .int .i64 c, .int .i64 d] 34)
        replace G := G.alloc (.cells #[.int .i64 a, .int .i64 b, .int .i64 c, .int .i64 d] 34)
        generalize hW : (w2.alloc (.cells #[.int .i64 a, .int .i64 b, .int .i64 c, .int .i64 d] 34)) = W3 at *
        have o2 : p2 < w2.heap.size := z2
        have o3 : p3 < w2.heap.size := z3
        have o4 : p4 < w2.heap.size := z4
        have w0 : w.heap.size ≤ w2.heap.size := z0
        obtain ⟨p7, hp7⟩ : ∃ p7, w2.heap.size = p7 := ⟨_, rfl⟩
        rw [hp7] at b7
        try simp only [hp7]
        have n2_7 : ¬ p2 = p7 := by omega
        have n7_2 : ¬ p7 = p2 := by omega
        have n3_7 : ¬ p3 = p7 := by omega
        have n7_3 : ¬ p7 = p3 := by omega
        have n4_7 : ¬ p4 = p7 := by omega
        have n7_4 : ¬ p7 = p4 := by omega
        have s7 : w.heap.size ≤ p7 := by omega
        clear o2 o3 o4 w0
        clear hp7
        clear hW
        clear z2 z3 z4 z0
        clear g2
        refine (MA.out _).mono ?_
        rintro e w3 ⟨rfl, g3⟩
        obtain ⟨c2, f2, z2⟩ := blk_cells (g3.heap b2)
        obtain ⟨c3, f3, z3⟩ := blk_cells (g3.heap b3)
        obtain ⟨c4, f4, z4⟩ := blk_cells (g3.heap b4)
        obtain ⟨c7, f7, z7⟩ := blk_cells (g3.heap b7)
        have z0 : w.heap.size ≤ w3.heap.size := (Gr.trans G g3).b.size
        go_wp2_with fail
        clear c2 f2 c3 f3 c4 f4 c7 f7
        replace b2 := g3.heap b2
        replace b3 := g3.heap b3
        replace b4 := g3.heap b4
        replace b7 := g3.heap b7
        have G := G.trans g3
        clear z2 z3 z4 z7 z0
        clear g3
        refine (MB.out _).mono ?_
        rintro e w4 ⟨rfl, g4⟩
        obtain ⟨c2, f2, z2⟩ := blk_cells (g4.heap b2)
        obtain ⟨c3, f3, z3⟩ := blk_cells (g4.heap b3)
        obtain ⟨c4, f4, z4⟩ := blk_cells (g4.heap b4)
        obtain ⟨c7, f7, z7⟩ := blk_cells (g4.heap b7)
        have z0 : w.heap.size ≤ w4.heap.size := (Gr.trans G g4).b.size
        go_wp2_with fail
        clear c2 f2 c3 f3 c4 f4 c7 f7
        replace b2 := g4.heap b2
        replace b3 := g4.heap b3
        replace b4 := g4.heap b4
        replace b7 := g4.heap b7
        have G := G.trans g4
        replace b2 := keep_at p7 2 3 (.int .i64 c') (.int .i64 d') b2 (by first | assumption | omega)
        replace b3 := keep_at p7 2 3 (.int .i64 c') (.int .i64 d') b3 (by first | assumption | omega)
        replace b4 := keep_at p7 2 3 (.int .i64 c') (.int .i64 d') b4 (by first | assumption | omega)
        replace b7 := put_hi (x := .int .i64 c') (y := .int .i64 d') b7
        replace G := gr_at p7 2 3 (.int .i64 c') (.int .i64 d') G (by omega)
        generalize hW : ((w4.setCell ⟨p7, 2, none⟩ (.int .i64 c')).setCell ⟨p7, 3, none⟩ (.int .i64 d')) = W5 at *
        clear hW
        clear z2 z3 z4 z7 z0
        clear g4
        refine (MC.out _).mono ?_
        rintro e w5 ⟨rfl, g5⟩
        obtain ⟨c2, f2, z2⟩ := blk_cells (g5.heap b2)
        obtain ⟨c3, f3, z3⟩ := blk_cells (g5.heap b3)
        obtain ⟨c4, f4, z4⟩ := blk_cells (g5.heap b4)
        obtain ⟨c7, f7, z7⟩ := blk_cells (g5.heap b7)
        have z0 : w.heap.size ≤ w5.heap.size := (Gr.trans G g5).b.size
        go_wp2_with fail
        clear c2 f2 c3 f3 c4 f4 c7 f7
        replace b2 := g5.heap b2
        replace b3 := g5.heap b3
        replace b4 := g5.heap b4
        replace b7 := g5.heap b7
        have G := G.trans g5
        clear z2 z3 z4 z7 z0
        clear g5
        obtain ⟨c2, f2, z2⟩ := blk_cells b2
        obtain ⟨c3, f3, z3⟩ := blk_cells b3
        obtain ⟨c4, f4, z4⟩ := blk_cells b4
        obtain ⟨c7, f7, z7⟩ := blk_cells b7
        all_goals first | exact bodyPost_ret (v := .tuple #[ru 0 0 0 0, .int .i64 5]) (by simp [results, Tryd.results64, go_sem, *]) rfl ⟨rfl, (by repeat (first | exact Gr.refl _ | assumption | refine Gr.alloc ?_ _ | refine Gr.drew ?_ | refine Gr.drewN ?_ _ | refine Gr.set ?_ _ _ (by first | (simp; done) | (simp; omega)) | refine Gr.trans ?_ (by assumption)))⟩ | (exfalso; have := HZ.out; have := KZ.out; omega)
      · have KZ := Lib.hid kZ
        go_enter Tryd.func64, Tryd.ntmps64
        go_wp2_with fail
        have G := Gr.refl w
        have b2 := heap_alloc_self w (.cells #[.int .i64 a, .int .i64 b, .int .i64 c, .int .i64 d] 34)
        replace G := G.alloc (.cells #[.int .i64 a, .int .i64 b, .int .i64 c, .int .i64 d] 34)
        replace b2 := ((Gr.refl _).alloc (.cells #[.int .i64 (a'), .int .i64 (b'), .int .i64 (c'), .int .i64 (d')] 34)).heap b2
        have b3 := heap_alloc_self (w.alloc (.cells #[.int .i64 a, .int .i64 b, .int .i64 c, .int .i64 d] 34)) (.cells #[.int .i64 (a'), .int .i64 (b'), .int .i64 (c'), .int .i64 (d')] 34)
        replace G := G.alloc (.cells #[.int .i64 (a'), .int .i64 (b'), .int .i64 (c'), .int .i64 (d')] 34)
        replace b2 := ((Gr.refl _).alloc (.cells #[.int .i64 0, .int .i64 0, .int .i64 0, .int .i64 0] 34)).heap b2
        replace b3 := ((Gr.refl _).alloc (.cells #[.int .i64 0, .int .i64 0, .int .i64 0, .int .i64 0] 34)).heap b3
        have b4 := heap_alloc_self ((w.alloc (.cells #[.int .i64 a, .int .i64 b, .int .i64 c, .int .i64 d] 34)).alloc (.cells #[.int .i64 (a'), .int .i64 (b'), .int .i64 (c'), .int .i64 (d')] 34)) (.cells #[.int .i64 0, .int .i64 0, .int .i64 0, .int .i64 0] 34)
        replace G := G.alloc (.cells #[.int .i64 0, .int .i64 0, .int .i64 0, .int .i64 0] 34)
        generalize hW : (((w.alloc (.cells #[.int .i64 a, .int .i64 b, .int .i64 c, .int .i64 d] 34)).alloc (.cells #[.int .i64 (a'), .int .i64 (b'), .int .i64 (c'), .int .i64 (d')] 34)).alloc (.cells #[.int .i64 0, .int .i64 0, .int .i64 0, .int .i64 0] 34)) = W1 at *
        simp only [World.size_alloc] at b3
        simp only [World.size_alloc] at b4
        have w0 : w.heap.size ≤ w.heap.size := Nat.le_refl _
        obtain ⟨p4, hp4⟩ : ∃ p4, w.heap.size + 1 + 1 = p4 := ⟨_, rfl⟩
        obtain ⟨p3, hp3⟩ : ∃ p3, w.heap.size + 1 = p3 := ⟨_, rfl⟩
        obtain ⟨p2, hp2⟩ : ∃ p2, w.heap.size = p2 := ⟨_, rfl⟩
        rw [hp4] at b4
        rw [hp3] at b3
        rw [hp2] at b2
        try simp only [hp4]
        try simp only [hp3]
        try simp only [hp2]
        have s2 : w.heap.size ≤ p2 := by omega
        have n2_3 : ¬ p2 = p3 := by omega
        have n3_2 : ¬ p3 = p2 := by omega
        have s3 : w.heap.size ≤ p3 := by omega
        have n2_4 : ¬ p2 = p4 := by omega
        have n4_2 : ¬ p4 = p2 := by omega
        have n3_4 : ¬ p3 = p4 := by omega
        have n4_3 : ¬ p4 = p3 := by omega
        have s4 : w.heap.size ≤ p4 := by omega
        clear  w0
        clear hp2
        clear hp3
        clear hp4
        clear hW
        refine (C1.out _).mono ?_
        rintro e w1 ⟨rfl, g1⟩
        obtain ⟨c2, f2, z2⟩ := blk_cells (g1.heap b2)
        obtain ⟨c3, f3, z3⟩ := blk_cells (g1.heap b3)
        obtain ⟨c4, f4, z4⟩ := blk_cells (g1.heap b4)
        have z0 : w.heap.size ≤ w1.heap.size := (Gr.trans G g1).b.size
        go_wp2_with fail
        clear c2 f2 c3 f3 c4 f4
        replace b2 := g1.heap b2
        replace b3 := g1.heap b3
        replace b4 := g1.heap b4
        have G := G.trans g1
        clear z2 z3 z4 z0
        clear g1
        refine (C2.out _).mono ?_
        rintro e w2 ⟨rfl, g2⟩
        obtain ⟨c2, f2, z2⟩ := blk_cells (g2.heap b2)
        obtain ⟨c3, f3, z3⟩ := blk_cells (g2.heap b3)
        obtain ⟨c4, f4, z4⟩ := blk_cells (g2.heap b4)
        have z0 : w.heap.size ≤ w2.heap.size := (Gr.trans G g2).b.size
        go_wp2_with fail
        clear c2 f2 c3 f3 c4 f4
        replace b2 := g2.heap b2
        replace b3 := g2.heap b3
        replace b4 := g2.heap b4
        have G := G.trans g2
        replace b2 := ((Gr.refl _).alloc (.cells #[.int .i64 a, .int .i64 b, .int .i64 c, .int .i64 d] 34)).heap b2
        replace b3 := ((Gr.refl _).alloc (.cells #[.int .i64 a, .int .i64 b, .int .i64 c, .int .i64 d] 34)).heap b3
        replace b4 := ((Gr.refl _).alloc (.cells #[.int .i64 a, .int .i64 b, .int .i64 c, .int .i64 d] 34)).heap b4
        have b7 := heap_alloc_self w2 (.cells #[.int .i64 a, .int .i64 b, .int .i64 c, .int .i64 d] 34)
        replace G := G.alloc (.cells #[.int .i64 a, .int .i64 b, .int .i64 c, .int .i64 d] 34)
        generalize hW : (w2.alloc (.cells #[.int .i64 a, .int .i64 b, .int .i64 c, .int .i64 d] 34)) = W3 at *
        have o2 : p2 < w2.heap.size := z2
        have o3 : p3 < w2.heap.size := z3
        have o4 : p4 < w2.heap.size := z4
        have w0 : w.heap.size ≤ w2.heap.size := z0
        obtain ⟨p7, hp7⟩ : ∃ p7, w2.heap.size = p7 := ⟨_, rfl⟩
        rw [hp7] at b7
        try simp only [hp7]
        have n2_7 : ¬ p2 = p7 := by omega
        have n7_2 : ¬ p7 = p2 := by omega
        have n3_7 : ¬ p3 = p7 := by omega
        have n7_3 : ¬ p7 = p3 := by omega
        have n4_7 : ¬ p4 = p7 := by omega
        have n7_4 : ¬ p7 = p4 := by omega
        have s7 : w.heap.size ≤ p7 := by omega
        clear o2 o3 o4 w0
        clear hp7
        clear hW
        clear z2 z3 z4 z0
        clear g2
        refine (MA.out _).mono ?_
        rintro e w3 ⟨rfl, g3⟩
        obtain ⟨c2, f2, z2⟩ := blk_cells (g3.heap b2)
        obtain ⟨c3, f3, z3⟩ := blk_cells (g3.heap b3)
        obtain ⟨c4, f4, z4⟩ := blk_cells (g3.heap b4)
        obtain ⟨c7, f7, z7⟩ := blk_cells (g3.heap b7)
        have z0 : w.heap.size ≤ w3.heap.size := (Gr.trans G g3).b.size
        go_wp2_with fail
        clear c2 f2 c3 f3 c4 f4 c7 f7
        replace b2 := g3.heap b2
        replace b3 := g3.heap b3
        replace b4 := g3.heap b4
        replace b7 := g3.heap b7
        have G := G.trans g3
        clear z2 z3 z4 z7 z0
        clear g3
        refine (MB.out _).mono ?_
        rintro e w4 ⟨rfl, g4⟩
        obtain ⟨c2, f2, z2⟩ := blk_cells (g4.heap b2)
        obtain ⟨c3, f3, z3⟩ := blk_cells (g4.heap b3)
        obtain ⟨c4, f4, z4⟩ := blk_cells (g4.heap b4)
        obtain ⟨c7, f7, z7⟩ := blk_cells (g4.heap b7)
        have z0 : w.heap.size ≤ w4.heap.size := (Gr.trans G g4).b.size
        go_wp2_with fail
        clear c2 f2 c3 f3 c4 f4 c7 f7
        replace b2 := g4.heap b2
        replace b3 := g4.heap b3
        replace b4 := g4.heap b4
        replace b7 := g4.heap b7
        have G := G.trans g4
        replace b2 := keep_at p7 2 3 (.int .i64 c') (.int .i64 d') b2 (by first | assumption | omega)
        replace b3 := keep_at p7 2 3 (.int .i64 c') (.int .i64 d') b3 (by first | assumption | omega)
        replace b4 := keep_at p7 2 3 (.int .i64 c') (.int .i64 d') b4 (by first | assumption | omega)
        replace b7 := put_hi (x := .int .i64 c') (y := .int .i64 d') b7
        replace G := gr_at p7 2 3 (.int .i64 c') (.int .i64 d') G (by omega)
        generalize hW : ((w4.setCell ⟨p7, 2, none⟩ (.int .i64 c')).setCell ⟨p7, 3, none⟩ (.int .i64 d')) = W5 at *
        clear hW
        clear z2 z3 z4 z7 z0
        clear g4
        refine (MC.out _).mono ?_
        rintro e w5 ⟨rfl, g5⟩
        obtain ⟨c2, f2, z2⟩ := blk_cells (g5.heap b2)
        obtain ⟨c3, f3, z3⟩ := blk_cells (g5.heap b3)
        obtain ⟨c4, f4, z4⟩ := blk_cells (g5.heap b4)
        obtain ⟨c7, f7, z7⟩ := blk_cells (g5.heap b7)
        have z0 : w.heap.size ≤ w5.heap.size := (Gr.trans G g5).b.size
        go_wp2_with fail
        clear c2 f2 c3 f3 c4 f4 c7 f7
        replace b2 := g5.heap b2
        replace b3 := g5.heap b3
        replace b4 := g5.heap b4
        replace b7 := g5.heap b7
        have G := G.trans g5
        clear z2 z3 z4 z7 z0
        clear g5
        obtain ⟨c2, f2, z2⟩ := blk_cells b2
        obtain ⟨c3, f3, z3⟩ := blk_cells b3
        obtain ⟨c4, f4, z4⟩ := blk_cells b4
        obtain ⟨c7, f7, z7⟩ := blk_cells b7
        all_goals first | exact bodyPost_ret (v := .tuple #[ru a b c' d', .int .i64 0]) (by simp [results, Tryd.results64, go_sem, *]) rfl ⟨rfl, (by repeat (first | exact Gr.refl _ | assumption | refine Gr.alloc ?_ _ | refine Gr.drew ?_ | refine Gr.drewN ?_ _ | refine Gr.set ?_ _ _ (by first | (simp; done) | (simp; omega)) | refine Gr.trans ?_ (by assumption)))⟩ | (exfalso; have := HZ.out; have := KZ.out; omega)
    · have eM : c = M1 ∧ d = M2 := by unfold boM at hM; rw [hY, if_neg kM, Prod.mk.injEq] at hM; exact hM
      obtain ⟨rfl, rfl⟩ := eM
      clear hM hX hY
      generalize hZ : a*d - c*b = Z at *
      have HZ := Lib.hid hZ
      clear hZ
      by_cases kZ : 0 < Z
      · have KZ := Lib.hid kZ
        go_enter Tryd.func64, Tryd.ntmps64
        go_wp2_with fail
        have G := Gr.refl w
        have b2 := heap_alloc_self w (.cells #[.int .i64 a, .int .i64 b, .int .i64 c, .int .i64 d] 34)
        replace G := G.alloc (.cells #[.int .i64 a, .int .i64 b, .int .i64 c, .int .i64 d] 34)
        replace b2 := ((Gr.refl _).alloc (.cells #[.int .i64 (a'), .int .i64 (b'), .int .i64 (c'), .int .i64 (d')] 34)).heap b2
        have b3 := heap_alloc_self (w.alloc (.cells #[.int .i64 a, .int .i64 b, .int .i64 c, .int .i64 d] 34)) (.cells #[.int .i64 (a'), .int .i64 (b'), .int .i64 (c'), .int .i64 (d')] 34)
        replace G := G.alloc (.cells #[.int .i64 (a'), .int .i64 (b'), .int .i64 (c'), .int .i64 (d')] 34)
        replace b2 := ((Gr.refl _).alloc (.cells #[.int .i64 0, .int .i64 0, .int .i64 0, .int .i64 0] 34)).heap b2
        replace b3 := ((Gr.refl _).alloc (.cells #[.int .i64 0, .int .i64 0, .int .i64 0, .int .i64 0] 34)).heap b3
        have b4 := heap_alloc_self ((w.alloc (.cells #[.int .i64 a, .int .i64 b, .int .i64 c, .int .i64 d] 34)).alloc (.cells #[.int .i64 (a'), .int .i64 (b'), .int .i64 (c'), .int .i64 (d')] 34)) (.cells #[.int .i64 0, .int .i64 0, .int .i64 0, .int .i64 0] 34)
        replace G := G.alloc (.cells #[.int .i64 0, .int .i64 0, .int .i64 0, .int .i64 0] 34)
        generalize hW : (((w.alloc (.cells #[.int .i64 a, .int .i64 b, .int .i64 c, .int .i64 d] 34)).alloc (.cells #[.int .i64 (a'), .int .i64 (b'), .int .i64 (c'), .int .i64 (d')] 34)).alloc (.cells #[.int .i64 0, .int .i64 0, .int .i64 0, .int .i64 0] 34)) = W1 at *
        simp only [World.size_alloc] at b3
        simp only [World.size_alloc] at b4
        have w0 : w.heap.size ≤ w.heap.size := Nat.le_refl _
        obtain ⟨p4, hp4⟩ : ∃ p4, w.heap.size + 1 + 1 = p4 := ⟨_, rfl⟩
        obtain ⟨p3, hp3⟩ : ∃ p3, w.heap.size + 1 = p3 := ⟨_, rfl⟩
        obtain ⟨p2, hp2⟩ : ∃ p2, w.heap.size = p2 := ⟨_, rfl⟩
        rw [hp4] at b4
        rw [hp3] at b3
        rw [hp2] at b2
        try simp only [hp4]
        try simp only [hp3]
        try simp only [hp2]
        have s2 : w.heap.size ≤ p2 := by omega
        have n2_3 : ¬ p2 = p3 := by omega
        have n3_2 : ¬ p3 = p2 := by omega
        have s3 : w.heap.size ≤ p3 := by omega
        have n2_4 : ¬ p2 = p4 := by omega
        have n4_2 : ¬ p4 = p2 := by omega
        have n3_4 : ¬ p3 = p4 := by omega
        have n4_3 : ¬ p4 = p3 := by omega
        have s4 : w.heap.size ≤ p4 := by omega
        clear  w0
        clear hp2
        clear hp3
        clear hp4
        clear hW
        refine (C1.out _).mono ?_
        rintro e w1 ⟨rfl, g1⟩
        obtain ⟨c2, f2, z2⟩ := blk_cells (g1.heap b2)
        obtain ⟨c3, f3, z3⟩ := blk_cells (g1.heap b3)
        obtain ⟨c4, f4, z4⟩ := blk_cells (g1.heap b4)
        have z0 : w.heap.size ≤ w1.heap.size := (Gr.trans G g1).b.size
        go_wp2_with fail
        clear c2 f2 c3 f3 c4 f4
        replace b2 := g1.heap b2
        replace b3 := g1.heap b3
        replace b4 := g1.heap b4
        have G := G.trans g1
        clear z2 z3 z4 z0
        clear g1
        refine (C2.out _).mono ?_
        rintro e w2 ⟨rfl, g2⟩
        obtain ⟨c2, f2, z2⟩ := blk_cells (g2.heap b2)
        obtain ⟨c3, f3, z3⟩ := blk_cells (g2.heap b3)
        obtain ⟨c4, f4, z4⟩ := blk_cells (g2.heap b4)
        have z0 : w.heap.size ≤ w2.heap.size := (Gr.trans G g2).b.size
        go_wp2_with fail
        clear c2 f2 c3 f3 c4 f4
        replace b2 := g2.heap b2
        replace b3 := g2.heap b3
        replace b4 := g2.heap b4
        have G := G.trans g2
        replace b2 := ((Gr.refl _).alloc (.cells #[.int .i64 a, .int .i64 b, .int .i64 c, .int .i64 d] 34)).heap b2
        replace b3 := ((Gr.refl _).alloc (.cells #[.int .i64 a, .int .i64 b, .int .i64 c, .int .i64 d] 34)).heap b3
        replace b4 := ((Gr.refl _).alloc (.cells #[.int .i64 a, .int .i64 b, .int .i64 c, .int .i64 d] 34)).heap b4
        have b7 := heap_alloc_self w2 (.cells #[.int .i64 a, .int .i64 b, .int .i64 c, .int .i64 d] 34)
        replace G := G.alloc (.cells #[.int .i64 a, .int .i64 b, .int .i64 c, .int .i64 d] 34)
        generalize hW : (w2.alloc (.cells #[.int .i64 a, .int .i64 b, .int .i64 c, .int .i64 d] 34)) = W3 at *
        have o2 : p2 < w2.heap.size := z2
        have o3 : p3 < w2.heap.size := z3
        have o4 : p4 < w2.heap.size := z4
        have w0 : w.heap.size ≤ w2.heap.size := z0
        obtain ⟨p7, hp7⟩ : ∃ p7, w2.heap.size = p7 := ⟨_, rfl⟩
        rw [hp7] at b7
        try simp only [hp7]
        have n2_7 : ¬ p2 = p7 := by omega
        have n7_2 : ¬ p7 = p2 := by omega
        have n3_7 : ¬ p3 = p7 := by omega
        have n7_3 : ¬ p7 = p3 := by omega
        have n4_7 : ¬ p4 = p7 := by omega
        have n7_4 : ¬ p7 = p4 := by omega
        have s7 : w.heap.size ≤ p7 := by omega
        clear o2 o3 o4 w0
        clear hp7
        clear hW
        clear z2 z3 z4 z0
        clear g2
        refine (MA.out _).mono ?_
        rintro e w3 ⟨rfl, g3⟩
        obtain ⟨c2, f2, z2⟩ := blk_cells (g3.heap b2)
        obtain ⟨c3, f3, z3⟩ := blk_cells (g3.heap b3)
        obtain ⟨c4, f4, z4⟩ := blk_cells (g3.heap b4)
        obtain ⟨c7, f7, z7⟩ := blk_cells (g3.heap b7)
        have z0 : w.heap.size ≤ w3.heap.size := (Gr.trans G g3).b.size
        go_wp2_with fail
        clear c2 f2 c3 f3 c4 f4 c7 f7
        replace b2 := g3.heap b2
        replace b3 := g3.heap b3
        replace b4 := g3.heap b4
        replace b7 := g3.heap b7
        have G := G.trans g3
        clear z2 z3 z4 z7 z0
        clear g3
        refine (MB.out _).mono ?_
        rintro e w4 ⟨rfl, g4⟩
        obtain ⟨c2, f2, z2⟩ := blk_cells (g4.heap b2)
        obtain ⟨c3, f3, z3⟩ := blk_cells (g4.heap b3)
        obtain ⟨c4, f4, z4⟩ := blk_cells (g4.heap b4)
        obtain ⟨c7, f7, z7⟩ := blk_cells (g4.heap b7)
        have z0 : w.heap.size ≤ w4.heap.size := (Gr.trans G g4).b.size
        go_wp2_with fail
        clear c2 f2 c3 f3 c4 f4 c7 f7
        replace b2 := g4.heap b2
        replace b3 := g4.heap b3
        replace b4 := g4.heap b4
        replace b7 := g4.heap b7
        have G := G.trans g4
        clear z2 z3 z4 z7 z0
        clear g4
        refine (MC.out _).mono ?_
        rintro e w5 ⟨rfl, g5⟩
        obtain ⟨c2, f2, z2⟩ := blk_cells (g5.heap b2)
        obtain ⟨c3, f3, z3⟩ := blk_cells (g5.heap b3)
        obtain ⟨c4, f4, z4⟩ := blk_cells (g5.heap b4)
        obtain ⟨c7, f7, z7⟩ := blk_cells (g5.heap b7)
        have z0 : w.heap.size ≤ w5.heap.size := (Gr.trans G g5).b.size
        go_wp2_with fail
        clear c2 f2 c3 f3 c4 f4 c7 f7
        replace b2 := g5.heap b2
        replace b3 := g5.heap b3
        replace b4 := g5.heap b4
        replace b7 := g5.heap b7
        have G := G.trans g5
        clear z2 z3 z4 z7 z0
        clear g5
        obtain ⟨c2, f2, z2⟩ := blk_cells b2
        obtain ⟨c3, f3, z3⟩ := blk_cells b3
        obtain ⟨c4, f4, z4⟩ := blk_cells b4
        obtain ⟨c7, f7, z7⟩ := blk_cells b7
        all_goals first | exact bodyPost_ret (v := .tuple #[ru 0 0 0 0, .int .i64 5]) (by simp [results, Tryd.results64, go_sem, *]) rfl ⟨rfl, (by repeat (first | exact Gr.refl _ | assumption | refine Gr.alloc ?_ _ | refine Gr.drew ?_ | refine Gr.drewN ?_ _ | refine Gr.set ?_ _ _ (by first | (simp; done) | (simp; omega)) | refine Gr.trans ?_ (by assumption)))⟩ | (exfalso; have := HZ.out; have := KZ.out; omega)
      · have KZ := Lib.hid kZ
        go_enter Tryd.func64, Tryd.ntmps64
        go_wp2_with fail
        have G := Gr.refl w
        have b2 := heap_alloc_self w (.cells #[.int .i64 a, .int .i64 b, .int .i64 c, .int .i64 d] 34)
        replace G := G.alloc (.cells #[.int .i64 a, .int .i64 b, .int .i64 c, .int .i64 d] 34)
        replace b2 := ((Gr.refl _).alloc (.cells #[.int .i64 (a'), .int .i64 (b'), .int .i64 (c'), .int .i64 (d')] 34)).heap b2
        have b3 := heap_alloc_self (w.alloc (.cells #[.int .i64 a, .int .i64 b, .int .i64 c, .int .i64 d] 34)) (.cells #[.int .i64 (a'), .int .i64 (b'), .int .i64 (c'), .int .i64 (d')] 34)
        replace G := G.alloc (.cells #[.int .i64 (a'), .int .i64 (b'), .int .i64 (c'), .int .i64 (d')] 34)
        replace b2 := ((Gr.refl _).alloc (.cells #[.int .i64 0, .int .i64 0, .int .i64 0, .int .i64 0] 34)).heap b2
        replace b3 := ((Gr.refl _).alloc (.cells #[.int .i64 0, .int .i64 0, .int .i64 0, .int .i64 0] 34)).heap b3
        have b4 := heap_alloc_self ((w.alloc (.cells #[.int .i64 a, .int .i64 b, .int .i64 c, .int .i64 d] 34)).alloc (.cells #[.int .i64 (a'), .int .i64 (b'), .int .i64 (c'), .int .i64 (d')] 34)) (.cells #[.int .i64 0, .int .i64 0, .int .i64 0, .int .i64 0] 34)
        replace G := G.alloc (.cells #[.int .i64 0, .int .i64 0, .int .i64 0, .int .i64 0] 34)
        generalize hW : (((w.alloc (.cells #[.int .i64 a, .int .i64 b, .int .i64 c, .int .i64 d] 34)).alloc (.cells #[.int .i64 (a'), .int .i64 (b'), .int .i64 (c'), .int .i64 (d')] 34)).alloc (.cells #[.int .i64 0, .int .i64 0, .int .i64 0, .int .i64 0] 34)) = W1 at *
        simp only [World.size_alloc] at b3
        simp only [World.size_alloc] at b4
        have w0 : w.heap.size ≤ w.heap.size := Nat.le_refl _
        obtain ⟨p4, hp4⟩ : ∃ p4, w.heap.size + 1 + 1 = p4 := ⟨_, rfl⟩
        obtain ⟨p3, hp3⟩ : ∃ p3, w.heap.size + 1 = p3 := ⟨_, rfl⟩
        obtain ⟨p2, hp2⟩ : ∃ p2, w.heap.size = p2 := ⟨_, rfl⟩
        rw [hp4] at b4
        rw [hp3] at b3
        rw [hp2] at b2
        try simp only [hp4]
        try simp only [hp3]
        try simp only [hp2]
        have s2 : w.heap.size ≤ p2 := by omega
        have n2_3 : ¬ p2 = p3 := by omega
        have n3_2 : ¬ p3 = p2 := by omega
        have s3 : w.heap.size ≤ p3 := by omega
        have n2_4 : ¬ p2 = p4 := by omega
        have n4_2 : ¬ p4 = p2 := by omega
        have n3_4 : ¬ p3 = p4 := by omega
        have n4_3 : ¬ p4 = p3 := by omega
        have s4 : w.heap.size ≤ p4 := by omega
        clear  w0
        clear hp2
        clear hp3
        clear hp4
        clear hW
        refine (C1.out _).mono ?_
        rintro e w1 ⟨rfl, g1⟩
        obtain ⟨c2, f2, z2⟩ := blk_cells (g1.heap b2)
        obtain ⟨c3, f3, z3⟩ := blk_cells (g1.heap b3)
        obtain ⟨c4, f4, z4⟩ := blk_cells (g1.heap b4)
        have z0 : w.heap.size ≤ w1.heap.size := (Gr.trans G g1).b.size
        go_wp2_with fail
        clear c2 f2 c3 f3 c4 f4
        replace b2 := g1.heap b2
        replace b3 := g1.heap b3
        replace b4 := g1.heap b4
        have G := G.trans g1
        clear z2 z3 z4 z0
        clear g1
        refine (C2.out _).mono ?_
        rintro e w2 ⟨rfl, g2⟩
        obtain ⟨c2, f2, z2⟩ := blk_cells (g2.heap b2)
        obtain ⟨c3, f3, z3⟩ := blk_cells (g2.heap b3)
        obtain ⟨c4, f4, z4⟩ := blk_cells (g2.heap b4)
        have z0 : w.heap.size ≤ w2.heap.size := (Gr.trans G g2).b.size
        go_wp2_with fail
        clear c2 f2 c3 f3 c4 f4
        replace b2 := g2.heap b2
        replace b3 := g2.heap b3
        replace b4 := g2.heap b4
        have G := G.trans g2
        replace b2 := ((Gr.refl _).alloc (.cells #[.int .i64 a, .int .i64 b, .int .i64 c, .int .i64 d] 34)).heap b2
        replace b3 := ((Gr.refl _).alloc (.cells #[.int .i64 a, .int .i64 b, .int .i64 c, .int .i64 d] 34)).heap b3
        replace b4 := ((Gr.refl _).alloc (.cells #[.int .i64 a, .int .i64 b, .int .i64 c, .int .i64 d] 34)).heap b4
        have b7 := heap_alloc_self w2 (.cells #[.int .i64 a, .int .i64 b, .int .i64 c, .int .i64 d] 34)
        replace G := G.alloc (.cells #[.int .i64 a, .int .i64 b, .int .i64 c, .int .i64 d] 34)
        generalize hW : (w2.alloc (.cells #[.int .i64 a, .int .i64 b, .int .i64 c, .int .i64 d] 34)) = W3 at *
        have o2 : p2 < w2.heap.size := z2
        have o3 : p3 < w2.heap.size := z3
        have o4 : p4 < w2.heap.size := z4
        have w0 : w.heap.size ≤ w2.heap.size := z0
        obtain ⟨p7, hp7⟩ : ∃ p7, w2.heap.size = p7 := ⟨_, rfl⟩
        rw [hp7] at b7
        try simp only [hp7]
        have n2_7 : ¬ p2 = p7 := by omega
        have n7_2 : ¬ p7 = p2 := by omega
        have n3_7 : ¬ p3 = p7 := by omega
        have n7_3 : ¬ p7 = p3 := by omega
        have n4_7 : ¬ p4 = p7 := by omega
        have n7_4 : ¬ p7 = p4 := by omega
        have s7 : w.heap.size ≤ p7 := by omega
        clear o2 o3 o4 w0
        clear hp7
        clear hW
        clear z2 z3 z4 z0
        clear g2
        refine (MA.out _).mono ?_
        rintro e w3 ⟨rfl, g3⟩
        obtain ⟨c2, f2, z2⟩ := blk_cells (g3.heap b2)
        obtain ⟨c3, f3, z3⟩ := blk_cells (g3.heap b3)
        obtain ⟨c4, f4, z4⟩ := blk_cells (g3.heap b4)
        obtain ⟨c7, f7, z7⟩ := blk_cells (g3.heap b7)
        have z0 : w.heap.size ≤ w3.heap.size := (Gr.trans G g3).b.size
        go_wp2_with fail
        clear c2 f2 c3 f3 c4 f4 c7 f7
        replace b2 := g3.heap b2
        replace b3 := g3.heap b3
        replace b4 := g3.heap b4
        replace b7 := g3.heap b7
        have G := G.trans g3
        clear z2 z3 z4 z7 z0
        clear g3
        refine (MB.out _).mono ?_
        rintro e w4 ⟨rfl, g4⟩
        obtain ⟨c2, f2, z2⟩ := blk_cells (g4.heap b2)
        obtain ⟨c3, f3, z3⟩ := blk_cells (g4.heap b3)
        obtain ⟨c4, f4, z4⟩ := blk_cells (g4.heap b4)
        obtain ⟨c7, f7, z7⟩ := blk_cells (g4.heap b7)
        have z0 : w.heap.size ≤ w4.heap.size := (Gr.trans G g4).b.size
        go_wp2_with fail
        clear c2 f2 c3 f3 c4 f4 c7 f7
        replace b2 := g4.heap b2
        replace b3 := g4.heap b3
        replace b4 := g4.heap b4
        replace b7 := g4.heap b7
        have G := G.trans g4
        clear z2 z3 z4 z7 z0
        clear g4
        refine (MC.out _).mono ?_
        rintro e w5 ⟨rfl, g5⟩
        obtain ⟨c2, f2, z2⟩ := blk_cells (g5.heap b2)
        obtain ⟨c3, f3, z3⟩ := blk_cells (g5.heap b3)
        obtain ⟨c4, f4, z4⟩ := blk_cells (g5.heap b4)
        obtain ⟨c7, f7, z7⟩ := blk_cells (g5.heap b7)
        have z0 : w.heap.size ≤ w5.heap.size := (Gr.trans G g5).b.size
        go_wp2_with fail
        clear c2 f2 c3 f3 c4 f4 c7 f7
        replace b2 := g5.heap b2
        replace b3 := g5.heap b3
        replace b4 := g5.heap b4
        replace b7 := g5.heap b7
        have G := G.trans g5
        clear z2 z3 z4 z7 z0
        clear g5
        obtain ⟨c2, f2, z2⟩ := blk_cells b2
        obtain ⟨c3, f3, z3⟩ := blk_cells b3
        obtain ⟨c4, f4, z4⟩ := blk_cells b4
        obtain ⟨c7, f7, z7⟩ := blk_cells b7
        all_goals first | exact bodyPost_ret (v := .tuple #[ru a b c d, .int .i64 0]) (by simp [results, Tryd.results64, go_sem, *]) rfl ⟨rfl, (by repeat (first | exact Gr.refl _ | assumption | refine Gr.alloc ?_ _ | refine Gr.drew ?_ | refine Gr.drewN ?_ _ | refine Gr.set ?_ _ _ (by first | (simp; done) | (simp; omega)) | refine Gr.trans ?_ (by assumption)))⟩ | (exfalso; have := HZ.out; have := KZ.out; omega)
theorem rBoth_any (a b c d a' b' c' d' : Int) (w : World) :
    Calls Tryd.prog 64 #[ru a b c d, ru a' b' c' d'] w fun e w' => e = .returned (.tuple #[ru (boV a b c d a' b' c' d' (boL a b a' b').1) (boV a b c d a' b' c' d' (boL a b a' b').2) (boV a b c d a' b' c' d' (boM c d c' d').1) (boV a b c d a' b' c' d' (boM c d c' d').2), .int .i64 (boE a b c d a' b' c' d')]) ∧ Gr w w' := by
  cases h : (ruOk a b c d && ruOk a' b' c' d')
  · have e1 : boE a b c d a' b' c' d' = 1 := by simp only [boE, h]; rfl
    have e2 : ∀ x, boV a b c d a' b' c' d' x = 0 := fun x => by simp [boV, e1]
    rw [e1, e2, e2, e2, e2]
    exact rBoth_bad a b c d a' b' c' d' w h
  · have h' := h
    rw [Bool.and_eq_true] at h'
    have R1 := RuB.of h'.1
    have R2 := RuB.of h'.2
    have a1 := R1.a0; have a2 := R1.ab; have a3 := R1.b1; have a4 := R1.b2; have a5 := R1.c0; have a6 := R1.cd; have a7 := R1.d1; have a8 := R1.d2
    have c1 := R2.a0; have c2 := R2.ab; have c3 := R2.b1; have c4 := R2.b2; have c5 := R2.c0; have c6 := R2.cd; have c7 := R2.d1; have c8 := R2.d2
    have u1 := cross_bd c1 (show a' ≤ 1000 by omega) c3 c4 a1 (show a ≤ 1000 by omega) a3 a4
    have u2 := cross_bd c5 (show c' ≤ 1000 by omega) c7 c8 a5 (show c ≤ 1000 by omega) a7 a8
    obtain ⟨L1, L2, hL⟩ : ∃ L1 L2, boL a b a' b' = (L1, L2) := ⟨_, _, rfl⟩
    obtain ⟨M1, M2, hM⟩ : ∃ M1 M2, boM c d c' d' = (M1, M2) := ⟨_, _, rfl⟩
    have u3 : -1000000 ≤ L1*M2 ∧ L1*M2 ≤ 1000000 ∧ -1000000 ≤ M1*L2 ∧ M1*L2 ≤ 1000000 := by
      unfold boL at hL
      unfold boM at hM
      split at hL <;> split at hM <;> simp only [Prod.mk.injEq] at hL hM <;> obtain ⟨rfl, rfl⟩ := hL <;> obtain ⟨rfl, rfl⟩ := hM <;> exact cross_bd (by omega) (by omega) (by omega) (by omega) (by omega) (by omega) (by omega) (by omega)
    have eX : boX a b c d a' b' c' d' = L1*M2 - M1*L2 := by unfold boX; rw [hL, hM]
    rw [hL, hM]
    have e1 : boE a b c d a' b' c' d' = if 0 < L1*M2 - M1*L2 then 5 else 0 := by simp only [boE, h, eX, if_true]
    have e2 : ∀ x, boV a b c d a' b' c' d' x = if 0 < L1*M2 - M1*L2 then 0 else x := fun x => by
      unfold boV; rw [e1]; split <;> simp_all
    simp only [e2]
    rw [e1]
    exact rBoth_go a b c d a' b' c' d' L1 L2 M1 M2 w h'.1 h'.2 hL hM u1 u2 u3
end Go.Proofs.YtconhikflghkdaaDoor
