/- stricklelaw01.alive. -/
import Derived.Test.YtconhikflghkdaaGreatDoorAliven
namespace Go.Proofs.YtconhikflghkdaaGreatDoor
open Go.RowKit Go.Shelf
set_option maxRecDepth 100000 in
set_option maxHeartbeats 8000000 in
theorem alive_any (w : World) (ht : Tab w) : Calls Tryz.prog 4 #[] w fun e w' => e = .returned (.bool true) ∧ Gr w w' := by
  have HT := Lib.hid ht
  clear ht
  go_enter Tryz.func4, Tryz.ntmps4
  go_wp2_with fail
  refine (al_of _).mono ?_
  rintro e w1 ⟨rfl, g1⟩
  go_wp2_with fail
  have GG : Gr w (w1.alloc (.cells #[.int .i64 (-3), .int .i64 2] 23)) := (g1.alloc _)
  have G := GG
  have b1 := heap_alloc_self w1 (.cells #[.int .i64 (-3), .int .i64 2] 23)
  clear GG
  generalize (w1.alloc (.cells #[.int .i64 (-3), .int .i64 2] 23)) = W1 at *
  generalize w1.heap.size = p1 at *
  clear g1
  refine (law_f 31 100 _).mono ?_
  rintro e w2 ⟨rfl, g2⟩
  go_wp2_with fail
  refine (law_f 8 25 _).mono ?_
  rintro e w3 ⟨rfl, g3⟩
  go_wp2_with fail
  refine (al_simplest _).mono ?_
  rintro e w4 ⟨rfl, g4⟩
  go_wp2_with fail
  have GG : Gr W1 (w4.alloc (.cells #[.int .i64 5, .int .i64 16] 23)) := (((g2.trans g3).trans g4).alloc _)
  replace b1 := GG.heap b1
  replace G := G.trans GG
  have b3 := heap_alloc_self w4 (.cells #[.int .i64 5, .int .i64 16] 23)
  clear GG
  generalize (w4.alloc (.cells #[.int .i64 5, .int .i64 16] 23)) = W2 at *
  generalize w4.heap.size = p3 at *
  clear g2 g3 g4
  refine (al_neighbours _).mono ?_
  rintro e w5 ⟨rfl, g5⟩
  go_wp2_with fail
  have GG : Gr W2 ((w5.alloc (.cells #[.int .i64 4, .int .i64 13] 23)).alloc (.cells #[.int .i64 1, .int .i64 3] 23)) := ((g5.alloc _).alloc _)
  replace b1 := GG.heap b1
  replace b3 := GG.heap b3
  replace G := G.trans GG
  have b5 := heap_alloc_self w5 (.cells #[.int .i64 4, .int .i64 13] 23)
  replace b5 := ((Gr.refl _).alloc _ : Gr _ ((w5.alloc (.cells #[.int .i64 4, .int .i64 13] 23)).alloc (.cells #[.int .i64 1, .int .i64 3] 23))).heap b5
  have b6 := heap_alloc_self (w5.alloc (.cells #[.int .i64 4, .int .i64 13] 23)) (.cells #[.int .i64 1, .int .i64 3] 23)
  rw [World.size_alloc] at b6
  clear GG
  generalize ((w5.alloc (.cells #[.int .i64 4, .int .i64 13] 23)).alloc (.cells #[.int .i64 1, .int .i64 3] 23)) = W3 at *
  generalize w5.heap.size + 1 = p6 at *
  generalize w5.heap.size = p5 at *
  clear g5
  refine (law_f 314159 100000 _).mono ?_
  rintro e w6 ⟨rfl, g6⟩
  go_wp2_with fail
  refine (al_nearest _).mono ?_
  rintro e w7 ⟨rfl, g7⟩
  go_wp2_with fail
  have GG : Gr W3 (w7.alloc (.cells #[.int .i64 355, .int .i64 113] 23)) := ((g6.trans g7).alloc _)
  replace b1 := GG.heap b1
  replace b3 := GG.heap b3
  replace b5 := GG.heap b5
  replace b6 := GG.heap b6
  replace G := G.trans GG
  have b8 := heap_alloc_self w7 (.cells #[.int .i64 355, .int .i64 113] 23)
  clear GG
  generalize (w7.alloc (.cells #[.int .i64 355, .int .i64 113] 23)) = W4 at *
  generalize w7.heap.size = p8 at *
  clear g6 g7
  refine (law_f 355 113 _).mono ?_
  rintro e w8 ⟨rfl, g8⟩
  go_wp2_with fail
  refine (al_terms _).mono ?_
  rintro e w9 ⟨v, rfl, r0, g9⟩
  go_wp2_with fail
  have GG : Gr W4 w9 := (g8.trans g9)
  replace b1 := GG.heap b1
  replace b3 := GG.heap b3
  replace b5 := GG.heap b5
  replace b6 := GG.heap b6
  replace b8 := GG.heap b8
  replace G := G.trans GG
  clear GG
  clear g8 g9
  refine (law_tin _).mono ?_
  rintro e w10 ⟨rfl, g10⟩
  go_wp2_with fail
  refine (al_sizes _).mono ?_
  rintro e w11 ⟨rfl, g11⟩
  go_wp2_with fail
  have GG : Gr w9 w11 := (g10.trans g11)
  replace b1 := GG.heap b1
  replace b3 := GG.heap b3
  replace b5 := GG.heap b5
  replace b6 := GG.heap b6
  replace b8 := GG.heap b8
  replace r0 := ownsRow_gr r0 (GrL.of_gr (l := []) GG) (by simp)
  replace G := G.trans GG
  clear GG
  clear g10 g11
  refine (law_tin _).mono ?_
  rintro e w12 ⟨rfl, g12⟩
  go_wp2_with fail
  refine (al_best _).mono ?_
  rintro e w13 ⟨rfl, g13⟩
  go_wp2_with fail
  have GG : Gr w11 w13 := (g12.trans g13)
  replace b1 := GG.heap b1
  replace b3 := GG.heap b3
  replace b5 := GG.heap b5
  replace b6 := GG.heap b6
  replace b8 := GG.heap b8
  replace r0 := ownsRow_gr r0 (GrL.of_gr (l := []) GG) (by simp)
  replace G := G.trans GG
  clear GG
  clear g12 g13
  refine (law_tin _).mono ?_
  rintro e w14 ⟨rfl, g14⟩
  go_wp2_with fail
  refine (law_f 1 10 _).mono ?_
  rintro e w15 ⟨rfl, g15⟩
  go_wp2_with fail
  refine (law_f 1 10 _).mono ?_
  rintro e w16 ⟨rfl, g16⟩
  go_wp2_with fail
  refine (al_twice _).mono ?_
  rintro e w17 ⟨rfl, g17⟩
  obtain ⟨c1, f1, z1⟩ := blk_cells ((((g14.trans g15).trans g16).trans g17).heap b1)
  go_wp2_with fail
  clear c1 f1 z1
  have GG : Gr w13 (w17.alloc (.cells #[.int .i64 109, .int .i64 1000, .int .i64 59, .int .i64 500] 43)) := ((((g14.trans g15).trans g16).trans g17).alloc _)
  replace b1 := GG.heap b1
  replace b3 := GG.heap b3
  replace b5 := GG.heap b5
  replace b6 := GG.heap b6
  replace b8 := GG.heap b8
  replace r0 := ownsRow_gr r0 (GrL.of_gr (l := []) GG) (by simp)
  replace G := G.trans GG
  have b18 := heap_alloc_self w17 (.cells #[.int .i64 109, .int .i64 1000, .int .i64 59, .int .i64 500] 43)
  clear GG
  generalize (w17.alloc (.cells #[.int .i64 109, .int .i64 1000, .int .i64 59, .int .i64 500] 43)) = W8 at *
  generalize w17.heap.size = p18 at *
  clear g14 g15 g16 g17
  refine (al_write _ (HT.out.gr G)).mono ?_
  rintro e w18 ⟨rfl, g18⟩
  go_wp2_with fail
  have GG : Gr W8 w18 := g18
  replace b1 := GG.heap b1
  replace b3 := GG.heap b3
  replace b5 := GG.heap b5
  replace b6 := GG.heap b6
  replace b8 := GG.heap b8
  replace b18 := GG.heap b18
  replace r0 := ownsRow_gr r0 (GrL.of_gr (l := []) GG) (by simp)
  replace G := G.trans GG
  clear GG
  clear g18
  refine (law_f 1 6 _).mono ?_
  rintro e w19 ⟨rfl, g19⟩
  go_wp2_with fail
  refine (law_f 1 3 _).mono ?_
  rintro e w20 ⟨rfl, g20⟩
  go_wp2_with fail
  refine (al_add _).mono ?_
  rintro e w21 ⟨rfl, g21⟩
  go_wp2_with fail
  have GG : Gr w18 (w21.alloc (.cells #[.int .i64 1, .int .i64 2] 23)) := (((g19.trans g20).trans g21).alloc _)
  replace b1 := GG.heap b1
  replace b3 := GG.heap b3
  replace b5 := GG.heap b5
  replace b6 := GG.heap b6
  replace b8 := GG.heap b8
  replace b18 := GG.heap b18
  replace r0 := ownsRow_gr r0 (GrL.of_gr (l := []) GG) (by simp)
  replace G := G.trans GG
  have b22 := heap_alloc_self w21 (.cells #[.int .i64 1, .int .i64 2] 23)
  clear GG
  generalize (w21.alloc (.cells #[.int .i64 1, .int .i64 2] 23)) = W10 at *
  generalize w21.heap.size = p22 at *
  clear g19 g20 g21
  rcases r0.2 with ⟨_, h⟩ | ⟨gk, cap, cur, rfl, _, hh, hcap, _, hsz, htk⟩
  · exact absurd h (by decide)
  clear r0
  obtain ⟨cT, fT, zT⟩ := blk_cells hh
  clear hh
  have k0 : cur[0]? = some (.int .i64 3) := by have := congrArg (fun l => l[0]?) htk; simpa using this
  have k1 : cur[1]? = some (.int .i64 7) := by have := congrArg (fun l => l[1]?) htk; simpa using this
  have k2 : cur[2]? = some (.int .i64 16) := by have := congrArg (fun l => l[2]?) htk; simpa using this
  clear htk hsz hcap
  obtain ⟨c1, f1, z1⟩ := blk_cells b1
  obtain ⟨c3, f3, z3⟩ := blk_cells b3
  obtain ⟨c5, f5, z5⟩ := blk_cells b5
  obtain ⟨c6, f6, z6⟩ := blk_cells b6
  obtain ⟨c8, f8, z8⟩ := blk_cells b8
  refine wp_region_held_drew (S := fun u => Gr W10 u) (by kernel_rfl) ((Gr.refl _).drew) (fun hHeld => ?_)
  refine wpAnyH_take (i := 0) (oi := ⟨some 120, _, _, _, _, _⟩) (v := ?_) rfl (by kernel_rfl) (by kernel_rfl) (by kernel_rfl) (fun _ _ _ h => h) (Or.inl ⟨by rfl, ?_⟩) hHeld ?_
  rotate_left
  · (rintro u hS; obtain ⟨hc, hf, hz⟩ := hS.cells; go_simp; try with_reducible rfl)
  try simp only [Act.put, List.setIfInBounds_toArray, List.set_cons_zero, List.set_cons_succ]
  refine wpAnyH_ready (rs := [1]) (by kernel_rfl) (by simp) ?_
  refine AllReadyH.cons (o := ⟨some 121, _, _, _, _, _⟩) rfl (fun K hK => ?_) AllReadyH.nil
  go_simp
  refine (law_f (-3) 2 _).mono ?_
  rintro e v1 ⟨rfl, hq⟩
  refine hK.out _ _ (Gr.trans hHeld hq) (fun hHeld => ?_)
  clear hq
  clear hK K
  try simp only [Act.put, List.setIfInBounds_toArray, List.set_cons_zero, List.set_cons_succ]
  refine wpAnyH_take (i := 2) (oi := ⟨some 122, _, _, _, _, _⟩) (v := ?_) rfl (by kernel_rfl) (by kernel_rfl) (by kernel_rfl) (fun _ _ _ h => h) (Or.inl ⟨by rfl, ?_⟩) hHeld ?_
  rotate_left
  · (rintro u hS; obtain ⟨hc, hf, hz⟩ := hS.cells; go_simp; try with_reducible rfl)
  try simp only [Act.put, List.setIfInBounds_toArray, List.set_cons_zero, List.set_cons_succ]
  refine wpAnyH_take (i := 3) (oi := ⟨some 123, _, _, _, _, _⟩) (v := ?_) rfl (by kernel_rfl) (by kernel_rfl) (by kernel_rfl) (fun _ _ _ h => h) (Or.inl ⟨by rfl, ?_⟩) hHeld ?_
  rotate_left
  · (rintro u hS; obtain ⟨hc, hf, hz⟩ := hS.cells; go_simp; try with_reducible rfl)
  try simp only [Act.put, List.setIfInBounds_toArray, List.set_cons_zero, List.set_cons_succ]
  refine wpAnyH_take (i := 4) (oi := ⟨some 124, _, _, _, _, _⟩) (v := ?_) rfl (by kernel_rfl) (by kernel_rfl) (by kernel_rfl) (fun _ _ _ h => h) (Or.inl ⟨by rfl, ?_⟩) hHeld ?_
  rotate_left
  · (rintro u hS; obtain ⟨hc, hf, hz⟩ := hS.cells; go_simp; try with_reducible rfl)
  try simp only [Act.put, List.setIfInBounds_toArray, List.set_cons_zero, List.set_cons_succ]
  refine wpAnyH_ready (rs := [5]) (by kernel_rfl) (by simp) ?_
  refine AllReadyH.cons (o := ⟨some 125, _, _, _, _, _⟩) rfl (fun K hK => ?_) AllReadyH.nil
  go_simp
  refine (law_f 5 16 _).mono ?_
  rintro e v2 ⟨rfl, hq⟩
  refine hK.out _ _ (Gr.trans hHeld hq) (fun hHeld => ?_)
  clear hq
  clear hK K
  try simp only [Act.put, List.setIfInBounds_toArray, List.set_cons_zero, List.set_cons_succ]
  refine wpAnyH_take (i := 6) (oi := ⟨some 126, _, _, _, _, _⟩) (v := ?_) rfl (by kernel_rfl) (by kernel_rfl) (by kernel_rfl) (fun _ _ _ h => h) (Or.inl ⟨by rfl, ?_⟩) hHeld ?_
  rotate_left
  · (rintro u hS; obtain ⟨hc, hf, hz⟩ := hS.cells; go_simp; try with_reducible rfl)
  try simp only [Act.put, List.setIfInBounds_toArray, List.set_cons_zero, List.set_cons_succ]
  refine wpAnyH_take (i := 7) (oi := ⟨some 127, _, _, _, _, _⟩) (v := ?_) rfl (by kernel_rfl) (by kernel_rfl) (by kernel_rfl) (fun _ _ _ h => h) (Or.inl ⟨by rfl, ?_⟩) hHeld ?_
  rotate_left
  · (rintro u hS; obtain ⟨hc, hf, hz⟩ := hS.cells; go_simp; try with_reducible rfl)
  try simp only [Act.put, List.setIfInBounds_toArray, List.set_cons_zero, List.set_cons_succ]
  refine wpAnyH_take (i := 8) (oi := ⟨some 128, _, _, _, _, _⟩) (v := ?_) rfl (by kernel_rfl) (by kernel_rfl) (by kernel_rfl) (fun _ _ _ h => h) (Or.inl ⟨by rfl, ?_⟩) hHeld ?_
  rotate_left
  · (rintro u hS; obtain ⟨hc, hf, hz⟩ := hS.cells; go_simp; try with_reducible rfl)
  try simp only [Act.put, List.setIfInBounds_toArray, List.set_cons_zero, List.set_cons_succ]
  refine wpAnyH_take (i := 9) (oi := ⟨some 129, _, _, _, _, _⟩) (v := ?_) rfl (by kernel_rfl) (by kernel_rfl) (by kernel_rfl) (fun _ _ _ h => h) (Or.inl ⟨by rfl, ?_⟩) hHeld ?_
  rotate_left
  · (rintro u hS; obtain ⟨hc, hf, hz⟩ := hS.cells; go_simp; try with_reducible rfl)
  try simp only [Act.put, List.setIfInBounds_toArray, List.set_cons_zero, List.set_cons_succ]
  refine wpAnyH_ready (rs := [10]) (by kernel_rfl) (by simp) ?_
  refine AllReadyH.cons (o := ⟨some 130, _, _, _, _, _⟩) rfl (fun K hK => ?_) AllReadyH.nil
  go_simp
  refine (law_f 4 13 _).mono ?_
  rintro e v3 ⟨rfl, hq⟩
  refine hK.out _ _ (Gr.trans hHeld hq) (fun hHeld => ?_)
  clear hq
  clear hK K
  try simp only [Act.put, List.setIfInBounds_toArray, List.set_cons_zero, List.set_cons_succ]
  refine wpAnyH_take (i := 11) (oi := ⟨some 131, _, _, _, _, _⟩) (v := ?_) rfl (by kernel_rfl) (by kernel_rfl) (by kernel_rfl) (fun _ _ _ h => h) (Or.inl ⟨by rfl, ?_⟩) hHeld ?_
  rotate_left
  · (rintro u hS; obtain ⟨hc, hf, hz⟩ := hS.cells; go_simp; try with_reducible rfl)
  try simp only [Act.put, List.setIfInBounds_toArray, List.set_cons_zero, List.set_cons_succ]
  refine wpAnyH_take (i := 12) (oi := ⟨some 132, _, _, _, _, _⟩) (v := ?_) rfl (by kernel_rfl) (by kernel_rfl) (by kernel_rfl) (fun _ _ _ h => h) (Or.inl ⟨by rfl, ?_⟩) hHeld ?_
  rotate_left
  · (rintro u hS; obtain ⟨hc, hf, hz⟩ := hS.cells; go_simp; try with_reducible rfl)
  try simp only [Act.put, List.setIfInBounds_toArray, List.set_cons_zero, List.set_cons_succ]
  refine wpAnyH_take (i := 13) (oi := ⟨some 133, _, _, _, _, _⟩) (v := ?_) rfl (by kernel_rfl) (by kernel_rfl) (by kernel_rfl) (fun _ _ _ h => h) (Or.inl ⟨by rfl, ?_⟩) hHeld ?_
  rotate_left
  · (rintro u hS; obtain ⟨hc, hf, hz⟩ := hS.cells; go_simp; try with_reducible rfl)
  try simp only [Act.put, List.setIfInBounds_toArray, List.set_cons_zero, List.set_cons_succ]
  refine wpAnyH_take (i := 14) (oi := ⟨some 134, _, _, _, _, _⟩) (v := ?_) rfl (by kernel_rfl) (by kernel_rfl) (by kernel_rfl) (fun _ _ _ h => h) (Or.inl ⟨by rfl, ?_⟩) hHeld ?_
  rotate_left
  · (rintro u hS; obtain ⟨hc, hf, hz⟩ := hS.cells; go_simp; try with_reducible rfl)
  try simp only [Act.put, List.setIfInBounds_toArray, List.set_cons_zero, List.set_cons_succ]
  refine wpAnyH_ready (rs := [15]) (by kernel_rfl) (by simp) ?_
  refine AllReadyH.cons (o := ⟨some 135, _, _, _, _, _⟩) rfl (fun K hK => ?_) AllReadyH.nil
  go_simp
  refine (law_f 1 3 _).mono ?_
  rintro e v4 ⟨rfl, hq⟩
  refine hK.out _ _ (Gr.trans hHeld hq) (fun hHeld => ?_)
  clear hq
  clear hK K
  try simp only [Act.put, List.setIfInBounds_toArray, List.set_cons_zero, List.set_cons_succ]
  refine wpAnyH_take (i := 16) (oi := ⟨some 136, _, _, _, _, _⟩) (v := ?_) rfl (by kernel_rfl) (by kernel_rfl) (by kernel_rfl) (fun _ _ _ h => h) (Or.inl ⟨by rfl, ?_⟩) hHeld ?_
  rotate_left
  · (rintro u hS; obtain ⟨hc, hf, hz⟩ := hS.cells; go_simp; try with_reducible rfl)
  try simp only [Act.put, List.setIfInBounds_toArray, List.set_cons_zero, List.set_cons_succ]
  refine wpAnyH_take (i := 17) (oi := ⟨some 137, _, _, _, _, _⟩) (v := ?_) rfl (by kernel_rfl) (by kernel_rfl) (by kernel_rfl) (fun _ _ _ h => h) (Or.inl ⟨by rfl, ?_⟩) hHeld ?_
  rotate_left
  · (rintro u hS; obtain ⟨hc, hf, hz⟩ := hS.cells; go_simp; try with_reducible rfl)
  try simp only [Act.put, List.setIfInBounds_toArray, List.set_cons_zero, List.set_cons_succ]
  refine wpAnyH_take (i := 18) (oi := ⟨some 138, _, _, _, _, _⟩) (v := ?_) rfl (by kernel_rfl) (by kernel_rfl) (by kernel_rfl) (fun _ _ _ h => h) (Or.inl ⟨by rfl, ?_⟩) hHeld ?_
  rotate_left
  · (rintro u hS; obtain ⟨hc, hf, hz⟩ := hS.cells; go_simp; try with_reducible rfl)
  try simp only [Act.put, List.setIfInBounds_toArray, List.set_cons_zero, List.set_cons_succ]
  refine wpAnyH_take (i := 19) (oi := ⟨some 139, _, _, _, _, _⟩) (v := ?_) rfl (by kernel_rfl) (by kernel_rfl) (by kernel_rfl) (fun _ _ _ h => h) (Or.inl ⟨by rfl, ?_⟩) hHeld ?_
  rotate_left
  · (rintro u hS; obtain ⟨hc, hf, hz⟩ := hS.cells; go_simp; try with_reducible rfl)
  try simp only [Act.put, List.setIfInBounds_toArray, List.set_cons_zero, List.set_cons_succ]
  refine wpAnyH_ready (rs := [20]) (by kernel_rfl) (by simp) ?_
  refine AllReadyH.cons (o := ⟨some 140, _, _, _, _, _⟩) rfl (fun K hK => ?_) AllReadyH.nil
  go_simp
  refine (law_f 355 113 _).mono ?_
  rintro e v5 ⟨rfl, hq⟩
  refine hK.out _ _ (Gr.trans hHeld hq) (fun hHeld => ?_)
  clear hq
  clear hK K
  try simp only [Act.put, List.setIfInBounds_toArray, List.set_cons_zero, List.set_cons_succ]
  refine wpAnyH_take (i := 21) (oi := ⟨some 141, _, _, _, _, _⟩) (v := ?_) rfl (by kernel_rfl) (by kernel_rfl) (by kernel_rfl) (fun _ _ _ h => h) (Or.inl ⟨by rfl, ?_⟩) hHeld ?_
  rotate_left
  · (rintro u hS; obtain ⟨hc, hf, hz⟩ := hS.cells; go_simp; try with_reducible rfl)
  try simp only [Act.put, List.setIfInBounds_toArray, List.set_cons_zero, List.set_cons_succ]
  refine wpAnyH_take (i := 22) (oi := ⟨some 142, _, _, _, _, _⟩) (v := ?_) rfl (by kernel_rfl) (by kernel_rfl) (by kernel_rfl) (fun _ _ _ h => h) (Or.inl ⟨by rfl, ?_⟩) hHeld ?_
  rotate_left
  · (rintro u hS; obtain ⟨hc, hf, hz⟩ := hS.cells; go_simp; try with_reducible rfl)
  try simp only [Act.put, List.setIfInBounds_toArray, List.set_cons_zero, List.set_cons_succ]
  refine wpAnyH_take (i := 23) (oi := ⟨some 143, _, _, _, _, _⟩) (v := ?_) rfl (by kernel_rfl) (by kernel_rfl) (by kernel_rfl) (fun _ _ _ h => h) (Or.inl ⟨by rfl, ?_⟩) hHeld ?_
  rotate_left
  · (rintro u hS; obtain ⟨hc, hf, hz⟩ := hS.cells; go_simp; try with_reducible rfl)
  try simp only [Act.put, List.setIfInBounds_toArray, List.set_cons_zero, List.set_cons_succ]
  refine wpAnyH_take (i := 24) (oi := ⟨some 144, _, _, _, _, _⟩) (v := ?_) rfl (by kernel_rfl) (by kernel_rfl) (by kernel_rfl) (fun _ _ _ h => h) (Or.inl ⟨by rfl, ?_⟩) hHeld ?_
  rotate_left
  · (rintro u hS; obtain ⟨hc, hf, hz⟩ := hS.cells; go_simp; try with_reducible rfl)
  try simp only [Act.put, List.setIfInBounds_toArray, List.set_cons_zero, List.set_cons_succ]
  refine wpAnyH_ready (rs := [25]) (by kernel_rfl) (by simp) ?_
  refine AllReadyH.cons (o := ⟨some 145, _, _, _, _, _⟩) rfl (fun K hK => ?_) AllReadyH.nil
  go_simp
  refine hK.out _ _ (Gr.alloc hHeld _) (fun hHeld => ?_)
  clear hK K
  try simp only [Act.put, List.setIfInBounds_toArray, List.set_cons_zero, List.set_cons_succ]
  have m1 := blk_cells (heap_alloc_self v5 (.cells #[.int .i64 3, .int .i64 7, .int .i64 16] 3))
  refine wpAnyH_ready (rs := [26]) (by kernel_rfl) (by simp) ?_
  refine AllReadyH.cons (o := ⟨some 146, _, _, _, _, _⟩) rfl (fun K hK => ?_) AllReadyH.nil
  go_simp
  refine (al_equal gk cap _ 3 _ ((hHeld.cells.1 _ _ zT).trans ((cT 0).trans k0)) ((hHeld.cells.1 _ _ zT).trans ((cT 1).trans k1)) ((hHeld.cells.1 _ _ zT).trans ((cT 2).trans k2)) (m1.1 0) (m1.1 1) (m1.1 2)).mono ?_
  rintro e v8 ⟨rfl, hq⟩
  refine hK.out _ _ (Gr.trans hHeld hq) (fun hHeld => ?_)
  clear hq
  clear hK K
  try simp only [Act.put, List.setIfInBounds_toArray, List.set_cons_zero, List.set_cons_succ]
  clear m1
  refine wpAnyH_take (i := 27) (oi := ⟨some 147, _, _, _, _, _⟩) (v := ?_) rfl (by kernel_rfl) (by kernel_rfl) (by kernel_rfl) (fun _ _ _ h => h) (Or.inl ⟨by rfl, ?_⟩) hHeld ?_
  rotate_left
  · (rintro u hS; obtain ⟨hc, hf, hz⟩ := hS.cells; go_simp; try with_reducible rfl)
  try simp only [Act.put, List.setIfInBounds_toArray, List.set_cons_zero, List.set_cons_succ]
  refine wpAnyH_take (i := 28) (oi := ⟨some 24, _, _, _, _, _⟩) (v := ?_) rfl (by kernel_rfl) (by kernel_rfl) (by kernel_rfl) (fun _ _ _ h => h) (Or.inl ⟨by rfl, ?_⟩) hHeld ?_
  rotate_left
  · (rintro u hS; obtain ⟨hc, hf, hz⟩ := hS.cells; go_simp; try with_reducible rfl)
  try simp only [Act.put, List.setIfInBounds_toArray, List.set_cons_zero, List.set_cons_succ]
  refine wpAnyH_done (by kernel_rfl) ?_ _
  clear c1 f1 z1 c3 f3 z3 c5 f5 z5 c6 f6 z6 c8 f8 z8 cT fT zT k0 k1 k2 b1 b3 b5 b6 b8
  replace b18 := hHeld.heap b18
  replace b22 := hHeld.heap b22
  replace G := G.trans hHeld
  obtain ⟨c18, f18, z18⟩ := blk_cells b18
  obtain ⟨c22, f22, z22⟩ := blk_cells b22
  go_wp2_with fail
  clear hHeld
  generalize v8 = U at *
  refine wp_region_held_drew (S := fun u => Gr U u) (by kernel_rfl) ((Gr.refl _).drew) (fun hHeld => ?_)
  refine wpAnyH_take (i := 0) (oi := ⟨some 148, _, _, _, _, _⟩) (v := ?_) rfl (by kernel_rfl) (by kernel_rfl) (by kernel_rfl) (fun _ _ _ h => h) (Or.inl ⟨by rfl, ?_⟩) hHeld ?_
  rotate_left
  · (rintro u hS; obtain ⟨hc, hf, hz⟩ := hS.cells; go_simp; try with_reducible rfl)
  try simp only [Act.put, List.setIfInBounds_toArray, List.set_cons_zero, List.set_cons_succ]
  refine wpAnyH_take (i := 1) (oi := ⟨some 149, _, _, _, _, _⟩) (v := ?_) rfl (by kernel_rfl) (by kernel_rfl) (by kernel_rfl) (fun _ _ _ h => h) (Or.inl ⟨by rfl, ?_⟩) hHeld ?_
  rotate_left
  · (rintro u hS; obtain ⟨hc, hf, hz⟩ := hS.cells; go_simp; try with_reducible rfl)
  try simp only [Act.put, List.setIfInBounds_toArray, List.set_cons_zero, List.set_cons_succ]
  refine wpAnyH_take (i := 2) (oi := ⟨some 150, _, _, _, _, _⟩) (v := ?_) rfl (by kernel_rfl) (by kernel_rfl) (by kernel_rfl) (fun _ _ _ h => h) (Or.inl ⟨by rfl, ?_⟩) hHeld ?_
  rotate_left
  · (rintro u hS; obtain ⟨hc, hf, hz⟩ := hS.cells; go_simp; try with_reducible rfl)
  try simp only [Act.put, List.setIfInBounds_toArray, List.set_cons_zero, List.set_cons_succ]
  refine wpAnyH_take (i := 3) (oi := ⟨some 151, _, _, _, _, _⟩) (v := ?_) rfl (by kernel_rfl) (by kernel_rfl) (by kernel_rfl) (fun _ _ _ h => h) (Or.inl ⟨by rfl, ?_⟩) hHeld ?_
  rotate_left
  · (rintro u hS; obtain ⟨hc, hf, hz⟩ := hS.cells; go_simp; try with_reducible rfl)
  try simp only [Act.put, List.setIfInBounds_toArray, List.set_cons_zero, List.set_cons_succ]
  refine wpAnyH_take (i := 4) (oi := ⟨some 152, _, _, _, _, _⟩) (v := ?_) rfl (by kernel_rfl) (by kernel_rfl) (by kernel_rfl) (fun _ _ _ h => h) (Or.inl ⟨by rfl, ?_⟩) hHeld ?_
  rotate_left
  · (rintro u hS; obtain ⟨hc, hf, hz⟩ := hS.cells; go_simp; try with_reducible rfl)
  try simp only [Act.put, List.setIfInBounds_toArray, List.set_cons_zero, List.set_cons_succ]
  refine wpAnyH_take (i := 5) (oi := ⟨some 153, _, _, _, _, _⟩) (v := ?_) rfl (by kernel_rfl) (by kernel_rfl) (by kernel_rfl) (fun _ _ _ h => h) (Or.inl ⟨by rfl, ?_⟩) hHeld ?_
  rotate_left
  · (rintro u hS; obtain ⟨hc, hf, hz⟩ := hS.cells; go_simp; try with_reducible rfl)
  try simp only [Act.put, List.setIfInBounds_toArray, List.set_cons_zero, List.set_cons_succ]
  refine wpAnyH_take (i := 6) (oi := ⟨some 154, _, _, _, _, _⟩) (v := ?_) rfl (by kernel_rfl) (by kernel_rfl) (by kernel_rfl) (fun _ _ _ h => h) (Or.inl ⟨by rfl, ?_⟩) hHeld ?_
  rotate_left
  · (rintro u hS; obtain ⟨hc, hf, hz⟩ := hS.cells; go_simp; try with_reducible rfl)
  try simp only [Act.put, List.setIfInBounds_toArray, List.set_cons_zero, List.set_cons_succ]
  refine wpAnyH_take (i := 7) (oi := ⟨some 155, _, _, _, _, _⟩) (v := ?_) rfl (by kernel_rfl) (by kernel_rfl) (by kernel_rfl) (fun _ _ _ h => h) (Or.inl ⟨by rfl, ?_⟩) hHeld ?_
  rotate_left
  · (rintro u hS; obtain ⟨hc, hf, hz⟩ := hS.cells; go_simp; try with_reducible rfl)
  try simp only [Act.put, List.setIfInBounds_toArray, List.set_cons_zero, List.set_cons_succ]
  refine wpAnyH_take (i := 8) (oi := ⟨some 156, _, _, _, _, _⟩) (v := ?_) rfl (by kernel_rfl) (by kernel_rfl) (by kernel_rfl) (fun _ _ _ h => h) (Or.inl ⟨by rfl, ?_⟩) hHeld ?_
  rotate_left
  · (rintro u hS; obtain ⟨hc, hf, hz⟩ := hS.cells; go_simp; try with_reducible rfl)
  try simp only [Act.put, List.setIfInBounds_toArray, List.set_cons_zero, List.set_cons_succ]
  refine wpAnyH_take (i := 9) (oi := ⟨some 157, _, _, _, _, _⟩) (v := ?_) rfl (by kernel_rfl) (by kernel_rfl) (by kernel_rfl) (fun _ _ _ h => h) (Or.inl ⟨by rfl, ?_⟩) hHeld ?_
  rotate_left
  · (rintro u hS; obtain ⟨hc, hf, hz⟩ := hS.cells; go_simp; try with_reducible rfl)
  try simp only [Act.put, List.setIfInBounds_toArray, List.set_cons_zero, List.set_cons_succ]
  refine wpAnyH_take (i := 10) (oi := ⟨some 158, _, _, _, _, _⟩) (v := ?_) rfl (by kernel_rfl) (by kernel_rfl) (by kernel_rfl) (fun _ _ _ h => h) (Or.inl ⟨by rfl, ?_⟩) hHeld ?_
  rotate_left
  · (rintro u hS; obtain ⟨hc, hf, hz⟩ := hS.cells; go_simp; try with_reducible rfl)
  try simp only [Act.put, List.setIfInBounds_toArray, List.set_cons_zero, List.set_cons_succ]
  refine wpAnyH_take (i := 11) (oi := ⟨some 159, _, _, _, _, _⟩) (v := ?_) rfl (by kernel_rfl) (by kernel_rfl) (by kernel_rfl) (fun _ _ _ h => h) (Or.inl ⟨by rfl, ?_⟩) hHeld ?_
  rotate_left
  · (rintro u hS; obtain ⟨hc, hf, hz⟩ := hS.cells; go_simp; try with_reducible rfl)
  try simp only [Act.put, List.setIfInBounds_toArray, List.set_cons_zero, List.set_cons_succ]
  refine wpAnyH_take (i := 12) (oi := ⟨some 160, _, _, _, _, _⟩) (v := ?_) rfl (by kernel_rfl) (by kernel_rfl) (by kernel_rfl) (fun _ _ _ h => h) (Or.inl ⟨by rfl, ?_⟩) hHeld ?_
  rotate_left
  · (rintro u hS; obtain ⟨hc, hf, hz⟩ := hS.cells; go_simp; try with_reducible rfl)
  try simp only [Act.put, List.setIfInBounds_toArray, List.set_cons_zero, List.set_cons_succ]
  refine wpAnyH_take (i := 13) (oi := ⟨some 161, _, _, _, _, _⟩) (v := ?_) rfl (by kernel_rfl) (by kernel_rfl) (by kernel_rfl) (fun _ _ _ h => h) (Or.inl ⟨by rfl, ?_⟩) hHeld ?_
  rotate_left
  · (rintro u hS; obtain ⟨hc, hf, hz⟩ := hS.cells; go_simp; try with_reducible rfl)
  try simp only [Act.put, List.setIfInBounds_toArray, List.set_cons_zero, List.set_cons_succ]
  refine wpAnyH_take (i := 14) (oi := ⟨some 162, _, _, _, _, _⟩) (v := ?_) rfl (by kernel_rfl) (by kernel_rfl) (by kernel_rfl) (fun _ _ _ h => h) (Or.inl ⟨by rfl, ?_⟩) hHeld ?_
  rotate_left
  · (rintro u hS; obtain ⟨hc, hf, hz⟩ := hS.cells; go_simp; try with_reducible rfl)
  try simp only [Act.put, List.setIfInBounds_toArray, List.set_cons_zero, List.set_cons_succ]
  refine wpAnyH_take (i := 15) (oi := ⟨some 163, _, _, _, _, _⟩) (v := ?_) rfl (by kernel_rfl) (by kernel_rfl) (by kernel_rfl) (fun _ _ _ h => h) (Or.inl ⟨by rfl, ?_⟩) hHeld ?_
  rotate_left
  · (rintro u hS; obtain ⟨hc, hf, hz⟩ := hS.cells; go_simp; try with_reducible rfl)
  try simp only [Act.put, List.setIfInBounds_toArray, List.set_cons_zero, List.set_cons_succ]
  refine wpAnyH_take (i := 16) (oi := ⟨some 164, _, _, _, _, _⟩) (v := ?_) rfl (by kernel_rfl) (by kernel_rfl) (by kernel_rfl) (fun _ _ _ h => h) (Or.inl ⟨by rfl, ?_⟩) hHeld ?_
  rotate_left
  · (rintro u hS; obtain ⟨hc, hf, hz⟩ := hS.cells; go_simp; try with_reducible rfl)
  try simp only [Act.put, List.setIfInBounds_toArray, List.set_cons_zero, List.set_cons_succ]
  refine wpAnyH_take (i := 17) (oi := ⟨some 165, _, _, _, _, _⟩) (v := ?_) rfl (by kernel_rfl) (by kernel_rfl) (by kernel_rfl) (fun _ _ _ h => h) (Or.inl ⟨by rfl, ?_⟩) hHeld ?_
  rotate_left
  · (rintro u hS; obtain ⟨hc, hf, hz⟩ := hS.cells; go_simp; try with_reducible rfl)
  try simp only [Act.put, List.setIfInBounds_toArray, List.set_cons_zero, List.set_cons_succ]
  refine wpAnyH_ready (rs := [18]) (by kernel_rfl) (by simp) ?_
  refine AllReadyH.cons (o := ⟨some 166, _, _, _, _, _⟩) rfl (fun K hK => ?_) AllReadyH.nil
  go_simp
  refine (law_f 109 1000 _).mono ?_
  rintro e v9 ⟨rfl, hq⟩
  refine hK.out _ _ (Gr.trans hHeld hq) (fun hHeld => ?_)
  clear hq
  clear hK K
  try simp only [Act.put, List.setIfInBounds_toArray, List.set_cons_zero, List.set_cons_succ]
  refine wpAnyH_ready (rs := [19]) (by kernel_rfl) (by simp) ?_
  refine AllReadyH.cons (o := ⟨some 167, _, _, _, _, _⟩) rfl (fun K hK => ?_) AllReadyH.nil
  go_simp
  refine (law_f 59 500 _).mono ?_
  rintro e v10 ⟨rfl, hq⟩
  refine hK.out _ _ (Gr.trans hHeld hq) (fun hHeld => ?_)
  clear hq
  clear hK K
  try simp only [Act.put, List.setIfInBounds_toArray, List.set_cons_zero, List.set_cons_succ]
  refine wpAnyH_take (i := 20) (oi := ⟨some 168, _, _, _, _, _⟩) (v := ?_) rfl (by kernel_rfl) (by kernel_rfl) (by kernel_rfl) (fun _ _ _ h => h) (Or.inl ⟨by rfl, ?_⟩) hHeld ?_
  rotate_left
  · (rintro u hS; obtain ⟨hc, hf, hz⟩ := hS.cells; go_simp; try with_reducible rfl)
  try simp only [Act.put, List.setIfInBounds_toArray, List.set_cons_zero, List.set_cons_succ]
  refine wpAnyH_take (i := 21) (oi := ⟨some 169, _, _, _, _, _⟩) (v := ?_) rfl (by kernel_rfl) (by kernel_rfl) (by kernel_rfl) (fun _ _ _ h => h) (Or.inl ⟨by rfl, ?_⟩) hHeld ?_
  rotate_left
  · (rintro u hS; obtain ⟨hc, hf, hz⟩ := hS.cells; go_simp; try with_reducible rfl)
  try simp only [Act.put, List.setIfInBounds_toArray, List.set_cons_zero, List.set_cons_succ]
  refine wpAnyH_take (i := 22) (oi := ⟨some 170, _, _, _, _, _⟩) (v := ?_) rfl (by kernel_rfl) (by kernel_rfl) (by kernel_rfl) (fun _ _ _ h => h) (Or.inl ⟨by rfl, ?_⟩) hHeld ?_
  rotate_left
  · (rintro u hS; obtain ⟨hc, hf, hz⟩ := hS.cells; go_simp; try with_reducible rfl)
  try simp only [Act.put, List.setIfInBounds_toArray, List.set_cons_zero, List.set_cons_succ]
  refine wpAnyH_take (i := 23) (oi := ⟨some 171, _, _, _, _, _⟩) (v := ?_) rfl (by kernel_rfl) (by kernel_rfl) (by kernel_rfl) (fun _ _ _ h => h) (Or.inl ⟨by rfl, ?_⟩) hHeld ?_
  rotate_left
  · (rintro u hS; obtain ⟨hc, hf, hz⟩ := hS.cells; go_simp; try with_reducible rfl)
  try simp only [Act.put, List.setIfInBounds_toArray, List.set_cons_zero, List.set_cons_succ]
  refine wpAnyH_take (i := 24) (oi := ⟨some 172, _, _, _, _, _⟩) (v := ?_) rfl (by kernel_rfl) (by kernel_rfl) (by kernel_rfl) (fun _ _ _ h => h) (Or.inl ⟨by rfl, ?_⟩) hHeld ?_
  rotate_left
  · (rintro u hS; obtain ⟨hc, hf, hz⟩ := hS.cells; go_simp; try with_reducible rfl)
  try simp only [Act.put, List.setIfInBounds_toArray, List.set_cons_zero, List.set_cons_succ]
  refine wpAnyH_take (i := 25) (oi := ⟨some 173, _, _, _, _, _⟩) (v := ?_) rfl (by kernel_rfl) (by kernel_rfl) (by kernel_rfl) (fun _ _ _ h => h) (Or.inl ⟨by rfl, ?_⟩) hHeld ?_
  rotate_left
  · (rintro u hS; obtain ⟨hc, hf, hz⟩ := hS.cells; go_simp; try with_reducible rfl)
  try simp only [Act.put, List.setIfInBounds_toArray, List.set_cons_zero, List.set_cons_succ]
  refine wpAnyH_take (i := 26) (oi := ⟨some 174, _, _, _, _, _⟩) (v := ?_) rfl (by kernel_rfl) (by kernel_rfl) (by kernel_rfl) (fun _ _ _ h => h) (Or.inl ⟨by rfl, ?_⟩) hHeld ?_
  rotate_left
  · (rintro u hS; obtain ⟨hc, hf, hz⟩ := hS.cells; go_simp; try with_reducible rfl)
  try simp only [Act.put, List.setIfInBounds_toArray, List.set_cons_zero, List.set_cons_succ]
  refine wpAnyH_take (i := 27) (oi := ⟨some 175, _, _, _, _, _⟩) (v := ?_) rfl (by kernel_rfl) (by kernel_rfl) (by kernel_rfl) (fun _ _ _ h => h) (Or.inl ⟨by rfl, ?_⟩) hHeld ?_
  rotate_left
  · (rintro u hS; obtain ⟨hc, hf, hz⟩ := hS.cells; go_simp; try with_reducible rfl)
  try simp only [Act.put, List.setIfInBounds_toArray, List.set_cons_zero, List.set_cons_succ]
  refine wpAnyH_take (i := 28) (oi := ⟨some 176, _, _, _, _, _⟩) (v := ?_) rfl (by kernel_rfl) (by kernel_rfl) (by kernel_rfl) (fun _ _ _ h => h) (Or.inl ⟨by rfl, ?_⟩) hHeld ?_
  rotate_left
  · (rintro u hS; obtain ⟨hc, hf, hz⟩ := hS.cells; go_simp; try with_reducible rfl)
  try simp only [Act.put, List.setIfInBounds_toArray, List.set_cons_zero, List.set_cons_succ]
  refine wpAnyH_ready (rs := [29]) (by kernel_rfl) (by simp) ?_
  refine AllReadyH.cons (o := ⟨some 177, _, _, _, _, _⟩) rfl (fun K hK => ?_) AllReadyH.nil
  go_simp
  refine (law_f 1 2 _).mono ?_
  rintro e v11 ⟨rfl, hq⟩
  refine hK.out _ _ (Gr.trans hHeld hq) (fun hHeld => ?_)
  clear hq
  clear hK K
  try simp only [Act.put, List.setIfInBounds_toArray, List.set_cons_zero, List.set_cons_succ]
  refine wpAnyH_take (i := 30) (oi := ⟨some 178, _, _, _, _, _⟩) (v := ?_) rfl (by kernel_rfl) (by kernel_rfl) (by kernel_rfl) (fun _ _ _ h => h) (Or.inl ⟨by rfl, ?_⟩) hHeld ?_
  rotate_left
  · (rintro u hS; obtain ⟨hc, hf, hz⟩ := hS.cells; go_simp; try with_reducible rfl)
  try simp only [Act.put, List.setIfInBounds_toArray, List.set_cons_zero, List.set_cons_succ]
  refine wpAnyH_take (i := 31) (oi := ⟨some 179, _, _, _, _, _⟩) (v := ?_) rfl (by kernel_rfl) (by kernel_rfl) (by kernel_rfl) (fun _ _ _ h => h) (Or.inl ⟨by rfl, ?_⟩) hHeld ?_
  rotate_left
  · (rintro u hS; obtain ⟨hc, hf, hz⟩ := hS.cells; go_simp; try with_reducible rfl)
  try simp only [Act.put, List.setIfInBounds_toArray, List.set_cons_zero, List.set_cons_succ]
  refine wpAnyH_take (i := 32) (oi := ⟨some 0, _, _, _, _, _⟩) (v := ?_) rfl (by kernel_rfl) (by kernel_rfl) (by kernel_rfl) (fun _ _ _ h => h) (Or.inl ⟨by rfl, ?_⟩) hHeld ?_
  rotate_left
  · (rintro u hS; obtain ⟨hc, hf, hz⟩ := hS.cells; go_simp; try with_reducible rfl)
  try simp only [Act.put, List.setIfInBounds_toArray, List.set_cons_zero]
  refine wpAnyH_done (by kernel_rfl) ?_ _
  go_wp2
  go_ret
  exact ⟨rfl, G.trans hHeld⟩
end Go.Proofs.YtconhikflghkdaaGreatDoor
