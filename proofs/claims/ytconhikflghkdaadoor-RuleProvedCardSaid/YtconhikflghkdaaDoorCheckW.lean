/- rule/near.go: CheckSimplest itself: ranged with one fraction more, the closure within, the answer. -/
import Derived.Test.YtconhikflghkdaaDoorCheckS
import Derived.Test.YtconhikflghkdaaDoorCollect
namespace Go.Proofs.YtconhikflghkdaaDoor
open Go.RowKit Go.Shelf
attribute [local go_sem] Oper.semAt_some
theorem info_frac : (Tryd.prog.info? 23).map (fun i => (i.zero, i.size, i.bytes)) = some (some (fr 0 0), 2, 16) := by kernel_rfl
set_option maxRecDepth 100000 in
set_option maxHeartbeats 4000000 in
theorem within_yes (p1 p2 : Nat) (a b c d n e X Y : Int) (w : World) (b1 : w.heap[p1]? = some (.cells #[.int .i64 a, .int .i64 b] 23 (0, 0))) (b2 : w.heap[p2]? = some (.cells #[.int .i64 c, .int .i64 d] 23 (0, 0))) (C1 : Hid (∀ w, Calls Tryd.prog 83 #[fr n e, fr a b] w fun r w' => r = .returned (.int .i64 X) ∧ Gr w w')) (C2 : Hid (∀ w, Calls Tryd.prog 83 #[fr n e, fr c d] w fun r w' => r = .returned (.int .i64 Y) ∧ Gr w w')) (h : 0 ≤ X) :
    Calls Tryd.prog 106 #[fr n e, .pointer (some ⟨p1, 0, none⟩), .pointer (some ⟨p2, 0, none⟩)] w fun r w' => r = .returned (.bool (decide (Y ≤ 0))) ∧ Gr w w' := by
  have OF := Lib.hid (fun a b w => of_any a b w)
  have HH := Lib.hid h
  have hd : decide (0 ≤ X) = true := decide_eq_true h
  clear h
  have z1 := heap_lt b1
  have z2 := heap_lt b2
  go_enter Tryd.func106, Tryd.ntmps106
  go_upto_region 1 with (fail)
  have G := Gr.refl w
  replace b1 := ((Gr.refl _).alloc (.cells #[.int .i64 n, .int .i64 e] 73)).heap b1
  replace b2 := ((Gr.refl _).alloc (.cells #[.int .i64 n, .int .i64 e] 73)).heap b2
  have b3 := heap_alloc_self w (.cells #[.int .i64 n, .int .i64 e] 73)
  replace G := G.alloc (.cells #[.int .i64 n, .int .i64 e] 73)
  generalize hW : (w.alloc (.cells #[.int .i64 n, .int .i64 e] 73)) = W1 at *
  have o1 : p1 < w.heap.size := z1
  have o2 : p2 < w.heap.size := z2
  have w0 : w.heap.size ≤ w.heap.size := Nat.le_refl _
  obtain ⟨p3, hp3⟩ : ∃ p3, w.heap.size = p3 := ⟨_, rfl⟩
  rw [hp3] at b3
  try simp only [hp3]
  have n1_3 : ¬ p1 = p3 := by omega
  have n3_1 : ¬ p3 = p1 := by omega
  have n2_3 : ¬ p2 = p3 := by omega
  have n3_2 : ¬ p3 = p2 := by omega
  have s3 : w.heap.size ≤ p3 := by omega
  clear o1 o2 w0
  clear hp3
  clear hW
  clear z1 z2
  obtain ⟨c1, f1, z1⟩ := blk_cells b1
  obtain ⟨c2, f2, z2⟩ := blk_cells b2
  obtain ⟨c3, f3, z3⟩ := blk_cells b3
  refine wp_region_plan [.val (fr (n) (e)), .val (fr (a) (b)), .val (fr (a) (b)), .val (.int .i64 (X)), .val (.bool true), .val (.bool true), .val (fr (n) (e)), .val (fr (c) (d)), .val (fr (c) (d)), .val (.int .i64 (Y)), .val (.bool (decide (Y ≤ 0))), .val (.bool (decide (Y ≤ 0))), .val (.bool (decide (Y ≤ 0)))] (by kernel_rfl) (by kernel_rfl) (fun G => by first | (simp only [finAct, Act.put, Plan.value, List.setIfInBounds_toArray, List.set_cons_zero, List.set_cons_succ]; rfl) | (simp only [finAct, Act.put, Plan.value, List.setIfInBounds_toArray, List.set_cons_zero, List.set_cons_succ, Nat.zero_add, Nat.reduceAdd]; rfl)) ?_ ?_
  · refine ⟨?_, ?_, ?_, ?_, ?_, ?_, ?_, ?_, ?_, ?_, ?_, ?_, ?_, trivial⟩ <;> (first | exact trivial | (intro G; first | (refine ⟨by kernel_rfl, fun u hu => ?_⟩; obtain ⟨hc, hf, hz⟩ := hu.cells; go_simp; first | exact ⟨rfl, Gr.refl _⟩ | skip) | (refine ⟨by kernel_rfl, fun u T z hu hG hj hb => ?_⟩; cases hj; obtain ⟨hbc, hbf, hbz⟩ := blk_cells hb; first | (refine ⟨_, ?_, ((GrL.of_gr (Gr.refl _)).set _ _ (Or.inr (by simp))).set _ _ (Or.inr (by simp)), put_two hb⟩; go_simp; done) | (refine ⟨_, ?_, (GrL.of_gr (Gr.refl _)).set _ _ (Or.inr (by simp)), put_one hb⟩; go_simp; done)) | (refine ⟨by kernel_rfl, fun u => ?_⟩; go_simp; done) | (show _ = false; kernel_rfl)))
    · exact OF.out _ _ _
    · exact C1.out _
    · exact OF.out _ _ _
    · exact C2.out _
  intro _ U1 hg _ _
  clear c1 f1 z1 c2 f2 z2 c3 f3 z3
  replace b1 := hg.heap b1
  replace b2 := hg.heap b2
  replace b3 := hg.heap b3
  have G := G.trans hg
  clear hg
  go_wp2
  go_ret
  exact ⟨rfl, G⟩
set_option maxRecDepth 100000 in
set_option maxHeartbeats 4000000 in
theorem within_no (p1 p2 : Nat) (a b c d n e X : Int) (w : World) (b1 : w.heap[p1]? = some (.cells #[.int .i64 a, .int .i64 b] 23 (0, 0))) (b2 : w.heap[p2]? = some (.cells #[.int .i64 c, .int .i64 d] 23 (0, 0))) (C1 : Hid (∀ w, Calls Tryd.prog 83 #[fr n e, fr a b] w fun r w' => r = .returned (.int .i64 X) ∧ Gr w w')) (h : ¬ 0 ≤ X) :
    Calls Tryd.prog 106 #[fr n e, .pointer (some ⟨p1, 0, none⟩), .pointer (some ⟨p2, 0, none⟩)] w fun r w' => r = .returned (.bool false) ∧ Gr w w' := by
  have OF := Lib.hid (fun a b w => of_any a b w)
  have HH := Lib.hid h
  have hd : decide (0 ≤ X) = false := decide_eq_false h
  clear h
  have z1 := heap_lt b1
  have z2 := heap_lt b2
  go_enter Tryd.func106, Tryd.ntmps106
  go_upto_region 1 with (fail)
  have G := Gr.refl w
  replace b1 := ((Gr.refl _).alloc (.cells #[.int .i64 n, .int .i64 e] 73)).heap b1
  replace b2 := ((Gr.refl _).alloc (.cells #[.int .i64 n, .int .i64 e] 73)).heap b2
  have b3 := heap_alloc_self w (.cells #[.int .i64 n, .int .i64 e] 73)
  replace G := G.alloc (.cells #[.int .i64 n, .int .i64 e] 73)
  generalize hW : (w.alloc (.cells #[.int .i64 n, .int .i64 e] 73)) = W1 at *
  have o1 : p1 < w.heap.size := z1
  have o2 : p2 < w.heap.size := z2
  have w0 : w.heap.size ≤ w.heap.size := Nat.le_refl _
  obtain ⟨p3, hp3⟩ : ∃ p3, w.heap.size = p3 := ⟨_, rfl⟩
  rw [hp3] at b3
  try simp only [hp3]
  have n1_3 : ¬ p1 = p3 := by omega
  have n3_1 : ¬ p3 = p1 := by omega
  have n2_3 : ¬ p2 = p3 := by omega
  have n3_2 : ¬ p3 = p2 := by omega
  have s3 : w.heap.size ≤ p3 := by omega
  clear o1 o2 w0
  clear hp3
  clear hW
  clear z1 z2
  obtain ⟨c1, f1, z1⟩ := blk_cells b1
  obtain ⟨c2, f2, z2⟩ := blk_cells b2
  obtain ⟨c3, f3, z3⟩ := blk_cells b3
  refine wp_region_plan [.val (fr (n) (e)), .val (fr (a) (b)), .val (fr (a) (b)), .val (.int .i64 (X)), .val (.bool false), .val (.bool false), .off, .off, .off, .off, .off, .val (.bool false), .val (.bool false)] (by kernel_rfl) (by kernel_rfl) (fun G => by first | (simp only [finAct, Act.put, Plan.value, List.setIfInBounds_toArray, List.set_cons_zero, List.set_cons_succ]; rfl) | (simp only [finAct, Act.put, Plan.value, List.setIfInBounds_toArray, List.set_cons_zero, List.set_cons_succ, Nat.zero_add, Nat.reduceAdd]; rfl)) ?_ ?_
  · refine ⟨?_, ?_, ?_, ?_, ?_, ?_, ?_, ?_, ?_, ?_, ?_, ?_, ?_, trivial⟩ <;> (first | exact trivial | (intro G; first | (refine ⟨by kernel_rfl, fun u hu => ?_⟩; obtain ⟨hc, hf, hz⟩ := hu.cells; go_simp; first | exact ⟨rfl, Gr.refl _⟩ | skip) | (refine ⟨by kernel_rfl, fun u T z hu hG hj hb => ?_⟩; cases hj; obtain ⟨hbc, hbf, hbz⟩ := blk_cells hb; first | (refine ⟨_, ?_, ((GrL.of_gr (Gr.refl _)).set _ _ (Or.inr (by simp))).set _ _ (Or.inr (by simp)), put_two hb⟩; go_simp; done) | (refine ⟨_, ?_, (GrL.of_gr (Gr.refl _)).set _ _ (Or.inr (by simp)), put_one hb⟩; go_simp; done)) | (refine ⟨by kernel_rfl, fun u => ?_⟩; go_simp; done) | (show _ = false; kernel_rfl)))
    · exact OF.out _ _ _
    · exact C1.out _
  intro _ U1 hg _ _
  clear c1 f1 z1 c2 f2 z2 c3 f3 z3
  replace b1 := hg.heap b1
  replace b2 := hg.heap b2
  replace b3 := hg.heap b3
  have G := G.trans hg
  clear hg
  go_wp2
  go_ret
  exact ⟨rfl, G⟩
theorem within1_any (p1 p2 : Nat) (a b c d n e : Int) (w : World) (b1 : w.heap[p1]? = some (.cells #[.int .i64 a, .int .i64 b] 23 (0, 0))) (b2 : w.heap[p2]? = some (.cells #[.int .i64 c, .int .i64 d] 23 (0, 0)))
    (h1 : ok2 a b c d = true) (k1 : -1000000000 ≤ n) (k2 : n ≤ 1000000000) (k3 : 1 ≤ e) (k4 : e ≤ 1000000) :
    Calls Tryd.prog 106 #[fr n e, .pointer (some ⟨p1, 0, none⟩), .pointer (some ⟨p2, 0, none⟩)] w fun r w' => r = .returned (.bool (inR a b c d n e)) ∧ Gr w w' := by
  obtain ⟨⟨x1, x2, x3, x4, x5⟩, ⟨y1, y2, y3, y4, y5⟩⟩ := ok2_parts h1
  obtain ⟨u1, u2⟩ := Rm.nd_bound k1 k2 x3 x4
  obtain ⟨u3, u4⟩ := Rm.nd_bound x1 x2 k3 k4
  obtain ⟨u5, u6⟩ := Rm.nd_bound k1 k2 y3 y4
  obtain ⟨u7, u8⟩ := Rm.nd_bound y1 y2 k3 k4
  have C1 := fun w => cross_any n e a b w (by omega) (by omega) (by omega) (by omega)
  have C2 := fun w => cross_any n e c d w (by omega) (by omega) (by omega) (by omega)
  by_cases h : 0 ≤ n*b - a*e
  · have e1 : inR a b c d n e = decide (n*d - c*e ≤ 0) := by unfold inR; rw [decide_eq_true h, Bool.true_and]
    rw [e1]
    exact within_yes p1 p2 a b c d n e _ _ w b1 b2 (Lib.hid C1) (Lib.hid C2) h
  · have e1 : inR a b c d n e = false := by unfold inR; rw [decide_eq_false h, Bool.false_and]
    rw [e1]
    exact within_no p1 p2 a b c d n e _ w b1 b2 (Lib.hid C1) h
set_option maxRecDepth 100000 in
set_option maxHeartbeats 4000000 in
theorem ranged1_bad (s cap : Nat) (a b c d n e : Int) (w : World) (h0 : w.cell? ⟨s, 0, none⟩ = some (.int .i64 n)) (h1 : w.cell? ⟨s, 1, none⟩ = some (.int .i64 e)) (hk : (ok2 a b c d && Rm.okF n e) = false) :
    Calls Tryd.prog 101 #[fr a b, fr c d, .slice (some ⟨s, 0, none⟩) 1 cap] w fun r w' => r = .returned (.int .i64 1) ∧ Gr w w' := by
  obtain ⟨i0, hi, hz0, hz1, hz2⟩ := info_parts info_frac
  have OF := Lib.hid (fun a b w => of_any a b w)
  have HK := Lib.hid hk
  clear hk
  have hs := World.block_lt_of_cell? w _ h0
  dsimp only at hs
  go_enter Tryd.func101, Tryd.ntmps101
  go_upto_region 1 with (fail)
  have G := Gr.refl w
  have b3 := heap_alloc_self w (.cells #[.int .i64 a, .int .i64 b] 23)
  replace G := G.alloc (.cells #[.int .i64 a, .int .i64 b] 23)
  replace b3 := ((Gr.refl _).alloc (.cells #[.int .i64 c, .int .i64 d] 23)).heap b3
  have b4 := heap_alloc_self (w.alloc (.cells #[.int .i64 a, .int .i64 b] 23)) (.cells #[.int .i64 c, .int .i64 d] 23)
  replace G := G.alloc (.cells #[.int .i64 c, .int .i64 d] 23)
  generalize hW : ((w.alloc (.cells #[.int .i64 a, .int .i64 b] 23)).alloc (.cells #[.int .i64 c, .int .i64 d] 23)) = W1 at *
  simp only [World.size_alloc] at b4
  have w0 : w.heap.size ≤ w.heap.size := Nat.le_refl _
  obtain ⟨p4, hp4⟩ : ∃ p4, w.heap.size + 1 = p4 := ⟨_, rfl⟩
  obtain ⟨p3, hp3⟩ : ∃ p3, w.heap.size = p3 := ⟨_, rfl⟩
  rw [hp4] at b4
  rw [hp3] at b3
  try simp only [hp4]
  try simp only [hp3]
  have s3 : w.heap.size ≤ p3 := by omega
  have n3_4 : ¬ p3 = p4 := by omega
  have n4_3 : ¬ p4 = p3 := by omega
  have s4 : w.heap.size ≤ p4 := by omega
  clear  w0
  clear hp3
  clear hp4
  clear hW
  have k0 : W1.cell? ⟨s, 0, none⟩ = some (.int .i64 n) := (G.cells.1 s 0 hs).trans h0
  have k1 : W1.cell? ⟨s, 1, none⟩ = some (.int .i64 e) := (G.cells.1 s 1 hs).trans h1
  have zs : s < W1.heap.size := Nat.lt_of_lt_of_le hs G.b.size
  have zw : w.heap.size ≤ W1.heap.size := G.b.size
  have hr : (W1.alloc (.cells #[.int .i64 a, .int .i64 b, .int .i64 c, .int .i64 d] 23)).ownsRow w.heap.size 23 2 (.slice (some ⟨W1.heap.size, 0, none⟩) 2 2) 2 [.int .i64 a, .int .i64 b, .int .i64 c, .int .i64 d] := ⟨rfl, .inr ⟨W1.heap.size, 2, _, rfl, zw, heap_alloc_self _ _, by omega, by decide, rfl, rfl⟩⟩
  have q0 : (W1.alloc (.cells #[.int .i64 a, .int .i64 b, .int .i64 c, .int .i64 d] 23)).cell? ⟨s, 0, none⟩ = some (.int .i64 n) := (((Gr.refl W1).alloc _).cells.1 s 0 zs).trans k0
  have q1 : (W1.alloc (.cells #[.int .i64 a, .int .i64 b, .int .i64 c, .int .i64 d] 23)).cell? ⟨s, 1, none⟩ = some (.int .i64 e) := (((Gr.refl W1).alloc _).cells.1 s 1 zs).trans k1
  have qq : ∀ j u, [Value.int .i64 n, Value.int .i64 e][j]? = some u → (W1.alloc (.cells #[.int .i64 a, .int .i64 b, .int .i64 c, .int .i64 d] 23)).cell? ((⟨s, 0, none⟩ : Addr).add j) = some u := fun j u hj => by
    match j, hj with
    | 0, hj => rw [← hj]; exact q0
    | 1, hj => rw [← hj]; exact q1
    | (j+2), hj => exact absurd hj (by simp)
  obtain ⟨c3, f3, z3⟩ := blk_cells b3
  obtain ⟨c4, f4, z4⟩ := blk_cells b4
  go_wp2_with (at_builtin; refine wpList_append_own _ rfl _ _ 65 rfl w.heap.size 23 i0 (fr 0 0) 2 16 Tryd.underlying65 hi hz0 hz1 hz2 rfl (by decide) _ _ _ rfl hr ⟨s, 0, none⟩ 1 cap [.int .i64 n, .int .i64 e] rfl rfl qq (by simp [Value.oneCell']) (by unfold maxLen; omega) (by omega) (by simp; omega) ?_; intro v' w1 hown hgrow _; obtain ⟨g', cap', rfl⟩ := ownsRow_succ hown)
  have hc := hown.cells (g := g') rfl
  refine (checked_three g' cap' a b c d n e w1 (hc 0 _ rfl) (hc 1 _ rfl) (hc 2 _ rfl) (hc 3 _ rfl) (hc 4 _ rfl) (hc 5 _ rfl)).mono ?_
  rintro r w2 ⟨rfl, hg2⟩
  rw [HK.out, show Rm.err false 1 = 1 from rfl]
  have hgw : (W1.alloc (.cells #[.int .i64 a, .int .i64 b, .int .i64 c, .int .i64 d] 23)).grownBy w1 (some W1.heap.size) := hgrow
  have GL : GrL [W1.heap.size] W1 w1 := (GrL.of_gr ((Gr.refl W1).alloc _)).trans (GrL.of_grown hgw [W1.heap.size] (fun k hk => by simp at hk; simp [hk]))
  have G2 := (GrL.gr G GL (by simp; omega)).trans hg2
  clear c3 f3 z3 c4 f4 z4
  replace b3 := hg2.heap (GL.heap b3 (fun h => by have := heap_lt b3; simp at h; omega))
  replace b4 := hg2.heap (GL.heap b4 (fun h => by have := heap_lt b4; simp at h; omega))
  clear G GL hg2 hgw hgrow hown hc qq q0 q1 hr k0 k1 zs zw
  have G := G2
  clear G2
  go_wp2
  go_ret
  exact ⟨rfl, G⟩
set_option maxRecDepth 100000 in
set_option maxHeartbeats 4000000 in
theorem ranged1_gt (s cap : Nat) (a b c d n e X : Int) (w : World) (h0 : w.cell? ⟨s, 0, none⟩ = some (.int .i64 n)) (h1 : w.cell? ⟨s, 1, none⟩ = some (.int .i64 e)) (hk : (ok2 a b c d && Rm.okF n e) = true) (CR : Hid (∀ w, Calls Tryd.prog 83 #[fr a b, fr c d] w fun r w' => r = .returned (.int .i64 X) ∧ Gr w w')) (hX : 0 < X) :
    Calls Tryd.prog 101 #[fr a b, fr c d, .slice (some ⟨s, 0, none⟩) 1 cap] w fun r w' => r = .returned (.int .i64 12) ∧ Gr w w' := by
  obtain ⟨i0, hi, hz0, hz1, hz2⟩ := info_parts info_frac
  have OF := Lib.hid (fun a b w => of_any a b w)
  have HK := Lib.hid hk
  clear hk
  have hs := World.block_lt_of_cell? w _ h0
  dsimp only at hs
  go_enter Tryd.func101, Tryd.ntmps101
  go_upto_region 1 with (fail)
  have G := Gr.refl w
  have b3 := heap_alloc_self w (.cells #[.int .i64 a, .int .i64 b] 23)
  replace G := G.alloc (.cells #[.int .i64 a, .int .i64 b] 23)
  replace b3 := ((Gr.refl _).alloc (.cells #[.int .i64 c, .int .i64 d] 23)).heap b3
  have b4 := heap_alloc_self (w.alloc (.cells #[.int .i64 a, .int .i64 b] 23)) (.cells #[.int .i64 c, .int .i64 d] 23)
  replace G := G.alloc (.cells #[.int .i64 c, .int .i64 d] 23)
  generalize hW : ((w.alloc (.cells #[.int .i64 a, .int .i64 b] 23)).alloc (.cells #[.int .i64 c, .int .i64 d] 23)) = W1 at *
  simp only [World.size_alloc] at b4
  have w0 : w.heap.size ≤ w.heap.size := Nat.le_refl _
  obtain ⟨p4, hp4⟩ : ∃ p4, w.heap.size + 1 = p4 := ⟨_, rfl⟩
  obtain ⟨p3, hp3⟩ : ∃ p3, w.heap.size = p3 := ⟨_, rfl⟩
  rw [hp4] at b4
  rw [hp3] at b3
  try simp only [hp4]
  try simp only [hp3]
  have s3 : w.heap.size ≤ p3 := by omega
  have n3_4 : ¬ p3 = p4 := by omega
  have n4_3 : ¬ p4 = p3 := by omega
  have s4 : w.heap.size ≤ p4 := by omega
  clear  w0
  clear hp3
  clear hp4
  clear hW
  have k0 : W1.cell? ⟨s, 0, none⟩ = some (.int .i64 n) := (G.cells.1 s 0 hs).trans h0
  have k1 : W1.cell? ⟨s, 1, none⟩ = some (.int .i64 e) := (G.cells.1 s 1 hs).trans h1
  have zs : s < W1.heap.size := Nat.lt_of_lt_of_le hs G.b.size
  have zw : w.heap.size ≤ W1.heap.size := G.b.size
  have hr : (W1.alloc (.cells #[.int .i64 a, .int .i64 b, .int .i64 c, .int .i64 d] 23)).ownsRow w.heap.size 23 2 (.slice (some ⟨W1.heap.size, 0, none⟩) 2 2) 2 [.int .i64 a, .int .i64 b, .int .i64 c, .int .i64 d] := ⟨rfl, .inr ⟨W1.heap.size, 2, _, rfl, zw, heap_alloc_self _ _, by omega, by decide, rfl, rfl⟩⟩
  have q0 : (W1.alloc (.cells #[.int .i64 a, .int .i64 b, .int .i64 c, .int .i64 d] 23)).cell? ⟨s, 0, none⟩ = some (.int .i64 n) := (((Gr.refl W1).alloc _).cells.1 s 0 zs).trans k0
  have q1 : (W1.alloc (.cells #[.int .i64 a, .int .i64 b, .int .i64 c, .int .i64 d] 23)).cell? ⟨s, 1, none⟩ = some (.int .i64 e) := (((Gr.refl W1).alloc _).cells.1 s 1 zs).trans k1
  have qq : ∀ j u, [Value.int .i64 n, Value.int .i64 e][j]? = some u → (W1.alloc (.cells #[.int .i64 a, .int .i64 b, .int .i64 c, .int .i64 d] 23)).cell? ((⟨s, 0, none⟩ : Addr).add j) = some u := fun j u hj => by
    match j, hj with
    | 0, hj => rw [← hj]; exact q0
    | 1, hj => rw [← hj]; exact q1
    | (j+2), hj => exact absurd hj (by simp)
  obtain ⟨c3, f3, z3⟩ := blk_cells b3
  obtain ⟨c4, f4, z4⟩ := blk_cells b4
  go_wp2_with (at_builtin; refine wpList_append_own _ rfl _ _ 65 rfl w.heap.size 23 i0 (fr 0 0) 2 16 Tryd.underlying65 hi hz0 hz1 hz2 rfl (by decide) _ _ _ rfl hr ⟨s, 0, none⟩ 1 cap [.int .i64 n, .int .i64 e] rfl rfl qq (by simp [Value.oneCell']) (by unfold maxLen; omega) (by omega) (by simp; omega) ?_; intro v' w1 hown hgrow _; obtain ⟨g', cap', rfl⟩ := ownsRow_succ hown)
  have hc := hown.cells (g := g') rfl
  refine (checked_three g' cap' a b c d n e w1 (hc 0 _ rfl) (hc 1 _ rfl) (hc 2 _ rfl) (hc 3 _ rfl) (hc 4 _ rfl) (hc 5 _ rfl)).mono ?_
  rintro r w2 ⟨rfl, hg2⟩
  rw [HK.out, show Rm.err true 1 = 0 from rfl]
  have hgw : (W1.alloc (.cells #[.int .i64 a, .int .i64 b, .int .i64 c, .int .i64 d] 23)).grownBy w1 (some W1.heap.size) := hgrow
  have GL : GrL [W1.heap.size] W1 w1 := (GrL.of_gr ((Gr.refl W1).alloc _)).trans (GrL.of_grown hgw [W1.heap.size] (fun k hk => by simp at hk; simp [hk]))
  have G2 := (GrL.gr G GL (by simp; omega)).trans hg2
  clear c3 f3 z3 c4 f4 z4
  replace b3 := hg2.heap (GL.heap b3 (fun h => by have := heap_lt b3; simp at h; omega))
  replace b4 := hg2.heap (GL.heap b4 (fun h => by have := heap_lt b4; simp at h; omega))
  clear G GL hg2 hgw hgrow hown hc qq q0 q1 hr k0 k1 zs zw
  have G := G2
  clear G2
  obtain ⟨c3, f3, z3⟩ := blk_cells b3
  obtain ⟨c4, f4, z4⟩ := blk_cells b4
  go_upto_region 4 with (fail)
  clear c3 f3 z3 c4 f4 z4
  obtain ⟨c3, f3, z3⟩ := blk_cells b3
  obtain ⟨c4, f4, z4⟩ := blk_cells b4
  refine wp_region_plan [.val (fr (a) (b)), .val (fr (a) (b)), .val (fr (c) (d)), .val (fr (c) (d)), .val (.int .i64 (X)), .val (.bool (decide (0 < X)))] (by kernel_rfl) (by kernel_rfl) (fun G => by first | (simp only [finAct, Act.put, Plan.value, List.setIfInBounds_toArray, List.set_cons_zero, List.set_cons_succ]; rfl) | (simp only [finAct, Act.put, Plan.value, List.setIfInBounds_toArray, List.set_cons_zero, List.set_cons_succ, Nat.zero_add, Nat.reduceAdd]; rfl)) ?_ ?_
  · refine ⟨?_, ?_, ?_, ?_, ?_, ?_, trivial⟩ <;> (first | exact trivial | (intro G; first | (refine ⟨by kernel_rfl, fun u hu => ?_⟩; obtain ⟨hc, hf, hz⟩ := hu.cells; go_simp; first | exact ⟨rfl, Gr.refl _⟩ | skip) | (refine ⟨by kernel_rfl, fun u T z hu hG hj hb => ?_⟩; cases hj; obtain ⟨hbc, hbf, hbz⟩ := blk_cells hb; first | (refine ⟨_, ?_, ((GrL.of_gr (Gr.refl _)).set _ _ (Or.inr (by simp))).set _ _ (Or.inr (by simp)), put_two hb⟩; go_simp; done) | (refine ⟨_, ?_, (GrL.of_gr (Gr.refl _)).set _ _ (Or.inr (by simp)), put_one hb⟩; go_simp; done)) | (refine ⟨by kernel_rfl, fun u => ?_⟩; go_simp; done) | (show _ = false; kernel_rfl)))
    · exact OF.out _ _ _
    · exact OF.out _ _ _
    · exact CR.out _
  intro _ U20 hg _ _
  clear c3 f3 z3 c4 f4 z4
  replace b3 := hg.heap b3
  replace b4 := hg.heap b4
  have G := G.trans hg
  clear hg
  go_wp2
  go_ret
  exact ⟨rfl, G⟩
set_option maxRecDepth 100000 in
set_option maxHeartbeats 4000000 in
theorem ranged1_le (s cap : Nat) (a b c d n e X : Int) (w : World) (h0 : w.cell? ⟨s, 0, none⟩ = some (.int .i64 n)) (h1 : w.cell? ⟨s, 1, none⟩ = some (.int .i64 e)) (hk : (ok2 a b c d && Rm.okF n e) = true) (CR : Hid (∀ w, Calls Tryd.prog 83 #[fr a b, fr c d] w fun r w' => r = .returned (.int .i64 X) ∧ Gr w w')) (hX : ¬ 0 < X) :
    Calls Tryd.prog 101 #[fr a b, fr c d, .slice (some ⟨s, 0, none⟩) 1 cap] w fun r w' => r = .returned (.int .i64 0) ∧ Gr w w' := by
  obtain ⟨i0, hi, hz0, hz1, hz2⟩ := info_parts info_frac
  have OF := Lib.hid (fun a b w => of_any a b w)
  have HK := Lib.hid hk
  clear hk
  have hs := World.block_lt_of_cell? w _ h0
  dsimp only at hs
  go_enter Tryd.func101, Tryd.ntmps101
  go_upto_region 1 with (fail)
  have G := Gr.refl w
  have b3 := heap_alloc_self w (.cells #[.int .i64 a, .int .i64 b] 23)
  replace G := G.alloc (.cells #[.int .i64 a, .int .i64 b] 23)
  replace b3 := ((Gr.refl _).alloc (.cells #[.int .i64 c, .int .i64 d] 23)).heap b3
  have b4 := heap_alloc_self (w.alloc (.cells #[.int .i64 a, .int .i64 b] 23)) (.cells #[.int .i64 c, .int .i64 d] 23)
  replace G := G.alloc (.cells #[.int .i64 c, .int .i64 d] 23)
  generalize hW : ((w.alloc (.cells #[.int .i64 a, .int .i64 b] 23)).alloc (.cells #[.int .i64 c, .int .i64 d] 23)) = W1 at *
  simp only [World.size_alloc] at b4
  have w0 : w.heap.size ≤ w.heap.size := Nat.le_refl _
  obtain ⟨p4, hp4⟩ : ∃ p4, w.heap.size + 1 = p4 := ⟨_, rfl⟩
  obtain ⟨p3, hp3⟩ : ∃ p3, w.heap.size = p3 := ⟨_, rfl⟩
  rw [hp4] at b4
  rw [hp3] at b3
  try simp only [hp4]
  try simp only [hp3]
  have s3 : w.heap.size ≤ p3 := by omega
  have n3_4 : ¬ p3 = p4 := by omega
  have n4_3 : ¬ p4 = p3 := by omega
  have s4 : w.heap.size ≤ p4 := by omega
  clear  w0
  clear hp3
  clear hp4
  clear hW
  have k0 : W1.cell? ⟨s, 0, none⟩ = some (.int .i64 n) := (G.cells.1 s 0 hs).trans h0
  have k1 : W1.cell? ⟨s, 1, none⟩ = some (.int .i64 e) := (G.cells.1 s 1 hs).trans h1
  have zs : s < W1.heap.size := Nat.lt_of_lt_of_le hs G.b.size
  have zw : w.heap.size ≤ W1.heap.size := G.b.size
  have hr : (W1.alloc (.cells #[.int .i64 a, .int .i64 b, .int .i64 c, .int .i64 d] 23)).ownsRow w.heap.size 23 2 (.slice (some ⟨W1.heap.size, 0, none⟩) 2 2) 2 [.int .i64 a, .int .i64 b, .int .i64 c, .int .i64 d] := ⟨rfl, .inr ⟨W1.heap.size, 2, _, rfl, zw, heap_alloc_self _ _, by omega, by decide, rfl, rfl⟩⟩
  have q0 : (W1.alloc (.cells #[.int .i64 a, .int .i64 b, .int .i64 c, .int .i64 d] 23)).cell? ⟨s, 0, none⟩ = some (.int .i64 n) := (((Gr.refl W1).alloc _).cells.1 s 0 zs).trans k0
  have q1 : (W1.alloc (.cells #[.int .i64 a, .int .i64 b, .int .i64 c, .int .i64 d] 23)).cell? ⟨s, 1, none⟩ = some (.int .i64 e) := (((Gr.refl W1).alloc _).cells.1 s 1 zs).trans k1
  have qq : ∀ j u, [Value.int .i64 n, Value.int .i64 e][j]? = some u → (W1.alloc (.cells #[.int .i64 a, .int .i64 b, .int .i64 c, .int .i64 d] 23)).cell? ((⟨s, 0, none⟩ : Addr).add j) = some u := fun j u hj => by
    match j, hj with
    | 0, hj => rw [← hj]; exact q0
    | 1, hj => rw [← hj]; exact q1
    | (j+2), hj => exact absurd hj (by simp)
  obtain ⟨c3, f3, z3⟩ := blk_cells b3
  obtain ⟨c4, f4, z4⟩ := blk_cells b4
  go_wp2_with (at_builtin; refine wpList_append_own _ rfl _ _ 65 rfl w.heap.size 23 i0 (fr 0 0) 2 16 Tryd.underlying65 hi hz0 hz1 hz2 rfl (by decide) _ _ _ rfl hr ⟨s, 0, none⟩ 1 cap [.int .i64 n, .int .i64 e] rfl rfl qq (by simp [Value.oneCell']) (by unfold maxLen; omega) (by omega) (by simp; omega) ?_; intro v' w1 hown hgrow _; obtain ⟨g', cap', rfl⟩ := ownsRow_succ hown)
  have hc := hown.cells (g := g') rfl
  refine (checked_three g' cap' a b c d n e w1 (hc 0 _ rfl) (hc 1 _ rfl) (hc 2 _ rfl) (hc 3 _ rfl) (hc 4 _ rfl) (hc 5 _ rfl)).mono ?_
  rintro r w2 ⟨rfl, hg2⟩
  rw [HK.out, show Rm.err true 1 = 0 from rfl]
  have hgw : (W1.alloc (.cells #[.int .i64 a, .int .i64 b, .int .i64 c, .int .i64 d] 23)).grownBy w1 (some W1.heap.size) := hgrow
  have GL : GrL [W1.heap.size] W1 w1 := (GrL.of_gr ((Gr.refl W1).alloc _)).trans (GrL.of_grown hgw [W1.heap.size] (fun k hk => by simp at hk; simp [hk]))
  have G2 := (GrL.gr G GL (by simp; omega)).trans hg2
  clear c3 f3 z3 c4 f4 z4
  replace b3 := hg2.heap (GL.heap b3 (fun h => by have := heap_lt b3; simp at h; omega))
  replace b4 := hg2.heap (GL.heap b4 (fun h => by have := heap_lt b4; simp at h; omega))
  clear G GL hg2 hgw hgrow hown hc qq q0 q1 hr k0 k1 zs zw
  have G := G2
  clear G2
  obtain ⟨c3, f3, z3⟩ := blk_cells b3
  obtain ⟨c4, f4, z4⟩ := blk_cells b4
  go_upto_region 4 with (fail)
  clear c3 f3 z3 c4 f4 z4
  obtain ⟨c3, f3, z3⟩ := blk_cells b3
  obtain ⟨c4, f4, z4⟩ := blk_cells b4
  refine wp_region_plan [.val (fr (a) (b)), .val (fr (a) (b)), .val (fr (c) (d)), .val (fr (c) (d)), .val (.int .i64 (X)), .val (.bool (decide (0 < X)))] (by kernel_rfl) (by kernel_rfl) (fun G => by first | (simp only [finAct, Act.put, Plan.value, List.setIfInBounds_toArray, List.set_cons_zero, List.set_cons_succ]; rfl) | (simp only [finAct, Act.put, Plan.value, List.setIfInBounds_toArray, List.set_cons_zero, List.set_cons_succ, Nat.zero_add, Nat.reduceAdd]; rfl)) ?_ ?_
  · refine ⟨?_, ?_, ?_, ?_, ?_, ?_, trivial⟩ <;> (first | exact trivial | (intro G; first | (refine ⟨by kernel_rfl, fun u hu => ?_⟩; obtain ⟨hc, hf, hz⟩ := hu.cells; go_simp; first | exact ⟨rfl, Gr.refl _⟩ | skip) | (refine ⟨by kernel_rfl, fun u T z hu hG hj hb => ?_⟩; cases hj; obtain ⟨hbc, hbf, hbz⟩ := blk_cells hb; first | (refine ⟨_, ?_, ((GrL.of_gr (Gr.refl _)).set _ _ (Or.inr (by simp))).set _ _ (Or.inr (by simp)), put_two hb⟩; go_simp; done) | (refine ⟨_, ?_, (GrL.of_gr (Gr.refl _)).set _ _ (Or.inr (by simp)), put_one hb⟩; go_simp; done)) | (refine ⟨by kernel_rfl, fun u => ?_⟩; go_simp; done) | (show _ = false; kernel_rfl)))
    · exact OF.out _ _ _
    · exact OF.out _ _ _
    · exact CR.out _
  intro _ U20 hg _ _
  clear c3 f3 z3 c4 f4 z4
  replace b3 := hg.heap b3
  replace b4 := hg.heap b4
  have G := G.trans hg
  clear hg
  go_wp2
  go_ret
  exact ⟨rfl, G⟩
theorem ranged_one (s cap : Nat) (a b c d n e : Int) (w : World) (h0 : w.cell? ⟨s, 0, none⟩ = some (.int .i64 n)) (h1 : w.cell? ⟨s, 1, none⟩ = some (.int .i64 e)) :
    Calls Tryd.prog 101 #[fr a b, fr c d, .slice (some ⟨s, 0, none⟩) 1 cap] w fun r w' => r = .returned (.int .i64 (csE a b c d n e)) ∧ Gr w w' := by
  cases hk : (ok2 a b c d && Rm.okF n e)
  · have e1 : csE a b c d n e = 1 := by simp [csE, hk]
    rw [e1]
    exact ranged1_bad s cap a b c d n e w h0 h1 hk
  · have hk' := hk
    rw [Bool.and_eq_true] at hk'
    obtain ⟨⟨x1, x2, x3, x4, x5⟩, ⟨y1, y2, y3, y4, y5⟩⟩ := ok2_parts hk'.1
    obtain ⟨u1, u2⟩ := Rm.nd_bound x1 x2 y3 y4
    obtain ⟨u3, u4⟩ := Rm.nd_bound y1 y2 x3 x4
    have CR := fun w => cross_any a b c d w (by omega) (by omega) (by omega) (by omega)
    by_cases hX : 0 < a*d - c*b
    · have e1 : csE a b c d n e = 12 := by simp [csE, rgE, hk'.1, hk'.2]; omega
      rw [e1]
      exact ranged1_gt s cap a b c d n e _ w h0 h1 hk (Lib.hid CR) hX
    · have e1 : csE a b c d n e = 0 := by simp [csE, rgE, hk'.1, hk'.2]; omega
      rw [e1]
      exact ranged1_le s cap a b c d n e _ w h0 h1 hk (Lib.hid CR) hX
set_option maxRecDepth 100000 in
set_option maxHeartbeats 4000000 in
theorem CheckS_err (a b c d n e E : Int) (w : World) (RN : Hid (∀ s cap w, w.cell? ⟨s, 0, none⟩ = some (.int .i64 n) → w.cell? ⟨s, 1, none⟩ = some (.int .i64 e) → Calls Tryd.prog 101 #[fr a b, fr c d, .slice (some ⟨s, 0, none⟩) 1 cap] w fun r w' => r = .returned (.int .i64 E) ∧ Gr w w')) (hE : ¬ E = 0) :
    Calls Tryd.prog 43 #[fr a b, fr c d, fr n e] w fun r w' => r = .returned (.tuple #[.bool false, .int .i64 E]) ∧ Gr w w' := by
  have hmf : ∀ (fn : Fn) (first cap : Array Value) (w : World), (Instr.makeFunc fn first cap).run Tryd.prog w = .ok (.func fn first cap) w := fun _ _ _ _ => rfl
  have OF := Lib.hid (fun a b w => of_any a b w)
  go_enter Tryd.func43, Tryd.ntmps43
  go_wp2_with fail
  have G := Gr.refl w
  have b3 := heap_alloc_self w (.cells #[.int .i64 a, .int .i64 b] 23)
  replace G := G.alloc (.cells #[.int .i64 a, .int .i64 b] 23)
  replace b3 := ((Gr.refl _).alloc (.cells #[.int .i64 c, .int .i64 d] 23)).heap b3
  have b4 := heap_alloc_self (w.alloc (.cells #[.int .i64 a, .int .i64 b] 23)) (.cells #[.int .i64 c, .int .i64 d] 23)
  replace G := G.alloc (.cells #[.int .i64 c, .int .i64 d] 23)
  replace b3 := ((Gr.refl _).alloc (.cells #[.int .i64 n, .int .i64 e] 23)).heap b3
  replace b4 := ((Gr.refl _).alloc (.cells #[.int .i64 n, .int .i64 e] 23)).heap b4
  have b5 := heap_alloc_self ((w.alloc (.cells #[.int .i64 a, .int .i64 b] 23)).alloc (.cells #[.int .i64 c, .int .i64 d] 23)) (.cells #[.int .i64 n, .int .i64 e] 23)
  replace G := G.alloc (.cells #[.int .i64 n, .int .i64 e] 23)
  replace b3 := ((Gr.refl _).alloc (.cells #[.int .i64 n, .int .i64 e] 23)).heap b3
  replace b4 := ((Gr.refl _).alloc (.cells #[.int .i64 n, .int .i64 e] 23)).heap b4
  replace b5 := ((Gr.refl _).alloc (.cells #[.int .i64 n, .int .i64 e] 23)).heap b5
  have b16 := heap_alloc_self (((w.alloc (.cells #[.int .i64 a, .int .i64 b] 23)).alloc (.cells #[.int .i64 c, .int .i64 d] 23)).alloc (.cells #[.int .i64 n, .int .i64 e] 23)) (.cells #[.int .i64 n, .int .i64 e] 23)
  replace G := G.alloc (.cells #[.int .i64 n, .int .i64 e] 23)
  generalize hW : ((((w.alloc (.cells #[.int .i64 a, .int .i64 b] 23)).alloc (.cells #[.int .i64 c, .int .i64 d] 23)).alloc (.cells #[.int .i64 n, .int .i64 e] 23)).alloc (.cells #[.int .i64 n, .int .i64 e] 23)) = W1 at *
  simp only [World.size_alloc] at b4
  simp only [World.size_alloc] at b5
  simp only [World.size_alloc] at b16
  have w0 : w.heap.size ≤ w.heap.size := Nat.le_refl _
  obtain ⟨p16, hp16⟩ : ∃ p16, w.heap.size + 1 + 1 + 1 = p16 := ⟨_, rfl⟩
  obtain ⟨p5, hp5⟩ : ∃ p5, w.heap.size + 1 + 1 = p5 := ⟨_, rfl⟩
  obtain ⟨p4, hp4⟩ : ∃ p4, w.heap.size + 1 = p4 := ⟨_, rfl⟩
  obtain ⟨p3, hp3⟩ : ∃ p3, w.heap.size = p3 := ⟨_, rfl⟩
  rw [hp16] at b16
  rw [hp5] at b5
  rw [hp4] at b4
  rw [hp3] at b3
  try simp only [hp16]
  try simp only [hp5]
  try simp only [hp4]
  try simp only [hp3]
  have s3 : w.heap.size ≤ p3 := by omega
  have n3_4 : ¬ p3 = p4 := by omega
  have n4_3 : ¬ p4 = p3 := by omega
  have s4 : w.heap.size ≤ p4 := by omega
  have n3_5 : ¬ p3 = p5 := by omega
  have n5_3 : ¬ p5 = p3 := by omega
  have n4_5 : ¬ p4 = p5 := by omega
  have n5_4 : ¬ p5 = p4 := by omega
  have s5 : w.heap.size ≤ p5 := by omega
  have n3_16 : ¬ p3 = p16 := by omega
  have n16_3 : ¬ p16 = p3 := by omega
  have n4_16 : ¬ p4 = p16 := by omega
  have n16_4 : ¬ p16 = p4 := by omega
  have n5_16 : ¬ p5 = p16 := by omega
  have n16_5 : ¬ p16 = p5 := by omega
  have s16 : w.heap.size ≤ p16 := by omega
  clear  w0
  clear hp3
  clear hp4
  clear hp5
  clear hp16
  clear hW
  refine (RN.out _ _ _ (by simpa using (blk_cells b16).1 0) (by simpa using (blk_cells b16).1 1)).mono ?_
  rintro e w1 ⟨rfl, g1⟩
  obtain ⟨c3, f3, z3⟩ := blk_cells (g1.heap b3)
  obtain ⟨c4, f4, z4⟩ := blk_cells (g1.heap b4)
  obtain ⟨c5, f5, z5⟩ := blk_cells (g1.heap b5)
  obtain ⟨c16, f16, z16⟩ := blk_cells (g1.heap b16)
  have z0 : w.heap.size ≤ w1.heap.size := (Gr.trans G g1).b.size
  go_wp2_with fail
  clear c3 f3 c4 f4 c5 f5 c16 f16
  replace b3 := g1.heap b3
  replace b4 := g1.heap b4
  replace b5 := g1.heap b5
  replace b16 := g1.heap b16
  have G := G.trans g1
  clear z3 z4 z5 z16 z0
  clear g1
  obtain ⟨c3, f3, z3⟩ := blk_cells b3
  obtain ⟨c4, f4, z4⟩ := blk_cells b4
  obtain ⟨c5, f5, z5⟩ := blk_cells b5
  obtain ⟨c16, f16, z16⟩ := blk_cells b16
  exact bodyPost_ret (v := .tuple #[.bool false, .int .i64 E]) (by simp [results, Tryd.results43, go_sem, *]) rfl ⟨rfl, (by repeat (first | exact Gr.refl _ | assumption | refine Gr.alloc ?_ _ | refine Gr.drew ?_ | refine Gr.drewN ?_ _ | refine Gr.set ?_ _ _ (by first | (simp; done) | (simp; omega)) | refine Gr.trans ?_ (by assumption)))⟩
set_option maxRecDepth 100000 in
set_option maxHeartbeats 4000000 in
theorem CheckS_out (a b c d n e : Int) (w : World) (RN : Hid (∀ s cap w, w.cell? ⟨s, 0, none⟩ = some (.int .i64 n) → w.cell? ⟨s, 1, none⟩ = some (.int .i64 e) → Calls Tryd.prog 101 #[fr a b, fr c d, .slice (some ⟨s, 0, none⟩) 1 cap] w fun r w' => r = .returned (.int .i64 0) ∧ Gr w w')) (WX : Hid (∀ (p1 p2 : Nat) (w : World), w.heap[p1]? = some (.cells #[.int .i64 a, .int .i64 b] 23 (0, 0)) → w.heap[p2]? = some (.cells #[.int .i64 c, .int .i64 d] 23 (0, 0)) → Calls Tryd.prog 106 #[fr n e, .pointer (some ⟨p1, 0, none⟩), .pointer (some ⟨p2, 0, none⟩)] w fun r w' => r = .returned (.bool false) ∧ Gr w w')) :
    Calls Tryd.prog 43 #[fr a b, fr c d, fr n e] w fun r w' => r = .returned (.tuple #[.bool false, .int .i64 0]) ∧ Gr w w' := by
  have hmf : ∀ (fn : Fn) (first cap : Array Value) (w : World), (Instr.makeFunc fn first cap).run Tryd.prog w = .ok (.func fn first cap) w := fun _ _ _ _ => rfl
  have OF := Lib.hid (fun a b w => of_any a b w)
  go_enter Tryd.func43, Tryd.ntmps43
  go_wp2_with fail
  have G := Gr.refl w
  have b3 := heap_alloc_self w (.cells #[.int .i64 a, .int .i64 b] 23)
  replace G := G.alloc (.cells #[.int .i64 a, .int .i64 b] 23)
  replace b3 := ((Gr.refl _).alloc (.cells #[.int .i64 c, .int .i64 d] 23)).heap b3
  have b4 := heap_alloc_self (w.alloc (.cells #[.int .i64 a, .int .i64 b] 23)) (.cells #[.int .i64 c, .int .i64 d] 23)
  replace G := G.alloc (.cells #[.int .i64 c, .int .i64 d] 23)
  replace b3 := ((Gr.refl _).alloc (.cells #[.int .i64 n, .int .i64 e] 23)).heap b3
  replace b4 := ((Gr.refl _).alloc (.cells #[.int .i64 n, .int .i64 e] 23)).heap b4
  have b5 := heap_alloc_self ((w.alloc (.cells #[.int .i64 a, .int .i64 b] 23)).alloc (.cells #[.int .i64 c, .int .i64 d] 23)) (.cells #[.int .i64 n, .int .i64 e] 23)
  replace G := G.alloc (.cells #[.int .i64 n, .int .i64 e] 23)
  replace b3 := ((Gr.refl _).alloc (.cells #[.int .i64 n, .int .i64 e] 23)).heap b3
  replace b4 := ((Gr.refl _).alloc (.cells #[.int .i64 n, .int .i64 e] 23)).heap b4
  replace b5 := ((Gr.refl _).alloc (.cells #[.int .i64 n, .int .i64 e] 23)).heap b5
  have b16 := heap_alloc_self (((w.alloc (.cells #[.int .i64 a, .int .i64 b] 23)).alloc (.cells #[.int .i64 c, .int .i64 d] 23)).alloc (.cells #[.int .i64 n, .int .i64 e] 23)) (.cells #[.int .i64 n, .int .i64 e] 23)
  replace G := G.alloc (.cells #[.int .i64 n, .int .i64 e] 23)
  generalize hW : ((((w.alloc (.cells #[.int .i64 a, .int .i64 b] 23)).alloc (.cells #[.int .i64 c, .int .i64 d] 23)).alloc (.cells #[.int .i64 n, .int .i64 e] 23)).alloc (.cells #[.int .i64 n, .int .i64 e] 23)) = W1 at *
  simp only [World.size_alloc] at b4
  simp only [World.size_alloc] at b5
  simp only [World.size_alloc] at b16
  have w0 : w.heap.size ≤ w.heap.size := Nat.le_refl _
  obtain ⟨p16, hp16⟩ : ∃ p16, w.heap.size + 1 + 1 + 1 = p16 := ⟨_, rfl⟩
  obtain ⟨p5, hp5⟩ : ∃ p5, w.heap.size + 1 + 1 = p5 := ⟨_, rfl⟩
  obtain ⟨p4, hp4⟩ : ∃ p4, w.heap.size + 1 = p4 := ⟨_, rfl⟩
  obtain ⟨p3, hp3⟩ : ∃ p3, w.heap.size = p3 := ⟨_, rfl⟩
  rw [hp16] at b16
  rw [hp5] at b5
  rw [hp4] at b4
  rw [hp3] at b3
  try simp only [hp16]
  try simp only [hp5]
  try simp only [hp4]
  try simp only [hp3]
  have s3 : w.heap.size ≤ p3 := by omega
  have n3_4 : ¬ p3 = p4 := by omega
  have n4_3 : ¬ p4 = p3 := by omega
  have s4 : w.heap.size ≤ p4 := by omega
  have n3_5 : ¬ p3 = p5 := by omega
  have n5_3 : ¬ p5 = p3 := by omega
  have n4_5 : ¬ p4 = p5 := by omega
  have n5_4 : ¬ p5 = p4 := by omega
  have s5 : w.heap.size ≤ p5 := by omega
  have n3_16 : ¬ p3 = p16 := by omega
  have n16_3 : ¬ p16 = p3 := by omega
  have n4_16 : ¬ p4 = p16 := by omega
  have n16_4 : ¬ p16 = p4 := by omega
  have n5_16 : ¬ p5 = p16 := by omega
  have n16_5 : ¬ p16 = p5 := by omega
  have s16 : w.heap.size ≤ p16 := by omega
  clear  w0
  clear hp3
  clear hp4
  clear hp5
  clear hp16
  clear hW
  refine (RN.out _ _ _ (by simpa using (blk_cells b16).1 0) (by simpa using (blk_cells b16).1 1)).mono ?_
  rintro e w1 ⟨rfl, g1⟩
  obtain ⟨c3, f3, z3⟩ := blk_cells (g1.heap b3)
  obtain ⟨c4, f4, z4⟩ := blk_cells (g1.heap b4)
  obtain ⟨c5, f5, z5⟩ := blk_cells (g1.heap b5)
  obtain ⟨c16, f16, z16⟩ := blk_cells (g1.heap b16)
  have z0 : w.heap.size ≤ w1.heap.size := (Gr.trans G g1).b.size
  go_wp2_with fail
  clear c3 f3 c4 f4 c5 f5 c16 f16
  replace b3 := g1.heap b3
  replace b4 := g1.heap b4
  replace b5 := g1.heap b5
  replace b16 := g1.heap b16
  have G := G.trans g1
  clear z3 z4 z5 z16 z0
  clear g1
  refine (OF.out _ _ _).mono ?_
  rintro e w2 ⟨rfl, g2⟩
  obtain ⟨c3, f3, z3⟩ := blk_cells (g2.heap b3)
  obtain ⟨c4, f4, z4⟩ := blk_cells (g2.heap b4)
  obtain ⟨c5, f5, z5⟩ := blk_cells (g2.heap b5)
  obtain ⟨c16, f16, z16⟩ := blk_cells (g2.heap b16)
  have z0 : w.heap.size ≤ w2.heap.size := (Gr.trans G g2).b.size
  go_wp2_with fail
  clear c3 f3 c4 f4 c5 f5 c16 f16
  replace b3 := g2.heap b3
  replace b4 := g2.heap b4
  replace b5 := g2.heap b5
  replace b16 := g2.heap b16
  have G := G.trans g2
  clear z3 z4 z5 z16 z0
  clear g2
  refine (WX.out _ _ _ b3 b4).mono ?_
  rintro e w3 ⟨rfl, g3⟩
  obtain ⟨c3, f3, z3⟩ := blk_cells (g3.heap b3)
  obtain ⟨c4, f4, z4⟩ := blk_cells (g3.heap b4)
  obtain ⟨c5, f5, z5⟩ := blk_cells (g3.heap b5)
  obtain ⟨c16, f16, z16⟩ := blk_cells (g3.heap b16)
  have z0 : w.heap.size ≤ w3.heap.size := (Gr.trans G g3).b.size
  go_wp2_with fail
  clear c3 f3 c4 f4 c5 f5 c16 f16
  replace b3 := g3.heap b3
  replace b4 := g3.heap b4
  replace b5 := g3.heap b5
  replace b16 := g3.heap b16
  have G := G.trans g3
  clear z3 z4 z5 z16 z0
  clear g3
  obtain ⟨c3, f3, z3⟩ := blk_cells b3
  obtain ⟨c4, f4, z4⟩ := blk_cells b4
  obtain ⟨c5, f5, z5⟩ := blk_cells b5
  obtain ⟨c16, f16, z16⟩ := blk_cells b16
  exact bodyPost_ret (v := .tuple #[.bool false, .int .i64 0]) (by simp [results, Tryd.results43, go_sem, *]) rfl ⟨rfl, (by repeat (first | exact Gr.refl _ | assumption | refine Gr.alloc ?_ _ | refine Gr.drew ?_ | refine Gr.drewN ?_ _ | refine Gr.set ?_ _ _ (by first | (simp; done) | (simp; omega)) | refine Gr.trans ?_ (by assumption)))⟩
set_option maxRecDepth 100000 in
set_option maxHeartbeats 4000000 in
theorem CheckS_nbA (a b c d n e an ad bn bd : Int) (w : World) (RN : Hid (∀ s cap w, w.cell? ⟨s, 0, none⟩ = some (.int .i64 n) → w.cell? ⟨s, 1, none⟩ = some (.int .i64 e) → Calls Tryd.prog 101 #[fr a b, fr c d, .slice (some ⟨s, 0, none⟩) 1 cap] w fun r w' => r = .returned (.int .i64 0) ∧ Gr w w')) (WX : Hid (∀ (p1 p2 : Nat) (w : World), w.heap[p1]? = some (.cells #[.int .i64 a, .int .i64 b] 23 (0, 0)) → w.heap[p2]? = some (.cells #[.int .i64 c, .int .i64 d] 23 (0, 0)) → Calls Tryd.prog 106 #[fr n e, .pointer (some ⟨p1, 0, none⟩), .pointer (some ⟨p2, 0, none⟩)] w fun r w' => r = .returned (.bool true) ∧ Gr w w')) (he : 1 < e) (NB : Hid (∀ w, Calls Tryd.prog 74 #[fr n e] w fun r w' => r = .returned (.tuple #[fr an ad, fr bn bd]) ∧ Gr w w')) (WA : Hid (∀ (p1 p2 : Nat) (w : World), w.heap[p1]? = some (.cells #[.int .i64 a, .int .i64 b] 23 (0, 0)) → w.heap[p2]? = some (.cells #[.int .i64 c, .int .i64 d] 23 (0, 0)) → Calls Tryd.prog 106 #[fr an ad, .pointer (some ⟨p1, 0, none⟩), .pointer (some ⟨p2, 0, none⟩)] w fun r w' => r = .returned (.bool true) ∧ Gr w w')) :
    Calls Tryd.prog 43 #[fr a b, fr c d, fr n e] w fun r w' => r = .returned (.tuple #[.bool false, .int .i64 0]) ∧ Gr w w' := by
  have hmf : ∀ (fn : Fn) (first cap : Array Value) (w : World), (Instr.makeFunc fn first cap).run Tryd.prog w = .ok (.func fn first cap) w := fun _ _ _ _ => rfl
  have OF := Lib.hid (fun a b w => of_any a b w)
  go_enter Tryd.func43, Tryd.ntmps43
  go_wp2_with fail
  have G := Gr.refl w
  have b3 := heap_alloc_self w (.cells #[.int .i64 a, .int .i64 b] 23)
  replace G := G.alloc (.cells #[.int .i64 a, .int .i64 b] 23)
  replace b3 := ((Gr.refl _).alloc (.cells #[.int .i64 c, .int .i64 d] 23)).heap b3
  have b4 := heap_alloc_self (w.alloc (.cells #[.int .i64 a, .int .i64 b] 23)) (.cells #[.int .i64 c, .int .i64 d] 23)
  replace G := G.alloc (.cells #[.int .i64 c, .int .i64 d] 23)
  replace b3 := ((Gr.refl _).alloc (.cells #[.int .i64 n, .int .i64 e] 23)).heap b3
  replace b4 := ((Gr.refl _).alloc (.cells #[.int .i64 n, .int .i64 e] 23)).heap b4
  have b5 := heap_alloc_self ((w.alloc (.cells #[.int .i64 a, .int .i64 b] 23)).alloc (.cells #[.int .i64 c, .int .i64 d] 23)) (.cells #[.int .i64 n, .int .i64 e] 23)
  replace G := G.alloc (.cells #[.int .i64 n, .int .i64 e] 23)
  replace b3 := ((Gr.refl _).alloc (.cells #[.int .i64 n, .int .i64 e] 23)).heap b3
  replace b4 := ((Gr.refl _).alloc (.cells #[.int .i64 n, .int .i64 e] 23)).heap b4
  replace b5 := ((Gr.refl _).alloc (.cells #[.int .i64 n, .int .i64 e] 23)).heap b5
  have b16 := heap_alloc_self (((w.alloc (.cells #[.int .i64 a, .int .i64 b] 23)).alloc (.cells #[.int .i64 c, .int .i64 d] 23)).alloc (.cells #[.int .i64 n, .int .i64 e] 23)) (.cells #[.int .i64 n, .int .i64 e] 23)
  replace G := G.alloc (.cells #[.int .i64 n, .int .i64 e] 23)
  generalize hW : ((((w.alloc (.cells #[.int .i64 a, .int .i64 b] 23)).alloc (.cells #[.int .i64 c, .int .i64 d] 23)).alloc (.cells #[.int .i64 n, .int .i64 e] 23)).alloc (.cells #[.int .i64 n, .int .i64 e] 23)) = W1 at *
  simp only [World.size_alloc] at b4
  simp only [World.size_alloc] at b5
  simp only [World.size_alloc] at b16
  have w0 : w.heap.size ≤ w.heap.size := Nat.le_refl _
  obtain ⟨p16, hp16⟩ : ∃ p16, w.heap.size + 1 + 1 + 1 = p16 := ⟨_, rfl⟩
  obtain ⟨p5, hp5⟩ : ∃ p5, w.heap.size + 1 + 1 = p5 := ⟨_, rfl⟩
  obtain ⟨p4, hp4⟩ : ∃ p4, w.heap.size + 1 = p4 := ⟨_, rfl⟩
  obtain ⟨p3, hp3⟩ : ∃ p3, w.heap.size = p3 := ⟨_, rfl⟩
  rw [hp16] at b16
  rw [hp5] at b5
  rw [hp4] at b4
  rw [hp3] at b3
  try simp only [hp16]
  try simp only [hp5]
  try simp only [hp4]
  try simp only [hp3]
  have s3 : w.heap.size ≤ p3 := by omega
  have n3_4 : ¬ p3 = p4 := by omega
  have n4_3 : ¬ p4 = p3 := by omega
  have s4 : w.heap.size ≤ p4 := by omega
  have n3_5 : ¬ p3 = p5 := by omega
  have n5_3 : ¬ p5 = p3 := by omega
  have n4_5 : ¬ p4 = p5 := by omega
  have n5_4 : ¬ p5 = p4 := by omega
  have s5 : w.heap.size ≤ p5 := by omega
  have n3_16 : ¬ p3 = p16 := by omega
  have n16_3 : ¬ p16 = p3 := by omega
  have n4_16 : ¬ p4 = p16 := by omega
  have n16_4 : ¬ p16 = p4 := by omega
  have n5_16 : ¬ p5 = p16 := by omega
  have n16_5 : ¬ p16 = p5 := by omega
  have s16 : w.heap.size ≤ p16 := by omega
  clear  w0
  clear hp3
  clear hp4
  clear hp5
  clear hp16
  clear hW
  refine (RN.out _ _ _ (by simpa using (blk_cells b16).1 0) (by simpa using (blk_cells b16).1 1)).mono ?_
  rintro e w1 ⟨rfl, g1⟩
  obtain ⟨c3, f3, z3⟩ := blk_cells (g1.heap b3)
  obtain ⟨c4, f4, z4⟩ := blk_cells (g1.heap b4)
  obtain ⟨c5, f5, z5⟩ := blk_cells (g1.heap b5)
  obtain ⟨c16, f16, z16⟩ := blk_cells (g1.heap b16)
  have z0 : w.heap.size ≤ w1.heap.size := (Gr.trans G g1).b.size
  go_wp2_with fail
  clear c3 f3 c4 f4 c5 f5 c16 f16
  replace b3 := g1.heap b3
  replace b4 := g1.heap b4
  replace b5 := g1.heap b5
  replace b16 := g1.heap b16
  have G := G.trans g1
  clear z3 z4 z5 z16 z0
  clear g1
  refine (OF.out _ _ _).mono ?_
  rintro e w2 ⟨rfl, g2⟩
  obtain ⟨c3, f3, z3⟩ := blk_cells (g2.heap b3)
  obtain ⟨c4, f4, z4⟩ := blk_cells (g2.heap b4)
  obtain ⟨c5, f5, z5⟩ := blk_cells (g2.heap b5)
  obtain ⟨c16, f16, z16⟩ := blk_cells (g2.heap b16)
  have z0 : w.heap.size ≤ w2.heap.size := (Gr.trans G g2).b.size
  go_wp2_with fail
  clear c3 f3 c4 f4 c5 f5 c16 f16
  replace b3 := g2.heap b3
  replace b4 := g2.heap b4
  replace b5 := g2.heap b5
  replace b16 := g2.heap b16
  have G := G.trans g2
  clear z3 z4 z5 z16 z0
  clear g2
  refine (WX.out _ _ _ b3 b4).mono ?_
  rintro e w3 ⟨rfl, g3⟩
  obtain ⟨c3, f3, z3⟩ := blk_cells (g3.heap b3)
  obtain ⟨c4, f4, z4⟩ := blk_cells (g3.heap b4)
  obtain ⟨c5, f5, z5⟩ := blk_cells (g3.heap b5)
  obtain ⟨c16, f16, z16⟩ := blk_cells (g3.heap b16)
  have z0 : w.heap.size ≤ w3.heap.size := (Gr.trans G g3).b.size
  go_wp2_with fail
  clear c3 f3 c4 f4 c5 f5 c16 f16
  replace b3 := g3.heap b3
  replace b4 := g3.heap b4
  replace b5 := g3.heap b5
  replace b16 := g3.heap b16
  have G := G.trans g3
  clear z3 z4 z5 z16 z0
  clear g3
  refine (OF.out _ _ _).mono ?_
  rintro e w4 ⟨rfl, g4⟩
  obtain ⟨c3, f3, z3⟩ := blk_cells (g4.heap b3)
  obtain ⟨c4, f4, z4⟩ := blk_cells (g4.heap b4)
  obtain ⟨c5, f5, z5⟩ := blk_cells (g4.heap b5)
  obtain ⟨c16, f16, z16⟩ := blk_cells (g4.heap b16)
  have z0 : w.heap.size ≤ w4.heap.size := (Gr.trans G g4).b.size
  go_wp2_with fail
  clear c3 f3 c4 f4 c5 f5 c16 f16
  replace b3 := g4.heap b3
  replace b4 := g4.heap b4
  replace b5 := g4.heap b5
  replace b16 := g4.heap b16
  have G := G.trans g4
  clear z3 z4 z5 z16 z0
  clear g4
  refine (NB.out _).mono ?_
  rintro e w5 ⟨rfl, g5⟩
  obtain ⟨c3, f3, z3⟩ := blk_cells (g5.heap b3)
  obtain ⟨c4, f4, z4⟩ := blk_cells (g5.heap b4)
  obtain ⟨c5, f5, z5⟩ := blk_cells (g5.heap b5)
  obtain ⟨c16, f16, z16⟩ := blk_cells (g5.heap b16)
  have z0 : w.heap.size ≤ w5.heap.size := (Gr.trans G g5).b.size
  go_wp2_with fail
  clear c3 f3 c4 f4 c5 f5 c16 f16
  replace b3 := g5.heap b3
  replace b4 := g5.heap b4
  replace b5 := g5.heap b5
  replace b16 := g5.heap b16
  have G := G.trans g5
  replace b3 := ((Gr.refl _).alloc (.cells #[.int .i64 an, .int .i64 ad] 73)).heap b3
  replace b4 := ((Gr.refl _).alloc (.cells #[.int .i64 an, .int .i64 ad] 73)).heap b4
  replace b5 := ((Gr.refl _).alloc (.cells #[.int .i64 an, .int .i64 ad] 73)).heap b5
  replace b16 := ((Gr.refl _).alloc (.cells #[.int .i64 an, .int .i64 ad] 73)).heap b16
  have b10 := heap_alloc_self w5 (.cells #[.int .i64 an, .int .i64 ad] 73)
  replace G := G.alloc (.cells #[.int .i64 an, .int .i64 ad] 73)
  replace b3 := ((Gr.refl _).alloc (.cells #[.int .i64 bn, .int .i64 bd] 73)).heap b3
  replace b4 := ((Gr.refl _).alloc (.cells #[.int .i64 bn, .int .i64 bd] 73)).heap b4
  replace b5 := ((Gr.refl _).alloc (.cells #[.int .i64 bn, .int .i64 bd] 73)).heap b5
  replace b16 := ((Gr.refl _).alloc (.cells #[.int .i64 bn, .int .i64 bd] 73)).heap b16
  replace b10 := ((Gr.refl _).alloc (.cells #[.int .i64 bn, .int .i64 bd] 73)).heap b10
  have b11 := heap_alloc_self (w5.alloc (.cells #[.int .i64 an, .int .i64 ad] 73)) (.cells #[.int .i64 bn, .int .i64 bd] 73)
  replace G := G.alloc (.cells #[.int .i64 bn, .int .i64 bd] 73)
  generalize hW : ((w5.alloc (.cells #[.int .i64 an, .int .i64 ad] 73)).alloc (.cells #[.int .i64 bn, .int .i64 bd] 73)) = W6 at *
  simp only [World.size_alloc] at b11
  have o3 : p3 < w5.heap.size := z3
  have o4 : p4 < w5.heap.size := z4
  have o5 : p5 < w5.heap.size := z5
  have o16 : p16 < w5.heap.size := z16
  have w0 : w.heap.size ≤ w5.heap.size := z0
  obtain ⟨p11, hp11⟩ : ∃ p11, w5.heap.size + 1 = p11 := ⟨_, rfl⟩
  obtain ⟨p10, hp10⟩ : ∃ p10, w5.heap.size = p10 := ⟨_, rfl⟩
  rw [hp11] at b11
  rw [hp10] at b10
  try simp only [hp11]
  try simp only [hp10]
  have n3_10 : ¬ p3 = p10 := by omega
  have n10_3 : ¬ p10 = p3 := by omega
  have n4_10 : ¬ p4 = p10 := by omega
  have n10_4 : ¬ p10 = p4 := by omega
  have n5_10 : ¬ p5 = p10 := by omega
  have n10_5 : ¬ p10 = p5 := by omega
  have n16_10 : ¬ p16 = p10 := by omega
  have n10_16 : ¬ p10 = p16 := by omega
  have s10 : w.heap.size ≤ p10 := by omega
  have n3_11 : ¬ p3 = p11 := by omega
  have n11_3 : ¬ p11 = p3 := by omega
  have n4_11 : ¬ p4 = p11 := by omega
  have n11_4 : ¬ p11 = p4 := by omega
  have n5_11 : ¬ p5 = p11 := by omega
  have n11_5 : ¬ p11 = p5 := by omega
  have n16_11 : ¬ p16 = p11 := by omega
  have n11_16 : ¬ p11 = p16 := by omega
  have n10_11 : ¬ p10 = p11 := by omega
  have n11_10 : ¬ p11 = p10 := by omega
  have s11 : w.heap.size ≤ p11 := by omega
  clear o3 o4 o5 o16 w0
  clear hp10
  clear hp11
  clear hW
  clear z3 z4 z5 z16 z0
  clear g5
  refine (WA.out _ _ _ b3 b4).mono ?_
  rintro e w6 ⟨rfl, g6⟩
  obtain ⟨c3, f3, z3⟩ := blk_cells (g6.heap b3)
  obtain ⟨c4, f4, z4⟩ := blk_cells (g6.heap b4)
  obtain ⟨c5, f5, z5⟩ := blk_cells (g6.heap b5)
  obtain ⟨c16, f16, z16⟩ := blk_cells (g6.heap b16)
  obtain ⟨c10, f10, z10⟩ := blk_cells (g6.heap b10)
  obtain ⟨c11, f11, z11⟩ := blk_cells (g6.heap b11)
  have z0 : w.heap.size ≤ w6.heap.size := (Gr.trans G g6).b.size
  go_wp2_with fail
  clear c3 f3 c4 f4 c5 f5 c16 f16 c10 f10 c11 f11
  replace b3 := g6.heap b3
  replace b4 := g6.heap b4
  replace b5 := g6.heap b5
  replace b16 := g6.heap b16
  replace b10 := g6.heap b10
  replace b11 := g6.heap b11
  have G := G.trans g6
  clear z3 z4 z5 z16 z10 z11 z0
  clear g6
  obtain ⟨c3, f3, z3⟩ := blk_cells b3
  obtain ⟨c4, f4, z4⟩ := blk_cells b4
  obtain ⟨c5, f5, z5⟩ := blk_cells b5
  obtain ⟨c16, f16, z16⟩ := blk_cells b16
  obtain ⟨c10, f10, z10⟩ := blk_cells b10
  obtain ⟨c11, f11, z11⟩ := blk_cells b11
  exact bodyPost_ret (v := .tuple #[.bool false, .int .i64 0]) (by simp [results, Tryd.results43, go_sem, *]) rfl ⟨rfl, (by repeat (first | exact Gr.refl _ | assumption | refine Gr.alloc ?_ _ | refine Gr.drew ?_ | refine Gr.drewN ?_ _ | refine Gr.set ?_ _ _ (by first | (simp; done) | (simp; omega)) | refine Gr.trans ?_ (by assumption)))⟩
set_option maxRecDepth 100000 in
set_option maxHeartbeats 4000000 in
theorem CheckS_nbB (a b c d n e an ad bn bd : Int) (B : Bool) (w : World) (RN : Hid (∀ s cap w, w.cell? ⟨s, 0, none⟩ = some (.int .i64 n) → w.cell? ⟨s, 1, none⟩ = some (.int .i64 e) → Calls Tryd.prog 101 #[fr a b, fr c d, .slice (some ⟨s, 0, none⟩) 1 cap] w fun r w' => r = .returned (.int .i64 0) ∧ Gr w w')) (WX : Hid (∀ (p1 p2 : Nat) (w : World), w.heap[p1]? = some (.cells #[.int .i64 a, .int .i64 b] 23 (0, 0)) → w.heap[p2]? = some (.cells #[.int .i64 c, .int .i64 d] 23 (0, 0)) → Calls Tryd.prog 106 #[fr n e, .pointer (some ⟨p1, 0, none⟩), .pointer (some ⟨p2, 0, none⟩)] w fun r w' => r = .returned (.bool true) ∧ Gr w w')) (he : 1 < e) (NB : Hid (∀ w, Calls Tryd.prog 74 #[fr n e] w fun r w' => r = .returned (.tuple #[fr an ad, fr bn bd]) ∧ Gr w w')) (WA : Hid (∀ (p1 p2 : Nat) (w : World), w.heap[p1]? = some (.cells #[.int .i64 a, .int .i64 b] 23 (0, 0)) → w.heap[p2]? = some (.cells #[.int .i64 c, .int .i64 d] 23 (0, 0)) → Calls Tryd.prog 106 #[fr an ad, .pointer (some ⟨p1, 0, none⟩), .pointer (some ⟨p2, 0, none⟩)] w fun r w' => r = .returned (.bool false) ∧ Gr w w')) (WB : Hid (∀ (p1 p2 : Nat) (w : World), w.heap[p1]? = some (.cells #[.int .i64 a, .int .i64 b] 23 (0, 0)) → w.heap[p2]? = some (.cells #[.int .i64 c, .int .i64 d] 23 (0, 0)) → Calls Tryd.prog 106 #[fr bn bd, .pointer (some ⟨p1, 0, none⟩), .pointer (some ⟨p2, 0, none⟩)] w fun r w' => r = .returned (.bool B) ∧ Gr w w')) :
    Calls Tryd.prog 43 #[fr a b, fr c d, fr n e] w fun r w' => r = .returned (.tuple #[.bool (!B), .int .i64 0]) ∧ Gr w w' := by
  have hmf : ∀ (fn : Fn) (first cap : Array Value) (w : World), (Instr.makeFunc fn first cap).run Tryd.prog w = .ok (.func fn first cap) w := fun _ _ _ _ => rfl
  have OF := Lib.hid (fun a b w => of_any a b w)
  go_enter Tryd.func43, Tryd.ntmps43
  go_wp2_with fail
  have G := Gr.refl w
  have b3 := heap_alloc_self w (.cells #[.int .i64 a, .int .i64 b] 23)
  replace G := G.alloc (.cells #[.int .i64 a, .int .i64 b] 23)
  replace b3 := ((Gr.refl _).alloc (.cells #[.int .i64 c, .int .i64 d] 23)).heap b3
  have b4 := heap_alloc_self (w.alloc (.cells #[.int .i64 a, .int .i64 b] 23)) (.cells #[.int .i64 c, .int .i64 d] 23)
  replace G := G.alloc (.cells #[.int .i64 c, .int .i64 d] 23)
  replace b3 := ((Gr.refl _).alloc (.cells #[.int .i64 n, .int .i64 e] 23)).heap b3
  replace b4 := ((Gr.refl _).alloc (.cells #[.int .i64 n, .int .i64 e] 23)).heap b4
  have b5 := heap_alloc_self ((w.alloc (.cells #[.int .i64 a, .int .i64 b] 23)).alloc (.cells #[.int .i64 c, .int .i64 d] 23)) (.cells #[.int .i64 n, .int .i64 e] 23)
  replace G := G.alloc (.cells #[.int .i64 n, .int .i64 e] 23)
  replace b3 := ((Gr.refl _).alloc (.cells #[.int .i64 n, .int .i64 e] 23)).heap b3
  replace b4 := ((Gr.refl _).alloc (.cells #[.int .i64 n, .int .i64 e] 23)).heap b4
  replace b5 := ((Gr.refl _).alloc (.cells #[.int .i64 n, .int .i64 e] 23)).heap b5
  have b16 := heap_alloc_self (((w.alloc (.cells #[.int .i64 a, .int .i64 b] 23)).alloc (.cells #[.int .i64 c, .int .i64 d] 23)).alloc (.cells #[.int .i64 n, .int .i64 e] 23)) (.cells #[.int .i64 n, .int .i64 e] 23)
  replace G := G.alloc (.cells #[.int .i64 n, .int .i64 e] 23)
  generalize hW : ((((w.alloc (.cells #[.int .i64 a, .int .i64 b] 23)).alloc (.cells #[.int .i64 c, .int .i64 d] 23)).alloc (.cells #[.int .i64 n, .int .i64 e] 23)).alloc (.cells #[.int .i64 n, .int .i64 e] 23)) = W1 at *
  simp only [World.size_alloc] at b4
  simp only [World.size_alloc] at b5
  simp only [World.size_alloc] at b16
  have w0 : w.heap.size ≤ w.heap.size := Nat.le_refl _
  obtain ⟨p16, hp16⟩ : ∃ p16, w.heap.size + 1 + 1 + 1 = p16 := ⟨_, rfl⟩
  obtain ⟨p5, hp5⟩ : ∃ p5, w.heap.size + 1 + 1 = p5 := ⟨_, rfl⟩
  obtain ⟨p4, hp4⟩ : ∃ p4, w.heap.size + 1 = p4 := ⟨_, rfl⟩
  obtain ⟨p3, hp3⟩ : ∃ p3, w.heap.size = p3 := ⟨_, rfl⟩
  rw [hp16] at b16
  rw [hp5] at b5
  rw [hp4] at b4
  rw [hp3] at b3
  try simp only [hp16]
  try simp only [hp5]
  try simp only [hp4]
  try simp only [hp3]
  have s3 : w.heap.size ≤ p3 := by omega
  have n3_4 : ¬ p3 = p4 := by omega
  have n4_3 : ¬ p4 = p3 := by omega
  have s4 : w.heap.size ≤ p4 := by omega
  have n3_5 : ¬ p3 = p5 := by omega
  have n5_3 : ¬ p5 = p3 := by omega
  have n4_5 : ¬ p4 = p5 := by omega
  have n5_4 : ¬ p5 = p4 := by omega
  have s5 : w.heap.size ≤ p5 := by omega
  have n3_16 : ¬ p3 = p16 := by omega
  have n16_3 : ¬ p16 = p3 := by omega
  have n4_16 : ¬ p4 = p16 := by omega
  have n16_4 : ¬ p16 = p4 := by omega
  have n5_16 : ¬ p5 = p16 := by omega
  have n16_5 : ¬ p16 = p5 := by omega
  have s16 : w.heap.size ≤ p16 := by omega
  clear  w0
  clear hp3
  clear hp4
  clear hp5
  clear hp16
  clear hW
  refine (RN.out _ _ _ (by simpa using (blk_cells b16).1 0) (by simpa using (blk_cells b16).1 1)).mono ?_
  rintro e w1 ⟨rfl, g1⟩
  obtain ⟨c3, f3, z3⟩ := blk_cells (g1.heap b3)
  obtain ⟨c4, f4, z4⟩ := blk_cells (g1.heap b4)
  obtain ⟨c5, f5, z5⟩ := blk_cells (g1.heap b5)
  obtain ⟨c16, f16, z16⟩ := blk_cells (g1.heap b16)
  have z0 : w.heap.size ≤ w1.heap.size := (Gr.trans G g1).b.size
  go_wp2_with fail
  clear c3 f3 c4 f4 c5 f5 c16 f16
  replace b3 := g1.heap b3
  replace b4 := g1.heap b4
  replace b5 := g1.heap b5
  replace b16 := g1.heap b16
  have G := G.trans g1
  clear z3 z4 z5 z16 z0
  clear g1
  refine (OF.out _ _ _).mono ?_
  rintro e w2 ⟨rfl, g2⟩
  obtain ⟨c3, f3, z3⟩ := blk_cells (g2.heap b3)
  obtain ⟨c4, f4, z4⟩ := blk_cells (g2.heap b4)
  obtain ⟨c5, f5, z5⟩ := blk_cells (g2.heap b5)
  obtain ⟨c16, f16, z16⟩ := blk_cells (g2.heap b16)
  have z0 : w.heap.size ≤ w2.heap.size := (Gr.trans G g2).b.size
  go_wp2_with fail
  clear c3 f3 c4 f4 c5 f5 c16 f16
  replace b3 := g2.heap b3
  replace b4 := g2.heap b4
  replace b5 := g2.heap b5
  replace b16 := g2.heap b16
  have G := G.trans g2
  clear z3 z4 z5 z16 z0
  clear g2
  refine (WX.out _ _ _ b3 b4).mono ?_
  rintro e w3 ⟨rfl, g3⟩
  obtain ⟨c3, f3, z3⟩ := blk_cells (g3.heap b3)
  obtain ⟨c4, f4, z4⟩ := blk_cells (g3.heap b4)
  obtain ⟨c5, f5, z5⟩ := blk_cells (g3.heap b5)
  obtain ⟨c16, f16, z16⟩ := blk_cells (g3.heap b16)
  have z0 : w.heap.size ≤ w3.heap.size := (Gr.trans G g3).b.size
  go_wp2_with fail
  clear c3 f3 c4 f4 c5 f5 c16 f16
  replace b3 := g3.heap b3
  replace b4 := g3.heap b4
  replace b5 := g3.heap b5
  replace b16 := g3.heap b16
  have G := G.trans g3
  clear z3 z4 z5 z16 z0
  clear g3
  refine (OF.out _ _ _).mono ?_
  rintro e w4 ⟨rfl, g4⟩
  obtain ⟨c3, f3, z3⟩ := blk_cells (g4.heap b3)
  obtain ⟨c4, f4, z4⟩ := blk_cells (g4.heap b4)
  obtain ⟨c5, f5, z5⟩ := blk_cells (g4.heap b5)
  obtain ⟨c16, f16, z16⟩ := blk_cells (g4.heap b16)
  have z0 : w.heap.size ≤ w4.heap.size := (Gr.trans G g4).b.size
  go_wp2_with fail
  clear c3 f3 c4 f4 c5 f5 c16 f16
  replace b3 := g4.heap b3
  replace b4 := g4.heap b4
  replace b5 := g4.heap b5
  replace b16 := g4.heap b16
  have G := G.trans g4
  clear z3 z4 z5 z16 z0
  clear g4
  refine (NB.out _).mono ?_
  rintro e w5 ⟨rfl, g5⟩
  obtain ⟨c3, f3, z3⟩ := blk_cells (g5.heap b3)
  obtain ⟨c4, f4, z4⟩ := blk_cells (g5.heap b4)
  obtain ⟨c5, f5, z5⟩ := blk_cells (g5.heap b5)
  obtain ⟨c16, f16, z16⟩ := blk_cells (g5.heap b16)
  have z0 : w.heap.size ≤ w5.heap.size := (Gr.trans G g5).b.size
  go_wp2_with fail
  clear c3 f3 c4 f4 c5 f5 c16 f16
  replace b3 := g5.heap b3
  replace b4 := g5.heap b4
  replace b5 := g5.heap b5
  replace b16 := g5.heap b16
  have G := G.trans g5
  replace b3 := ((Gr.refl _).alloc (.cells #[.int .i64 an, .int .i64 ad] 73)).heap b3
  replace b4 := ((Gr.refl _).alloc (.cells #[.int .i64 an, .int .i64 ad] 73)).heap b4
  replace b5 := ((Gr.refl _).alloc (.cells #[.int .i64 an, .int .i64 ad] 73)).heap b5
  replace b16 := ((Gr.refl _).alloc (.cells #[.int .i64 an, .int .i64 ad] 73)).heap b16
  have b10 := heap_alloc_self w5 (.cells #[.int .i64 an, .int .i64 ad] 73)
  replace G := G.alloc (.cells #[.int .i64 an, .int .i64 ad] 73)
  replace b3 := ((Gr.refl _).alloc (.cells #[.int .i64 bn, .int .i64 bd] 73)).heap b3
  replace b4 := ((Gr.refl _).alloc (.cells #[.int .i64 bn, .int .i64 bd] 73)).heap b4
  replace b5 := ((Gr.refl _).alloc (.cells #[.int .i64 bn, .int .i64 bd] 73)).heap b5
  replace b16 := ((Gr.refl _).alloc (.cells #[.int .i64 bn, .int .i64 bd] 73)).heap b16
  replace b10 := ((Gr.refl _).alloc (.cells #[.int .i64 bn, .int .i64 bd] 73)).heap b10
  have b11 := heap_alloc_self (w5.alloc (.cells #[.int .i64 an, .int .i64 ad] 73)) (.cells #[.int .i64 bn, .int .i64 bd] 73)
  replace G := G.alloc (.cells #[.int .i64 bn, .int .i64 bd] 73)
  generalize hW : ((w5.alloc (.cells #[.int .i64 an, .int .i64 ad] 73)).alloc (.cells #[.int .i64 bn, .int .i64 bd] 73)) = W6 at *
  simp only [World.size_alloc] at b11
  have o3 : p3 < w5.heap.size := z3
  have o4 : p4 < w5.heap.size := z4
  have o5 : p5 < w5.heap.size := z5
  have o16 : p16 < w5.heap.size := z16
  have w0 : w.heap.size ≤ w5.heap.size := z0
  obtain ⟨p11, hp11⟩ : ∃ p11, w5.heap.size + 1 = p11 := ⟨_, rfl⟩
  obtain ⟨p10, hp10⟩ : ∃ p10, w5.heap.size = p10 := ⟨_, rfl⟩
  rw [hp11] at b11
  rw [hp10] at b10
  try simp only [hp11]
  try simp only [hp10]
  have n3_10 : ¬ p3 = p10 := by omega
  have n10_3 : ¬ p10 = p3 := by omega
  have n4_10 : ¬ p4 = p10 := by omega
  have n10_4 : ¬ p10 = p4 := by omega
  have n5_10 : ¬ p5 = p10 := by omega
  have n10_5 : ¬ p10 = p5 := by omega
  have n16_10 : ¬ p16 = p10 := by omega
  have n10_16 : ¬ p10 = p16 := by omega
  have s10 : w.heap.size ≤ p10 := by omega
  have n3_11 : ¬ p3 = p11 := by omega
  have n11_3 : ¬ p11 = p3 := by omega
  have n4_11 : ¬ p4 = p11 := by omega
  have n11_4 : ¬ p11 = p4 := by omega
  have n5_11 : ¬ p5 = p11 := by omega
  have n11_5 : ¬ p11 = p5 := by omega
  have n16_11 : ¬ p16 = p11 := by omega
  have n11_16 : ¬ p11 = p16 := by omega
  have n10_11 : ¬ p10 = p11 := by omega
  have n11_10 : ¬ p11 = p10 := by omega
  have s11 : w.heap.size ≤ p11 := by omega
  clear o3 o4 o5 o16 w0
  clear hp10
  clear hp11
  clear hW
  clear z3 z4 z5 z16 z0
  clear g5
  refine (WA.out _ _ _ b3 b4).mono ?_
  rintro e w6 ⟨rfl, g6⟩
  obtain ⟨c3, f3, z3⟩ := blk_cells (g6.heap b3)
  obtain ⟨c4, f4, z4⟩ := blk_cells (g6.heap b4)
  obtain ⟨c5, f5, z5⟩ := blk_cells (g6.heap b5)
  obtain ⟨c16, f16, z16⟩ := blk_cells (g6.heap b16)
  obtain ⟨c10, f10, z10⟩ := blk_cells (g6.heap b10)
  obtain ⟨c11, f11, z11⟩ := blk_cells (g6.heap b11)
  have z0 : w.heap.size ≤ w6.heap.size := (Gr.trans G g6).b.size
  go_wp2_with fail
  clear c3 f3 c4 f4 c5 f5 c16 f16 c10 f10 c11 f11
  replace b3 := g6.heap b3
  replace b4 := g6.heap b4
  replace b5 := g6.heap b5
  replace b16 := g6.heap b16
  replace b10 := g6.heap b10
  replace b11 := g6.heap b11
  have G := G.trans g6
  clear z3 z4 z5 z16 z10 z11 z0
  clear g6
  refine (WB.out _ _ _ b3 b4).mono ?_
  rintro e w7 ⟨rfl, g7⟩
  obtain ⟨c3, f3, z3⟩ := blk_cells (g7.heap b3)
  obtain ⟨c4, f4, z4⟩ := blk_cells (g7.heap b4)
  obtain ⟨c5, f5, z5⟩ := blk_cells (g7.heap b5)
  obtain ⟨c16, f16, z16⟩ := blk_cells (g7.heap b16)
  obtain ⟨c10, f10, z10⟩ := blk_cells (g7.heap b10)
  obtain ⟨c11, f11, z11⟩ := blk_cells (g7.heap b11)
  have z0 : w.heap.size ≤ w7.heap.size := (Gr.trans G g7).b.size
  go_wp2_with fail
  clear c3 f3 c4 f4 c5 f5 c16 f16 c10 f10 c11 f11
  replace b3 := g7.heap b3
  replace b4 := g7.heap b4
  replace b5 := g7.heap b5
  replace b16 := g7.heap b16
  replace b10 := g7.heap b10
  replace b11 := g7.heap b11
  have G := G.trans g7
  clear z3 z4 z5 z16 z10 z11 z0
  clear g7
  obtain ⟨c3, f3, z3⟩ := blk_cells b3
  obtain ⟨c4, f4, z4⟩ := blk_cells b4
  obtain ⟨c5, f5, z5⟩ := blk_cells b5
  obtain ⟨c16, f16, z16⟩ := blk_cells b16
  obtain ⟨c10, f10, z10⟩ := blk_cells b10
  obtain ⟨c11, f11, z11⟩ := blk_cells b11
  exact bodyPost_ret (v := .tuple #[.bool (!B), .int .i64 0]) (by simp [results, Tryd.results43, go_sem, *]) rfl ⟨rfl, (by repeat (first | exact Gr.refl _ | assumption | refine Gr.alloc ?_ _ | refine Gr.drew ?_ | refine Gr.drewN ?_ _ | refine Gr.set ?_ _ _ (by first | (simp; done) | (simp; omega)) | refine Gr.trans ?_ (by assumption)))⟩
set_option maxRecDepth 100000 in
set_option maxHeartbeats 4000000 in
theorem CheckS_one0 (a b c d : Int) (w : World) (RN : Hid (∀ s cap w, w.cell? ⟨s, 0, none⟩ = some (.int .i64 0) → w.cell? ⟨s, 1, none⟩ = some (.int .i64 1) → Calls Tryd.prog 101 #[fr a b, fr c d, .slice (some ⟨s, 0, none⟩) 1 cap] w fun r w' => r = .returned (.int .i64 0) ∧ Gr w w')) (WX : Hid (∀ (p1 p2 : Nat) (w : World), w.heap[p1]? = some (.cells #[.int .i64 a, .int .i64 b] 23 (0, 0)) → w.heap[p2]? = some (.cells #[.int .i64 c, .int .i64 d] 23 (0, 0)) → Calls Tryd.prog 106 #[fr 0 1, .pointer (some ⟨p1, 0, none⟩), .pointer (some ⟨p2, 0, none⟩)] w fun r w' => r = .returned (.bool true) ∧ Gr w w')) :
    Calls Tryd.prog 43 #[fr a b, fr c d, fr 0 1] w fun r w' => r = .returned (.tuple #[.bool true, .int .i64 0]) ∧ Gr w w' := by
  have hmf : ∀ (fn : Fn) (first cap : Array Value) (w : World), (Instr.makeFunc fn first cap).run Tryd.prog w = .ok (.func fn first cap) w := fun _ _ _ _ => rfl
  have OF := Lib.hid (fun a b w => of_any a b w)
  go_enter Tryd.func43, Tryd.ntmps43
  go_wp2_with fail
  have G := Gr.refl w
  have b3 := heap_alloc_self w (.cells #[.int .i64 a, .int .i64 b] 23)
  replace G := G.alloc (.cells #[.int .i64 a, .int .i64 b] 23)
  replace b3 := ((Gr.refl _).alloc (.cells #[.int .i64 c, .int .i64 d] 23)).heap b3
  have b4 := heap_alloc_self (w.alloc (.cells #[.int .i64 a, .int .i64 b] 23)) (.cells #[.int .i64 c, .int .i64 d] 23)
  replace G := G.alloc (.cells #[.int .i64 c, .int .i64 d] 23)
  replace b3 := ((Gr.refl _).alloc (.cells #[.int .i64 0, .int .i64 1] 23)).heap b3
  replace b4 := ((Gr.refl _).alloc (.cells #[.int .i64 0, .int .i64 1] 23)).heap b4
  have b5 := heap_alloc_self ((w.alloc (.cells #[.int .i64 a, .int .i64 b] 23)).alloc (.cells #[.int .i64 c, .int .i64 d] 23)) (.cells #[.int .i64 0, .int .i64 1] 23)
  replace G := G.alloc (.cells #[.int .i64 0, .int .i64 1] 23)
  replace b3 := ((Gr.refl _).alloc (.cells #[.int .i64 0, .int .i64 1] 23)).heap b3
  replace b4 := ((Gr.refl _).alloc (.cells #[.int .i64 0, .int .i64 1] 23)).heap b4
  replace b5 := ((Gr.refl _).alloc (.cells #[.int .i64 0, .int .i64 1] 23)).heap b5
  have b16 := heap_alloc_self (((w.alloc (.cells #[.int .i64 a, .int .i64 b] 23)).alloc (.cells #[.int .i64 c, .int .i64 d] 23)).alloc (.cells #[.int .i64 0, .int .i64 1] 23)) (.cells #[.int .i64 0, .int .i64 1] 23)
  replace G := G.alloc (.cells #[.int .i64 0, .int .i64 1] 23)
  generalize hW : ((((w.alloc (.cells #[.int .i64 a, .int .i64 b] 23)).alloc (.cells #[.int .i64 c, .int .i64 d] 23)).alloc (.cells #[.int .i64 0, .int .i64 1] 23)).alloc (.cells #[.int .i64 0, .int .i64 1] 23)) = W1 at *
  simp only [World.size_alloc] at b4
  simp only [World.size_alloc] at b5
  simp only [World.size_alloc] at b16
  have w0 : w.heap.size ≤ w.heap.size := Nat.le_refl _
  obtain ⟨p16, hp16⟩ : ∃ p16, w.heap.size + 1 + 1 + 1 = p16 := ⟨_, rfl⟩
  obtain ⟨p5, hp5⟩ : ∃ p5, w.heap.size + 1 + 1 = p5 := ⟨_, rfl⟩
  obtain ⟨p4, hp4⟩ : ∃ p4, w.heap.size + 1 = p4 := ⟨_, rfl⟩
  obtain ⟨p3, hp3⟩ : ∃ p3, w.heap.size = p3 := ⟨_, rfl⟩
  rw [hp16] at b16
  rw [hp5] at b5
  rw [hp4] at b4
  rw [hp3] at b3
  try simp only [hp16]
  try simp only [hp5]
  try simp only [hp4]
  try simp only [hp3]
  have s3 : w.heap.size ≤ p3 := by omega
  have n3_4 : ¬ p3 = p4 := by omega
  have n4_3 : ¬ p4 = p3 := by omega
  have s4 : w.heap.size ≤ p4 := by omega
  have n3_5 : ¬ p3 = p5 := by omega
  have n5_3 : ¬ p5 = p3 := by omega
  have n4_5 : ¬ p4 = p5 := by omega
  have n5_4 : ¬ p5 = p4 := by omega
  have s5 : w.heap.size ≤ p5 := by omega
  have n3_16 : ¬ p3 = p16 := by omega
  have n16_3 : ¬ p16 = p3 := by omega
  have n4_16 : ¬ p4 = p16 := by omega
  have n16_4 : ¬ p16 = p4 := by omega
  have n5_16 : ¬ p5 = p16 := by omega
  have n16_5 : ¬ p16 = p5 := by omega
  have s16 : w.heap.size ≤ p16 := by omega
  clear  w0
  clear hp3
  clear hp4
  clear hp5
  clear hp16
  clear hW
  refine (RN.out _ _ _ (by simpa using (blk_cells b16).1 0) (by simpa using (blk_cells b16).1 1)).mono ?_
  rintro e w1 ⟨rfl, g1⟩
  obtain ⟨c3, f3, z3⟩ := blk_cells (g1.heap b3)
  obtain ⟨c4, f4, z4⟩ := blk_cells (g1.heap b4)
  obtain ⟨c5, f5, z5⟩ := blk_cells (g1.heap b5)
  obtain ⟨c16, f16, z16⟩ := blk_cells (g1.heap b16)
  have z0 : w.heap.size ≤ w1.heap.size := (Gr.trans G g1).b.size
  go_wp2_with fail
  clear c3 f3 c4 f4 c5 f5 c16 f16
  replace b3 := g1.heap b3
  replace b4 := g1.heap b4
  replace b5 := g1.heap b5
  replace b16 := g1.heap b16
  have G := G.trans g1
  clear z3 z4 z5 z16 z0
  clear g1
  refine (OF.out _ _ _).mono ?_
  rintro e w2 ⟨rfl, g2⟩
  obtain ⟨c3, f3, z3⟩ := blk_cells (g2.heap b3)
  obtain ⟨c4, f4, z4⟩ := blk_cells (g2.heap b4)
  obtain ⟨c5, f5, z5⟩ := blk_cells (g2.heap b5)
  obtain ⟨c16, f16, z16⟩ := blk_cells (g2.heap b16)
  have z0 : w.heap.size ≤ w2.heap.size := (Gr.trans G g2).b.size
  go_wp2_with fail
  clear c3 f3 c4 f4 c5 f5 c16 f16
  replace b3 := g2.heap b3
  replace b4 := g2.heap b4
  replace b5 := g2.heap b5
  replace b16 := g2.heap b16
  have G := G.trans g2
  clear z3 z4 z5 z16 z0
  clear g2
  refine (WX.out _ _ _ b3 b4).mono ?_
  rintro e w3 ⟨rfl, g3⟩
  obtain ⟨c3, f3, z3⟩ := blk_cells (g3.heap b3)
  obtain ⟨c4, f4, z4⟩ := blk_cells (g3.heap b4)
  obtain ⟨c5, f5, z5⟩ := blk_cells (g3.heap b5)
  obtain ⟨c16, f16, z16⟩ := blk_cells (g3.heap b16)
  have z0 : w.heap.size ≤ w3.heap.size := (Gr.trans G g3).b.size
  go_wp2_with fail
  clear c3 f3 c4 f4 c5 f5 c16 f16
  replace b3 := g3.heap b3
  replace b4 := g3.heap b4
  replace b5 := g3.heap b5
  replace b16 := g3.heap b16
  have G := G.trans g3
  replace b3 := ((Gr.refl _).alloc (.cells #[.int .i64 (-1), .int .i64 1] 73)).heap b3
  replace b4 := ((Gr.refl _).alloc (.cells #[.int .i64 (-1), .int .i64 1] 73)).heap b4
  replace b5 := ((Gr.refl _).alloc (.cells #[.int .i64 (-1), .int .i64 1] 73)).heap b5
  replace b16 := ((Gr.refl _).alloc (.cells #[.int .i64 (-1), .int .i64 1] 73)).heap b16
  have b12 := heap_alloc_self w3 (.cells #[.int .i64 (-1), .int .i64 1] 73)
  replace G := G.alloc (.cells #[.int .i64 (-1), .int .i64 1] 73)
  generalize hW : (w3.alloc (.cells #[.int .i64 (-1), .int .i64 1] 73)) = W4 at *
  have o3 : p3 < w3.heap.size := z3
  have o4 : p4 < w3.heap.size := z4
  have o5 : p5 < w3.heap.size := z5
  have o16 : p16 < w3.heap.size := z16
  have w0 : w.heap.size ≤ w3.heap.size := z0
  obtain ⟨p12, hp12⟩ : ∃ p12, w3.heap.size = p12 := ⟨_, rfl⟩
  rw [hp12] at b12
  try simp only [hp12]
  have n3_12 : ¬ p3 = p12 := by omega
  have n12_3 : ¬ p12 = p3 := by omega
  have n4_12 : ¬ p4 = p12 := by omega
  have n12_4 : ¬ p12 = p4 := by omega
  have n5_12 : ¬ p5 = p12 := by omega
  have n12_5 : ¬ p12 = p5 := by omega
  have n16_12 : ¬ p16 = p12 := by omega
  have n12_16 : ¬ p12 = p16 := by omega
  have s12 : w.heap.size ≤ p12 := by omega
  clear o3 o4 o5 o16 w0
  clear hp12
  clear hW
  clear z3 z4 z5 z16 z0
  clear g3
  obtain ⟨c3, f3, z3⟩ := blk_cells b3
  obtain ⟨c4, f4, z4⟩ := blk_cells b4
  obtain ⟨c5, f5, z5⟩ := blk_cells b5
  obtain ⟨c16, f16, z16⟩ := blk_cells b16
  obtain ⟨c12, f12, z12⟩ := blk_cells b12
  exact bodyPost_ret (v := .tuple #[.bool true, .int .i64 0]) (by simp [results, Tryd.results43, go_sem, *]) rfl ⟨rfl, (by repeat (first | exact Gr.refl _ | assumption | refine Gr.alloc ?_ _ | refine Gr.drew ?_ | refine Gr.drewN ?_ _ | refine Gr.set ?_ _ _ (by first | (simp; done) | (simp; omega)) | refine Gr.trans ?_ (by assumption)))⟩
set_option maxRecDepth 100000 in
set_option maxHeartbeats 4000000 in
theorem CheckS_onep (a b c d n : Int) (B : Bool) (w : World) (RN : Hid (∀ s cap w, w.cell? ⟨s, 0, none⟩ = some (.int .i64 n) → w.cell? ⟨s, 1, none⟩ = some (.int .i64 1) → Calls Tryd.prog 101 #[fr a b, fr c d, .slice (some ⟨s, 0, none⟩) 1 cap] w fun r w' => r = .returned (.int .i64 0) ∧ Gr w w')) (WX : Hid (∀ (p1 p2 : Nat) (w : World), w.heap[p1]? = some (.cells #[.int .i64 a, .int .i64 b] 23 (0, 0)) → w.heap[p2]? = some (.cells #[.int .i64 c, .int .i64 d] 23 (0, 0)) → Calls Tryd.prog 106 #[fr n 1, .pointer (some ⟨p1, 0, none⟩), .pointer (some ⟨p2, 0, none⟩)] w fun r w' => r = .returned (.bool true) ∧ Gr w w')) (h0 : ¬ n = 0) (h1 : ¬ n < 0) (h2 : n ≤ 1000000000) (WN : Hid (∀ (p1 p2 : Nat) (w : World), w.heap[p1]? = some (.cells #[.int .i64 a, .int .i64 b] 23 (0, 0)) → w.heap[p2]? = some (.cells #[.int .i64 c, .int .i64 d] 23 (0, 0)) → Calls Tryd.prog 106 #[fr (n-1) 1, .pointer (some ⟨p1, 0, none⟩), .pointer (some ⟨p2, 0, none⟩)] w fun r w' => r = .returned (.bool B) ∧ Gr w w')) :
    Calls Tryd.prog 43 #[fr a b, fr c d, fr n 1] w fun r w' => r = .returned (.tuple #[.bool (!B), .int .i64 0]) ∧ Gr w w' := by
  have hmf : ∀ (fn : Fn) (first cap : Array Value) (w : World), (Instr.makeFunc fn first cap).run Tryd.prog w = .ok (.func fn first cap) w := fun _ _ _ _ => rfl
  have OF := Lib.hid (fun a b w => of_any a b w)
  go_enter Tryd.func43, Tryd.ntmps43
  go_wp2_with fail
  have G := Gr.refl w
  have b3 := heap_alloc_self w (.cells #[.int .i64 a, .int .i64 b] 23)
  replace G := G.alloc (.cells #[.int .i64 a, .int .i64 b] 23)
  replace b3 := ((Gr.refl _).alloc (.cells #[.int .i64 c, .int .i64 d] 23)).heap b3
  have b4 := heap_alloc_self (w.alloc (.cells #[.int .i64 a, .int .i64 b] 23)) (.cells #[.int .i64 c, .int .i64 d] 23)
  replace G := G.alloc (.cells #[.int .i64 c, .int .i64 d] 23)
  replace b3 := ((Gr.refl _).alloc (.cells #[.int .i64 n, .int .i64 1] 23)).heap b3
  replace b4 := ((Gr.refl _).alloc (.cells #[.int .i64 n, .int .i64 1] 23)).heap b4
  have b5 := heap_alloc_self ((w.alloc (.cells #[.int .i64 a, .int .i64 b] 23)).alloc (.cells #[.int .i64 c, .int .i64 d] 23)) (.cells #[.int .i64 n, .int .i64 1] 23)
  replace G := G.alloc (.cells #[.int .i64 n, .int .i64 1] 23)
  replace b3 := ((Gr.refl _).alloc (.cells #[.int .i64 n, .int .i64 1] 23)).heap b3
  replace b4 := ((Gr.refl _).alloc (.cells #[.int .i64 n, .int .i64 1] 23)).heap b4
  replace b5 := ((Gr.refl _).alloc (.cells #[.int .i64 n, .int .i64 1] 23)).heap b5
  have b16 := heap_alloc_self (((w.alloc (.cells #[.int .i64 a, .int .i64 b] 23)).alloc (.cells #[.int .i64 c, .int .i64 d] 23)).alloc (.cells #[.int .i64 n, .int .i64 1] 23)) (.cells #[.int .i64 n, .int .i64 1] 23)
  replace G := G.alloc (.cells #[.int .i64 n, .int .i64 1] 23)
  generalize hW : ((((w.alloc (.cells #[.int .i64 a, .int .i64 b] 23)).alloc (.cells #[.int .i64 c, .int .i64 d] 23)).alloc (.cells #[.int .i64 n, .int .i64 1] 23)).alloc (.cells #[.int .i64 n, .int .i64 1] 23)) = W1 at *
  simp only [World.size_alloc] at b4
  simp only [World.size_alloc] at b5
  simp only [World.size_alloc] at b16
  have w0 : w.heap.size ≤ w.heap.size := Nat.le_refl _
  obtain ⟨p16, hp16⟩ : ∃ p16, w.heap.size + 1 + 1 + 1 = p16 := ⟨_, rfl⟩
  obtain ⟨p5, hp5⟩ : ∃ p5, w.heap.size + 1 + 1 = p5 := ⟨_, rfl⟩
  obtain ⟨p4, hp4⟩ : ∃ p4, w.heap.size + 1 = p4 := ⟨_, rfl⟩
  obtain ⟨p3, hp3⟩ : ∃ p3, w.heap.size = p3 := ⟨_, rfl⟩
  rw [hp16] at b16
  rw [hp5] at b5
  rw [hp4] at b4
  rw [hp3] at b3
  try simp only [hp16]
  try simp only [hp5]
  try simp only [hp4]
  try simp only [hp3]
  have s3 : w.heap.size ≤ p3 := by omega
  have n3_4 : ¬ p3 = p4 := by omega
  have n4_3 : ¬ p4 = p3 := by omega
  have s4 : w.heap.size ≤ p4 := by omega
  have n3_5 : ¬ p3 = p5 := by omega
  have n5_3 : ¬ p5 = p3 := by omega
  have n4_5 : ¬ p4 = p5 := by omega
  have n5_4 : ¬ p5 = p4 := by omega
  have s5 : w.heap.size ≤ p5 := by omega
  have n3_16 : ¬ p3 = p16 := by omega
  have n16_3 : ¬ p16 = p3 := by omega
  have n4_16 : ¬ p4 = p16 := by omega
  have n16_4 : ¬ p16 = p4 := by omega
  have n5_16 : ¬ p5 = p16 := by omega
  have n16_5 : ¬ p16 = p5 := by omega
  have s16 : w.heap.size ≤ p16 := by omega
  clear  w0
  clear hp3
  clear hp4
  clear hp5
  clear hp16
  clear hW
  refine (RN.out _ _ _ (by simpa using (blk_cells b16).1 0) (by simpa using (blk_cells b16).1 1)).mono ?_
  rintro e w1 ⟨rfl, g1⟩
  obtain ⟨c3, f3, z3⟩ := blk_cells (g1.heap b3)
  obtain ⟨c4, f4, z4⟩ := blk_cells (g1.heap b4)
  obtain ⟨c5, f5, z5⟩ := blk_cells (g1.heap b5)
  obtain ⟨c16, f16, z16⟩ := blk_cells (g1.heap b16)
  have z0 : w.heap.size ≤ w1.heap.size := (Gr.trans G g1).b.size
  go_wp2_with fail
  clear c3 f3 c4 f4 c5 f5 c16 f16
  replace b3 := g1.heap b3
  replace b4 := g1.heap b4
  replace b5 := g1.heap b5
  replace b16 := g1.heap b16
  have G := G.trans g1
  clear z3 z4 z5 z16 z0
  clear g1
  refine (OF.out _ _ _).mono ?_
  rintro e w2 ⟨rfl, g2⟩
  obtain ⟨c3, f3, z3⟩ := blk_cells (g2.heap b3)
  obtain ⟨c4, f4, z4⟩ := blk_cells (g2.heap b4)
  obtain ⟨c5, f5, z5⟩ := blk_cells (g2.heap b5)
  obtain ⟨c16, f16, z16⟩ := blk_cells (g2.heap b16)
  have z0 : w.heap.size ≤ w2.heap.size := (Gr.trans G g2).b.size
  go_wp2_with fail
  clear c3 f3 c4 f4 c5 f5 c16 f16
  replace b3 := g2.heap b3
  replace b4 := g2.heap b4
  replace b5 := g2.heap b5
  replace b16 := g2.heap b16
  have G := G.trans g2
  clear z3 z4 z5 z16 z0
  clear g2
  refine (WX.out _ _ _ b3 b4).mono ?_
  rintro e w3 ⟨rfl, g3⟩
  obtain ⟨c3, f3, z3⟩ := blk_cells (g3.heap b3)
  obtain ⟨c4, f4, z4⟩ := blk_cells (g3.heap b4)
  obtain ⟨c5, f5, z5⟩ := blk_cells (g3.heap b5)
  obtain ⟨c16, f16, z16⟩ := blk_cells (g3.heap b16)
  have z0 : w.heap.size ≤ w3.heap.size := (Gr.trans G g3).b.size
  go_wp2_with fail
  clear c3 f3 c4 f4 c5 f5 c16 f16
  replace b3 := g3.heap b3
  replace b4 := g3.heap b4
  replace b5 := g3.heap b5
  replace b16 := g3.heap b16
  have G := G.trans g3
  replace b3 := ((Gr.refl _).alloc (.cells #[.int .i64 (n-1), .int .i64 1] 73)).heap b3
  replace b4 := ((Gr.refl _).alloc (.cells #[.int .i64 (n-1), .int .i64 1] 73)).heap b4
  replace b5 := ((Gr.refl _).alloc (.cells #[.int .i64 (n-1), .int .i64 1] 73)).heap b5
  replace b16 := ((Gr.refl _).alloc (.cells #[.int .i64 (n-1), .int .i64 1] 73)).heap b16
  have b12 := heap_alloc_self w3 (.cells #[.int .i64 (n-1), .int .i64 1] 73)
  replace G := G.alloc (.cells #[.int .i64 (n-1), .int .i64 1] 73)
  generalize hW : (w3.alloc (.cells #[.int .i64 (n-1), .int .i64 1] 73)) = W4 at *
  have o3 : p3 < w3.heap.size := z3
  have o4 : p4 < w3.heap.size := z4
  have o5 : p5 < w3.heap.size := z5
  have o16 : p16 < w3.heap.size := z16
  have w0 : w.heap.size ≤ w3.heap.size := z0
  obtain ⟨p12, hp12⟩ : ∃ p12, w3.heap.size = p12 := ⟨_, rfl⟩
  rw [hp12] at b12
  try simp only [hp12]
  have n3_12 : ¬ p3 = p12 := by omega
  have n12_3 : ¬ p12 = p3 := by omega
  have n4_12 : ¬ p4 = p12 := by omega
  have n12_4 : ¬ p12 = p4 := by omega
  have n5_12 : ¬ p5 = p12 := by omega
  have n12_5 : ¬ p12 = p5 := by omega
  have n16_12 : ¬ p16 = p12 := by omega
  have n12_16 : ¬ p12 = p16 := by omega
  have s12 : w.heap.size ≤ p12 := by omega
  clear o3 o4 o5 o16 w0
  clear hp12
  clear hW
  clear z3 z4 z5 z16 z0
  clear g3
  refine (WN.out _ _ _ b3 b4).mono ?_
  rintro e w4 ⟨rfl, g4⟩
  obtain ⟨c3, f3, z3⟩ := blk_cells (g4.heap b3)
  obtain ⟨c4, f4, z4⟩ := blk_cells (g4.heap b4)
  obtain ⟨c5, f5, z5⟩ := blk_cells (g4.heap b5)
  obtain ⟨c16, f16, z16⟩ := blk_cells (g4.heap b16)
  obtain ⟨c12, f12, z12⟩ := blk_cells (g4.heap b12)
  have z0 : w.heap.size ≤ w4.heap.size := (Gr.trans G g4).b.size
  go_wp2_with fail
  clear c3 f3 c4 f4 c5 f5 c16 f16 c12 f12
  replace b3 := g4.heap b3
  replace b4 := g4.heap b4
  replace b5 := g4.heap b5
  replace b16 := g4.heap b16
  replace b12 := g4.heap b12
  have G := G.trans g4
  clear z3 z4 z5 z16 z12 z0
  clear g4
  obtain ⟨c3, f3, z3⟩ := blk_cells b3
  obtain ⟨c4, f4, z4⟩ := blk_cells b4
  obtain ⟨c5, f5, z5⟩ := blk_cells b5
  obtain ⟨c16, f16, z16⟩ := blk_cells b16
  obtain ⟨c12, f12, z12⟩ := blk_cells b12
  exact bodyPost_ret (v := .tuple #[.bool (!B), .int .i64 0]) (by simp [results, Tryd.results43, go_sem, *]) rfl ⟨rfl, (by repeat (first | exact Gr.refl _ | assumption | refine Gr.alloc ?_ _ | refine Gr.drew ?_ | refine Gr.drewN ?_ _ | refine Gr.set ?_ _ _ (by first | (simp; done) | (simp; omega)) | refine Gr.trans ?_ (by assumption)))⟩
set_option maxRecDepth 100000 in
set_option maxHeartbeats 4000000 in
theorem CheckS_onen (a b c d n : Int) (B : Bool) (w : World) (RN : Hid (∀ s cap w, w.cell? ⟨s, 0, none⟩ = some (.int .i64 n) → w.cell? ⟨s, 1, none⟩ = some (.int .i64 1) → Calls Tryd.prog 101 #[fr a b, fr c d, .slice (some ⟨s, 0, none⟩) 1 cap] w fun r w' => r = .returned (.int .i64 0) ∧ Gr w w')) (WX : Hid (∀ (p1 p2 : Nat) (w : World), w.heap[p1]? = some (.cells #[.int .i64 a, .int .i64 b] 23 (0, 0)) → w.heap[p2]? = some (.cells #[.int .i64 c, .int .i64 d] 23 (0, 0)) → Calls Tryd.prog 106 #[fr n 1, .pointer (some ⟨p1, 0, none⟩), .pointer (some ⟨p2, 0, none⟩)] w fun r w' => r = .returned (.bool true) ∧ Gr w w')) (h0 : ¬ n = 0) (h1 : n < 0) (h2 : -1000000000 ≤ n) (WN : Hid (∀ (p1 p2 : Nat) (w : World), w.heap[p1]? = some (.cells #[.int .i64 a, .int .i64 b] 23 (0, 0)) → w.heap[p2]? = some (.cells #[.int .i64 c, .int .i64 d] 23 (0, 0)) → Calls Tryd.prog 106 #[fr (n+1) 1, .pointer (some ⟨p1, 0, none⟩), .pointer (some ⟨p2, 0, none⟩)] w fun r w' => r = .returned (.bool B) ∧ Gr w w')) :
    Calls Tryd.prog 43 #[fr a b, fr c d, fr n 1] w fun r w' => r = .returned (.tuple #[.bool (!B), .int .i64 0]) ∧ Gr w w' := by
  have hmf : ∀ (fn : Fn) (first cap : Array Value) (w : World), (Instr.makeFunc fn first cap).run Tryd.prog w = .ok (.func fn first cap) w := fun _ _ _ _ => rfl
  have OF := Lib.hid (fun a b w => of_any a b w)
  go_enter Tryd.func43, Tryd.ntmps43
  go_wp2_with fail
  have G := Gr.refl w
  have b3 := heap_alloc_self w (.cells #[.int .i64 a, .int .i64 b] 23)
  replace G := G.alloc (.cells #[.int .i64 a, .int .i64 b] 23)
  replace b3 := ((Gr.refl _).alloc (.cells #[.int .i64 c, .int .i64 d] 23)).heap b3
  have b4 := heap_alloc_self (w.alloc (.cells #[.int .i64 a, .int .i64 b] 23)) (.cells #[.int .i64 c, .int .i64 d] 23)
  replace G := G.alloc (.cells #[.int .i64 c, .int .i64 d] 23)
  replace b3 := ((Gr.refl _).alloc (.cells #[.int .i64 n, .int .i64 1] 23)).heap b3
  replace b4 := ((Gr.refl _).alloc (.cells #[.int .i64 n, .int .i64 1] 23)).heap b4
  have b5 := heap_alloc_self ((w.alloc (.cells #[.int .i64 a, .int .i64 b] 23)).alloc (.cells #[.int .i64 c, .int .i64 d] 23)) (.cells #[.int .i64 n, .int .i64 1] 23)
  replace G := G.alloc (.cells #[.int .i64 n, .int .i64 1] 23)
  replace b3 := ((Gr.refl _).alloc (.cells #[.int .i64 n, .int .i64 1] 23)).heap b3
  replace b4 := ((Gr.refl _).alloc (.cells #[.int .i64 n, .int .i64 1] 23)).heap b4
  replace b5 := ((Gr.refl _).alloc (.cells #[.int .i64 n, .int .i64 1] 23)).heap b5
  have b16 := heap_alloc_self (((w.alloc (.cells #[.int .i64 a, .int .i64 b] 23)).alloc (.cells #[.int .i64 c, .int .i64 d] 23)).alloc (.cells #[.int .i64 n, .int .i64 1] 23)) (.cells #[.int .i64 n, .int .i64 1] 23)
  replace G := G.alloc (.cells #[.int .i64 n, .int .i64 1] 23)
  generalize hW : ((((w.alloc (.cells #[.int .i64 a, .int .i64 b] 23)).alloc (.cells #[.int .i64 c, .int .i64 d] 23)).alloc (.cells #[.int .i64 n, .int .i64 1] 23)).alloc (.cells #[.int .i64 n, .int .i64 1] 23)) = W1 at *
  simp only [World.size_alloc] at b4
  simp only [World.size_alloc] at b5
  simp only [World.size_alloc] at b16
  have w0 : w.heap.size ≤ w.heap.size := Nat.le_refl _
  obtain ⟨p16, hp16⟩ : ∃ p16, w.heap.size + 1 + 1 + 1 = p16 := ⟨_, rfl⟩
  obtain ⟨p5, hp5⟩ : ∃ p5, w.heap.size + 1 + 1 = p5 := ⟨_, rfl⟩
  obtain ⟨p4, hp4⟩ : ∃ p4, w.heap.size + 1 = p4 := ⟨_, rfl⟩
  obtain ⟨p3, hp3⟩ : ∃ p3, w.heap.size = p3 := ⟨_, rfl⟩
  rw [hp16] at b16
  rw [hp5] at b5
  rw [hp4] at b4
  rw [hp3] at b3
  try simp only [hp16]
  try simp only [hp5]
  try simp only [hp4]
  try simp only [hp3]
  have s3 : w.heap.size ≤ p3 := by omega
  have n3_4 : ¬ p3 = p4 := by omega
  have n4_3 : ¬ p4 = p3 := by omega
  have s4 : w.heap.size ≤ p4 := by omega
  have n3_5 : ¬ p3 = p5 := by omega
  have n5_3 : ¬ p5 = p3 := by omega
  have n4_5 : ¬ p4 = p5 := by omega
  have n5_4 : ¬ p5 = p4 := by omega
  have s5 : w.heap.size ≤ p5 := by omega
  have n3_16 : ¬ p3 = p16 := by omega
  have n16_3 : ¬ p16 = p3 := by omega
  have n4_16 : ¬ p4 = p16 := by omega
  have n16_4 : ¬ p16 = p4 := by omega
  have n5_16 : ¬ p5 = p16 := by omega
  have n16_5 : ¬ p16 = p5 := by omega
  have s16 : w.heap.size ≤ p16 := by omega
  clear  w0
  clear hp3
  clear hp4
  clear hp5
  clear hp16
  clear hW
  refine (RN.out _ _ _ (by simpa using (blk_cells b16).1 0) (by simpa using (blk_cells b16).1 1)).mono ?_
  rintro e w1 ⟨rfl, g1⟩
  obtain ⟨c3, f3, z3⟩ := blk_cells (g1.heap b3)
  obtain ⟨c4, f4, z4⟩ := blk_cells (g1.heap b4)
  obtain ⟨c5, f5, z5⟩ := blk_cells (g1.heap b5)
  obtain ⟨c16, f16, z16⟩ := blk_cells (g1.heap b16)
  have z0 : w.heap.size ≤ w1.heap.size := (Gr.trans G g1).b.size
  go_wp2_with fail
  clear c3 f3 c4 f4 c5 f5 c16 f16
  replace b3 := g1.heap b3
  replace b4 := g1.heap b4
  replace b5 := g1.heap b5
  replace b16 := g1.heap b16
  have G := G.trans g1
  clear z3 z4 z5 z16 z0
  clear g1
  refine (OF.out _ _ _).mono ?_
  rintro e w2 ⟨rfl, g2⟩
  obtain ⟨c3, f3, z3⟩ := blk_cells (g2.heap b3)
  obtain ⟨c4, f4, z4⟩ := blk_cells (g2.heap b4)
  obtain ⟨c5, f5, z5⟩ := blk_cells (g2.heap b5)
  obtain ⟨c16, f16, z16⟩ := blk_cells (g2.heap b16)
  have z0 : w.heap.size ≤ w2.heap.size := (Gr.trans G g2).b.size
  go_wp2_with fail
  clear c3 f3 c4 f4 c5 f5 c16 f16
  replace b3 := g2.heap b3
  replace b4 := g2.heap b4
  replace b5 := g2.heap b5
  replace b16 := g2.heap b16
  have G := G.trans g2
  clear z3 z4 z5 z16 z0
  clear g2
  refine (WX.out _ _ _ b3 b4).mono ?_
  rintro e w3 ⟨rfl, g3⟩
  obtain ⟨c3, f3, z3⟩ := blk_cells (g3.heap b3)
  obtain ⟨c4, f4, z4⟩ := blk_cells (g3.heap b4)
  obtain ⟨c5, f5, z5⟩ := blk_cells (g3.heap b5)
  obtain ⟨c16, f16, z16⟩ := blk_cells (g3.heap b16)
  have z0 : w.heap.size ≤ w3.heap.size := (Gr.trans G g3).b.size
  go_wp2_with fail
  clear c3 f3 c4 f4 c5 f5 c16 f16
  replace b3 := g3.heap b3
  replace b4 := g3.heap b4
  replace b5 := g3.heap b5
  replace b16 := g3.heap b16
  have G := G.trans g3
  replace b3 := ((Gr.refl _).alloc (.cells #[.int .i64 (n+1), .int .i64 1] 73)).heap b3
  replace b4 := ((Gr.refl _).alloc (.cells #[.int .i64 (n+1), .int .i64 1] 73)).heap b4
  replace b5 := ((Gr.refl _).alloc (.cells #[.int .i64 (n+1), .int .i64 1] 73)).heap b5
  replace b16 := ((Gr.refl _).alloc (.cells #[.int .i64 (n+1), .int .i64 1] 73)).heap b16
  have b12 := heap_alloc_self w3 (.cells #[.int .i64 (n+1), .int .i64 1] 73)
  replace G := G.alloc (.cells #[.int .i64 (n+1), .int .i64 1] 73)
  generalize hW : (w3.alloc (.cells #[.int .i64 (n+1), .int .i64 1] 73)) = W4 at *
  have o3 : p3 < w3.heap.size := z3
  have o4 : p4 < w3.heap.size := z4
  have o5 : p5 < w3.heap.size := z5
  have o16 : p16 < w3.heap.size := z16
  have w0 : w.heap.size ≤ w3.heap.size := z0
  obtain ⟨p12, hp12⟩ : ∃ p12, w3.heap.size = p12 := ⟨_, rfl⟩
  rw [hp12] at b12
  try simp only [hp12]
  have n3_12 : ¬ p3 = p12 := by omega
  have n12_3 : ¬ p12 = p3 := by omega
  have n4_12 : ¬ p4 = p12 := by omega
  have n12_4 : ¬ p12 = p4 := by omega
  have n5_12 : ¬ p5 = p12 := by omega
  have n12_5 : ¬ p12 = p5 := by omega
  have n16_12 : ¬ p16 = p12 := by omega
  have n12_16 : ¬ p12 = p16 := by omega
  have s12 : w.heap.size ≤ p12 := by omega
  clear o3 o4 o5 o16 w0
  clear hp12
  clear hW
  clear z3 z4 z5 z16 z0
  clear g3
  refine (WN.out _ _ _ b3 b4).mono ?_
  rintro e w4 ⟨rfl, g4⟩
  obtain ⟨c3, f3, z3⟩ := blk_cells (g4.heap b3)
  obtain ⟨c4, f4, z4⟩ := blk_cells (g4.heap b4)
  obtain ⟨c5, f5, z5⟩ := blk_cells (g4.heap b5)
  obtain ⟨c16, f16, z16⟩ := blk_cells (g4.heap b16)
  obtain ⟨c12, f12, z12⟩ := blk_cells (g4.heap b12)
  have z0 : w.heap.size ≤ w4.heap.size := (Gr.trans G g4).b.size
  go_wp2_with fail
  clear c3 f3 c4 f4 c5 f5 c16 f16 c12 f12
  replace b3 := g4.heap b3
  replace b4 := g4.heap b4
  replace b5 := g4.heap b5
  replace b16 := g4.heap b16
  replace b12 := g4.heap b12
  have G := G.trans g4
  clear z3 z4 z5 z16 z12 z0
  clear g4
  obtain ⟨c3, f3, z3⟩ := blk_cells b3
  obtain ⟨c4, f4, z4⟩ := blk_cells b4
  obtain ⟨c5, f5, z5⟩ := blk_cells b5
  obtain ⟨c16, f16, z16⟩ := blk_cells b16
  obtain ⟨c12, f12, z12⟩ := blk_cells b12
  exact bodyPost_ret (v := .tuple #[.bool (!B), .int .i64 0]) (by simp [results, Tryd.results43, go_sem, *]) rfl ⟨rfl, (by repeat (first | exact Gr.refl _ | assumption | refine Gr.alloc ?_ _ | refine Gr.drew ?_ | refine Gr.drewN ?_ _ | refine Gr.set ?_ _ _ (by first | (simp; done) | (simp; omega)) | refine Gr.trans ?_ (by assumption)))⟩
theorem CheckSimplest_any (a b c d n e : Int) (w : World) :
    Calls Tryd.prog 43 #[fr a b, fr c d, fr n e] w fun r w' => r = .returned (.tuple #[.bool (csB a b c d n e), .int .i64 (csE a b c d n e)]) ∧ Gr w w' := by
  have RN := fun s cap w h0 h1 => ranged_one s cap a b c d n e w h0 h1
  by_cases hE : csE a b c d n e = 0
  · obtain ⟨h1, h2, h3⟩ := csE_zero hE
    obtain ⟨p1, p2, p3, p4, p5⟩ := Rm.okF_iff.1 h2
    have WX := fun p q w b1 b2 => within1_any p q a b c d n e w b1 b2 h1 p1 p2 p3 p4
    rw [hE] at RN ⊢
    cases hi : inR a b c d n e
    · rw [csB_out hE hi]
      rw [hi] at WX
      exact CheckS_out a b c d n e w (Lib.hid RN) (Lib.hid WX)
    · rw [hi] at WX
      by_cases he : 1 < e
      · have K := nb_of_okF h2 (show 2 ≤ e by omega)
        obtain ⟨o1, o2⟩ := K.okF (by omega) h2
        obtain ⟨q1, q2, q3, q4, _⟩ := Rm.okF_iff.1 o1
        obtain ⟨r1, r2, r3, r4, _⟩ := Rm.okF_iff.1 o2
        rw [csB_nb hE hi (by omega) K]
        have NB := fun w => callsIn_wide.1 (neighbours_in 9 n e w h2 (by omega))
        have WA := fun p q w b1 b2 => within1_any p q a b c d (Rm.bkN n e (e-1)) (Rm.bkD n e (e-1)) w b1 b2 h1 q1 q2 q3 q4
        have WB := fun p q w b1 b2 => within1_any p q a b c d (Rm.bhN n e (e-1)) (Rm.bhD n e (e-1)) w b1 b2 h1 r1 r2 r3 r4
        cases ha : inR a b c d (Rm.bkN n e (e-1)) (Rm.bkD n e (e-1))
        · rw [ha] at WA
          rw [Bool.not_false, Bool.true_and]
          exact CheckS_nbB a b c d n e _ _ _ _ _ w (Lib.hid RN) (Lib.hid WX) he (Lib.hid NB) (Lib.hid WA) (Lib.hid WB)
        · rw [ha] at WA
          rw [Bool.not_true, Bool.false_and]
          exact CheckS_nbA a b c d n e _ _ _ _ w (Lib.hid RN) (Lib.hid WX) he (Lib.hid NB) (Lib.hid WA)
      · have e1 : e = 1 := by omega
        subst e1
        rw [csB_one hE hi]
        by_cases h0 : n = 0
        · subst h0
          exact CheckS_one0 a b c d w (Lib.hid RN) (Lib.hid WX)
        · rw [decide_eq_false h0, Bool.false_or]
          by_cases hn : n < 0
          · rw [if_pos hn]
            have WN := fun p q w b1 b2 => within1_any p q a b c d (n+1) 1 w b1 b2 h1 (by omega) (by omega) (by omega) (by omega)
            exact CheckS_onen a b c d n _ w (Lib.hid RN) (Lib.hid WX) h0 hn p1 (Lib.hid WN)
          · rw [if_neg hn]
            have WN := fun p q w b1 b2 => within1_any p q a b c d (n-1) 1 w b1 b2 h1 (by omega) (by omega) (by omega) (by omega)
            exact CheckS_onep a b c d n _ w (Lib.hid RN) (Lib.hid WX) h0 hn p2 (Lib.hid WN)
  · have e2 : csB a b c d n e = false := by unfold csB; rw [decide_eq_false hE, Bool.false_and]
    rw [e2]
    exact CheckS_err a b c d n e _ w (Lib.hid RN) hE
end Go.Proofs.YtconhikflghkdaaDoor
