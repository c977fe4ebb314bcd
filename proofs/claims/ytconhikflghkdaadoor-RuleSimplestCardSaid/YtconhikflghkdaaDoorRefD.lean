/- strickleref01: Simplest, CheckSimplest: the Dens tried one after the other. -/
import Derived.Test.YtconhikflghkdaaDoorRef2
import Derived.Test.YtconhikflghkdaaDoorCheckS
import Derived.Test.YtconhikflghkdaaDoorNeigh
namespace Go.Proofs.YtconhikflghkdaaDoor
open Go.RowKit Go.Shelf
attribute [local go_sem] Oper.semAt_some
set_option maxRecDepth 100000 in
set_option maxHeartbeats 4000000 in
theorem rSimplest_bad (a b c d E : Int) (w : World) (RN : Hid (∀ w, Calls Tryd.prog 103 #[fr a b, fr c d] w fun e w' => e = .returned (.int .i64 E) ∧ Gr w w')) (hE : ¬ E = 0) :
    Calls Tryd.prog 42 #[fr a b, fr c d] w fun e w' => e = .returned (.tuple #[fr 0 0, .int .i64 E]) ∧ Gr w w' := by
  go_enter Tryd.func42, Tryd.ntmps42
  go_wp2_with fail
  have G := Gr.refl w
  have b2 := heap_alloc_self w (.cells #[.int .i64 a, .int .i64 b] 23)
  replace G := G.alloc (.cells #[.int .i64 a, .int .i64 b] 23)
  replace b2 := ((Gr.refl _).alloc (.cells #[.int .i64 c, .int .i64 d] 23)).heap b2
  have b3 := heap_alloc_self (w.alloc (.cells #[.int .i64 a, .int .i64 b] 23)) (.cells #[.int .i64 c, .int .i64 d] 23)
  replace G := G.alloc (.cells #[.int .i64 c, .int .i64 d] 23)
  replace b2 := ((Gr.refl _).alloc (.cells #[.int .i64 0, .int .i64 0] 23)).heap b2
  replace b3 := ((Gr.refl _).alloc (.cells #[.int .i64 0, .int .i64 0] 23)).heap b3
  have b4 := heap_alloc_self ((w.alloc (.cells #[.int .i64 a, .int .i64 b] 23)).alloc (.cells #[.int .i64 c, .int .i64 d] 23)) (.cells #[.int .i64 0, .int .i64 0] 23)
  replace G := G.alloc (.cells #[.int .i64 0, .int .i64 0] 23)
  generalize hW : (((w.alloc (.cells #[.int .i64 a, .int .i64 b] 23)).alloc (.cells #[.int .i64 c, .int .i64 d] 23)).alloc (.cells #[.int .i64 0, .int .i64 0] 23)) = W1 at *
  simp only [World.size_alloc] at b3
  simp only [World.size_alloc] at b4
  have w0 : w.heap.size ≤ w.heap.size := Nat.le_refl _
  obtain ⟨p4, hp4⟩ : ∃ p4, w.heap.size + 1 + 1 = p4 := ⟨_, rfl⟩
  obtain ⟨p3, hp3⟩ : ∃ p3, w.heap.size + 1 = p3 := ⟨_, rfl⟩
  obtain ⟨p2, hp2⟩ : ∃ p2, w.heap.size = p2 := ⟨_, rfl⟩
  rw [hp4] at b4
  rw [hp3] at b3
  rw [hp2] at b2
  try simp only [hp4]
  try simp only [hp3]
  try simp only [hp2]
  have s2 : w.heap.size ≤ p2 := by omega
  have n2_3 : ¬ p2 = p3 := by omega
  have n3_2 : ¬ p3 = p2 := by omega
  have s3 : w.heap.size ≤ p3 := by omega
  have n2_4 : ¬ p2 = p4 := by omega
  have n4_2 : ¬ p4 = p2 := by omega
  have n3_4 : ¬ p3 = p4 := by omega
  have n4_3 : ¬ p4 = p3 := by omega
  have s4 : w.heap.size ≤ p4 := by omega
  clear  w0
  clear hp2
  clear hp3
  clear hp4
  clear hW
  refine (RN.out _).mono ?_
  rintro e w1 ⟨rfl, g1⟩
  obtain ⟨c2, f2, z2⟩ := blk_cells (g1.heap b2)
  obtain ⟨c3, f3, z3⟩ := blk_cells (g1.heap b3)
  obtain ⟨c4, f4, z4⟩ := blk_cells (g1.heap b4)
  have z0 : w.heap.size ≤ w1.heap.size := (Gr.trans G g1).b.size
  go_wp2_with fail
  clear c2 f2 c3 f3 c4 f4
  replace b2 := g1.heap b2
  replace b3 := g1.heap b3
  replace b4 := g1.heap b4
  have G := G.trans g1
  clear z2 z3 z4 z0
  clear g1
  obtain ⟨c2, f2, z2⟩ := blk_cells b2
  obtain ⟨c3, f3, z3⟩ := blk_cells b3
  obtain ⟨c4, f4, z4⟩ := blk_cells b4
  exact bodyPost_ret (v := .tuple #[fr 0 0, .int .i64 E]) (by simp [results, Tryd.results42, go_sem, *]) rfl ⟨rfl, (by repeat (first | exact Gr.refl _ | assumption | refine Gr.alloc ?_ _ | refine Gr.drew ?_ | refine Gr.drewN ?_ _ | refine Gr.set ?_ _ _ (by first | (simp; done) | (simp; omega)) | refine Gr.trans ?_ (by assumption)))⟩
set_option maxRecDepth 100000 in
set_option maxHeartbeats 4000000 in
theorem rSimplest_go (a b c d xn xd : Int) (w : World) (h : ok2 a b c d = true) (hr : rgE a b c d = 0) (P : Rm.PS a b c d xn xd) (hxd : xd ≤ b) :
    Calls Tryd.prog 42 #[fr a b, fr c d] w fun e w' => e = .returned (.tuple #[fr xn xd, .int .i64 0]) ∧ Gr w w' := by
  obtain ⟨⟨x1, x2, x3, x4, _⟩, ⟨y1, y2, y3, y4, _⟩⟩ := ok2_parts h
  have RN := Lib.hid (fun w => rranged_any a b c d w)
  rw [hr] at RN
  have CL := Lib.hid (fun (A : Int) (w : World) (h1 : -4000000000000000000 ≤ A) (h2 : A ≤ 4000000000000000000) => rceil_any A b w x3 h1 h2)
  have FL := Lib.hid (fun (A : Int) (w : World) (h1 : -4000000000000000000 ≤ A) (h2 : A ≤ 4000000000000000000) => rfloor_any A d w y3 h1 h2)
  have UP := Lib.hid (fun k (k1 : 1 ≤ k) (hk : k < xd) => P.upto x3 y3 k1 hk)
  have AT := Lib.hid (P.at x3 y3)
  have xd1 := P.d1
  clear h hr P
  go_enter Tryd.func42, Tryd.ntmps42
  go_wp2_with fail
  have G := Gr.refl w
  have b2 := heap_alloc_self w (.cells #[.int .i64 a, .int .i64 b] 23)
  replace G := G.alloc (.cells #[.int .i64 a, .int .i64 b] 23)
  replace b2 := ((Gr.refl _).alloc (.cells #[.int .i64 c, .int .i64 d] 23)).heap b2
  have b3 := heap_alloc_self (w.alloc (.cells #[.int .i64 a, .int .i64 b] 23)) (.cells #[.int .i64 c, .int .i64 d] 23)
  replace G := G.alloc (.cells #[.int .i64 c, .int .i64 d] 23)
  replace b2 := ((Gr.refl _).alloc (.cells #[.int .i64 0, .int .i64 0] 23)).heap b2
  replace b3 := ((Gr.refl _).alloc (.cells #[.int .i64 0, .int .i64 0] 23)).heap b3
  have b4 := heap_alloc_self ((w.alloc (.cells #[.int .i64 a, .int .i64 b] 23)).alloc (.cells #[.int .i64 c, .int .i64 d] 23)) (.cells #[.int .i64 0, .int .i64 0] 23)
  replace G := G.alloc (.cells #[.int .i64 0, .int .i64 0] 23)
  generalize hW : (((w.alloc (.cells #[.int .i64 a, .int .i64 b] 23)).alloc (.cells #[.int .i64 c, .int .i64 d] 23)).alloc (.cells #[.int .i64 0, .int .i64 0] 23)) = W1 at *
  simp only [World.size_alloc] at b3
  simp only [World.size_alloc] at b4
  have w0 : w.heap.size ≤ w.heap.size := Nat.le_refl _
  obtain ⟨p4, hp4⟩ : ∃ p4, w.heap.size + 1 + 1 = p4 := ⟨_, rfl⟩
  obtain ⟨p3, hp3⟩ : ∃ p3, w.heap.size + 1 = p3 := ⟨_, rfl⟩
  obtain ⟨p2, hp2⟩ : ∃ p2, w.heap.size = p2 := ⟨_, rfl⟩
  rw [hp4] at b4
  rw [hp3] at b3
  rw [hp2] at b2
  try simp only [hp4]
  try simp only [hp3]
  try simp only [hp2]
  have s2 : w.heap.size ≤ p2 := by omega
  have n2_3 : ¬ p2 = p3 := by omega
  have n3_2 : ¬ p3 = p2 := by omega
  have s3 : w.heap.size ≤ p3 := by omega
  have n2_4 : ¬ p2 = p4 := by omega
  have n4_2 : ¬ p4 = p2 := by omega
  have n3_4 : ¬ p3 = p4 := by omega
  have n4_3 : ¬ p4 = p3 := by omega
  have s4 : w.heap.size ≤ p4 := by omega
  clear  w0
  clear hp2
  clear hp3
  clear hp4
  clear hW
  refine (RN.out _).mono ?_
  rintro e w1 ⟨rfl, g1⟩
  obtain ⟨c2, f2, z2⟩ := blk_cells (g1.heap b2)
  obtain ⟨c3, f3, z3⟩ := blk_cells (g1.heap b3)
  obtain ⟨c4, f4, z4⟩ := blk_cells (g1.heap b4)
  have z0 : w.heap.size ≤ w1.heap.size := (Gr.trans G g1).b.size
  go_wp2_with fail
  clear c2 f2 c3 f3 c4 f4
  replace b2 := g1.heap b2
  replace b3 := g1.heap b3
  replace b4 := g1.heap b4
  have G := G.trans g1
  clear z2 z3 z4 z0
  clear g1
  go_loopw [7] (fun i wr => ∃ q : Int, i = .int .i64 q ∧ 1 ≤ q ∧ q ≤ xd ∧ wr.heap[p2]? = some (.cells #[.int .i64 a, .int .i64 b] 23 (0, 0)) ∧ wr.heap[p3]? = some (.cells #[.int .i64 c, .int .i64 d] 23 (0, 0)) ∧ wr.heap[p4]? = some (.cells #[.int .i64 0, .int .i64 0] 23 (0, 0)) ∧ Gr w wr) (fun i _ => (xd + 1 - intOf i).toNat)
  case atStart => exact ⟨1, rfl, by omega, by omega, b2, b3, b4, G⟩
  case round =>
    obtain ⟨q, rfl, q1, q2, r2, r3, r4, G⟩ := hrel
    clear b2 b3 b4 RN
    have b2 := r2
    have b3 := r3
    have b4 := r4
    clear r2 r3 r4
    obtain ⟨n1, n2⟩ := Rm.nd_bound x1 x2 q1 (show q ≤ 1000000 by omega)
    obtain ⟨n3, n4⟩ := Rm.nd_bound y1 y2 q1 (show q ≤ 1000000 by omega)
    have w1 : IntKind.i64.wrap (a*q) = a*q := IntWalk.i64_in _ (by omega)
    have w2 : IntKind.i64.wrap (c*q) = c*q := IntWalk.i64_in _ (by omega)
    have CQ := Lib.hid (fun w => CL.out (a*q) w (by omega) (by omega))
    have FQ := Lib.hid (fun w => FL.out (c*q) w (by omega) (by omega))
    have UQ := UP.out q q1
    have AQ := Lib.hid (fun (e : q = xd) => e ▸ AT.out)
    obtain ⟨C, hC⟩ : ∃ C, Rm.cl (a*q) b = C := ⟨_, rfl⟩
    obtain ⟨K, hK⟩ : ∃ K, Rm.fl (c*q) d = K := ⟨_, rfl⟩
    rw [hC] at CQ
    rw [hK] at FQ
    rw [hC, hK] at UQ
    have HC := Lib.hid (And.intro hC hK)
    clear hC hK CL FL UP AT
    by_cases hq : q < xd
    · have hKC := UQ hq
      clear UQ AQ
      go_upto_region 5 with (fail)
      obtain ⟨c2, f2, z2⟩ := blk_cells b2
      obtain ⟨c3, f3, z3⟩ := blk_cells b3
      obtain ⟨c4, f4, z4⟩ := blk_cells b4
      refine wp_region_plan [.val (.pointer (some ⟨p2, 0, none⟩)), .val (.int .i64 (a)), .val (.int .i64 (q)), .val (.int .i64 (a*q)), .val (.pointer (some ⟨p2, 1, none⟩)), .val (.int .i64 (b)), .val (.int .i64 (C)), .val (.pointer (some ⟨p3, 0, none⟩)), .val (.int .i64 (c)), .val (.int .i64 (q)), .val (.int .i64 (c*q)), .val (.pointer (some ⟨p3, 1, none⟩)), .val (.int .i64 (d)), .val (.int .i64 (K)), .val (.bool (decide (K < C)))] (by kernel_rfl) (by kernel_rfl) (fun G => by first | (simp only [finAct, Act.put, Plan.value, List.setIfInBounds_toArray, List.set_cons_zero, List.set_cons_succ]; rfl) | (simp only [finAct, Act.put, Plan.value, List.setIfInBounds_toArray, List.set_cons_zero, List.set_cons_succ, Nat.zero_add, Nat.reduceAdd]; rfl)) ?_ ?_
      · refine ⟨?_, ?_, ?_, ?_, ?_, ?_, ?_, ?_, ?_, ?_, ?_, ?_, ?_, ?_, ?_, trivial⟩ <;> (first | exact trivial | (intro G; first | (refine ⟨by kernel_rfl, fun u hu => ?_⟩; obtain ⟨hc, hf, hz⟩ := hu.cells; go_simp; first | exact ⟨rfl, Gr.refl _⟩ | skip) | (refine ⟨by kernel_rfl, fun u T z hu hG hj hb => ?_⟩; cases hj; obtain ⟨hbc, hbf, hbz⟩ := blk_cells hb; first | (refine ⟨_, ?_, ((GrL.of_gr (Gr.refl _)).set _ _ (Or.inr (by simp))).set _ _ (Or.inr (by simp)), put_two hb⟩; go_simp; done) | (refine ⟨_, ?_, (GrL.of_gr (Gr.refl _)).set _ _ (Or.inr (by simp)), put_one hb⟩; go_simp; done)) | (refine ⟨by kernel_rfl, fun u => ?_⟩; go_simp; done) | (show _ = false; kernel_rfl)))
        · exact CQ.out _
        · exact FQ.out _
      intro _ U10 hg _ _
      clear c2 f2 z2 c3 f3 z3 c4 f4 z4
      replace b2 := hg.heap b2
      replace b3 := hg.heap b3
      replace b4 := hg.heap b4
      have G := G.trans hg
      clear hg
      obtain ⟨c2, f2, z2⟩ := blk_cells b2
      obtain ⟨c3, f3, z3⟩ := blk_cells b3
      obtain ⟨c4, f4, z4⟩ := blk_cells b4
      go_wp2_with fail
      clear c2 f2 z2 c3 f3 z3 c4 f4 z4
      go_roundw
      case rel => exact ⟨q+1, by go_num, by omega, by omega, b2, b3, b4, G⟩
      case measure => simp [intOf]; omega
    · have e : q = xd := by omega
      have A1 := AQ.out e
      rw [HC.out.1, HC.out.2] at A1
      obtain ⟨A1, A2⟩ := A1
      have hKC : ¬ K < C := by omega
      have HA := Lib.hid (And.intro A2 e)
      clear UQ AQ A1 A2 e HC hq xd1 q2 hxd
      go_upto_region 5 with (fail)
      obtain ⟨c2, f2, z2⟩ := blk_cells b2
      obtain ⟨c3, f3, z3⟩ := blk_cells b3
      obtain ⟨c4, f4, z4⟩ := blk_cells b4
      refine wp_region_plan [.val (.pointer (some ⟨p2, 0, none⟩)), .val (.int .i64 (a)), .val (.int .i64 (q)), .val (.int .i64 (a*q)), .val (.pointer (some ⟨p2, 1, none⟩)), .val (.int .i64 (b)), .val (.int .i64 (C)), .val (.pointer (some ⟨p3, 0, none⟩)), .val (.int .i64 (c)), .val (.int .i64 (q)), .val (.int .i64 (c*q)), .val (.pointer (some ⟨p3, 1, none⟩)), .val (.int .i64 (d)), .val (.int .i64 (K)), .val (.bool (decide (K < C)))] (by kernel_rfl) (by kernel_rfl) (fun G => by first | (simp only [finAct, Act.put, Plan.value, List.setIfInBounds_toArray, List.set_cons_zero, List.set_cons_succ]; rfl) | (simp only [finAct, Act.put, Plan.value, List.setIfInBounds_toArray, List.set_cons_zero, List.set_cons_succ, Nat.zero_add, Nat.reduceAdd]; rfl)) ?_ ?_
      · refine ⟨?_, ?_, ?_, ?_, ?_, ?_, ?_, ?_, ?_, ?_, ?_, ?_, ?_, ?_, ?_, trivial⟩ <;> (first | exact trivial | (intro G; first | (refine ⟨by kernel_rfl, fun u hu => ?_⟩; obtain ⟨hc, hf, hz⟩ := hu.cells; go_simp; first | exact ⟨rfl, Gr.refl _⟩ | skip) | (refine ⟨by kernel_rfl, fun u T z hu hG hj hb => ?_⟩; cases hj; obtain ⟨hbc, hbf, hbz⟩ := blk_cells hb; first | (refine ⟨_, ?_, ((GrL.of_gr (Gr.refl _)).set _ _ (Or.inr (by simp))).set _ _ (Or.inr (by simp)), put_two hb⟩; go_simp; done) | (refine ⟨_, ?_, (GrL.of_gr (Gr.refl _)).set _ _ (Or.inr (by simp)), put_one hb⟩; go_simp; done)) | (refine ⟨by kernel_rfl, fun u => ?_⟩; go_simp; done) | (show _ = false; kernel_rfl)))
        · exact CQ.out _
        · exact FQ.out _
      intro _ U10 hg _ _
      clear c2 f2 z2 c3 f3 z3 c4 f4 z4
      replace b2 := hg.heap b2
      replace b3 := hg.heap b3
      replace b4 := hg.heap b4
      have G := G.trans hg
      clear hg
      obtain ⟨c2, f2, z2⟩ := blk_cells b2
      obtain ⟨c3, f3, z3⟩ := blk_cells b3
      obtain ⟨c4, f4, z4⟩ := blk_cells b4
      go_wp2_with fail
      clear c2 f2 z2 c3 f3 z3 c4 f4 z4
      refine (CQ.out _).mono ?_
      rintro e w11 ⟨rfl, g11⟩
      obtain ⟨c2, f2, z2⟩ := blk_cells (g11.heap b2)
      obtain ⟨c3, f3, z3⟩ := blk_cells (g11.heap b3)
      obtain ⟨c4, f4, z4⟩ := blk_cells (g11.heap b4)
      have z0 : w.heap.size ≤ w11.heap.size := (Gr.trans G g11).b.size
      go_wp2_with fail
      clear c2 f2 c3 f3 c4 f4
      replace b2 := g11.heap b2
      replace b3 := g11.heap b3
      replace b4 := g11.heap b4
      have G := G.trans g11
      clear z2 z3 z4 z0
      clear g11
      refine (FQ.out _).mono ?_
      rintro e w12 ⟨rfl, g12⟩
      obtain ⟨c2, f2, z2⟩ := blk_cells (g12.heap b2)
      obtain ⟨c3, f3, z3⟩ := blk_cells (g12.heap b3)
      obtain ⟨c4, f4, z4⟩ := blk_cells (g12.heap b4)
      have z0 : w.heap.size ≤ w12.heap.size := (Gr.trans G g12).b.size
      go_wp2_with fail
      clear c2 f2 c3 f3 c4 f4
      replace b2 := g12.heap b2
      replace b3 := g12.heap b3
      replace b4 := g12.heap b4
      have G := G.trans g12
      clear z2 z3 z4 z0
      clear g12
      all_goals obtain ⟨c4, f4, z4⟩ := blk_cells b4
      all_goals exact bodyPost_ret (v := .tuple #[fr (max C (min 0 K)) q, .int .i64 0]) (by first | (simp [results, Tryd.results42, go_sem, *]; done) | (simp [results, Tryd.results42, go_sem, *]; omega)) rfl ⟨by rw [HA.out.1, HA.out.2], (by repeat (first | exact Gr.refl _ | assumption | refine Gr.alloc ?_ _ | refine Gr.drew ?_ | refine Gr.drewN ?_ _ | refine Gr.set ?_ _ _ (by first | (simp; done) | (simp; omega)) | refine Gr.trans ?_ (by assumption)))⟩
theorem rSimplest_any (a b c d : Int) (w : World) :
    Calls Tryd.prog 42 #[fr a b, fr c d] w fun e w' => e = .returned (.tuple #[fr (smN a b c d) (smD a b c d), .int .i64 (rgE a b c d)]) ∧ Gr w w' := by
  by_cases h : rgE a b c d = 0
  · have e1 : smN a b c d = (Rm.sim a b c d).1 ∧ smD a b c d = (Rm.sim a b c d).2 := by simp [smN, smD, h]
    obtain ⟨h1, h2⟩ := rgE_zero h
    obtain ⟨⟨x1, x2, x3, x4, x5⟩, ⟨y1, y2, y3, y4, y5⟩⟩ := ok2_parts h1
    have P := Rm.sim_PS x3 y3 x5 y5 h2
    rw [e1.1, e1.2, h]
    exact rSimplest_go a b c d _ _ w h1 h P (P.le_low x3 h2).1
  · have e1 : smN a b c d = 0 ∧ smD a b c d = 0 := by simp [smN, smD, h]
    rw [e1.1, e1.2]
    exact rSimplest_bad a b c d _ w (Lib.hid (fun w => rranged_any a b c d w)) h
set_option maxRecDepth 100000 in
set_option maxHeartbeats 4000000 in
theorem rCheckS_b1 (a b c d n e : Int) (w : World) (BB : Hid (∀ w, Calls Tryd.prog 97 #[fr a b, fr c d] w fun r w' => r = .returned (.int .i64 1) ∧ Gr w w')) :
    Calls Tryd.prog 44 #[fr a b, fr c d, fr n e] w fun e w' => e = .returned (.tuple #[.bool false, .int .i64 1]) ∧ Gr w w' := by
  go_enter Tryd.func44, Tryd.ntmps44
  go_wp2_with fail
  have G := Gr.refl w
  have b3 := heap_alloc_self w (.cells #[.int .i64 a, .int .i64 b] 23)
  replace G := G.alloc (.cells #[.int .i64 a, .int .i64 b] 23)
  replace b3 := ((Gr.refl _).alloc (.cells #[.int .i64 c, .int .i64 d] 23)).heap b3
  have b4 := heap_alloc_self (w.alloc (.cells #[.int .i64 a, .int .i64 b] 23)) (.cells #[.int .i64 c, .int .i64 d] 23)
  replace G := G.alloc (.cells #[.int .i64 c, .int .i64 d] 23)
  replace b3 := ((Gr.refl _).alloc (.cells #[.int .i64 n, .int .i64 e] 23)).heap b3
  replace b4 := ((Gr.refl _).alloc (.cells #[.int .i64 n, .int .i64 e] 23)).heap b4
  have b5 := heap_alloc_self ((w.alloc (.cells #[.int .i64 a, .int .i64 b] 23)).alloc (.cells #[.int .i64 c, .int .i64 d] 23)) (.cells #[.int .i64 n, .int .i64 e] 23)
  replace G := G.alloc (.cells #[.int .i64 n, .int .i64 e] 23)
  generalize hW : (((w.alloc (.cells #[.int .i64 a, .int .i64 b] 23)).alloc (.cells #[.int .i64 c, .int .i64 d] 23)).alloc (.cells #[.int .i64 n, .int .i64 e] 23)) = W1 at *
  simp only [World.size_alloc] at b4
  simp only [World.size_alloc] at b5
  have w0 : w.heap.size ≤ w.heap.size := Nat.le_refl _
  obtain ⟨p5, hp5⟩ : ∃ p5, w.heap.size + 1 + 1 = p5 := ⟨_, rfl⟩
  obtain ⟨p4, hp4⟩ : ∃ p4, w.heap.size + 1 = p4 := ⟨_, rfl⟩
  obtain ⟨p3, hp3⟩ : ∃ p3, w.heap.size = p3 := ⟨_, rfl⟩
  rw [hp5] at b5
  rw [hp4] at b4
  rw [hp3] at b3
  try simp only [hp5]
  try simp only [hp4]
  try simp only [hp3]
  have s3 : w.heap.size ≤ p3 := by omega
  have n3_4 : ¬ p3 = p4 := by omega
  have n4_3 : ¬ p4 = p3 := by omega
  have s4 : w.heap.size ≤ p4 := by omega
  have n3_5 : ¬ p3 = p5 := by omega
  have n5_3 : ¬ p5 = p3 := by omega
  have n4_5 : ¬ p4 = p5 := by omega
  have n5_4 : ¬ p5 = p4 := by omega
  have s5 : w.heap.size ≤ p5 := by omega
  clear  w0
  clear hp3
  clear hp4
  clear hp5
  clear hW
  refine (BB.out _).mono ?_
  rintro e w1 ⟨rfl, g1⟩
  obtain ⟨c3, f3, z3⟩ := blk_cells (g1.heap b3)
  obtain ⟨c4, f4, z4⟩ := blk_cells (g1.heap b4)
  obtain ⟨c5, f5, z5⟩ := blk_cells (g1.heap b5)
  have z0 : w.heap.size ≤ w1.heap.size := (Gr.trans G g1).b.size
  go_wp2_with fail
  clear c3 f3 c4 f4 c5 f5
  replace b3 := g1.heap b3
  replace b4 := g1.heap b4
  replace b5 := g1.heap b5
  have G := G.trans g1
  clear z3 z4 z5 z0
  clear g1
  obtain ⟨c3, f3, z3⟩ := blk_cells b3
  obtain ⟨c4, f4, z4⟩ := blk_cells b4
  obtain ⟨c5, f5, z5⟩ := blk_cells b5
  exact bodyPost_ret (v := .tuple #[.bool false, .int .i64 1]) (by simp [results, Tryd.results44, go_sem, *]) rfl ⟨rfl, (by repeat (first | exact Gr.refl _ | assumption | refine Gr.alloc ?_ _ | refine Gr.drew ?_ | refine Gr.drewN ?_ _ | refine Gr.set ?_ _ _ (by first | (simp; done) | (simp; omega)) | refine Gr.trans ?_ (by assumption)))⟩
set_option maxRecDepth 100000 in
set_option maxHeartbeats 4000000 in
theorem rCheckS_b2 (a b c d n e : Int) (w : World) (BB : Hid (∀ w, Calls Tryd.prog 97 #[fr a b, fr c d] w fun r w' => r = .returned (.int .i64 0) ∧ Gr w w')) (CK : Hid (∀ w, Calls Tryd.prog 52 #[fr n e] w fun r w' => r = .returned (.int .i64 1) ∧ Gr w w')) :
    Calls Tryd.prog 44 #[fr a b, fr c d, fr n e] w fun e w' => e = .returned (.tuple #[.bool false, .int .i64 1]) ∧ Gr w w' := by
  go_enter Tryd.func44, Tryd.ntmps44
  go_wp2_with fail
  have G := Gr.refl w
  have b3 := heap_alloc_self w (.cells #[.int .i64 a, .int .i64 b] 23)
  replace G := G.alloc (.cells #[.int .i64 a, .int .i64 b] 23)
  replace b3 := ((Gr.refl _).alloc (.cells #[.int .i64 c, .int .i64 d] 23)).heap b3
  have b4 := heap_alloc_self (w.alloc (.cells #[.int .i64 a, .int .i64 b] 23)) (.cells #[.int .i64 c, .int .i64 d] 23)
  replace G := G.alloc (.cells #[.int .i64 c, .int .i64 d] 23)
  replace b3 := ((Gr.refl _).alloc (.cells #[.int .i64 n, .int .i64 e] 23)).heap b3
  replace b4 := ((Gr.refl _).alloc (.cells #[.int .i64 n, .int .i64 e] 23)).heap b4
  have b5 := heap_alloc_self ((w.alloc (.cells #[.int .i64 a, .int .i64 b] 23)).alloc (.cells #[.int .i64 c, .int .i64 d] 23)) (.cells #[.int .i64 n, .int .i64 e] 23)
  replace G := G.alloc (.cells #[.int .i64 n, .int .i64 e] 23)
  generalize hW : (((w.alloc (.cells #[.int .i64 a, .int .i64 b] 23)).alloc (.cells #[.int .i64 c, .int .i64 d] 23)).alloc (.cells #[.int .i64 n, .int .i64 e] 23)) = W1 at *
  simp only [World.size_alloc] at b4
  simp only [World.size_alloc] at b5
  have w0 : w.heap.size ≤ w.heap.size := Nat.le_refl _
  obtain ⟨p5, hp5⟩ : ∃ p5, w.heap.size + 1 + 1 = p5 := ⟨_, rfl⟩
  obtain ⟨p4, hp4⟩ : ∃ p4, w.heap.size + 1 = p4 := ⟨_, rfl⟩
  obtain ⟨p3, hp3⟩ : ∃ p3, w.heap.size = p3 := ⟨_, rfl⟩
  rw [hp5] at b5
  rw [hp4] at b4
  rw [hp3] at b3
  try simp only [hp5]
  try simp only [hp4]
  try simp only [hp3]
  have s3 : w.heap.size ≤ p3 := by omega
  have n3_4 : ¬ p3 = p4 := by omega
  have n4_3 : ¬ p4 = p3 := by omega
  have s4 : w.heap.size ≤ p4 := by omega
  have n3_5 : ¬ p3 = p5 := by omega
  have n5_3 : ¬ p5 = p3 := by omega
  have n4_5 : ¬ p4 = p5 := by omega
  have n5_4 : ¬ p5 = p4 := by omega
  have s5 : w.heap.size ≤ p5 := by omega
  clear  w0
  clear hp3
  clear hp4
  clear hp5
  clear hW
  refine (BB.out _).mono ?_
  rintro e w1 ⟨rfl, g1⟩
  obtain ⟨c3, f3, z3⟩ := blk_cells (g1.heap b3)
  obtain ⟨c4, f4, z4⟩ := blk_cells (g1.heap b4)
  obtain ⟨c5, f5, z5⟩ := blk_cells (g1.heap b5)
  have z0 : w.heap.size ≤ w1.heap.size := (Gr.trans G g1).b.size
  go_wp2_with fail
  clear c3 f3 c4 f4 c5 f5
  replace b3 := g1.heap b3
  replace b4 := g1.heap b4
  replace b5 := g1.heap b5
  have G := G.trans g1
  clear z3 z4 z5 z0
  clear g1
  refine (CK.out _).mono ?_
  rintro e w2 ⟨rfl, g2⟩
  obtain ⟨c3, f3, z3⟩ := blk_cells (g2.heap b3)
  obtain ⟨c4, f4, z4⟩ := blk_cells (g2.heap b4)
  obtain ⟨c5, f5, z5⟩ := blk_cells (g2.heap b5)
  have z0 : w.heap.size ≤ w2.heap.size := (Gr.trans G g2).b.size
  go_wp2_with fail
  clear c3 f3 c4 f4 c5 f5
  replace b3 := g2.heap b3
  replace b4 := g2.heap b4
  replace b5 := g2.heap b5
  have G := G.trans g2
  clear z3 z4 z5 z0
  clear g2
  obtain ⟨c3, f3, z3⟩ := blk_cells b3
  obtain ⟨c4, f4, z4⟩ := blk_cells b4
  obtain ⟨c5, f5, z5⟩ := blk_cells b5
  exact bodyPost_ret (v := .tuple #[.bool false, .int .i64 1]) (by simp [results, Tryd.results44, go_sem, *]) rfl ⟨rfl, (by repeat (first | exact Gr.refl _ | assumption | refine Gr.alloc ?_ _ | refine Gr.drew ?_ | refine Gr.drewN ?_ _ | refine Gr.set ?_ _ _ (by first | (simp; done) | (simp; omega)) | refine Gr.trans ?_ (by assumption)))⟩
set_option maxRecDepth 100000 in
set_option maxHeartbeats 4000000 in
theorem rCheckS_b3 (a b c d n e E : Int) (w : World) (BB : Hid (∀ w, Calls Tryd.prog 97 #[fr a b, fr c d] w fun r w' => r = .returned (.int .i64 0) ∧ Gr w w')) (CK : Hid (∀ w, Calls Tryd.prog 52 #[fr n e] w fun r w' => r = .returned (.int .i64 0) ∧ Gr w w')) (SM : Hid (∀ w, Calls Tryd.prog 42 #[fr a b, fr c d] w fun r w' => r = .returned (.tuple #[fr 0 0, .int .i64 E]) ∧ Gr w w')) (hE : ¬ E = 0) :
    Calls Tryd.prog 44 #[fr a b, fr c d, fr n e] w fun e w' => e = .returned (.tuple #[.bool false, .int .i64 E]) ∧ Gr w w' := by
  go_enter Tryd.func44, Tryd.ntmps44
  go_wp2_with fail
  have G := Gr.refl w
  have b3 := heap_alloc_self w (.cells #[.int .i64 a, .int .i64 b] 23)
  replace G := G.alloc (.cells #[.int .i64 a, .int .i64 b] 23)
  replace b3 := ((Gr.refl _).alloc (.cells #[.int .i64 c, .int .i64 d] 23)).heap b3
  have b4 := heap_alloc_self (w.alloc (.cells #[.int .i64 a, .int .i64 b] 23)) (.cells #[.int .i64 c, .int .i64 d] 23)
  replace G := G.alloc (.cells #[.int .i64 c, .int .i64 d] 23)
  replace b3 := ((Gr.refl _).alloc (.cells #[.int .i64 n, .int .i64 e] 23)).heap b3
  replace b4 := ((Gr.refl _).alloc (.cells #[.int .i64 n, .int .i64 e] 23)).heap b4
  have b5 := heap_alloc_self ((w.alloc (.cells #[.int .i64 a, .int .i64 b] 23)).alloc (.cells #[.int .i64 c, .int .i64 d] 23)) (.cells #[.int .i64 n, .int .i64 e] 23)
  replace G := G.alloc (.cells #[.int .i64 n, .int .i64 e] 23)
  generalize hW : (((w.alloc (.cells #[.int .i64 a, .int .i64 b] 23)).alloc (.cells #[.int .i64 c, .int .i64 d] 23)).alloc (.cells #[.int .i64 n, .int .i64 e] 23)) = W1 at *
  simp only [World.size_alloc] at b4
  simp only [World.size_alloc] at b5
  have w0 : w.heap.size ≤ w.heap.size := Nat.le_refl _
  obtain ⟨p5, hp5⟩ : ∃ p5, w.heap.size + 1 + 1 = p5 := ⟨_, rfl⟩
  obtain ⟨p4, hp4⟩ : ∃ p4, w.heap.size + 1 = p4 := ⟨_, rfl⟩
  obtain ⟨p3, hp3⟩ : ∃ p3, w.heap.size = p3 := ⟨_, rfl⟩
  rw [hp5] at b5
  rw [hp4] at b4
  rw [hp3] at b3
  try simp only [hp5]
  try simp only [hp4]
  try simp only [hp3]
  have s3 : w.heap.size ≤ p3 := by omega
  have n3_4 : ¬ p3 = p4 := by omega
  have n4_3 : ¬ p4 = p3 := by omega
  have s4 : w.heap.size ≤ p4 := by omega
  have n3_5 : ¬ p3 = p5 := by omega
  have n5_3 : ¬ p5 = p3 := by omega
  have n4_5 : ¬ p4 = p5 := by omega
  have n5_4 : ¬ p5 = p4 := by omega
  have s5 : w.heap.size ≤ p5 := by omega
  clear  w0
  clear hp3
  clear hp4
  clear hp5
  clear hW
  refine (BB.out _).mono ?_
  rintro e w1 ⟨rfl, g1⟩
  obtain ⟨c3, f3, z3⟩ := blk_cells (g1.heap b3)
  obtain ⟨c4, f4, z4⟩ := blk_cells (g1.heap b4)
  obtain ⟨c5, f5, z5⟩ := blk_cells (g1.heap b5)
  have z0 : w.heap.size ≤ w1.heap.size := (Gr.trans G g1).b.size
  go_wp2_with fail
  clear c3 f3 c4 f4 c5 f5
  replace b3 := g1.heap b3
  replace b4 := g1.heap b4
  replace b5 := g1.heap b5
  have G := G.trans g1
  clear z3 z4 z5 z0
  clear g1
  refine (CK.out _).mono ?_
  rintro e w2 ⟨rfl, g2⟩
  obtain ⟨c3, f3, z3⟩ := blk_cells (g2.heap b3)
  obtain ⟨c4, f4, z4⟩ := blk_cells (g2.heap b4)
  obtain ⟨c5, f5, z5⟩ := blk_cells (g2.heap b5)
  have z0 : w.heap.size ≤ w2.heap.size := (Gr.trans G g2).b.size
  go_wp2_with fail
  clear c3 f3 c4 f4 c5 f5
  replace b3 := g2.heap b3
  replace b4 := g2.heap b4
  replace b5 := g2.heap b5
  have G := G.trans g2
  clear z3 z4 z5 z0
  clear g2
  refine (SM.out _).mono ?_
  rintro e w3 ⟨rfl, g3⟩
  obtain ⟨c3, f3, z3⟩ := blk_cells (g3.heap b3)
  obtain ⟨c4, f4, z4⟩ := blk_cells (g3.heap b4)
  obtain ⟨c5, f5, z5⟩ := blk_cells (g3.heap b5)
  have z0 : w.heap.size ≤ w3.heap.size := (Gr.trans G g3).b.size
  go_wp2_with fail
  clear c3 f3 c4 f4 c5 f5
  replace b3 := g3.heap b3
  replace b4 := g3.heap b4
  replace b5 := g3.heap b5
  have G := G.trans g3
  replace b3 := ((Gr.refl _).alloc (.cells #[.int .i64 0, .int .i64 0] 23)).heap b3
  replace b4 := ((Gr.refl _).alloc (.cells #[.int .i64 0, .int .i64 0] 23)).heap b4
  replace b5 := ((Gr.refl _).alloc (.cells #[.int .i64 0, .int .i64 0] 23)).heap b5
  have b9 := heap_alloc_self w3 (.cells #[.int .i64 0, .int .i64 0] 23)
  replace G := G.alloc (.cells #[.int .i64 0, .int .i64 0] 23)
  generalize hW : (w3.alloc (.cells #[.int .i64 0, .int .i64 0] 23)) = W4 at *
  have o3 : p3 < w3.heap.size := z3
  have o4 : p4 < w3.heap.size := z4
  have o5 : p5 < w3.heap.size := z5
  have w0 : w.heap.size ≤ w3.heap.size := z0
  obtain ⟨p9, hp9⟩ : ∃ p9, w3.heap.size = p9 := ⟨_, rfl⟩
  rw [hp9] at b9
  try simp only [hp9]
  have n3_9 : ¬ p3 = p9 := by omega
  have n9_3 : ¬ p9 = p3 := by omega
  have n4_9 : ¬ p4 = p9 := by omega
  have n9_4 : ¬ p9 = p4 := by omega
  have n5_9 : ¬ p5 = p9 := by omega
  have n9_5 : ¬ p9 = p5 := by omega
  have s9 : w.heap.size ≤ p9 := by omega
  clear o3 o4 o5 w0
  clear hp9
  clear hW
  clear z3 z4 z5 z0
  clear g3
  obtain ⟨c3, f3, z3⟩ := blk_cells b3
  obtain ⟨c4, f4, z4⟩ := blk_cells b4
  obtain ⟨c5, f5, z5⟩ := blk_cells b5
  obtain ⟨c9, f9, z9⟩ := blk_cells b9
  exact bodyPost_ret (v := .tuple #[.bool false, .int .i64 E]) (by simp [results, Tryd.results44, go_sem, *]) rfl ⟨rfl, (by repeat (first | exact Gr.refl _ | assumption | refine Gr.alloc ?_ _ | refine Gr.drew ?_ | refine Gr.drewN ?_ _ | refine Gr.set ?_ _ _ (by first | (simp; done) | (simp; omega)) | refine Gr.trans ?_ (by assumption)))⟩
set_option maxRecDepth 100000 in
set_option maxHeartbeats 4000000 in
theorem rCheckS_neN (a b c d n e N D : Int) (w : World) (BB : Hid (∀ w, Calls Tryd.prog 97 #[fr a b, fr c d] w fun r w' => r = .returned (.int .i64 0) ∧ Gr w w')) (CK : Hid (∀ w, Calls Tryd.prog 52 #[fr n e] w fun r w' => r = .returned (.int .i64 0) ∧ Gr w w')) (SM : Hid (∀ w, Calls Tryd.prog 42 #[fr a b, fr c d] w fun r w' => r = .returned (.tuple #[fr N D, .int .i64 0]) ∧ Gr w w')) (hN : ¬ n = N) :
    Calls Tryd.prog 44 #[fr a b, fr c d, fr n e] w fun e w' => e = .returned (.tuple #[.bool false, .int .i64 0]) ∧ Gr w w' := by
  go_enter Tryd.func44, Tryd.ntmps44
  go_wp2_with fail
  have G := Gr.refl w
  have b3 := heap_alloc_self w (.cells #[.int .i64 a, .int .i64 b] 23)
  replace G := G.alloc (.cells #[.int .i64 a, .int .i64 b] 23)
  replace b3 := ((Gr.refl _).alloc (.cells #[.int .i64 c, .int .i64 d] 23)).heap b3
  have b4 := heap_alloc_self (w.alloc (.cells #[.int .i64 a, .int .i64 b] 23)) (.cells #[.int .i64 c, .int .i64 d] 23)
  replace G := G.alloc (.cells #[.int .i64 c, .int .i64 d] 23)
  replace b3 := ((Gr.refl _).alloc (.cells #[.int .i64 n, .int .i64 e] 23)).heap b3
  replace b4 := ((Gr.refl _).alloc (.cells #[.int .i64 n, .int .i64 e] 23)).heap b4
  have b5 := heap_alloc_self ((w.alloc (.cells #[.int .i64 a, .int .i64 b] 23)).alloc (.cells #[.int .i64 c, .int .i64 d] 23)) (.cells #[.int .i64 n, .int .i64 e] 23)
  replace G := G.alloc (.cells #[.int .i64 n, .int .i64 e] 23)
  generalize hW : (((w.alloc (.cells #[.int .i64 a, .int .i64 b] 23)).alloc (.cells #[.int .i64 c, .int .i64 d] 23)).alloc (.cells #[.int .i64 n, .int .i64 e] 23)) = W1 at *
  simp only [World.size_alloc] at b4
  simp only [World.size_alloc] at b5
  have w0 : w.heap.size ≤ w.heap.size := Nat.le_refl _
  obtain ⟨p5, hp5⟩ : ∃ p5, w.heap.size + 1 + 1 = p5 := ⟨_, rfl⟩
  obtain ⟨p4, hp4⟩ : ∃ p4, w.heap.size + 1 = p4 := ⟨_, rfl⟩
  obtain ⟨p3, hp3⟩ : ∃ p3, w.heap.size = p3 := ⟨_, rfl⟩
  rw [hp5] at b5
  rw [hp4] at b4
  rw [hp3] at b3
  try simp only [hp5]
  try simp only [hp4]
  try simp only [hp3]
  have s3 : w.heap.size ≤ p3 := by omega
  have n3_4 : ¬ p3 = p4 := by omega
  have n4_3 : ¬ p4 = p3 := by omega
  have s4 : w.heap.size ≤ p4 := by omega
  have n3_5 : ¬ p3 = p5 := by omega
  have n5_3 : ¬ p5 = p3 := by omega
  have n4_5 : ¬ p4 = p5 := by omega
  have n5_4 : ¬ p5 = p4 := by omega
  have s5 : w.heap.size ≤ p5 := by omega
  clear  w0
  clear hp3
  clear hp4
  clear hp5
  clear hW
  refine (BB.out _).mono ?_
  rintro e w1 ⟨rfl, g1⟩
  obtain ⟨c3, f3, z3⟩ := blk_cells (g1.heap b3)
  obtain ⟨c4, f4, z4⟩ := blk_cells (g1.heap b4)
  obtain ⟨c5, f5, z5⟩ := blk_cells (g1.heap b5)
  have z0 : w.heap.size ≤ w1.heap.size := (Gr.trans G g1).b.size
  go_wp2_with fail
  clear c3 f3 c4 f4 c5 f5
  replace b3 := g1.heap b3
  replace b4 := g1.heap b4
  replace b5 := g1.heap b5
  have G := G.trans g1
  clear z3 z4 z5 z0
  clear g1
  refine (CK.out _).mono ?_
  rintro e w2 ⟨rfl, g2⟩
  obtain ⟨c3, f3, z3⟩ := blk_cells (g2.heap b3)
  obtain ⟨c4, f4, z4⟩ := blk_cells (g2.heap b4)
  obtain ⟨c5, f5, z5⟩ := blk_cells (g2.heap b5)
  have z0 : w.heap.size ≤ w2.heap.size := (Gr.trans G g2).b.size
  go_wp2_with fail
  clear c3 f3 c4 f4 c5 f5
  replace b3 := g2.heap b3
  replace b4 := g2.heap b4
  replace b5 := g2.heap b5
  have G := G.trans g2
  clear z3 z4 z5 z0
  clear g2
  refine (SM.out _).mono ?_
  rintro e w3 ⟨rfl, g3⟩
  obtain ⟨c3, f3, z3⟩ := blk_cells (g3.heap b3)
  obtain ⟨c4, f4, z4⟩ := blk_cells (g3.heap b4)
  obtain ⟨c5, f5, z5⟩ := blk_cells (g3.heap b5)
  have z0 : w.heap.size ≤ w3.heap.size := (Gr.trans G g3).b.size
  go_wp2_with fail
  clear c3 f3 c4 f4 c5 f5
  replace b3 := g3.heap b3
  replace b4 := g3.heap b4
  replace b5 := g3.heap b5
  have G := G.trans g3
  replace b3 := ((Gr.refl _).alloc (.cells #[.int .i64 N, .int .i64 D] 23)).heap b3
  replace b4 := ((Gr.refl _).alloc (.cells #[.int .i64 N, .int .i64 D] 23)).heap b4
  replace b5 := ((Gr.refl _).alloc (.cells #[.int .i64 N, .int .i64 D] 23)).heap b5
  have b9 := heap_alloc_self w3 (.cells #[.int .i64 N, .int .i64 D] 23)
  replace G := G.alloc (.cells #[.int .i64 N, .int .i64 D] 23)
  generalize hW : (w3.alloc (.cells #[.int .i64 N, .int .i64 D] 23)) = W4 at *
  have o3 : p3 < w3.heap.size := z3
  have o4 : p4 < w3.heap.size := z4
  have o5 : p5 < w3.heap.size := z5
  have w0 : w.heap.size ≤ w3.heap.size := z0
  obtain ⟨p9, hp9⟩ : ∃ p9, w3.heap.size = p9 := ⟨_, rfl⟩
  rw [hp9] at b9
  try simp only [hp9]
  have n3_9 : ¬ p3 = p9 := by omega
  have n9_3 : ¬ p9 = p3 := by omega
  have n4_9 : ¬ p4 = p9 := by omega
  have n9_4 : ¬ p9 = p4 := by omega
  have n5_9 : ¬ p5 = p9 := by omega
  have n9_5 : ¬ p9 = p5 := by omega
  have s9 : w.heap.size ≤ p9 := by omega
  clear o3 o4 o5 w0
  clear hp9
  clear hW
  clear z3 z4 z5 z0
  clear g3
  obtain ⟨c3, f3, z3⟩ := blk_cells b3
  obtain ⟨c4, f4, z4⟩ := blk_cells b4
  obtain ⟨c5, f5, z5⟩ := blk_cells b5
  obtain ⟨c9, f9, z9⟩ := blk_cells b9
  exact bodyPost_ret (v := .tuple #[.bool false, .int .i64 0]) (by simp [results, Tryd.results44, go_sem, *]) rfl ⟨rfl, (by repeat (first | exact Gr.refl _ | assumption | refine Gr.alloc ?_ _ | refine Gr.drew ?_ | refine Gr.drewN ?_ _ | refine Gr.set ?_ _ _ (by first | (simp; done) | (simp; omega)) | refine Gr.trans ?_ (by assumption)))⟩
set_option maxRecDepth 100000 in
set_option maxHeartbeats 4000000 in
theorem rCheckS_neD (a b c d n e D : Int) (w : World) (BB : Hid (∀ w, Calls Tryd.prog 97 #[fr a b, fr c d] w fun r w' => r = .returned (.int .i64 0) ∧ Gr w w')) (CK : Hid (∀ w, Calls Tryd.prog 52 #[fr n e] w fun r w' => r = .returned (.int .i64 0) ∧ Gr w w')) (SM : Hid (∀ w, Calls Tryd.prog 42 #[fr a b, fr c d] w fun r w' => r = .returned (.tuple #[fr n D, .int .i64 0]) ∧ Gr w w')) (hD : ¬ e = D) :
    Calls Tryd.prog 44 #[fr a b, fr c d, fr n e] w fun e w' => e = .returned (.tuple #[.bool false, .int .i64 0]) ∧ Gr w w' := by
  go_enter Tryd.func44, Tryd.ntmps44
  go_wp2_with fail
  have G := Gr.refl w
  have b3 := heap_alloc_self w (.cells #[.int .i64 a, .int .i64 b] 23)
  replace G := G.alloc (.cells #[.int .i64 a, .int .i64 b] 23)
  replace b3 := ((Gr.refl _).alloc (.cells #[.int .i64 c, .int .i64 d] 23)).heap b3
  have b4 := heap_alloc_self (w.alloc (.cells #[.int .i64 a, .int .i64 b] 23)) (.cells #[.int .i64 c, .int .i64 d] 23)
  replace G := G.alloc (.cells #[.int .i64 c, .int .i64 d] 23)
  replace b3 := ((Gr.refl _).alloc (.cells #[.int .i64 n, .int .i64 e] 23)).heap b3
  replace b4 := ((Gr.refl _).alloc (.cells #[.int .i64 n, .int .i64 e] 23)).heap b4
  have b5 := heap_alloc_self ((w.alloc (.cells #[.int .i64 a, .int .i64 b] 23)).alloc (.cells #[.int .i64 c, .int .i64 d] 23)) (.cells #[.int .i64 n, .int .i64 e] 23)
  replace G := G.alloc (.cells #[.int .i64 n, .int .i64 e] 23)
  generalize hW : (((w.alloc (.cells #[.int .i64 a, .int .i64 b] 23)).alloc (.cells #[.int .i64 c, .int .i64 d] 23)).alloc (.cells #[.int .i64 n, .int .i64 e] 23)) = W1 at *
  simp only [World.size_alloc] at b4
  simp only [World.size_alloc] at b5
  have w0 : w.heap.size ≤ w.heap.size := Nat.le_refl _
  obtain ⟨p5, hp5⟩ : ∃ p5, w.heap.size + 1 + 1 = p5 := ⟨_, rfl⟩
  obtain ⟨p4, hp4⟩ : ∃ p4, w.heap.size + 1 = p4 := ⟨_, rfl⟩
  obtain ⟨p3, hp3⟩ : ∃ p3, w.heap.size = p3 := ⟨_, rfl⟩
  rw [hp5] at b5
  rw [hp4] at b4
  rw [hp3] at b3
  try simp only [hp5]
  try simp only [hp4]
  try simp only [hp3]
  have s3 : w.heap.size ≤ p3 := by omega
  have n3_4 : ¬ p3 = p4 := by omega
  have n4_3 : ¬ p4 = p3 := by omega
  have s4 : w.heap.size ≤ p4 := by omega
  have n3_5 : ¬ p3 = p5 := by omega
  have n5_3 : ¬ p5 = p3 := by omega
  have n4_5 : ¬ p4 = p5 := by omega
  have n5_4 : ¬ p5 = p4 := by omega
  have s5 : w.heap.size ≤ p5 := by omega
  clear  w0
  clear hp3
  clear hp4
  clear hp5
  clear hW
  refine (BB.out _).mono ?_
  rintro e w1 ⟨rfl, g1⟩
  obtain ⟨c3, f3, z3⟩ := blk_cells (g1.heap b3)
  obtain ⟨c4, f4, z4⟩ := blk_cells (g1.heap b4)
  obtain ⟨c5, f5, z5⟩ := blk_cells (g1.heap b5)
  have z0 : w.heap.size ≤ w1.heap.size := (Gr.trans G g1).b.size
  go_wp2_with fail
  clear c3 f3 c4 f4 c5 f5
  replace b3 := g1.heap b3
  replace b4 := g1.heap b4
  replace b5 := g1.heap b5
  have G := G.trans g1
  clear z3 z4 z5 z0
  clear g1
  refine (CK.out _).mono ?_
  rintro e w2 ⟨rfl, g2⟩
  obtain ⟨c3, f3, z3⟩ := blk_cells (g2.heap b3)
  obtain ⟨c4, f4, z4⟩ := blk_cells (g2.heap b4)
  obtain ⟨c5, f5, z5⟩ := blk_cells (g2.heap b5)
  have z0 : w.heap.size ≤ w2.heap.size := (Gr.trans G g2).b.size
  go_wp2_with fail
  clear c3 f3 c4 f4 c5 f5
  replace b3 := g2.heap b3
  replace b4 := g2.heap b4
  replace b5 := g2.heap b5
  have G := G.trans g2
  clear z3 z4 z5 z0
  clear g2
  refine (SM.out _).mono ?_
  rintro e w3 ⟨rfl, g3⟩
  obtain ⟨c3, f3, z3⟩ := blk_cells (g3.heap b3)
  obtain ⟨c4, f4, z4⟩ := blk_cells (g3.heap b4)
  obtain ⟨c5, f5, z5⟩ := blk_cells (g3.heap b5)
  have z0 : w.heap.size ≤ w3.heap.size := (Gr.trans G g3).b.size
  go_wp2_with fail
  clear c3 f3 c4 f4 c5 f5
  replace b3 := g3.heap b3
  replace b4 := g3.heap b4
  replace b5 := g3.heap b5
  have G := G.trans g3
  replace b3 := ((Gr.refl _).alloc (.cells #[.int .i64 n, .int .i64 D] 23)).heap b3
  replace b4 := ((Gr.refl _).alloc (.cells #[.int .i64 n, .int .i64 D] 23)).heap b4
  replace b5 := ((Gr.refl _).alloc (.cells #[.int .i64 n, .int .i64 D] 23)).heap b5
  have b9 := heap_alloc_self w3 (.cells #[.int .i64 n, .int .i64 D] 23)
  replace G := G.alloc (.cells #[.int .i64 n, .int .i64 D] 23)
  generalize hW : (w3.alloc (.cells #[.int .i64 n, .int .i64 D] 23)) = W4 at *
  have o3 : p3 < w3.heap.size := z3
  have o4 : p4 < w3.heap.size := z4
  have o5 : p5 < w3.heap.size := z5
  have w0 : w.heap.size ≤ w3.heap.size := z0
  obtain ⟨p9, hp9⟩ : ∃ p9, w3.heap.size = p9 := ⟨_, rfl⟩
  rw [hp9] at b9
  try simp only [hp9]
  have n3_9 : ¬ p3 = p9 := by omega
  have n9_3 : ¬ p9 = p3 := by omega
  have n4_9 : ¬ p4 = p9 := by omega
  have n9_4 : ¬ p9 = p4 := by omega
  have n5_9 : ¬ p5 = p9 := by omega
  have n9_5 : ¬ p9 = p5 := by omega
  have s9 : w.heap.size ≤ p9 := by omega
  clear o3 o4 o5 w0
  clear hp9
  clear hW
  clear z3 z4 z5 z0
  clear g3
  obtain ⟨c3, f3, z3⟩ := blk_cells b3
  obtain ⟨c4, f4, z4⟩ := blk_cells b4
  obtain ⟨c5, f5, z5⟩ := blk_cells b5
  obtain ⟨c9, f9, z9⟩ := blk_cells b9
  exact bodyPost_ret (v := .tuple #[.bool false, .int .i64 0]) (by simp [results, Tryd.results44, go_sem, *]) rfl ⟨rfl, (by repeat (first | exact Gr.refl _ | assumption | refine Gr.alloc ?_ _ | refine Gr.drew ?_ | refine Gr.drewN ?_ _ | refine Gr.set ?_ _ _ (by first | (simp; done) | (simp; omega)) | refine Gr.trans ?_ (by assumption)))⟩
set_option maxRecDepth 100000 in
set_option maxHeartbeats 4000000 in
theorem rCheckS_eq (a b c d n e : Int) (w : World) (BB : Hid (∀ w, Calls Tryd.prog 97 #[fr a b, fr c d] w fun r w' => r = .returned (.int .i64 0) ∧ Gr w w')) (CK : Hid (∀ w, Calls Tryd.prog 52 #[fr n e] w fun r w' => r = .returned (.int .i64 0) ∧ Gr w w')) (SM : Hid (∀ w, Calls Tryd.prog 42 #[fr a b, fr c d] w fun r w' => r = .returned (.tuple #[fr n e, .int .i64 0]) ∧ Gr w w')) :
    Calls Tryd.prog 44 #[fr a b, fr c d, fr n e] w fun e w' => e = .returned (.tuple #[.bool true, .int .i64 0]) ∧ Gr w w' := by
  go_enter Tryd.func44, Tryd.ntmps44
  go_wp2_with fail
  have G := Gr.refl w
  have b3 := heap_alloc_self w (.cells #[.int .i64 a, .int .i64 b] 23)
  replace G := G.alloc (.cells #[.int .i64 a, .int .i64 b] 23)
  replace b3 := ((Gr.refl _).alloc (.cells #[.int .i64 c, .int .i64 d] 23)).heap b3
  have b4 := heap_alloc_self (w.alloc (.cells #[.int .i64 a, .int .i64 b] 23)) (.cells #[.int .i64 c, .int .i64 d] 23)
  replace G := G.alloc (.cells #[.int .i64 c, .int .i64 d] 23)
  replace b3 := ((Gr.refl _).alloc (.cells #[.int .i64 n, .int .i64 e] 23)).heap b3
  replace b4 := ((Gr.refl _).alloc (.cells #[.int .i64 n, .int .i64 e] 23)).heap b4
  have b5 := heap_alloc_self ((w.alloc (.cells #[.int .i64 a, .int .i64 b] 23)).alloc (.cells #[.int .i64 c, .int .i64 d] 23)) (.cells #[.int .i64 n, .int .i64 e] 23)
  replace G := G.alloc (.cells #[.int .i64 n, .int .i64 e] 23)
  generalize hW : (((w.alloc (.cells #[.int .i64 a, .int .i64 b] 23)).alloc (.cells #[.int .i64 c, .int .i64 d] 23)).alloc (.cells #[.int .i64 n, .int .i64 e] 23)) = W1 at *
  simp only [World.size_alloc] at b4
  simp only [World.size_alloc] at b5
  have w0 : w.heap.size ≤ w.heap.size := Nat.le_refl _
  obtain ⟨p5, hp5⟩ : ∃ p5, w.heap.size + 1 + 1 = p5 := ⟨_, rfl⟩
  obtain ⟨p4, hp4⟩ : ∃ p4, w.heap.size + 1 = p4 := ⟨_, rfl⟩
  obtain ⟨p3, hp3⟩ : ∃ p3, w.heap.size = p3 := ⟨_, rfl⟩
  rw [hp5] at b5
  rw [hp4] at b4
  rw [hp3] at b3
  try simp only [hp5]
  try simp only [hp4]
  try simp only [hp3]
  have s3 : w.heap.size ≤ p3 := by omega
  have n3_4 : ¬ p3 = p4 := by omega
  have n4_3 : ¬ p4 = p3 := by omega
  have s4 : w.heap.size ≤ p4 := by omega
  have n3_5 : ¬ p3 = p5 := by omega
  have n5_3 : ¬ p5 = p3 := by omega
  have n4_5 : ¬ p4 = p5 := by omega
  have n5_4 : ¬ p5 = p4 := by omega
  have s5 : w.heap.size ≤ p5 := by omega
  clear  w0
  clear hp3
  clear hp4
  clear hp5
  clear hW
  refine (BB.out _).mono ?_
  rintro e w1 ⟨rfl, g1⟩
  obtain ⟨c3, f3, z3⟩ := blk_cells (g1.heap b3)
  obtain ⟨c4, f4, z4⟩ := blk_cells (g1.heap b4)
  obtain ⟨c5, f5, z5⟩ := blk_cells (g1.heap b5)
  have z0 : w.heap.size ≤ w1.heap.size := (Gr.trans G g1).b.size
  go_wp2_with fail
  clear c3 f3 c4 f4 c5 f5
  replace b3 := g1.heap b3
  replace b4 := g1.heap b4
  replace b5 := g1.heap b5
  have G := G.trans g1
  clear z3 z4 z5 z0
  clear g1
  refine (CK.out _).mono ?_
  rintro e w2 ⟨rfl, g2⟩
  obtain ⟨c3, f3, z3⟩ := blk_cells (g2.heap b3)
  obtain ⟨c4, f4, z4⟩ := blk_cells (g2.heap b4)
  obtain ⟨c5, f5, z5⟩ := blk_cells (g2.heap b5)
  have z0 : w.heap.size ≤ w2.heap.size := (Gr.trans G g2).b.size
  go_wp2_with fail
  clear c3 f3 c4 f4 c5 f5
  replace b3 := g2.heap b3
  replace b4 := g2.heap b4
  replace b5 := g2.heap b5
  have G := G.trans g2
  clear z3 z4 z5 z0
  clear g2
  refine (SM.out _).mono ?_
  rintro e w3 ⟨rfl, g3⟩
  obtain ⟨c3, f3, z3⟩ := blk_cells (g3.heap b3)
  obtain ⟨c4, f4, z4⟩ := blk_cells (g3.heap b4)
  obtain ⟨c5, f5, z5⟩ := blk_cells (g3.heap b5)
  have z0 : w.heap.size ≤ w3.heap.size := (Gr.trans G g3).b.size
  go_wp2_with fail
  clear c3 f3 c4 f4 c5 f5
  replace b3 := g3.heap b3
  replace b4 := g3.heap b4
  replace b5 := g3.heap b5
  have G := G.trans g3
  replace b3 := ((Gr.refl _).alloc (.cells #[.int .i64 n, .int .i64 e] 23)).heap b3
  replace b4 := ((Gr.refl _).alloc (.cells #[.int .i64 n, .int .i64 e] 23)).heap b4
  replace b5 := ((Gr.refl _).alloc (.cells #[.int .i64 n, .int .i64 e] 23)).heap b5
  have b9 := heap_alloc_self w3 (.cells #[.int .i64 n, .int .i64 e] 23)
  replace G := G.alloc (.cells #[.int .i64 n, .int .i64 e] 23)
  generalize hW : (w3.alloc (.cells #[.int .i64 n, .int .i64 e] 23)) = W4 at *
  have o3 : p3 < w3.heap.size := z3
  have o4 : p4 < w3.heap.size := z4
  have o5 : p5 < w3.heap.size := z5
  have w0 : w.heap.size ≤ w3.heap.size := z0
  obtain ⟨p9, hp9⟩ : ∃ p9, w3.heap.size = p9 := ⟨_, rfl⟩
  rw [hp9] at b9
  try simp only [hp9]
  have n3_9 : ¬ p3 = p9 := by omega
  have n9_3 : ¬ p9 = p3 := by omega
  have n4_9 : ¬ p4 = p9 := by omega
  have n9_4 : ¬ p9 = p4 := by omega
  have n5_9 : ¬ p5 = p9 := by omega
  have n9_5 : ¬ p9 = p5 := by omega
  have s9 : w.heap.size ≤ p9 := by omega
  clear o3 o4 o5 w0
  clear hp9
  clear hW
  clear z3 z4 z5 z0
  clear g3
  obtain ⟨c3, f3, z3⟩ := blk_cells b3
  obtain ⟨c4, f4, z4⟩ := blk_cells b4
  obtain ⟨c5, f5, z5⟩ := blk_cells b5
  obtain ⟨c9, f9, z9⟩ := blk_cells b9
  exact bodyPost_ret (v := .tuple #[.bool true, .int .i64 0]) (by simp [results, Tryd.results44, go_sem, *]) rfl ⟨rfl, (by repeat (first | exact Gr.refl _ | assumption | refine Gr.alloc ?_ _ | refine Gr.drew ?_ | refine Gr.drewN ?_ _ | refine Gr.set ?_ _ _ (by first | (simp; done) | (simp; omega)) | refine Gr.trans ?_ (by assumption)))⟩
theorem rCheckSimplest_any (a b c d n e : Int) (w : World) :
    Calls Tryd.prog 44 #[fr a b, fr c d, fr n e] w fun r w' => r = .returned (.tuple #[.bool (csB a b c d n e), .int .i64 (csE a b c d n e)]) ∧ Gr w w' := by
  have BB := fun w => both_any a b c d w
  have CK := fun w => rCheckFrac_any n e w
  have SM := fun w => rSimplest_any a b c d w
  cases h : ok2 a b c d
  · have e1 : csE a b c d n e = 1 := by simp [csE, h]
    have e2 : csB a b c d n e = false := by simp [csB, e1]
    rw [e1, e2]
    rw [h, Rm.err_false rfl] at BB
    exact rCheckS_b1 a b c d n e w (Lib.hid BB)
  rw [h, Rm.err_true rfl] at BB
  cases hk : Rm.okF n e
  · have e1 : csE a b c d n e = 1 := by simp [csE, hk]
    have e2 : csB a b c d n e = false := by simp [csB, e1]
    rw [e1, e2]
    rw [hk, Rm.err_false rfl] at CK
    exact rCheckS_b2 a b c d n e w (Lib.hid BB) (Lib.hid CK)
  rw [hk, Rm.err_true rfl] at CK
  have e1 : csE a b c d n e = rgE a b c d := by simp [csE, h, hk]
  rw [e1]
  by_cases hr : rgE a b c d = 0
  · have e2 : csB a b c d n e = (decide (n = smN a b c d) && decide (e = smD a b c d)) := by simp [csB, e1, hr]
    rw [e2, hr]
    rw [hr] at SM
    generalize smN a b c d = N at *
    generalize smD a b c d = D at *
    by_cases h1 : n = N
    · subst h1
      by_cases h2 : e = D
      · subst h2
        rw [decide_eq_true rfl, decide_eq_true rfl]
        exact rCheckS_eq a b c d n e w (Lib.hid BB) (Lib.hid CK) (Lib.hid SM)
      · rw [decide_eq_false h2, Bool.and_false]
        exact rCheckS_neD a b c d n e D w (Lib.hid BB) (Lib.hid CK) (Lib.hid SM) h2
    · rw [decide_eq_false h1, Bool.false_and]
      exact rCheckS_neN a b c d n e N D w (Lib.hid BB) (Lib.hid CK) (Lib.hid SM) h1
  · have e2 : csB a b c d n e = false := by simp [csB, e1, hr]
    have e3 : smN a b c d = 0 ∧ smD a b c d = 0 := by simp [smN, smD, hr]
    rw [e2]
    rw [e3.1, e3.2] at SM
    exact rCheckS_b3 a b c d n e _ w (Lib.hid BB) (Lib.hid CK) (Lib.hid SM) hr
end Go.Proofs.YtconhikflghkdaaDoor
