/- stricklelaw01.RuleProved. -/
import Derived.Test.YtconhikflghkdaaDoorAlive
import Derived.Test.YtconhikflghkdaaDoorCheckW
import Derived.Deep.DeepCutAuto
namespace Go.Proofs.YtconhikflghkdaaDoor
open Go.RowKit Go.Shelf
def lessB (a b c d : Int) : Bool := ok2 a b c d && decide (a*d < c*b)
set_option maxHeartbeats 1000000 in
theorem less_any (a b c d : Int) : Says 39 #[fr a b, fr c d] (.bool (lessB a b c d)) := fun w => by
  have C := Lib.hid (Compare_any a b c d)
  cases h : ok2 a b c d
  · have e : lessB a b c d = false := by simp [lessB, h]
    rw [e]
    rw [h, Rm.err_false rfl] at C
    generalize cmpN a b c d = K at *
    clear h e
    go_enter Tryd.func39, Tryd.ntmps39
    go_wp2_with fail
    refine (C.out _).mono ?_
    rintro e w1 ⟨rfl, hg1⟩
    go_wp2
    go_ret
    exact ⟨rfl, (by repeat (first | exact Gr.refl _ | assumption | refine Gr.alloc ?_ _ | refine Gr.drew ?_ | refine Gr.drewN ?_ _ | refine Gr.set ?_ _ _ (by first | (simp; done) | (simp; omega)) | refine Gr.trans ?_ (by assumption)))⟩
  · rw [h, Rm.err_true rfl] at C
    by_cases hk : a*d < c*b
    · have e : lessB a b c d = true := by simp [lessB, h, hk]
      have e2 : cmpN a b c d = -1 := by simp only [cmpN, h, sgn, if_true]; rw [if_pos (by omega)]
      rw [e]
      rw [e2] at C
      clear h e e2 hk
      go_enter Tryd.func39, Tryd.ntmps39
      go_wp2_with fail
      refine (C.out _).mono ?_
      rintro e w1 ⟨rfl, hg1⟩
      go_wp2
      go_ret
      exact ⟨rfl, (by repeat (first | exact Gr.refl _ | assumption | refine Gr.alloc ?_ _ | refine Gr.drew ?_ | refine Gr.drewN ?_ _ | refine Gr.set ?_ _ _ (by first | (simp; done) | (simp; omega)) | refine Gr.trans ?_ (by assumption)))⟩
    · have e : lessB a b c d = false := by simp [lessB, hk]
      have e2 : ¬ cmpN a b c d < 0 := by simp only [cmpN, h, sgn, if_true]; split <;> (try split) <;> omega
      rw [e]
      generalize cmpN a b c d = K at *
      clear h e hk
      go_enter Tryd.func39, Tryd.ntmps39
      go_wp2_with fail
      refine (C.out _).mono ?_
      rintro e w1 ⟨rfl, hg1⟩
      go_wp2
      go_ret
      exact ⟨ret_bool (decide_eq_false (by omega)), (by repeat (first | exact Gr.refl _ | assumption | refine Gr.alloc ?_ _ | refine Gr.drew ?_ | refine Gr.drewN ?_ _ | refine Gr.set ?_ _ _ (by first | (simp; done) | (simp; omega)) | refine Gr.trans ?_ (by assumption)))⟩
theorem lessB_yes {a b c d : Int} (h1 : Rm.okF a b = true) (h2 : Rm.okF c d = true) (h : a*d < c*b) : lessB a b c d = true := by simp [lessB, ok2, h1, h2, h]
theorem lessB_lt {a b c d : Int} (h : lessB a b c d = true) : a*d < c*b := by simp [lessB] at h; exact h.2
/-- what Neighbours returns are the neighbours -/
theorem nb_bk {n d : Int} (h : Rm.okF n d = true) (hd : 2 ≤ d) : Rm.Nb n d (Rm.bkN n d (d-1)) (Rm.bkD n d (d-1)) (Rm.bhN n d (d-1)) (Rm.bhD n d (d-1)) := by
  obtain ⟨x1, x2, x3, x4, x5⟩ := Rm.okF_iff.1 h
  obtain ⟨_, P, t, s, _, hci⟩ := Rm.conv_last x1 x2 x3 x4 x5
  have hnb := hci.nb hd
  rcases hci.sg with e | e
  · have k := hnb.1 e
    obtain ⟨k1, k2, k3, k4⟩ := Rm.bk_eq (by omega) (by omega) k.brk
    rw [k1, k2, k3, k4]; exact k
  · have k := hnb.2 e
    obtain ⟨k1, k2, k3, k4⟩ := Rm.bk_eq (by omega) (by omega) k.brk
    rw [k1, k2, k3, k4]; exact k
attribute [local go_sem] Oper.semAt_some
theorem PS_okF {a b c d N D : Int} (h1 : ok2 a b c d = true) (hr : a*d ≤ c*b) (P : Rm.PS a b c d N D) : Rm.okF N D = true := by
  obtain ⟨⟨x1, x2, x3, x4, x5⟩, ⟨y1, y2, y3, y4, y5⟩⟩ := ok2_parts h1
  obtain ⟨l1, l2⟩ := P.le_low x3 hr
  have d1 := P.d1
  obtain ⟨g1, g2⟩ := @Rm.red_mul N D
  have gp := @Rm.gcd_pos N D d1
  have rp := @Rm.redD_pos N D d1
  have lo := P.lo
  have hi := P.hi
  have M := P.md (Rm.redN N D) (Rm.redD N D) rp
  rw [Rm.okF_iff]
  refine ⟨by omega, by omega, d1, by omega, ?_⟩
  have hg : (Int.gcd N D : Int) = 1 := by
    generalize Rm.redN N D = n at *
    generalize Rm.redD N D = e at *
    generalize (Int.gcd N D : Int) = g at *
    have m1 : a*e ≤ n*b := by
      have k : (a*e)*g ≤ (n*b)*g := by
        have e1 : (a*e)*g = a*(e*g) := by grind
        have e2 : (n*b)*g = (n*g)*b := by grind
        rw [e1, e2, g1, g2]; exact lo
      exact Rm.lemul k (by omega)
    have m2 : n*d ≤ c*e := by
      have k : (n*d)*g ≤ (c*e)*g := by
        have e1 : (n*d)*g = (n*g)*d := by grind
        have e2 : (c*e)*g = c*(e*g) := by grind
        rw [e1, e2, g1, g2]; exact hi
      exact Rm.lemul k (by omega)
    have m3 := M m1 m2
    by_cases h : g = 1
    · exact h
    · have := Int.mul_le_mul_of_nonneg_left (show 2 ≤ g by omega) (show 0 ≤ e by omega)
      omega
  omega
set_option maxRecDepth 100000 in
set_option maxHeartbeats 4000000 in
theorem RuleProved_bad (a b c d n e E : Int) (w : World) (ht : Tab w) (SM : Hid (Says 41 #[fr a b, fr c d] (.tuple #[fr 0 0, .int .i64 E]))) (hE : ¬ E = 0) : Calls Tryd.prog 16 #[fr a b, fr c d, fr n e] w fun e w' => e = .returned (.bool true) ∧ Gr w w' := by
  have HT := Lib.hid ht
  clear ht
  go_enter Tryd.func16, Tryd.ntmps16
  go_wp2_with fail
  have G := Gr.refl w
  have b3 := heap_alloc_self w (.cells #[.int .i64 a, .int .i64 b] 23)
  replace G := G.alloc (.cells #[.int .i64 a, .int .i64 b] 23)
  replace b3 := ((Gr.refl _).alloc (.cells #[.int .i64 c, .int .i64 d] 23)).heap b3
  have b4 := heap_alloc_self (w.alloc (.cells #[.int .i64 a, .int .i64 b] 23)) (.cells #[.int .i64 c, .int .i64 d] 23)
  replace G := G.alloc (.cells #[.int .i64 c, .int .i64 d] 23)
  replace b3 := ((Gr.refl _).alloc (.cells #[.int .i64 n, .int .i64 e] 23)).heap b3
  replace b4 := ((Gr.refl _).alloc (.cells #[.int .i64 n, .int .i64 e] 23)).heap b4
  have b5 := heap_alloc_self ((w.alloc (.cells #[.int .i64 a, .int .i64 b] 23)).alloc (.cells #[.int .i64 c, .int .i64 d] 23)) (.cells #[.int .i64 n, .int .i64 e] 23)
  replace G := G.alloc (.cells #[.int .i64 n, .int .i64 e] 23)
  generalize hW : (((w.alloc (.cells #[.int .i64 a, .int .i64 b] 23)).alloc (.cells #[.int .i64 c, .int .i64 d] 23)).alloc (.cells #[.int .i64 n, .int .i64 e] 23)) = W1 at *
  simp only [World.size_alloc] at b4
  simp only [World.size_alloc] at b5
  have w0 : w.heap.size ≤ w.heap.size := Nat.le_refl _
  obtain ⟨p5, hp5⟩ : ∃ p5, w.heap.size + 1 + 1 = p5 := ⟨_, rfl⟩
  obtain ⟨p4, hp4⟩ : ∃ p4, w.heap.size + 1 = p4 := ⟨_, rfl⟩
  obtain ⟨p3, hp3⟩ : ∃ p3, w.heap.size = p3 := ⟨_, rfl⟩
  rw [hp5] at b5
  rw [hp4] at b4
  rw [hp3] at b3
  try simp only [hp5]
  try simp only [hp4]
  try simp only [hp3]
  have s3 : w.heap.size ≤ p3 := by omega
  have n3_4 : ¬ p3 = p4 := by omega
  have n4_3 : ¬ p4 = p3 := by omega
  have s4 : w.heap.size ≤ p4 := by omega
  have n3_5 : ¬ p3 = p5 := by omega
  have n5_3 : ¬ p5 = p3 := by omega
  have n4_5 : ¬ p4 = p5 := by omega
  have n5_4 : ¬ p5 = p4 := by omega
  have s5 : w.heap.size ≤ p5 := by omega
  clear  w0
  clear hp3
  clear hp4
  clear hp5
  clear hW
  refine (SM.out _).mono ?_
  rintro e w1 ⟨rfl, g1⟩
  obtain ⟨c3, f3, z3⟩ := blk_cells (g1.heap b3)
  obtain ⟨c4, f4, z4⟩ := blk_cells (g1.heap b4)
  obtain ⟨c5, f5, z5⟩ := blk_cells (g1.heap b5)
  have z0 : w.heap.size ≤ w1.heap.size := (Gr.trans G g1).b.size
  go_wp2_with fail
  clear c3 f3 c4 f4 c5 f5
  replace b3 := g1.heap b3
  replace b4 := g1.heap b4
  replace b5 := g1.heap b5
  have G := G.trans g1
  replace b3 := ((Gr.refl _).alloc (.cells #[.int .i64 0, .int .i64 0] 23)).heap b3
  replace b4 := ((Gr.refl _).alloc (.cells #[.int .i64 0, .int .i64 0] 23)).heap b4
  replace b5 := ((Gr.refl _).alloc (.cells #[.int .i64 0, .int .i64 0] 23)).heap b5
  have b7 := heap_alloc_self w1 (.cells #[.int .i64 0, .int .i64 0] 23)
  replace G := G.alloc (.cells #[.int .i64 0, .int .i64 0] 23)
  generalize hW : (w1.alloc (.cells #[.int .i64 0, .int .i64 0] 23)) = W2 at *
  have o3 : p3 < w1.heap.size := z3
  have o4 : p4 < w1.heap.size := z4
  have o5 : p5 < w1.heap.size := z5
  have w0 : w.heap.size ≤ w1.heap.size := z0
  obtain ⟨p7, hp7⟩ : ∃ p7, w1.heap.size = p7 := ⟨_, rfl⟩
  rw [hp7] at b7
  try simp only [hp7]
  have n3_7 : ¬ p3 = p7 := by omega
  have n7_3 : ¬ p7 = p3 := by omega
  have n4_7 : ¬ p4 = p7 := by omega
  have n7_4 : ¬ p7 = p4 := by omega
  have n5_7 : ¬ p5 = p7 := by omega
  have n7_5 : ¬ p7 = p5 := by omega
  have s7 : w.heap.size ≤ p7 := by omega
  clear o3 o4 o5 w0
  clear hp7
  clear hW
  clear z3 z4 z5 z0
  clear g1
  refine (alive_any _ (HT.out.gr G)).mono ?_
  rintro e wz ⟨rfl, gz⟩
  obtain ⟨c3, f3, z3⟩ := blk_cells (gz.heap b3)
  obtain ⟨c4, f4, z4⟩ := blk_cells (gz.heap b4)
  obtain ⟨c5, f5, z5⟩ := blk_cells (gz.heap b5)
  obtain ⟨c7, f7, z7⟩ := blk_cells (gz.heap b7)
  go_wp2
  go_ret
  exact ⟨rfl, G.trans gz⟩
set_option maxRecDepth 100000 in
set_option maxHeartbeats 4000000 in
theorem RuleProved_go (a b c d n e N D E an ad bn bd : Int) (B L1 L2 : Bool) (w : World) (ht : Tab w) (SM : Hid (Says 41 #[fr a b, fr c d] (.tuple #[fr N D, .int .i64 0]))) (C1 : Hid (Says 43 #[fr a b, fr c d, fr N D] (.tuple #[.bool true, .int .i64 0]))) (LA : Hid (Says 39 #[fr N D, fr a b] (.bool false))) (LB : Hid (Says 39 #[fr c d, fr N D] (.bool false))) (CX : Hid (Says 43 #[fr a b, fr c d, fr n e] (.tuple #[.bool B, .int .i64 E]))) (LC : Hid (Says 39 #[fr n e, fr a b] (.bool L1))) (LD : Hid (Says 39 #[fr c d, fr n e] (.bool L2))) (HB : Hid (E = 0 → B = (decide (n = N) && decide (e = D)))) (HM : Hid (E = 0 → L1 = false → L2 = false → D ≤ e ∧ ¬ max n (-n) < max N (-N) ∧ -1000000000 ≤ n ∧ n ≤ 1000000000)) (N1 : -1000000000 ≤ N) (N2 : N ≤ 1000000000) (NB : Hid (¬ D = 1 → Says 20 #[fr N D] (.tuple #[fr an ad, fr bn bd, .int .i64 0]))) (LE : Hid (¬ D = 1 → Says 39 #[fr an ad, fr a b] (.bool true))) (LF : Hid (¬ D = 1 → Says 39 #[fr c d, fr bn bd] (.bool true))) (HN : Hid (¬ D = 1 → N*ad - an*D = 1 ∧ bn*D - N*bd = 1 ∧ -4000000000000000000 ≤ N*ad ∧ N*ad ≤ 4000000000000000000 ∧ -4000000000000000000 ≤ bn*D ∧ bn*D ≤ 4000000000000000000)) : Calls Tryd.prog 16 #[fr a b, fr c d, fr n e] w fun e w' => e = .returned (.bool true) ∧ Gr w w' := by
  have HT := Lib.hid ht
  clear ht
  go_enter Tryd.func16, Tryd.ntmps16
  go_wp2_with fail
  have G := Gr.refl w
  have b3 := heap_alloc_self w (.cells #[.int .i64 a, .int .i64 b] 23)
  replace G := G.alloc (.cells #[.int .i64 a, .int .i64 b] 23)
  replace b3 := ((Gr.refl _).alloc (.cells #[.int .i64 c, .int .i64 d] 23)).heap b3
  have b4 := heap_alloc_self (w.alloc (.cells #[.int .i64 a, .int .i64 b] 23)) (.cells #[.int .i64 c, .int .i64 d] 23)
  replace G := G.alloc (.cells #[.int .i64 c, .int .i64 d] 23)
  replace b3 := ((Gr.refl _).alloc (.cells #[.int .i64 n, .int .i64 e] 23)).heap b3
  replace b4 := ((Gr.refl _).alloc (.cells #[.int .i64 n, .int .i64 e] 23)).heap b4
  have b5 := heap_alloc_self ((w.alloc (.cells #[.int .i64 a, .int .i64 b] 23)).alloc (.cells #[.int .i64 c, .int .i64 d] 23)) (.cells #[.int .i64 n, .int .i64 e] 23)
  replace G := G.alloc (.cells #[.int .i64 n, .int .i64 e] 23)
  generalize hW : (((w.alloc (.cells #[.int .i64 a, .int .i64 b] 23)).alloc (.cells #[.int .i64 c, .int .i64 d] 23)).alloc (.cells #[.int .i64 n, .int .i64 e] 23)) = W1 at *
  simp only [World.size_alloc] at b4
  simp only [World.size_alloc] at b5
  have w0 : w.heap.size ≤ w.heap.size := Nat.le_refl _
  obtain ⟨p5, hp5⟩ : ∃ p5, w.heap.size + 1 + 1 = p5 := ⟨_, rfl⟩
  obtain ⟨p4, hp4⟩ : ∃ p4, w.heap.size + 1 = p4 := ⟨_, rfl⟩
  obtain ⟨p3, hp3⟩ : ∃ p3, w.heap.size = p3 := ⟨_, rfl⟩
  rw [hp5] at b5
  rw [hp4] at b4
  rw [hp3] at b3
  try simp only [hp5]
  try simp only [hp4]
  try simp only [hp3]
  have s3 : w.heap.size ≤ p3 := by omega
  have n3_4 : ¬ p3 = p4 := by omega
  have n4_3 : ¬ p4 = p3 := by omega
  have s4 : w.heap.size ≤ p4 := by omega
  have n3_5 : ¬ p3 = p5 := by omega
  have n5_3 : ¬ p5 = p3 := by omega
  have n4_5 : ¬ p4 = p5 := by omega
  have n5_4 : ¬ p5 = p4 := by omega
  have s5 : w.heap.size ≤ p5 := by omega
  clear  w0
  clear hp3
  clear hp4
  clear hp5
  clear hW
  refine (SM.out _).mono ?_
  rintro e w1 ⟨rfl, g1⟩
  obtain ⟨c3, f3, z3⟩ := blk_cells (g1.heap b3)
  obtain ⟨c4, f4, z4⟩ := blk_cells (g1.heap b4)
  obtain ⟨c5, f5, z5⟩ := blk_cells (g1.heap b5)
  have z0 : w.heap.size ≤ w1.heap.size := (Gr.trans G g1).b.size
  go_wp2_with fail
  clear c3 f3 c4 f4 c5 f5
  replace b3 := g1.heap b3
  replace b4 := g1.heap b4
  replace b5 := g1.heap b5
  have G := G.trans g1
  replace b3 := ((Gr.refl _).alloc (.cells #[.int .i64 N, .int .i64 D] 23)).heap b3
  replace b4 := ((Gr.refl _).alloc (.cells #[.int .i64 N, .int .i64 D] 23)).heap b4
  replace b5 := ((Gr.refl _).alloc (.cells #[.int .i64 N, .int .i64 D] 23)).heap b5
  have b7 := heap_alloc_self w1 (.cells #[.int .i64 N, .int .i64 D] 23)
  replace G := G.alloc (.cells #[.int .i64 N, .int .i64 D] 23)
  generalize hW : (w1.alloc (.cells #[.int .i64 N, .int .i64 D] 23)) = W2 at *
  have o3 : p3 < w1.heap.size := z3
  have o4 : p4 < w1.heap.size := z4
  have o5 : p5 < w1.heap.size := z5
  have w0 : w.heap.size ≤ w1.heap.size := z0
  obtain ⟨p7, hp7⟩ : ∃ p7, w1.heap.size = p7 := ⟨_, rfl⟩
  rw [hp7] at b7
  try simp only [hp7]
  have n3_7 : ¬ p3 = p7 := by omega
  have n7_3 : ¬ p7 = p3 := by omega
  have n4_7 : ¬ p4 = p7 := by omega
  have n7_4 : ¬ p7 = p4 := by omega
  have n5_7 : ¬ p5 = p7 := by omega
  have n7_5 : ¬ p7 = p5 := by omega
  have s7 : w.heap.size ≤ p7 := by omega
  clear o3 o4 o5 w0
  clear hp7
  clear hW
  clear z3 z4 z5 z0
  clear g1
  refine (C1.out _).mono ?_
  rintro e w2 ⟨rfl, g2⟩
  obtain ⟨c3, f3, z3⟩ := blk_cells (g2.heap b3)
  obtain ⟨c4, f4, z4⟩ := blk_cells (g2.heap b4)
  obtain ⟨c5, f5, z5⟩ := blk_cells (g2.heap b5)
  obtain ⟨c7, f7, z7⟩ := blk_cells (g2.heap b7)
  have z0 : w.heap.size ≤ w2.heap.size := (Gr.trans G g2).b.size
  go_wp2_with fail
  clear c3 f3 c4 f4 c5 f5 c7 f7
  replace b3 := g2.heap b3
  replace b4 := g2.heap b4
  replace b5 := g2.heap b5
  replace b7 := g2.heap b7
  have G := G.trans g2
  clear z3 z4 z5 z7 z0
  clear g2
  refine (LA.out _).mono ?_
  rintro e w3 ⟨rfl, g3⟩
  obtain ⟨c3, f3, z3⟩ := blk_cells (g3.heap b3)
  obtain ⟨c4, f4, z4⟩ := blk_cells (g3.heap b4)
  obtain ⟨c5, f5, z5⟩ := blk_cells (g3.heap b5)
  obtain ⟨c7, f7, z7⟩ := blk_cells (g3.heap b7)
  have z0 : w.heap.size ≤ w3.heap.size := (Gr.trans G g3).b.size
  go_wp2_with fail
  clear c3 f3 c4 f4 c5 f5 c7 f7
  replace b3 := g3.heap b3
  replace b4 := g3.heap b4
  replace b5 := g3.heap b5
  replace b7 := g3.heap b7
  have G := G.trans g3
  clear z3 z4 z5 z7 z0
  clear g3
  refine (LB.out _).mono ?_
  rintro e w4 ⟨rfl, g4⟩
  obtain ⟨c3, f3, z3⟩ := blk_cells (g4.heap b3)
  obtain ⟨c4, f4, z4⟩ := blk_cells (g4.heap b4)
  obtain ⟨c5, f5, z5⟩ := blk_cells (g4.heap b5)
  obtain ⟨c7, f7, z7⟩ := blk_cells (g4.heap b7)
  have z0 : w.heap.size ≤ w4.heap.size := (Gr.trans G g4).b.size
  go_wp2_with fail
  clear c3 f3 c4 f4 c5 f5 c7 f7
  replace b3 := g4.heap b3
  replace b4 := g4.heap b4
  replace b5 := g4.heap b5
  replace b7 := g4.heap b7
  have G := G.trans g4
  clear z3 z4 z5 z7 z0
  clear g4
  refine (CX.out _).mono ?_
  rintro e w5 ⟨rfl, g5⟩
  obtain ⟨c3, f3, z3⟩ := blk_cells (g5.heap b3)
  obtain ⟨c4, f4, z4⟩ := blk_cells (g5.heap b4)
  obtain ⟨c5, f5, z5⟩ := blk_cells (g5.heap b5)
  obtain ⟨c7, f7, z7⟩ := blk_cells (g5.heap b7)
  have z0 : w.heap.size ≤ w5.heap.size := (Gr.trans G g5).b.size
  go_upto_region 8 with (fail)
  clear c3 f3 c4 f4 c5 f5 c7 f7
  replace b3 := g5.heap b3
  replace b4 := g5.heap b4
  replace b5 := g5.heap b5
  replace b7 := g5.heap b7
  have G := G.trans g5
  clear z3 z4 z5 z7 z0
  clear g5
  go_cut [109] (fun s wx => s = .bool false ∧ Gr w wx ∧ wx.heap[p3]? = some (.cells #[.int .i64 a, .int .i64 b] 23 (0, 0)) ∧ wx.heap[p4]? = some (.cells #[.int .i64 c, .int .i64 d] 23 (0, 0)) ∧ wx.heap[p5]? = some (.cells #[.int .i64 n, .int .i64 e] 23 (0, 0)) ∧ wx.heap[p7]? = some (.cells #[.int .i64 N, .int .i64 D] 23 (0, 0)))
  case first =>
    clear SM C1 LA LB CX NB LE LF HN HT
    by_cases hE : E = 0
    · subst hE
      have hB := HB.out rfl
      have HM := Lib.hid (HM.out rfl)
      clear HB
      cases L1
      · cases L2
        · by_cases h1 : n = N
          · subst h1
            by_cases h2 : e = D
            · subst h2
              have e1 : B = true := by rw [hB]; simp
              subst e1
              clear hB
              obtain ⟨m1, m2, m3, m4⟩ := HM.out rfl rfl
              have m5 : ¬ e < e := by omega
              clear HM
              obtain ⟨c3, f3, z3⟩ := blk_cells b3
              obtain ⟨c4, f4, z4⟩ := blk_cells b4
              obtain ⟨c5, f5, z5⟩ := blk_cells b5
              obtain ⟨c7, f7, z7⟩ := blk_cells b7
              go_wp2_with fail
              clear c3 f3 z3 c4 f4 z4 c5 f5 z5 c7 f7 z7
              refine (LC.out _).mono ?_
              rintro e w31 ⟨rfl, g31⟩
              obtain ⟨c3, f3, z3⟩ := blk_cells (g31.heap b3)
              obtain ⟨c4, f4, z4⟩ := blk_cells (g31.heap b4)
              obtain ⟨c5, f5, z5⟩ := blk_cells (g31.heap b5)
              obtain ⟨c7, f7, z7⟩ := blk_cells (g31.heap b7)
              have z0 : w.heap.size ≤ w31.heap.size := (Gr.trans G g31).b.size
              go_wp2_with fail
              clear c3 f3 c4 f4 c5 f5 c7 f7
              replace b3 := g31.heap b3
              replace b4 := g31.heap b4
              replace b5 := g31.heap b5
              replace b7 := g31.heap b7
              have G := G.trans g31
              clear z3 z4 z5 z7 z0
              clear g31
              refine (LD.out _).mono ?_
              rintro e w32 ⟨rfl, g32⟩
              obtain ⟨c3, f3, z3⟩ := blk_cells (g32.heap b3)
              obtain ⟨c4, f4, z4⟩ := blk_cells (g32.heap b4)
              obtain ⟨c5, f5, z5⟩ := blk_cells (g32.heap b5)
              obtain ⟨c7, f7, z7⟩ := blk_cells (g32.heap b7)
              have z0 : w.heap.size ≤ w32.heap.size := (Gr.trans G g32).b.size
              go_wp2_with fail
              clear c3 f3 c4 f4 c5 f5 c7 f7
              replace b3 := g32.heap b3
              replace b4 := g32.heap b4
              replace b5 := g32.heap b5
              replace b7 := g32.heap b7
              have G := G.trans g32
              clear z3 z4 z5 z7 z0
              clear g32
              all_goals go_meet
              all_goals exact ⟨by first | rfl | exact congrArg Value.bool (decide_eq_false (Int.not_lt.2 m5)) | exact congrArg Value.bool (decide_eq_false (Int.not_lt.2 m2)), G, b3, b4, b5, b7⟩
            · have e1 : B = false := by rw [hB]; simp [h2]
              subst e1
              clear hB
              have h3 : (e == D) = false := beq_eq_false_iff_ne.2 h2
              obtain ⟨m1, m2, m3, m4⟩ := HM.out rfl rfl
              have m5 : ¬ e < D := by omega
              clear HM
              obtain ⟨c3, f3, z3⟩ := blk_cells b3
              obtain ⟨c4, f4, z4⟩ := blk_cells b4
              obtain ⟨c5, f5, z5⟩ := blk_cells b5
              obtain ⟨c7, f7, z7⟩ := blk_cells b7
              go_wp2_with fail
              clear c3 f3 z3 c4 f4 z4 c5 f5 z5 c7 f7 z7
              refine (LC.out _).mono ?_
              rintro e w31 ⟨rfl, g31⟩
              obtain ⟨c3, f3, z3⟩ := blk_cells (g31.heap b3)
              obtain ⟨c4, f4, z4⟩ := blk_cells (g31.heap b4)
              obtain ⟨c5, f5, z5⟩ := blk_cells (g31.heap b5)
              obtain ⟨c7, f7, z7⟩ := blk_cells (g31.heap b7)
              have z0 : w.heap.size ≤ w31.heap.size := (Gr.trans G g31).b.size
              go_wp2_with fail
              clear c3 f3 c4 f4 c5 f5 c7 f7
              replace b3 := g31.heap b3
              replace b4 := g31.heap b4
              replace b5 := g31.heap b5
              replace b7 := g31.heap b7
              have G := G.trans g31
              clear z3 z4 z5 z7 z0
              clear g31
              refine (LD.out _).mono ?_
              rintro e w32 ⟨rfl, g32⟩
              obtain ⟨c3, f3, z3⟩ := blk_cells (g32.heap b3)
              obtain ⟨c4, f4, z4⟩ := blk_cells (g32.heap b4)
              obtain ⟨c5, f5, z5⟩ := blk_cells (g32.heap b5)
              obtain ⟨c7, f7, z7⟩ := blk_cells (g32.heap b7)
              have z0 : w.heap.size ≤ w32.heap.size := (Gr.trans G g32).b.size
              go_wp2_with fail
              clear c3 f3 c4 f4 c5 f5 c7 f7
              replace b3 := g32.heap b3
              replace b4 := g32.heap b4
              replace b5 := g32.heap b5
              replace b7 := g32.heap b7
              have G := G.trans g32
              clear z3 z4 z5 z7 z0
              clear g32
              all_goals go_meet
              all_goals exact ⟨by first | rfl | exact congrArg Value.bool (decide_eq_false (Int.not_lt.2 m5)) | exact congrArg Value.bool (decide_eq_false (Int.not_lt.2 m2)), G, b3, b4, b5, b7⟩
          · have e1 : B = false := by rw [hB]; simp [h1]
            subst e1
            clear hB
            have h3 : (n == N) = false := beq_eq_false_iff_ne.2 h1
            by_cases h2 : e = D
            · subst h2
              obtain ⟨m1, m2, m3, m4⟩ := HM.out rfl rfl
              have m5 : ¬ e < e := by omega
              clear HM
              obtain ⟨c3, f3, z3⟩ := blk_cells b3
              obtain ⟨c4, f4, z4⟩ := blk_cells b4
              obtain ⟨c5, f5, z5⟩ := blk_cells b5
              obtain ⟨c7, f7, z7⟩ := blk_cells b7
              go_wp2_with fail
              clear c3 f3 z3 c4 f4 z4 c5 f5 z5 c7 f7 z7
              refine (LC.out _).mono ?_
              rintro e w31 ⟨rfl, g31⟩
              obtain ⟨c3, f3, z3⟩ := blk_cells (g31.heap b3)
              obtain ⟨c4, f4, z4⟩ := blk_cells (g31.heap b4)
              obtain ⟨c5, f5, z5⟩ := blk_cells (g31.heap b5)
              obtain ⟨c7, f7, z7⟩ := blk_cells (g31.heap b7)
              have z0 : w.heap.size ≤ w31.heap.size := (Gr.trans G g31).b.size
              go_wp2_with fail
              clear c3 f3 c4 f4 c5 f5 c7 f7
              replace b3 := g31.heap b3
              replace b4 := g31.heap b4
              replace b5 := g31.heap b5
              replace b7 := g31.heap b7
              have G := G.trans g31
              clear z3 z4 z5 z7 z0
              clear g31
              refine (LD.out _).mono ?_
              rintro e w32 ⟨rfl, g32⟩
              obtain ⟨c3, f3, z3⟩ := blk_cells (g32.heap b3)
              obtain ⟨c4, f4, z4⟩ := blk_cells (g32.heap b4)
              obtain ⟨c5, f5, z5⟩ := blk_cells (g32.heap b5)
              obtain ⟨c7, f7, z7⟩ := blk_cells (g32.heap b7)
              have z0 : w.heap.size ≤ w32.heap.size := (Gr.trans G g32).b.size
              go_wp2_with fail
              clear c3 f3 c4 f4 c5 f5 c7 f7
              replace b3 := g32.heap b3
              replace b4 := g32.heap b4
              replace b5 := g32.heap b5
              replace b7 := g32.heap b7
              have G := G.trans g32
              clear z3 z4 z5 z7 z0
              clear g32
              all_goals go_meet
              all_goals exact ⟨by first | rfl | exact congrArg Value.bool (decide_eq_false (Int.not_lt.2 m5)) | exact congrArg Value.bool (decide_eq_false (Int.not_lt.2 m2)), G, b3, b4, b5, b7⟩
            · have h4 : (e == D) = false := beq_eq_false_iff_ne.2 h2
              obtain ⟨m1, m2, m3, m4⟩ := HM.out rfl rfl
              have m5 : ¬ e < D := by omega
              clear HM
              obtain ⟨c3, f3, z3⟩ := blk_cells b3
              obtain ⟨c4, f4, z4⟩ := blk_cells b4
              obtain ⟨c5, f5, z5⟩ := blk_cells b5
              obtain ⟨c7, f7, z7⟩ := blk_cells b7
              go_wp2_with fail
              clear c3 f3 z3 c4 f4 z4 c5 f5 z5 c7 f7 z7
              refine (LC.out _).mono ?_
              rintro e w31 ⟨rfl, g31⟩
              obtain ⟨c3, f3, z3⟩ := blk_cells (g31.heap b3)
              obtain ⟨c4, f4, z4⟩ := blk_cells (g31.heap b4)
              obtain ⟨c5, f5, z5⟩ := blk_cells (g31.heap b5)
              obtain ⟨c7, f7, z7⟩ := blk_cells (g31.heap b7)
              have z0 : w.heap.size ≤ w31.heap.size := (Gr.trans G g31).b.size
              go_wp2_with fail
              clear c3 f3 c4 f4 c5 f5 c7 f7
              replace b3 := g31.heap b3
              replace b4 := g31.heap b4
              replace b5 := g31.heap b5
              replace b7 := g31.heap b7
              have G := G.trans g31
              clear z3 z4 z5 z7 z0
              clear g31
              refine (LD.out _).mono ?_
              rintro e w32 ⟨rfl, g32⟩
              obtain ⟨c3, f3, z3⟩ := blk_cells (g32.heap b3)
              obtain ⟨c4, f4, z4⟩ := blk_cells (g32.heap b4)
              obtain ⟨c5, f5, z5⟩ := blk_cells (g32.heap b5)
              obtain ⟨c7, f7, z7⟩ := blk_cells (g32.heap b7)
              have z0 : w.heap.size ≤ w32.heap.size := (Gr.trans G g32).b.size
              go_wp2_with fail
              clear c3 f3 c4 f4 c5 f5 c7 f7
              replace b3 := g32.heap b3
              replace b4 := g32.heap b4
              replace b5 := g32.heap b5
              replace b7 := g32.heap b7
              have G := G.trans g32
              clear z3 z4 z5 z7 z0
              clear g32
              all_goals go_meet
              all_goals exact ⟨by first | rfl | exact congrArg Value.bool (decide_eq_false (Int.not_lt.2 m5)) | exact congrArg Value.bool (decide_eq_false (Int.not_lt.2 m2)), G, b3, b4, b5, b7⟩
        · clear HM
          by_cases h1 : n = N
          · subst h1
            by_cases h2 : e = D
            · subst h2
              have e1 : B = true := by rw [hB]; simp
              subst e1
              clear hB
              obtain ⟨c3, f3, z3⟩ := blk_cells b3
              obtain ⟨c4, f4, z4⟩ := blk_cells b4
              obtain ⟨c5, f5, z5⟩ := blk_cells b5
              obtain ⟨c7, f7, z7⟩ := blk_cells b7
              go_wp2_with fail
              clear c3 f3 z3 c4 f4 z4 c5 f5 z5 c7 f7 z7
              refine (LC.out _).mono ?_
              rintro e w31 ⟨rfl, g31⟩
              obtain ⟨c3, f3, z3⟩ := blk_cells (g31.heap b3)
              obtain ⟨c4, f4, z4⟩ := blk_cells (g31.heap b4)
              obtain ⟨c5, f5, z5⟩ := blk_cells (g31.heap b5)
              obtain ⟨c7, f7, z7⟩ := blk_cells (g31.heap b7)
              have z0 : w.heap.size ≤ w31.heap.size := (Gr.trans G g31).b.size
              go_wp2_with fail
              clear c3 f3 c4 f4 c5 f5 c7 f7
              replace b3 := g31.heap b3
              replace b4 := g31.heap b4
              replace b5 := g31.heap b5
              replace b7 := g31.heap b7
              have G := G.trans g31
              clear z3 z4 z5 z7 z0
              clear g31
              refine (LD.out _).mono ?_
              rintro e w32 ⟨rfl, g32⟩
              obtain ⟨c3, f3, z3⟩ := blk_cells (g32.heap b3)
              obtain ⟨c4, f4, z4⟩ := blk_cells (g32.heap b4)
              obtain ⟨c5, f5, z5⟩ := blk_cells (g32.heap b5)
              obtain ⟨c7, f7, z7⟩ := blk_cells (g32.heap b7)
              have z0 : w.heap.size ≤ w32.heap.size := (Gr.trans G g32).b.size
              go_wp2_with fail
              clear c3 f3 c4 f4 c5 f5 c7 f7
              replace b3 := g32.heap b3
              replace b4 := g32.heap b4
              replace b5 := g32.heap b5
              replace b7 := g32.heap b7
              have G := G.trans g32
              clear z3 z4 z5 z7 z0
              clear g32
              all_goals go_meet
              all_goals exact ⟨by first | rfl | exact congrArg Value.bool (decide_eq_false (Int.not_lt.2 m5)) | exact congrArg Value.bool (decide_eq_false (Int.not_lt.2 m2)), G, b3, b4, b5, b7⟩
            · have e1 : B = false := by rw [hB]; simp [h2]
              subst e1
              clear hB
              have h3 : (e == D) = false := beq_eq_false_iff_ne.2 h2
              obtain ⟨c3, f3, z3⟩ := blk_cells b3
              obtain ⟨c4, f4, z4⟩ := blk_cells b4
              obtain ⟨c5, f5, z5⟩ := blk_cells b5
              obtain ⟨c7, f7, z7⟩ := blk_cells b7
              go_wp2_with fail
              clear c3 f3 z3 c4 f4 z4 c5 f5 z5 c7 f7 z7
              refine (LC.out _).mono ?_
              rintro e w31 ⟨rfl, g31⟩
              obtain ⟨c3, f3, z3⟩ := blk_cells (g31.heap b3)
              obtain ⟨c4, f4, z4⟩ := blk_cells (g31.heap b4)
              obtain ⟨c5, f5, z5⟩ := blk_cells (g31.heap b5)
              obtain ⟨c7, f7, z7⟩ := blk_cells (g31.heap b7)
              have z0 : w.heap.size ≤ w31.heap.size := (Gr.trans G g31).b.size
              go_wp2_with fail
              clear c3 f3 c4 f4 c5 f5 c7 f7
              replace b3 := g31.heap b3
              replace b4 := g31.heap b4
              replace b5 := g31.heap b5
              replace b7 := g31.heap b7
              have G := G.trans g31
              clear z3 z4 z5 z7 z0
              clear g31
              refine (LD.out _).mono ?_
              rintro e w32 ⟨rfl, g32⟩
              obtain ⟨c3, f3, z3⟩ := blk_cells (g32.heap b3)
              obtain ⟨c4, f4, z4⟩ := blk_cells (g32.heap b4)
              obtain ⟨c5, f5, z5⟩ := blk_cells (g32.heap b5)
              obtain ⟨c7, f7, z7⟩ := blk_cells (g32.heap b7)
              have z0 : w.heap.size ≤ w32.heap.size := (Gr.trans G g32).b.size
              go_wp2_with fail
              clear c3 f3 c4 f4 c5 f5 c7 f7
              replace b3 := g32.heap b3
              replace b4 := g32.heap b4
              replace b5 := g32.heap b5
              replace b7 := g32.heap b7
              have G := G.trans g32
              clear z3 z4 z5 z7 z0
              clear g32
              all_goals go_meet
              all_goals exact ⟨by first | rfl | exact congrArg Value.bool (decide_eq_false (Int.not_lt.2 m5)) | exact congrArg Value.bool (decide_eq_false (Int.not_lt.2 m2)), G, b3, b4, b5, b7⟩
          · have e1 : B = false := by rw [hB]; simp [h1]
            subst e1
            clear hB
            have h3 : (n == N) = false := beq_eq_false_iff_ne.2 h1
            obtain ⟨c3, f3, z3⟩ := blk_cells b3
            obtain ⟨c4, f4, z4⟩ := blk_cells b4
            obtain ⟨c5, f5, z5⟩ := blk_cells b5
            obtain ⟨c7, f7, z7⟩ := blk_cells b7
            go_wp2_with fail
            clear c3 f3 z3 c4 f4 z4 c5 f5 z5 c7 f7 z7
            refine (LC.out _).mono ?_
            rintro e w31 ⟨rfl, g31⟩
            obtain ⟨c3, f3, z3⟩ := blk_cells (g31.heap b3)
            obtain ⟨c4, f4, z4⟩ := blk_cells (g31.heap b4)
            obtain ⟨c5, f5, z5⟩ := blk_cells (g31.heap b5)
            obtain ⟨c7, f7, z7⟩ := blk_cells (g31.heap b7)
            have z0 : w.heap.size ≤ w31.heap.size := (Gr.trans G g31).b.size
            go_wp2_with fail
            clear c3 f3 c4 f4 c5 f5 c7 f7
            replace b3 := g31.heap b3
            replace b4 := g31.heap b4
            replace b5 := g31.heap b5
            replace b7 := g31.heap b7
            have G := G.trans g31
            clear z3 z4 z5 z7 z0
            clear g31
            refine (LD.out _).mono ?_
            rintro e w32 ⟨rfl, g32⟩
            obtain ⟨c3, f3, z3⟩ := blk_cells (g32.heap b3)
            obtain ⟨c4, f4, z4⟩ := blk_cells (g32.heap b4)
            obtain ⟨c5, f5, z5⟩ := blk_cells (g32.heap b5)
            obtain ⟨c7, f7, z7⟩ := blk_cells (g32.heap b7)
            have z0 : w.heap.size ≤ w32.heap.size := (Gr.trans G g32).b.size
            go_wp2_with fail
            clear c3 f3 c4 f4 c5 f5 c7 f7
            replace b3 := g32.heap b3
            replace b4 := g32.heap b4
            replace b5 := g32.heap b5
            replace b7 := g32.heap b7
            have G := G.trans g32
            clear z3 z4 z5 z7 z0
            clear g32
            all_goals go_meet
            all_goals exact ⟨by first | rfl | exact congrArg Value.bool (decide_eq_false (Int.not_lt.2 m5)) | exact congrArg Value.bool (decide_eq_false (Int.not_lt.2 m2)), G, b3, b4, b5, b7⟩
      · clear HM LD
        by_cases h1 : n = N
        · subst h1
          by_cases h2 : e = D
          · subst h2
            have e1 : B = true := by rw [hB]; simp
            subst e1
            clear hB
            obtain ⟨c3, f3, z3⟩ := blk_cells b3
            obtain ⟨c4, f4, z4⟩ := blk_cells b4
            obtain ⟨c5, f5, z5⟩ := blk_cells b5
            obtain ⟨c7, f7, z7⟩ := blk_cells b7
            go_wp2_with fail
            clear c3 f3 z3 c4 f4 z4 c5 f5 z5 c7 f7 z7
            refine (LC.out _).mono ?_
            rintro e w31 ⟨rfl, g31⟩
            obtain ⟨c3, f3, z3⟩ := blk_cells (g31.heap b3)
            obtain ⟨c4, f4, z4⟩ := blk_cells (g31.heap b4)
            obtain ⟨c5, f5, z5⟩ := blk_cells (g31.heap b5)
            obtain ⟨c7, f7, z7⟩ := blk_cells (g31.heap b7)
            have z0 : w.heap.size ≤ w31.heap.size := (Gr.trans G g31).b.size
            go_wp2_with fail
            clear c3 f3 c4 f4 c5 f5 c7 f7
            replace b3 := g31.heap b3
            replace b4 := g31.heap b4
            replace b5 := g31.heap b5
            replace b7 := g31.heap b7
            have G := G.trans g31
            clear z3 z4 z5 z7 z0
            clear g31
            all_goals go_meet
            all_goals exact ⟨by first | rfl | exact congrArg Value.bool (decide_eq_false (Int.not_lt.2 m5)) | exact congrArg Value.bool (decide_eq_false (Int.not_lt.2 m2)), G, b3, b4, b5, b7⟩
          · have e1 : B = false := by rw [hB]; simp [h2]
            subst e1
            clear hB
            have h3 : (e == D) = false := beq_eq_false_iff_ne.2 h2
            obtain ⟨c3, f3, z3⟩ := blk_cells b3
            obtain ⟨c4, f4, z4⟩ := blk_cells b4
            obtain ⟨c5, f5, z5⟩ := blk_cells b5
            obtain ⟨c7, f7, z7⟩ := blk_cells b7
            go_wp2_with fail
            clear c3 f3 z3 c4 f4 z4 c5 f5 z5 c7 f7 z7
            refine (LC.out _).mono ?_
            rintro e w31 ⟨rfl, g31⟩
            obtain ⟨c3, f3, z3⟩ := blk_cells (g31.heap b3)
            obtain ⟨c4, f4, z4⟩ := blk_cells (g31.heap b4)
            obtain ⟨c5, f5, z5⟩ := blk_cells (g31.heap b5)
            obtain ⟨c7, f7, z7⟩ := blk_cells (g31.heap b7)
            have z0 : w.heap.size ≤ w31.heap.size := (Gr.trans G g31).b.size
            go_wp2_with fail
            clear c3 f3 c4 f4 c5 f5 c7 f7
            replace b3 := g31.heap b3
            replace b4 := g31.heap b4
            replace b5 := g31.heap b5
            replace b7 := g31.heap b7
            have G := G.trans g31
            clear z3 z4 z5 z7 z0
            clear g31
            all_goals go_meet
            all_goals exact ⟨by first | rfl | exact congrArg Value.bool (decide_eq_false (Int.not_lt.2 m5)) | exact congrArg Value.bool (decide_eq_false (Int.not_lt.2 m2)), G, b3, b4, b5, b7⟩
        · have e1 : B = false := by rw [hB]; simp [h1]
          subst e1
          clear hB
          have h3 : (n == N) = false := beq_eq_false_iff_ne.2 h1
          obtain ⟨c3, f3, z3⟩ := blk_cells b3
          obtain ⟨c4, f4, z4⟩ := blk_cells b4
          obtain ⟨c5, f5, z5⟩ := blk_cells b5
          obtain ⟨c7, f7, z7⟩ := blk_cells b7
          go_wp2_with fail
          clear c3 f3 z3 c4 f4 z4 c5 f5 z5 c7 f7 z7
          refine (LC.out _).mono ?_
          rintro e w31 ⟨rfl, g31⟩
          obtain ⟨c3, f3, z3⟩ := blk_cells (g31.heap b3)
          obtain ⟨c4, f4, z4⟩ := blk_cells (g31.heap b4)
          obtain ⟨c5, f5, z5⟩ := blk_cells (g31.heap b5)
          obtain ⟨c7, f7, z7⟩ := blk_cells (g31.heap b7)
          have z0 : w.heap.size ≤ w31.heap.size := (Gr.trans G g31).b.size
          go_wp2_with fail
          clear c3 f3 c4 f4 c5 f5 c7 f7
          replace b3 := g31.heap b3
          replace b4 := g31.heap b4
          replace b5 := g31.heap b5
          replace b7 := g31.heap b7
          have G := G.trans g31
          clear z3 z4 z5 z7 z0
          clear g31
          all_goals go_meet
          all_goals exact ⟨by first | rfl | exact congrArg Value.bool (decide_eq_false (Int.not_lt.2 m5)) | exact congrArg Value.bool (decide_eq_false (Int.not_lt.2 m2)), G, b3, b4, b5, b7⟩
    · clear HB HM LC LD
      have hE2 : (E == 0) = false := beq_eq_false_iff_ne.2 hE
      obtain ⟨c3, f3, z3⟩ := blk_cells b3
      obtain ⟨c4, f4, z4⟩ := blk_cells b4
      obtain ⟨c5, f5, z5⟩ := blk_cells b5
      obtain ⟨c7, f7, z7⟩ := blk_cells b7
      go_wp2_with fail
      all_goals go_meet
      all_goals exact ⟨by first | rfl | exact congrArg Value.bool (decide_eq_false (Int.not_lt.2 m5)) | exact congrArg Value.bool (decide_eq_false (Int.not_lt.2 m2)), G, b3, b4, b5, b7⟩
  case rest =>
    clear G CX LC LD HB HM C1 SM LA LB
    clear b3 b4 b5 b7
    obtain ⟨rfl, G, b3, b4, b5, b7⟩ := hcut
    by_cases hD : D = 1
    · subst hD
      clear NB LE LF HN
      obtain ⟨c3, f3, z3⟩ := blk_cells b3
      obtain ⟨c4, f4, z4⟩ := blk_cells b4
      obtain ⟨c5, f5, z5⟩ := blk_cells b5
      obtain ⟨c7, f7, z7⟩ := blk_cells b7
      go_wp2_with fail
      clear c3 f3 z3 c4 f4 z4 c5 f5 z5 c7 f7 z7
      refine (alive_any _ (HT.out.gr G)).mono ?_
      rintro e wz ⟨rfl, gz⟩
      obtain ⟨c3, f3, z3⟩ := blk_cells (gz.heap b3)
      obtain ⟨c4, f4, z4⟩ := blk_cells (gz.heap b4)
      obtain ⟨c5, f5, z5⟩ := blk_cells (gz.heap b5)
      obtain ⟨c7, f7, z7⟩ := blk_cells (gz.heap b7)
      go_wp2
      go_ret
      exact ⟨rfl, G.trans gz⟩
    · have NB := Lib.hid (NB.out hD)
      have LE := Lib.hid (LE.out hD)
      have LF := Lib.hid (LF.out hD)
      obtain ⟨h1, h2, h3, h4, h5, h6⟩ := HN.out hD
      clear HN
      have k1 : IntKind.i64.wrap (N*ad) = N*ad := IntWalk.i64_in _ (by omega)
      have k2 : IntKind.i64.wrap (an*D) = an*D := IntWalk.i64_in _ (by omega)
      have k3 : IntKind.i64.wrap (bn*D) = bn*D := IntWalk.i64_in _ (by omega)
      have k4 : IntKind.i64.wrap (N*bd) = N*bd := IntWalk.i64_in _ (by omega)
      have k5 : IntKind.i64.wrap (1:Int) = 1 := rfl
      obtain ⟨c3, f3, z3⟩ := blk_cells b3
      obtain ⟨c4, f4, z4⟩ := blk_cells b4
      obtain ⟨c5, f5, z5⟩ := blk_cells b5
      obtain ⟨c7, f7, z7⟩ := blk_cells b7
      go_wp2_with fail
      clear c3 f3 z3 c4 f4 z4 c5 f5 z5 c7 f7 z7
      refine (NB.out _).mono ?_
      rintro e w61 ⟨rfl, g61⟩
      obtain ⟨c3, f3, z3⟩ := blk_cells (g61.heap b3)
      obtain ⟨c4, f4, z4⟩ := blk_cells (g61.heap b4)
      obtain ⟨c5, f5, z5⟩ := blk_cells (g61.heap b5)
      obtain ⟨c7, f7, z7⟩ := blk_cells (g61.heap b7)
      have z0 : w.heap.size ≤ w61.heap.size := (Gr.trans G g61).b.size
      go_wp2_with fail
      clear c3 f3 c4 f4 c5 f5 c7 f7
      replace b3 := g61.heap b3
      replace b4 := g61.heap b4
      replace b5 := g61.heap b5
      replace b7 := g61.heap b7
      have G := G.trans g61
      replace b3 := ((Gr.refl _).alloc (.cells #[.int .i64 an, .int .i64 ad] 23)).heap b3
      replace b4 := ((Gr.refl _).alloc (.cells #[.int .i64 an, .int .i64 ad] 23)).heap b4
      replace b5 := ((Gr.refl _).alloc (.cells #[.int .i64 an, .int .i64 ad] 23)).heap b5
      replace b7 := ((Gr.refl _).alloc (.cells #[.int .i64 an, .int .i64 ad] 23)).heap b7
      have b13 := heap_alloc_self w61 (.cells #[.int .i64 an, .int .i64 ad] 23)
      replace G := G.alloc (.cells #[.int .i64 an, .int .i64 ad] 23)
      replace b3 := ((Gr.refl _).alloc (.cells #[.int .i64 bn, .int .i64 bd] 23)).heap b3
      replace b4 := ((Gr.refl _).alloc (.cells #[.int .i64 bn, .int .i64 bd] 23)).heap b4
      replace b5 := ((Gr.refl _).alloc (.cells #[.int .i64 bn, .int .i64 bd] 23)).heap b5
      replace b7 := ((Gr.refl _).alloc (.cells #[.int .i64 bn, .int .i64 bd] 23)).heap b7
      replace b13 := ((Gr.refl _).alloc (.cells #[.int .i64 bn, .int .i64 bd] 23)).heap b13
      have b14 := heap_alloc_self (w61.alloc (.cells #[.int .i64 an, .int .i64 ad] 23)) (.cells #[.int .i64 bn, .int .i64 bd] 23)
      replace G := G.alloc (.cells #[.int .i64 bn, .int .i64 bd] 23)
      generalize hW : ((w61.alloc (.cells #[.int .i64 an, .int .i64 ad] 23)).alloc (.cells #[.int .i64 bn, .int .i64 bd] 23)) = W61 at *
      simp only [World.size_alloc] at b14
      have o3 : p3 < w61.heap.size := z3
      have o4 : p4 < w61.heap.size := z4
      have o5 : p5 < w61.heap.size := z5
      have o7 : p7 < w61.heap.size := z7
      have w0 : w.heap.size ≤ w61.heap.size := z0
      obtain ⟨p14, hp14⟩ : ∃ p14, w61.heap.size + 1 = p14 := ⟨_, rfl⟩
      obtain ⟨p13, hp13⟩ : ∃ p13, w61.heap.size = p13 := ⟨_, rfl⟩
      rw [hp14] at b14
      rw [hp13] at b13
      try simp only [hp14]
      try simp only [hp13]
      have n3_13 : ¬ p3 = p13 := by omega
      have n13_3 : ¬ p13 = p3 := by omega
      have n4_13 : ¬ p4 = p13 := by omega
      have n13_4 : ¬ p13 = p4 := by omega
      have n5_13 : ¬ p5 = p13 := by omega
      have n13_5 : ¬ p13 = p5 := by omega
      have n7_13 : ¬ p7 = p13 := by omega
      have n13_7 : ¬ p13 = p7 := by omega
      have s13 : w.heap.size ≤ p13 := by omega
      have n3_14 : ¬ p3 = p14 := by omega
      have n14_3 : ¬ p14 = p3 := by omega
      have n4_14 : ¬ p4 = p14 := by omega
      have n14_4 : ¬ p14 = p4 := by omega
      have n5_14 : ¬ p5 = p14 := by omega
      have n14_5 : ¬ p14 = p5 := by omega
      have n7_14 : ¬ p7 = p14 := by omega
      have n14_7 : ¬ p14 = p7 := by omega
      have n13_14 : ¬ p13 = p14 := by omega
      have n14_13 : ¬ p14 = p13 := by omega
      have s14 : w.heap.size ≤ p14 := by omega
      clear o3 o4 o5 o7 w0
      clear hp13
      clear hp14
      clear hW
      clear z3 z4 z5 z7 z0
      clear g61
      refine (alive_any _ (HT.out.gr G)).mono ?_
      rintro e w62 ⟨rfl, g62⟩
      obtain ⟨c3, f3, z3⟩ := blk_cells (g62.heap b3)
      obtain ⟨c4, f4, z4⟩ := blk_cells (g62.heap b4)
      obtain ⟨c5, f5, z5⟩ := blk_cells (g62.heap b5)
      obtain ⟨c7, f7, z7⟩ := blk_cells (g62.heap b7)
      obtain ⟨c13, f13, z13⟩ := blk_cells (g62.heap b13)
      obtain ⟨c14, f14, z14⟩ := blk_cells (g62.heap b14)
      have z0 : w.heap.size ≤ w62.heap.size := (Gr.trans G g62).b.size
      go_wp2_with fail
      clear c3 f3 c4 f4 c5 f5 c7 f7 c13 f13 c14 f14
      replace b3 := g62.heap b3
      replace b4 := g62.heap b4
      replace b5 := g62.heap b5
      replace b7 := g62.heap b7
      replace b13 := g62.heap b13
      replace b14 := g62.heap b14
      have G := G.trans g62
      clear z3 z4 z5 z7 z13 z14 z0
      clear g62
      refine (LE.out _).mono ?_
      rintro e w63 ⟨rfl, g63⟩
      obtain ⟨c3, f3, z3⟩ := blk_cells (g63.heap b3)
      obtain ⟨c4, f4, z4⟩ := blk_cells (g63.heap b4)
      obtain ⟨c5, f5, z5⟩ := blk_cells (g63.heap b5)
      obtain ⟨c7, f7, z7⟩ := blk_cells (g63.heap b7)
      obtain ⟨c13, f13, z13⟩ := blk_cells (g63.heap b13)
      obtain ⟨c14, f14, z14⟩ := blk_cells (g63.heap b14)
      have z0 : w.heap.size ≤ w63.heap.size := (Gr.trans G g63).b.size
      go_wp2_with fail
      clear c3 f3 c4 f4 c5 f5 c7 f7 c13 f13 c14 f14
      replace b3 := g63.heap b3
      replace b4 := g63.heap b4
      replace b5 := g63.heap b5
      replace b7 := g63.heap b7
      replace b13 := g63.heap b13
      replace b14 := g63.heap b14
      have G := G.trans g63
      clear z3 z4 z5 z7 z13 z14 z0
      clear g63
      refine (LF.out _).mono ?_
      rintro e w64 ⟨rfl, g64⟩
      obtain ⟨c3, f3, z3⟩ := blk_cells (g64.heap b3)
      obtain ⟨c4, f4, z4⟩ := blk_cells (g64.heap b4)
      obtain ⟨c5, f5, z5⟩ := blk_cells (g64.heap b5)
      obtain ⟨c7, f7, z7⟩ := blk_cells (g64.heap b7)
      obtain ⟨c13, f13, z13⟩ := blk_cells (g64.heap b13)
      obtain ⟨c14, f14, z14⟩ := blk_cells (g64.heap b14)
      have z0 : w.heap.size ≤ w64.heap.size := (Gr.trans G g64).b.size
      go_wp2_with fail
      clear c3 f3 c4 f4 c5 f5 c7 f7 c13 f13 c14 f14
      replace b3 := g64.heap b3
      replace b4 := g64.heap b4
      replace b5 := g64.heap b5
      replace b7 := g64.heap b7
      replace b13 := g64.heap b13
      replace b14 := g64.heap b14
      have G := G.trans g64
      clear z3 z4 z5 z7 z13 z14 z0
      clear g64
      obtain ⟨c3, f3, z3⟩ := blk_cells b3
      obtain ⟨c4, f4, z4⟩ := blk_cells b4
      obtain ⟨c5, f5, z5⟩ := blk_cells b5
      obtain ⟨c7, f7, z7⟩ := blk_cells b7
      obtain ⟨c13, f13, z13⟩ := blk_cells b13
      obtain ⟨c14, f14, z14⟩ := blk_cells b14
      go_wp2
      go_ret
      exact ⟨rfl, G⟩
theorem lessB_no {a b c d : Int} (h : ¬ a*d < c*b) : lessB a b c d = false := by simp [lessB, h]
theorem lessB_of {a b c d : Int} (h1 : Rm.okF a b = true) (h2 : Rm.okF c d = true) (h : lessB a b c d = false) : ¬ a*d < c*b := fun k => by
  rw [lessB_yes h1 h2 k] at h; cases h
theorem RuleProved_any (a b c d n e : Int) (w : World) (ht : Tab w) : Calls Tryd.prog 16 #[fr a b, fr c d, fr n e] w fun r w' => r = .returned (.bool true) ∧ Gr w w' := by
  have SM := fun w => Simplest_any a b c d w
  by_cases hr : rgE a b c d = 0
  · obtain ⟨h1, h2⟩ := rgE_zero hr
    have hok : Rm.okF a b = true ∧ Rm.okF c d = true := by rw [ok2, Bool.and_eq_true] at h1; exact h1
    obtain ⟨⟨x1, x2, x3, x4, x5⟩, ⟨y1, y2, y3, y4, y5⟩⟩ := ok2_parts h1
    have P := Rm.sim_PS x3 y3 x5 y5 h2
    have e1 : smN a b c d = (Rm.sim a b c d).1 := by simp [smN, hr]
    have e2 : smD a b c d = (Rm.sim a b c d).2 := by simp [smD, hr]
    rw [← e1, ← e2] at P
    have CX := fun w => CheckSimplest_any a b c d n e w
    have HB : csE a b c d n e = 0 → csB a b c d n e = (decide (n = smN a b c d) && decide (e = smD a b c d)) := fun h => by unfold csB; rw [h]; rfl
    have k := PS_okF h1 h2 P
    have zE : csE a b c d (smN a b c d) (smD a b c d) = 0 := by unfold csE; rw [h1, k, hr]; rfl
    have zB : csB a b c d (smN a b c d) (smD a b c d) = true := (cs_iff zE).2 P
    have C1 := fun w => CheckSimplest_any a b c d (smN a b c d) (smD a b c d) w
    rw [zE, zB] at C1
    rw [hr] at SM
    clear e1 e2 zE zB
    generalize smN a b c d = N at *
    generalize smD a b c d = D at *
    obtain ⟨z1, z2, z3, z4, z5⟩ := Rm.okF_iff.1 k
    have LA := less_any N D a b
    rw [lessB_no (by have := P.lo; omega)] at LA
    have LB := less_any c d N D
    rw [lessB_no (by have := P.hi; omega)] at LB
    have LC := less_any n e a b
    have LD := less_any c d n e
    have HM : csE a b c d n e = 0 → lessB n e a b = false → lessB c d n e = false → D ≤ e ∧ ¬ max n (-n) < max N (-N) ∧ -1000000000 ≤ n ∧ n ≤ 1000000000 := fun hE l1 l2 => by
      obtain ⟨_, q2, _⟩ := csE_zero hE
      obtain ⟨p1, p2, p3, p4, p5⟩ := Rm.okF_iff.1 q2
      have m1 := lessB_of q2 hok.1 l1
      have m2 := lessB_of hok.2 q2 l2
      have m3 := P.md n e p3 (by omega) (by omega)
      have m4 := P.mn n e p3 (by omega) (by omega)
      exact ⟨m3, by omega, p1, p2⟩
    have NB := Neighbours_any N D
    have K : ¬ D = 1 → nbR N D = .tuple #[fr (Rm.bkN N D (D-1)) (Rm.bkD N D (D-1)), fr (Rm.bhN N D (D-1)) (Rm.bhD N D (D-1)), .int .i64 0] ∧ Rm.Nb N D (Rm.bkN N D (D-1)) (Rm.bkD N D (D-1)) (Rm.bhN N D (D-1)) (Rm.bhD N D (D-1)) := fun hD => by
      have e1 : nbE N D = 0 := by simp [nbE, k, hD]
      exact ⟨by simp [nbR, nbv, e1], nb_of_okF k (by omega)⟩
    have LE := less_any (Rm.bkN N D (D-1)) (Rm.bkD N D (D-1)) a b
    have LF := less_any c d (Rm.bhN N D (D-1)) (Rm.bhD N D (D-1))
    refine RuleProved_go a b c d n e N D _ (Rm.bkN N D (D-1)) (Rm.bkD N D (D-1)) (Rm.bhN N D (D-1)) (Rm.bhD N D (D-1)) _ _ _ w ht (Lib.hid SM) (Lib.hid C1) (Lib.hid LA) (Lib.hid LB) (Lib.hid CX) (Lib.hid LC) (Lib.hid LD) (Lib.hid HB) (Lib.hid HM) z1 z2 (Lib.hid fun hD => ?_) (Lib.hid fun hD => ?_) (Lib.hid fun hD => ?_) (Lib.hid fun hD => ?_)
    · rw [← (K hD).1]; exact NB
    · obtain ⟨o1, o2⟩ := (K hD).2.okF (by omega) k
      rw [lessB_yes o1 hok.1 (P.nb x3 y3 (K hD).2).1] at LE
      exact LE
    · obtain ⟨o1, o2⟩ := (K hD).2.okF (by omega) k
      rw [lessB_yes hok.2 o2 (P.nb x3 y3 (K hD).2).2] at LF
      exact LF
    · obtain ⟨o1, o2⟩ := (K hD).2.okF (by omega) k
      obtain ⟨p1, p2, p3, p4, _⟩ := Rm.okF_iff.1 o1
      obtain ⟨q1, q2, q3, q4, _⟩ := Rm.okF_iff.1 o2
      obtain ⟨u1, u2⟩ := Rm.nd_bound z1 z2 p3 p4
      obtain ⟨u3, u4⟩ := Rm.nd_bound q1 q2 z3 z4
      exact ⟨(K hD).2.ad1, (K hD).2.bd1, by omega, by omega, by omega, by omega⟩
  · have e3 : smN a b c d = 0 ∧ smD a b c d = 0 := by simp [smN, smD, hr]
    rw [e3.1, e3.2] at SM
    exact RuleProved_bad a b c d n e _ w ht (Lib.hid SM) hr
end Go.Proofs.YtconhikflghkdaaDoor
