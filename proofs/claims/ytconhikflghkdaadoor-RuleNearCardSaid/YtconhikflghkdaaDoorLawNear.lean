/- stricklelaw01.RuleNear. -/
import Derived.Test.YtconhikflghkdaaDoorAlive
import Derived.Test.YtconhikflghkdaaDoorMath
namespace Go.Proofs.YtconhikflghkdaaDoor
open Go.RowKit Go.Shelf
def lessB (a b c d : Int) : Bool := ok2 a b c d && decide (a*d < c*b)
set_option maxHeartbeats 1000000 in
theorem less_any (a b c d : Int) : Says 39 #[fr a b, fr c d] (.bool (lessB a b c d)) := fun w => by
  have C := Lib.hid (Compare_any a b c d)
  cases h : ok2 a b c d
  · have e : lessB a b c d = false := by simp [lessB, h]
    rw [e]
    rw [h, Rm.err_false rfl] at C
    generalize cmpN a b c d = K at *
    clear h e
    go_enter Tryd.func39, Tryd.ntmps39
    go_wp2_with fail
    refine (C.out _).mono ?_
    rintro e w1 ⟨rfl, hg1⟩
    go_wp2
    go_ret
    exact ⟨rfl, (by repeat (first | exact Gr.refl _ | assumption | refine Gr.alloc ?_ _ | refine Gr.drew ?_ | refine Gr.drewN ?_ _ | refine Gr.set ?_ _ _ (by first | (simp; done) | (simp; omega)) | refine Gr.trans ?_ (by assumption)))⟩
  · rw [h, Rm.err_true rfl] at C
    by_cases hk : a*d < c*b
    · have e : lessB a b c d = true := by simp [lessB, h, hk]
      have e2 : cmpN a b c d = -1 := by simp only [cmpN, h, sgn, if_true]; rw [if_pos (by omega)]
      rw [e]
      rw [e2] at C
      clear h e e2 hk
      go_enter Tryd.func39, Tryd.ntmps39
      go_wp2_with fail
      refine (C.out _).mono ?_
      rintro e w1 ⟨rfl, hg1⟩
      go_wp2
      go_ret
      exact ⟨rfl, (by repeat (first | exact Gr.refl _ | assumption | refine Gr.alloc ?_ _ | refine Gr.drew ?_ | refine Gr.drewN ?_ _ | refine Gr.set ?_ _ _ (by first | (simp; done) | (simp; omega)) | refine Gr.trans ?_ (by assumption)))⟩
    · have e : lessB a b c d = false := by simp [lessB, hk]
      have e2 : ¬ cmpN a b c d < 0 := by simp only [cmpN, h, sgn, if_true]; split <;> (try split) <;> omega
      rw [e]
      generalize cmpN a b c d = K at *
      clear h e hk
      go_enter Tryd.func39, Tryd.ntmps39
      go_wp2_with fail
      refine (C.out _).mono ?_
      rintro e w1 ⟨rfl, hg1⟩
      go_wp2
      go_ret
      exact ⟨ret_bool (decide_eq_false (by omega)), (by repeat (first | exact Gr.refl _ | assumption | refine Gr.alloc ?_ _ | refine Gr.drew ?_ | refine Gr.drewN ?_ _ | refine Gr.set ?_ _ _ (by first | (simp; done) | (simp; omega)) | refine Gr.trans ?_ (by assumption)))⟩
theorem lessB_yes {a b c d : Int} (h1 : Rm.okF a b = true) (h2 : Rm.okF c d = true) (h : a*d < c*b) : lessB a b c d = true := by simp [lessB, ok2, h1, h2, h]
theorem lessB_lt {a b c d : Int} (h : lessB a b c d = true) : a*d < c*b := by simp [lessB] at h; exact h.2
/-- what Neighbours returns are the neighbours -/
theorem nb_bk {n d : Int} (h : Rm.okF n d = true) (hd : 2 ≤ d) : Rm.Nb n d (Rm.bkN n d (d-1)) (Rm.bkD n d (d-1)) (Rm.bhN n d (d-1)) (Rm.bhD n d (d-1)) := by
  obtain ⟨x1, x2, x3, x4, x5⟩ := Rm.okF_iff.1 h
  obtain ⟨_, P, t, s, _, hci⟩ := Rm.conv_last x1 x2 x3 x4 x5
  have hnb := hci.nb hd
  rcases hci.sg with e | e
  · have k := hnb.1 e
    obtain ⟨k1, k2, k3, k4⟩ := Rm.bk_eq (by omega) (by omega) k.brk
    rw [k1, k2, k3, k4]; exact k
  · have k := hnb.2 e
    obtain ⟨k1, k2, k3, k4⟩ := Rm.bk_eq (by omega) (by omega) k.brk
    rw [k1, k2, k3, k4]; exact k
attribute [local go_sem] Oper.semAt_some
set_option maxRecDepth 100000 in
set_option maxHeartbeats 8000000 in
theorem RuleNear_bad (n d c e m a b a' b' E : Int) (w : World) (ht : Tab w)
    (AR : Hid (Says 23 #[fr n d, .int .i64 m] (.tuple #[fr a b, fr a' b', .int .i64 E])))
    (NE : Hid (Says 25 #[fr n d, .int .i64 m] (.tuple #[fr 0 0, .int .i64 E])))
    (hE : ¬ E = 0)
    : Calls Tryd.prog 10 #[fr n d, fr c e, .int .i64 m] w fun e w' => e = .returned (.bool true) ∧ Gr w w' := by
  have HT := Lib.hid ht
  clear ht
  go_enter Tryd.func10, Tryd.ntmps10
  go_wp2_with fail
  have G := Gr.refl w
  have b3 := heap_alloc_self w (.cells #[.int .i64 n, .int .i64 d] 23)
  replace G := G.alloc (.cells #[.int .i64 n, .int .i64 d] 23)
  replace b3 := ((Gr.refl _).alloc (.cells #[.int .i64 c, .int .i64 e] 23)).heap b3
  have b4 := heap_alloc_self (w.alloc (.cells #[.int .i64 n, .int .i64 d] 23)) (.cells #[.int .i64 c, .int .i64 e] 23)
  replace G := G.alloc (.cells #[.int .i64 c, .int .i64 e] 23)
  generalize hW : ((w.alloc (.cells #[.int .i64 n, .int .i64 d] 23)).alloc (.cells #[.int .i64 c, .int .i64 e] 23)) = W1 at *
  simp only [World.size_alloc] at b4
  have w0 : w.heap.size ≤ w.heap.size := Nat.le_refl _
  obtain ⟨p4, hp4⟩ : ∃ p4, w.heap.size + 1 = p4 := ⟨_, rfl⟩
  obtain ⟨p3, hp3⟩ : ∃ p3, w.heap.size = p3 := ⟨_, rfl⟩
  rw [hp4] at b4
  rw [hp3] at b3
  try simp only [hp4]
  try simp only [hp3]
  have s3 : w.heap.size ≤ p3 := by omega
  have n3_4 : ¬ p3 = p4 := by omega
  have n4_3 : ¬ p4 = p3 := by omega
  have s4 : w.heap.size ≤ p4 := by omega
  clear  w0
  clear hp3
  clear hp4
  clear hW
  refine (AR.out _).mono ?_
  rintro e w1 ⟨rfl, g1⟩
  obtain ⟨c3, f3, z3⟩ := blk_cells (g1.heap b3)
  obtain ⟨c4, f4, z4⟩ := blk_cells (g1.heap b4)
  have z0 : w.heap.size ≤ w1.heap.size := (Gr.trans G g1).b.size
  go_wp2_with fail
  clear c3 f3 c4 f4
  replace b3 := g1.heap b3
  replace b4 := g1.heap b4
  have G := G.trans g1
  replace b3 := ((Gr.refl _).alloc (.cells #[.int .i64 a, .int .i64 b] 23)).heap b3
  replace b4 := ((Gr.refl _).alloc (.cells #[.int .i64 a, .int .i64 b] 23)).heap b4
  have b7 := heap_alloc_self w1 (.cells #[.int .i64 a, .int .i64 b] 23)
  replace G := G.alloc (.cells #[.int .i64 a, .int .i64 b] 23)
  replace b3 := ((Gr.refl _).alloc (.cells #[.int .i64 (a'), .int .i64 (b')] 23)).heap b3
  replace b4 := ((Gr.refl _).alloc (.cells #[.int .i64 (a'), .int .i64 (b')] 23)).heap b4
  replace b7 := ((Gr.refl _).alloc (.cells #[.int .i64 (a'), .int .i64 (b')] 23)).heap b7
  have b8 := heap_alloc_self (w1.alloc (.cells #[.int .i64 a, .int .i64 b] 23)) (.cells #[.int .i64 (a'), .int .i64 (b')] 23)
  replace G := G.alloc (.cells #[.int .i64 (a'), .int .i64 (b')] 23)
  generalize hW : ((w1.alloc (.cells #[.int .i64 a, .int .i64 b] 23)).alloc (.cells #[.int .i64 (a'), .int .i64 (b')] 23)) = W2 at *
  simp only [World.size_alloc] at b8
  have o3 : p3 < w1.heap.size := z3
  have o4 : p4 < w1.heap.size := z4
  have w0 : w.heap.size ≤ w1.heap.size := z0
  obtain ⟨p8, hp8⟩ : ∃ p8, w1.heap.size + 1 = p8 := ⟨_, rfl⟩
  obtain ⟨p7, hp7⟩ : ∃ p7, w1.heap.size = p7 := ⟨_, rfl⟩
  rw [hp8] at b8
  rw [hp7] at b7
  try simp only [hp8]
  try simp only [hp7]
  have n3_7 : ¬ p3 = p7 := by omega
  have n7_3 : ¬ p7 = p3 := by omega
  have n4_7 : ¬ p4 = p7 := by omega
  have n7_4 : ¬ p7 = p4 := by omega
  have s7 : w.heap.size ≤ p7 := by omega
  have n3_8 : ¬ p3 = p8 := by omega
  have n8_3 : ¬ p8 = p3 := by omega
  have n4_8 : ¬ p4 = p8 := by omega
  have n8_4 : ¬ p8 = p4 := by omega
  have n7_8 : ¬ p7 = p8 := by omega
  have n8_7 : ¬ p8 = p7 := by omega
  have s8 : w.heap.size ≤ p8 := by omega
  clear o3 o4 w0
  clear hp7
  clear hp8
  clear hW
  clear z3 z4 z0
  clear g1
  refine (NE.out _).mono ?_
  rintro e w2 ⟨rfl, g2⟩
  obtain ⟨c3, f3, z3⟩ := blk_cells (g2.heap b3)
  obtain ⟨c4, f4, z4⟩ := blk_cells (g2.heap b4)
  obtain ⟨c7, f7, z7⟩ := blk_cells (g2.heap b7)
  obtain ⟨c8, f8, z8⟩ := blk_cells (g2.heap b8)
  have z0 : w.heap.size ≤ w2.heap.size := (Gr.trans G g2).b.size
  go_wp2_with fail
  clear c3 f3 c4 f4 c7 f7 c8 f8
  replace b3 := g2.heap b3
  replace b4 := g2.heap b4
  replace b7 := g2.heap b7
  replace b8 := g2.heap b8
  have G := G.trans g2
  replace b3 := ((Gr.refl _).alloc (.cells #[.int .i64 0, .int .i64 0] 23)).heap b3
  replace b4 := ((Gr.refl _).alloc (.cells #[.int .i64 0, .int .i64 0] 23)).heap b4
  replace b7 := ((Gr.refl _).alloc (.cells #[.int .i64 0, .int .i64 0] 23)).heap b7
  replace b8 := ((Gr.refl _).alloc (.cells #[.int .i64 0, .int .i64 0] 23)).heap b8
  have b10 := heap_alloc_self w2 (.cells #[.int .i64 0, .int .i64 0] 23)
  replace G := G.alloc (.cells #[.int .i64 0, .int .i64 0] 23)
  generalize hW : (w2.alloc (.cells #[.int .i64 0, .int .i64 0] 23)) = W3 at *
  have o3 : p3 < w2.heap.size := z3
  have o4 : p4 < w2.heap.size := z4
  have o7 : p7 < w2.heap.size := z7
  have o8 : p8 < w2.heap.size := z8
  have w0 : w.heap.size ≤ w2.heap.size := z0
  obtain ⟨p10, hp10⟩ : ∃ p10, w2.heap.size = p10 := ⟨_, rfl⟩
  rw [hp10] at b10
  try simp only [hp10]
  have n3_10 : ¬ p3 = p10 := by omega
  have n10_3 : ¬ p10 = p3 := by omega
  have n4_10 : ¬ p4 = p10 := by omega
  have n10_4 : ¬ p10 = p4 := by omega
  have n7_10 : ¬ p7 = p10 := by omega
  have n10_7 : ¬ p10 = p7 := by omega
  have n8_10 : ¬ p8 = p10 := by omega
  have n10_8 : ¬ p10 = p8 := by omega
  have s10 : w.heap.size ≤ p10 := by omega
  clear o3 o4 o7 o8 w0
  clear hp10
  clear hW
  clear z3 z4 z7 z8 z0
  clear g2
  refine (alive_any _ (HT.out.gr G)).mono ?_
  rintro e wz ⟨rfl, gz⟩
  obtain ⟨c3, f3, z3⟩ := blk_cells (gz.heap b3)
  obtain ⟨c4, f4, z4⟩ := blk_cells (gz.heap b4)
  obtain ⟨c7, f7, z7⟩ := blk_cells (gz.heap b7)
  obtain ⟨c8, f8, z8⟩ := blk_cells (gz.heap b8)
  obtain ⟨c10, f10, z10⟩ := blk_cells (gz.heap b10)
  go_wp2
  go_ret
  exact ⟨rfl, G.trans gz⟩
set_option maxRecDepth 100000 in
set_option maxHeartbeats 8000000 in
theorem RuleNear_yw_low (n d c e m a b a' b' _E : Int) (w : World) (ht : Tab w)
    (AR : Hid (Says 23 #[fr n d, .int .i64 m] (.tuple #[fr a b, fr a' b', .int .i64 0])))
    (NE : Hid (Says 25 #[fr n d, .int .i64 m] (.tuple #[fr a b, .int .i64 0])))
    (hb : ¬ m < b) (hb' : ¬ m < b')
    (L1 : Hid (Says 39 #[fr n d, fr a b] (.bool false))) (L2 : Hid (Says 39 #[fr a' b', fr n d] (.bool false)))
    (CF : Hid (Says 40 #[fr c e] (.int .i64 1)))
    : Calls Tryd.prog 10 #[fr n d, fr c e, .int .i64 m] w fun e w' => e = .returned (.bool true) ∧ Gr w w' := by
  have HT := Lib.hid ht
  clear ht
  go_enter Tryd.func10, Tryd.ntmps10
  go_wp2_with fail
  have G := Gr.refl w
  have b3 := heap_alloc_self w (.cells #[.int .i64 n, .int .i64 d] 23)
  replace G := G.alloc (.cells #[.int .i64 n, .int .i64 d] 23)
  replace b3 := ((Gr.refl _).alloc (.cells #[.int .i64 c, .int .i64 e] 23)).heap b3
  have b4 := heap_alloc_self (w.alloc (.cells #[.int .i64 n, .int .i64 d] 23)) (.cells #[.int .i64 c, .int .i64 e] 23)
  replace G := G.alloc (.cells #[.int .i64 c, .int .i64 e] 23)
  generalize hW : ((w.alloc (.cells #[.int .i64 n, .int .i64 d] 23)).alloc (.cells #[.int .i64 c, .int .i64 e] 23)) = W1 at *
  simp only [World.size_alloc] at b4
  have w0 : w.heap.size ≤ w.heap.size := Nat.le_refl _
  obtain ⟨p4, hp4⟩ : ∃ p4, w.heap.size + 1 = p4 := ⟨_, rfl⟩
  obtain ⟨p3, hp3⟩ : ∃ p3, w.heap.size = p3 := ⟨_, rfl⟩
  rw [hp4] at b4
  rw [hp3] at b3
  try simp only [hp4]
  try simp only [hp3]
  have s3 : w.heap.size ≤ p3 := by omega
  have n3_4 : ¬ p3 = p4 := by omega
  have n4_3 : ¬ p4 = p3 := by omega
  have s4 : w.heap.size ≤ p4 := by omega
  clear  w0
  clear hp3
  clear hp4
  clear hW
  refine (AR.out _).mono ?_
  rintro e w1 ⟨rfl, g1⟩
  obtain ⟨c3, f3, z3⟩ := blk_cells (g1.heap b3)
  obtain ⟨c4, f4, z4⟩ := blk_cells (g1.heap b4)
  have z0 : w.heap.size ≤ w1.heap.size := (Gr.trans G g1).b.size
  go_wp2_with fail
  clear c3 f3 c4 f4
  replace b3 := g1.heap b3
  replace b4 := g1.heap b4
  have G := G.trans g1
  replace b3 := ((Gr.refl _).alloc (.cells #[.int .i64 a, .int .i64 b] 23)).heap b3
  replace b4 := ((Gr.refl _).alloc (.cells #[.int .i64 a, .int .i64 b] 23)).heap b4
  have b7 := heap_alloc_self w1 (.cells #[.int .i64 a, .int .i64 b] 23)
  replace G := G.alloc (.cells #[.int .i64 a, .int .i64 b] 23)
  replace b3 := ((Gr.refl _).alloc (.cells #[.int .i64 (a'), .int .i64 (b')] 23)).heap b3
  replace b4 := ((Gr.refl _).alloc (.cells #[.int .i64 (a'), .int .i64 (b')] 23)).heap b4
  replace b7 := ((Gr.refl _).alloc (.cells #[.int .i64 (a'), .int .i64 (b')] 23)).heap b7
  have b8 := heap_alloc_self (w1.alloc (.cells #[.int .i64 a, .int .i64 b] 23)) (.cells #[.int .i64 (a'), .int .i64 (b')] 23)
  replace G := G.alloc (.cells #[.int .i64 (a'), .int .i64 (b')] 23)
  generalize hW : ((w1.alloc (.cells #[.int .i64 a, .int .i64 b] 23)).alloc (.cells #[.int .i64 (a'), .int .i64 (b')] 23)) = W2 at *
  simp only [World.size_alloc] at b8
  have o3 : p3 < w1.heap.size := z3
  have o4 : p4 < w1.heap.size := z4
  have w0 : w.heap.size ≤ w1.heap.size := z0
  obtain ⟨p8, hp8⟩ : ∃ p8, w1.heap.size + 1 = p8 := ⟨_, rfl⟩
  obtain ⟨p7, hp7⟩ : ∃ p7, w1.heap.size = p7 := ⟨_, rfl⟩
  rw [hp8] at b8
  rw [hp7] at b7
  try simp only [hp8]
  try simp only [hp7]
  have n3_7 : ¬ p3 = p7 := by omega
  have n7_3 : ¬ p7 = p3 := by omega
  have n4_7 : ¬ p4 = p7 := by omega
  have n7_4 : ¬ p7 = p4 := by omega
  have s7 : w.heap.size ≤ p7 := by omega
  have n3_8 : ¬ p3 = p8 := by omega
  have n8_3 : ¬ p8 = p3 := by omega
  have n4_8 : ¬ p4 = p8 := by omega
  have n8_4 : ¬ p8 = p4 := by omega
  have n7_8 : ¬ p7 = p8 := by omega
  have n8_7 : ¬ p8 = p7 := by omega
  have s8 : w.heap.size ≤ p8 := by omega
  clear o3 o4 w0
  clear hp7
  clear hp8
  clear hW
  clear z3 z4 z0
  clear g1
  refine (NE.out _).mono ?_
  rintro e w2 ⟨rfl, g2⟩
  obtain ⟨c3, f3, z3⟩ := blk_cells (g2.heap b3)
  obtain ⟨c4, f4, z4⟩ := blk_cells (g2.heap b4)
  obtain ⟨c7, f7, z7⟩ := blk_cells (g2.heap b7)
  obtain ⟨c8, f8, z8⟩ := blk_cells (g2.heap b8)
  have z0 : w.heap.size ≤ w2.heap.size := (Gr.trans G g2).b.size
  go_wp2_with fail
  clear c3 f3 c4 f4 c7 f7 c8 f8
  replace b3 := g2.heap b3
  replace b4 := g2.heap b4
  replace b7 := g2.heap b7
  replace b8 := g2.heap b8
  have G := G.trans g2
  replace b3 := ((Gr.refl _).alloc (.cells #[.int .i64 a, .int .i64 b] 23)).heap b3
  replace b4 := ((Gr.refl _).alloc (.cells #[.int .i64 a, .int .i64 b] 23)).heap b4
  replace b7 := ((Gr.refl _).alloc (.cells #[.int .i64 a, .int .i64 b] 23)).heap b7
  replace b8 := ((Gr.refl _).alloc (.cells #[.int .i64 a, .int .i64 b] 23)).heap b8
  have b10 := heap_alloc_self w2 (.cells #[.int .i64 a, .int .i64 b] 23)
  replace G := G.alloc (.cells #[.int .i64 a, .int .i64 b] 23)
  generalize hW : (w2.alloc (.cells #[.int .i64 a, .int .i64 b] 23)) = W3 at *
  have o3 : p3 < w2.heap.size := z3
  have o4 : p4 < w2.heap.size := z4
  have o7 : p7 < w2.heap.size := z7
  have o8 : p8 < w2.heap.size := z8
  have w0 : w.heap.size ≤ w2.heap.size := z0
  obtain ⟨p10, hp10⟩ : ∃ p10, w2.heap.size = p10 := ⟨_, rfl⟩
  rw [hp10] at b10
  try simp only [hp10]
  have n3_10 : ¬ p3 = p10 := by omega
  have n10_3 : ¬ p10 = p3 := by omega
  have n4_10 : ¬ p4 = p10 := by omega
  have n10_4 : ¬ p10 = p4 := by omega
  have n7_10 : ¬ p7 = p10 := by omega
  have n10_7 : ¬ p10 = p7 := by omega
  have n8_10 : ¬ p8 = p10 := by omega
  have n10_8 : ¬ p10 = p8 := by omega
  have s10 : w.heap.size ≤ p10 := by omega
  clear o3 o4 o7 o8 w0
  clear hp10
  clear hW
  clear z3 z4 z7 z8 z0
  clear g2
  refine (L1.out _).mono ?_
  rintro e w3 ⟨rfl, g3⟩
  obtain ⟨c3, f3, z3⟩ := blk_cells (g3.heap b3)
  obtain ⟨c4, f4, z4⟩ := blk_cells (g3.heap b4)
  obtain ⟨c7, f7, z7⟩ := blk_cells (g3.heap b7)
  obtain ⟨c8, f8, z8⟩ := blk_cells (g3.heap b8)
  obtain ⟨c10, f10, z10⟩ := blk_cells (g3.heap b10)
  have z0 : w.heap.size ≤ w3.heap.size := (Gr.trans G g3).b.size
  go_wp2_with fail
  clear c3 f3 c4 f4 c7 f7 c8 f8 c10 f10
  replace b3 := g3.heap b3
  replace b4 := g3.heap b4
  replace b7 := g3.heap b7
  replace b8 := g3.heap b8
  replace b10 := g3.heap b10
  have G := G.trans g3
  clear z3 z4 z7 z8 z10 z0
  clear g3
  refine (L2.out _).mono ?_
  rintro e w4 ⟨rfl, g4⟩
  obtain ⟨c3, f3, z3⟩ := blk_cells (g4.heap b3)
  obtain ⟨c4, f4, z4⟩ := blk_cells (g4.heap b4)
  obtain ⟨c7, f7, z7⟩ := blk_cells (g4.heap b7)
  obtain ⟨c8, f8, z8⟩ := blk_cells (g4.heap b8)
  obtain ⟨c10, f10, z10⟩ := blk_cells (g4.heap b10)
  have z0 : w.heap.size ≤ w4.heap.size := (Gr.trans G g4).b.size
  go_wp2_with fail
  clear c3 f3 c4 f4 c7 f7 c8 f8 c10 f10
  replace b3 := g4.heap b3
  replace b4 := g4.heap b4
  replace b7 := g4.heap b7
  replace b8 := g4.heap b8
  replace b10 := g4.heap b10
  have G := G.trans g4
  clear z3 z4 z7 z8 z10 z0
  clear g4
  refine (CF.out _).mono ?_
  rintro e w5 ⟨rfl, g5⟩
  obtain ⟨c3, f3, z3⟩ := blk_cells (g5.heap b3)
  obtain ⟨c4, f4, z4⟩ := blk_cells (g5.heap b4)
  obtain ⟨c7, f7, z7⟩ := blk_cells (g5.heap b7)
  obtain ⟨c8, f8, z8⟩ := blk_cells (g5.heap b8)
  obtain ⟨c10, f10, z10⟩ := blk_cells (g5.heap b10)
  have z0 : w.heap.size ≤ w5.heap.size := (Gr.trans G g5).b.size
  go_wp2_with fail
  clear c3 f3 c4 f4 c7 f7 c8 f8 c10 f10
  replace b3 := g5.heap b3
  replace b4 := g5.heap b4
  replace b7 := g5.heap b7
  replace b8 := g5.heap b8
  replace b10 := g5.heap b10
  have G := G.trans g5
  clear z3 z4 z7 z8 z10 z0
  clear g5
  refine (alive_any _ (HT.out.gr G)).mono ?_
  rintro e wz ⟨rfl, gz⟩
  obtain ⟨c3, f3, z3⟩ := blk_cells (gz.heap b3)
  obtain ⟨c4, f4, z4⟩ := blk_cells (gz.heap b4)
  obtain ⟨c7, f7, z7⟩ := blk_cells (gz.heap b7)
  obtain ⟨c8, f8, z8⟩ := blk_cells (gz.heap b8)
  obtain ⟨c10, f10, z10⟩ := blk_cells (gz.heap b10)
  go_wp2
  go_ret
  exact ⟨rfl, G.trans gz⟩
set_option maxRecDepth 100000 in
set_option maxHeartbeats 8000000 in
theorem RuleNear_ye_low (n d c e m a b a' b' _E : Int) (w : World) (ht : Tab w)
    (AR : Hid (Says 23 #[fr n d, .int .i64 m] (.tuple #[fr a b, fr a' b', .int .i64 0])))
    (NE : Hid (Says 25 #[fr n d, .int .i64 m] (.tuple #[fr a b, .int .i64 0])))
    (hb : ¬ m < b) (hb' : ¬ m < b')
    (L1 : Hid (Says 39 #[fr n d, fr a b] (.bool false))) (L2 : Hid (Says 39 #[fr a' b', fr n d] (.bool false)))
    (CF : Hid (Says 40 #[fr c e] (.int .i64 0)))
    (he : m < e)
    : Calls Tryd.prog 10 #[fr n d, fr c e, .int .i64 m] w fun e w' => e = .returned (.bool true) ∧ Gr w w' := by
  have HT := Lib.hid ht
  clear ht
  go_enter Tryd.func10, Tryd.ntmps10
  go_wp2_with fail
  have G := Gr.refl w
  have b3 := heap_alloc_self w (.cells #[.int .i64 n, .int .i64 d] 23)
  replace G := G.alloc (.cells #[.int .i64 n, .int .i64 d] 23)
  replace b3 := ((Gr.refl _).alloc (.cells #[.int .i64 c, .int .i64 e] 23)).heap b3
  have b4 := heap_alloc_self (w.alloc (.cells #[.int .i64 n, .int .i64 d] 23)) (.cells #[.int .i64 c, .int .i64 e] 23)
  replace G := G.alloc (.cells #[.int .i64 c, .int .i64 e] 23)
  generalize hW : ((w.alloc (.cells #[.int .i64 n, .int .i64 d] 23)).alloc (.cells #[.int .i64 c, .int .i64 e] 23)) = W1 at *
  simp only [World.size_alloc] at b4
  have w0 : w.heap.size ≤ w.heap.size := Nat.le_refl _
  obtain ⟨p4, hp4⟩ : ∃ p4, w.heap.size + 1 = p4 := ⟨_, rfl⟩
  obtain ⟨p3, hp3⟩ : ∃ p3, w.heap.size = p3 := ⟨_, rfl⟩
  rw [hp4] at b4
  rw [hp3] at b3
  try simp only [hp4]
  try simp only [hp3]
  have s3 : w.heap.size ≤ p3 := by omega
  have n3_4 : ¬ p3 = p4 := by omega
  have n4_3 : ¬ p4 = p3 := by omega
  have s4 : w.heap.size ≤ p4 := by omega
  clear  w0
  clear hp3
  clear hp4
  clear hW
  refine (AR.out _).mono ?_
  rintro e w1 ⟨rfl, g1⟩
  obtain ⟨c3, f3, z3⟩ := blk_cells (g1.heap b3)
  obtain ⟨c4, f4, z4⟩ := blk_cells (g1.heap b4)
  have z0 : w.heap.size ≤ w1.heap.size := (Gr.trans G g1).b.size
  go_wp2_with fail
  clear c3 f3 c4 f4
  replace b3 := g1.heap b3
  replace b4 := g1.heap b4
  have G := G.trans g1
  replace b3 := ((Gr.refl _).alloc (.cells #[.int .i64 a, .int .i64 b] 23)).heap b3
  replace b4 := ((Gr.refl _).alloc (.cells #[.int .i64 a, .int .i64 b] 23)).heap b4
  have b7 := heap_alloc_self w1 (.cells #[.int .i64 a, .int .i64 b] 23)
  replace G := G.alloc (.cells #[.int .i64 a, .int .i64 b] 23)
  replace b3 := ((Gr.refl _).alloc (.cells #[.int .i64 (a'), .int .i64 (b')] 23)).heap b3
  replace b4 := ((Gr.refl _).alloc (.cells #[.int .i64 (a'), .int .i64 (b')] 23)).heap b4
  replace b7 := ((Gr.refl _).alloc (.cells #[.int .i64 (a'), .int .i64 (b')] 23)).heap b7
  have b8 := heap_alloc_self (w1.alloc (.cells #[.int .i64 a, .int .i64 b] 23)) (.cells #[.int .i64 (a'), .int .i64 (b')] 23)
  replace G := G.alloc (.cells #[.int .i64 (a'), .int .i64 (b')] 23)
  generalize hW : ((w1.alloc (.cells #[.int .i64 a, .int .i64 b] 23)).alloc (.cells #[.int .i64 (a'), .int .i64 (b')] 23)) = W2 at *
  simp only [World.size_alloc] at b8
  have o3 : p3 < w1.heap.size := z3
  have o4 : p4 < w1.heap.size := z4
  have w0 : w.heap.size ≤ w1.heap.size := z0
  obtain ⟨p8, hp8⟩ : ∃ p8, w1.heap.size + 1 = p8 := ⟨_, rfl⟩
  obtain ⟨p7, hp7⟩ : ∃ p7, w1.heap.size = p7 := ⟨_, rfl⟩
  rw [hp8] at b8
  rw [hp7] at b7
  try simp only [hp8]
  try simp only [hp7]
  have n3_7 : ¬ p3 = p7 := by omega
  have n7_3 : ¬ p7 = p3 := by omega
  have n4_7 : ¬ p4 = p7 := by omega
  have n7_4 : ¬ p7 = p4 := by omega
  have s7 : w.heap.size ≤ p7 := by omega
  have n3_8 : ¬ p3 = p8 := by omega
  have n8_3 : ¬ p8 = p3 := by omega
  have n4_8 : ¬ p4 = p8 := by omega
  have n8_4 : ¬ p8 = p4 := by omega
  have n7_8 : ¬ p7 = p8 := by omega
  have n8_7 : ¬ p8 = p7 := by omega
  have s8 : w.heap.size ≤ p8 := by omega
  clear o3 o4 w0
  clear hp7
  clear hp8
  clear hW
  clear z3 z4 z0
  clear g1
  refine (NE.out _).mono ?_
  rintro e w2 ⟨rfl, g2⟩
  obtain ⟨c3, f3, z3⟩ := blk_cells (g2.heap b3)
  obtain ⟨c4, f4, z4⟩ := blk_cells (g2.heap b4)
  obtain ⟨c7, f7, z7⟩ := blk_cells (g2.heap b7)
  obtain ⟨c8, f8, z8⟩ := blk_cells (g2.heap b8)
  have z0 : w.heap.size ≤ w2.heap.size := (Gr.trans G g2).b.size
  go_wp2_with fail
  clear c3 f3 c4 f4 c7 f7 c8 f8
  replace b3 := g2.heap b3
  replace b4 := g2.heap b4
  replace b7 := g2.heap b7
  replace b8 := g2.heap b8
  have G := G.trans g2
  replace b3 := ((Gr.refl _).alloc (.cells #[.int .i64 a, .int .i64 b] 23)).heap b3
  replace b4 := ((Gr.refl _).alloc (.cells #[.int .i64 a, .int .i64 b] 23)).heap b4
  replace b7 := ((Gr.refl _).alloc (.cells #[.int .i64 a, .int .i64 b] 23)).heap b7
  replace b8 := ((Gr.refl _).alloc (.cells #[.int .i64 a, .int .i64 b] 23)).heap b8
  have b10 := heap_alloc_self w2 (.cells #[.int .i64 a, .int .i64 b] 23)
  replace G := G.alloc (.cells #[.int .i64 a, .int .i64 b] 23)
  generalize hW : (w2.alloc (.cells #[.int .i64 a, .int .i64 b] 23)) = W3 at *
  have o3 : p3 < w2.heap.size := z3
  have o4 : p4 < w2.heap.size := z4
  have o7 : p7 < w2.heap.size := z7
  have o8 : p8 < w2.heap.size := z8
  have w0 : w.heap.size ≤ w2.heap.size := z0
  obtain ⟨p10, hp10⟩ : ∃ p10, w2.heap.size = p10 := ⟨_, rfl⟩
  rw [hp10] at b10
  try simp only [hp10]
  have n3_10 : ¬ p3 = p10 := by omega
  have n10_3 : ¬ p10 = p3 := by omega
  have n4_10 : ¬ p4 = p10 := by omega
  have n10_4 : ¬ p10 = p4 := by omega
  have n7_10 : ¬ p7 = p10 := by omega
  have n10_7 : ¬ p10 = p7 := by omega
  have n8_10 : ¬ p8 = p10 := by omega
  have n10_8 : ¬ p10 = p8 := by omega
  have s10 : w.heap.size ≤ p10 := by omega
  clear o3 o4 o7 o8 w0
  clear hp10
  clear hW
  clear z3 z4 z7 z8 z0
  clear g2
  refine (L1.out _).mono ?_
  rintro e w3 ⟨rfl, g3⟩
  obtain ⟨c3, f3, z3⟩ := blk_cells (g3.heap b3)
  obtain ⟨c4, f4, z4⟩ := blk_cells (g3.heap b4)
  obtain ⟨c7, f7, z7⟩ := blk_cells (g3.heap b7)
  obtain ⟨c8, f8, z8⟩ := blk_cells (g3.heap b8)
  obtain ⟨c10, f10, z10⟩ := blk_cells (g3.heap b10)
  have z0 : w.heap.size ≤ w3.heap.size := (Gr.trans G g3).b.size
  go_wp2_with fail
  clear c3 f3 c4 f4 c7 f7 c8 f8 c10 f10
  replace b3 := g3.heap b3
  replace b4 := g3.heap b4
  replace b7 := g3.heap b7
  replace b8 := g3.heap b8
  replace b10 := g3.heap b10
  have G := G.trans g3
  clear z3 z4 z7 z8 z10 z0
  clear g3
  refine (L2.out _).mono ?_
  rintro e w4 ⟨rfl, g4⟩
  obtain ⟨c3, f3, z3⟩ := blk_cells (g4.heap b3)
  obtain ⟨c4, f4, z4⟩ := blk_cells (g4.heap b4)
  obtain ⟨c7, f7, z7⟩ := blk_cells (g4.heap b7)
  obtain ⟨c8, f8, z8⟩ := blk_cells (g4.heap b8)
  obtain ⟨c10, f10, z10⟩ := blk_cells (g4.heap b10)
  have z0 : w.heap.size ≤ w4.heap.size := (Gr.trans G g4).b.size
  go_wp2_with fail
  clear c3 f3 c4 f4 c7 f7 c8 f8 c10 f10
  replace b3 := g4.heap b3
  replace b4 := g4.heap b4
  replace b7 := g4.heap b7
  replace b8 := g4.heap b8
  replace b10 := g4.heap b10
  have G := G.trans g4
  clear z3 z4 z7 z8 z10 z0
  clear g4
  refine (CF.out _).mono ?_
  rintro e w5 ⟨rfl, g5⟩
  obtain ⟨c3, f3, z3⟩ := blk_cells (g5.heap b3)
  obtain ⟨c4, f4, z4⟩ := blk_cells (g5.heap b4)
  obtain ⟨c7, f7, z7⟩ := blk_cells (g5.heap b7)
  obtain ⟨c8, f8, z8⟩ := blk_cells (g5.heap b8)
  obtain ⟨c10, f10, z10⟩ := blk_cells (g5.heap b10)
  have z0 : w.heap.size ≤ w5.heap.size := (Gr.trans G g5).b.size
  go_wp2_with fail
  clear c3 f3 c4 f4 c7 f7 c8 f8 c10 f10
  replace b3 := g5.heap b3
  replace b4 := g5.heap b4
  replace b7 := g5.heap b7
  replace b8 := g5.heap b8
  replace b10 := g5.heap b10
  have G := G.trans g5
  clear z3 z4 z7 z8 z10 z0
  clear g5
  refine (alive_any _ (HT.out.gr G)).mono ?_
  rintro e wz ⟨rfl, gz⟩
  obtain ⟨c3, f3, z3⟩ := blk_cells (gz.heap b3)
  obtain ⟨c4, f4, z4⟩ := blk_cells (gz.heap b4)
  obtain ⟨c7, f7, z7⟩ := blk_cells (gz.heap b7)
  obtain ⟨c8, f8, z8⟩ := blk_cells (gz.heap b8)
  obtain ⟨c10, f10, z10⟩ := blk_cells (gz.heap b10)
  go_wp2
  go_ret
  exact ⟨rfl, G.trans gz⟩
set_option maxRecDepth 100000 in
set_option maxHeartbeats 8000000 in
theorem RuleNear_l1_low (n d c e m a b a' b' _E : Int) (w : World) (ht : Tab w)
    (AR : Hid (Says 23 #[fr n d, .int .i64 m] (.tuple #[fr a b, fr a' b', .int .i64 0])))
    (NE : Hid (Says 25 #[fr n d, .int .i64 m] (.tuple #[fr a b, .int .i64 0])))
    (hb : ¬ m < b) (hb' : ¬ m < b')
    (L1 : Hid (Says 39 #[fr n d, fr a b] (.bool false))) (L2 : Hid (Says 39 #[fr a' b', fr n d] (.bool false)))
    (CF : Hid (Says 40 #[fr c e] (.int .i64 0)))
    (he : ¬ m < e)
    (M1 : Hid (Says 39 #[fr a b, fr c e] (.bool false)))
    (q1 : IntKind.i64.wrap (n*b) = n*b) (q2 : IntKind.i64.wrap (a*d) = a*d) (q3 : IntKind.i64.wrap (n*e) = n*e) (q4 : IntKind.i64.wrap (c*d) = c*d)
    (X Y : Int) (q5 : IntKind.i64.wrap (n*b - a*d) = X) (q6 : IntKind.i64.wrap (n*e - c*d) = Y)
    (q7 : IntKind.i64.wrap (-X) = -X) (q8 : IntKind.i64.wrap (-Y) = -Y)
    (hfin : (decide (1000000000000 ≤ max Y (-Y)) || decide (wrap64 (max X (-X) * e) ≤ wrap64 (max Y (-Y) * b))) = true)
    : Calls Tryd.prog 10 #[fr n d, fr c e, .int .i64 m] w fun e w' => e = .returned (.bool true) ∧ Gr w w' := by
  have HT := Lib.hid ht
  clear ht
  have HF := Lib.hid hfin
  clear hfin
  go_enter Tryd.func10, Tryd.ntmps10
  go_wp2_with fail
  have G := Gr.refl w
  have b3 := heap_alloc_self w (.cells #[.int .i64 n, .int .i64 d] 23)
  replace G := G.alloc (.cells #[.int .i64 n, .int .i64 d] 23)
  replace b3 := ((Gr.refl _).alloc (.cells #[.int .i64 c, .int .i64 e] 23)).heap b3
  have b4 := heap_alloc_self (w.alloc (.cells #[.int .i64 n, .int .i64 d] 23)) (.cells #[.int .i64 c, .int .i64 e] 23)
  replace G := G.alloc (.cells #[.int .i64 c, .int .i64 e] 23)
  generalize hW : ((w.alloc (.cells #[.int .i64 n, .int .i64 d] 23)).alloc (.cells #[.int .i64 c, .int .i64 e] 23)) = W1 at *
  simp only [World.size_alloc] at b4
  have w0 : w.heap.size ≤ w.heap.size := Nat.le_refl _
  obtain ⟨p4, hp4⟩ : ∃ p4, w.heap.size + 1 = p4 := ⟨_, rfl⟩
  obtain ⟨p3, hp3⟩ : ∃ p3, w.heap.size = p3 := ⟨_, rfl⟩
  rw [hp4] at b4
  rw [hp3] at b3
  try simp only [hp4]
  try simp only [hp3]
  have s3 : w.heap.size ≤ p3 := by omega
  have n3_4 : ¬ p3 = p4 := by omega
  have n4_3 : ¬ p4 = p3 := by omega
  have s4 : w.heap.size ≤ p4 := by omega
  clear  w0
  clear hp3
  clear hp4
  clear hW
  refine (AR.out _).mono ?_
  rintro e w1 ⟨rfl, g1⟩
  obtain ⟨c3, f3, z3⟩ := blk_cells (g1.heap b3)
  obtain ⟨c4, f4, z4⟩ := blk_cells (g1.heap b4)
  have z0 : w.heap.size ≤ w1.heap.size := (Gr.trans G g1).b.size
  go_wp2_with fail
  clear c3 f3 c4 f4
  replace b3 := g1.heap b3
  replace b4 := g1.heap b4
  have G := G.trans g1
  replace b3 := ((Gr.refl _).alloc (.cells #[.int .i64 a, .int .i64 b] 23)).heap b3
  replace b4 := ((Gr.refl _).alloc (.cells #[.int .i64 a, .int .i64 b] 23)).heap b4
  have b7 := heap_alloc_self w1 (.cells #[.int .i64 a, .int .i64 b] 23)
  replace G := G.alloc (.cells #[.int .i64 a, .int .i64 b] 23)
  replace b3 := ((Gr.refl _).alloc (.cells #[.int .i64 (a'), .int .i64 (b')] 23)).heap b3
  replace b4 := ((Gr.refl _).alloc (.cells #[.int .i64 (a'), .int .i64 (b')] 23)).heap b4
  replace b7 := ((Gr.refl _).alloc (.cells #[.int .i64 (a'), .int .i64 (b')] 23)).heap b7
  have b8 := heap_alloc_self (w1.alloc (.cells #[.int .i64 a, .int .i64 b] 23)) (.cells #[.int .i64 (a'), .int .i64 (b')] 23)
  replace G := G.alloc (.cells #[.int .i64 (a'), .int .i64 (b')] 23)
  generalize hW : ((w1.alloc (.cells #[.int .i64 a, .int .i64 b] 23)).alloc (.cells #[.int .i64 (a'), .int .i64 (b')] 23)) = W2 at *
  simp only [World.size_alloc] at b8
  have o3 : p3 < w1.heap.size := z3
  have o4 : p4 < w1.heap.size := z4
  have w0 : w.heap.size ≤ w1.heap.size := z0
  obtain ⟨p8, hp8⟩ : ∃ p8, w1.heap.size + 1 = p8 := ⟨_, rfl⟩
  obtain ⟨p7, hp7⟩ : ∃ p7, w1.heap.size = p7 := ⟨_, rfl⟩
  rw [hp8] at b8
  rw [hp7] at b7
  try simp only [hp8]
  try simp only [hp7]
  have n3_7 : ¬ p3 = p7 := by omega
  have n7_3 : ¬ p7 = p3 := by omega
  have n4_7 : ¬ p4 = p7 := by omega
  have n7_4 : ¬ p7 = p4 := by omega
  have s7 : w.heap.size ≤ p7 := by omega
  have n3_8 : ¬ p3 = p8 := by omega
  have n8_3 : ¬ p8 = p3 := by omega
  have n4_8 : ¬ p4 = p8 := by omega
  have n8_4 : ¬ p8 = p4 := by omega
  have n7_8 : ¬ p7 = p8 := by omega
  have n8_7 : ¬ p8 = p7 := by omega
  have s8 : w.heap.size ≤ p8 := by omega
  clear o3 o4 w0
  clear hp7
  clear hp8
  clear hW
  clear z3 z4 z0
  clear g1
  refine (NE.out _).mono ?_
  rintro e w2 ⟨rfl, g2⟩
  obtain ⟨c3, f3, z3⟩ := blk_cells (g2.heap b3)
  obtain ⟨c4, f4, z4⟩ := blk_cells (g2.heap b4)
  obtain ⟨c7, f7, z7⟩ := blk_cells (g2.heap b7)
  obtain ⟨c8, f8, z8⟩ := blk_cells (g2.heap b8)
  have z0 : w.heap.size ≤ w2.heap.size := (Gr.trans G g2).b.size
  go_wp2_with fail
  clear c3 f3 c4 f4 c7 f7 c8 f8
  replace b3 := g2.heap b3
  replace b4 := g2.heap b4
  replace b7 := g2.heap b7
  replace b8 := g2.heap b8
  have G := G.trans g2
  replace b3 := ((Gr.refl _).alloc (.cells #[.int .i64 a, .int .i64 b] 23)).heap b3
  replace b4 := ((Gr.refl _).alloc (.cells #[.int .i64 a, .int .i64 b] 23)).heap b4
  replace b7 := ((Gr.refl _).alloc (.cells #[.int .i64 a, .int .i64 b] 23)).heap b7
  replace b8 := ((Gr.refl _).alloc (.cells #[.int .i64 a, .int .i64 b] 23)).heap b8
  have b10 := heap_alloc_self w2 (.cells #[.int .i64 a, .int .i64 b] 23)
  replace G := G.alloc (.cells #[.int .i64 a, .int .i64 b] 23)
  generalize hW : (w2.alloc (.cells #[.int .i64 a, .int .i64 b] 23)) = W3 at *
  have o3 : p3 < w2.heap.size := z3
  have o4 : p4 < w2.heap.size := z4
  have o7 : p7 < w2.heap.size := z7
  have o8 : p8 < w2.heap.size := z8
  have w0 : w.heap.size ≤ w2.heap.size := z0
  obtain ⟨p10, hp10⟩ : ∃ p10, w2.heap.size = p10 := ⟨_, rfl⟩
  rw [hp10] at b10
  try simp only [hp10]
  have n3_10 : ¬ p3 = p10 := by omega
  have n10_3 : ¬ p10 = p3 := by omega
  have n4_10 : ¬ p4 = p10 := by omega
  have n10_4 : ¬ p10 = p4 := by omega
  have n7_10 : ¬ p7 = p10 := by omega
  have n10_7 : ¬ p10 = p7 := by omega
  have n8_10 : ¬ p8 = p10 := by omega
  have n10_8 : ¬ p10 = p8 := by omega
  have s10 : w.heap.size ≤ p10 := by omega
  clear o3 o4 o7 o8 w0
  clear hp10
  clear hW
  clear z3 z4 z7 z8 z0
  clear g2
  refine (L1.out _).mono ?_
  rintro e w3 ⟨rfl, g3⟩
  obtain ⟨c3, f3, z3⟩ := blk_cells (g3.heap b3)
  obtain ⟨c4, f4, z4⟩ := blk_cells (g3.heap b4)
  obtain ⟨c7, f7, z7⟩ := blk_cells (g3.heap b7)
  obtain ⟨c8, f8, z8⟩ := blk_cells (g3.heap b8)
  obtain ⟨c10, f10, z10⟩ := blk_cells (g3.heap b10)
  have z0 : w.heap.size ≤ w3.heap.size := (Gr.trans G g3).b.size
  go_wp2_with fail
  clear c3 f3 c4 f4 c7 f7 c8 f8 c10 f10
  replace b3 := g3.heap b3
  replace b4 := g3.heap b4
  replace b7 := g3.heap b7
  replace b8 := g3.heap b8
  replace b10 := g3.heap b10
  have G := G.trans g3
  clear z3 z4 z7 z8 z10 z0
  clear g3
  refine (L2.out _).mono ?_
  rintro e w4 ⟨rfl, g4⟩
  obtain ⟨c3, f3, z3⟩ := blk_cells (g4.heap b3)
  obtain ⟨c4, f4, z4⟩ := blk_cells (g4.heap b4)
  obtain ⟨c7, f7, z7⟩ := blk_cells (g4.heap b7)
  obtain ⟨c8, f8, z8⟩ := blk_cells (g4.heap b8)
  obtain ⟨c10, f10, z10⟩ := blk_cells (g4.heap b10)
  have z0 : w.heap.size ≤ w4.heap.size := (Gr.trans G g4).b.size
  go_wp2_with fail
  clear c3 f3 c4 f4 c7 f7 c8 f8 c10 f10
  replace b3 := g4.heap b3
  replace b4 := g4.heap b4
  replace b7 := g4.heap b7
  replace b8 := g4.heap b8
  replace b10 := g4.heap b10
  have G := G.trans g4
  clear z3 z4 z7 z8 z10 z0
  clear g4
  refine (CF.out _).mono ?_
  rintro e w5 ⟨rfl, g5⟩
  obtain ⟨c3, f3, z3⟩ := blk_cells (g5.heap b3)
  obtain ⟨c4, f4, z4⟩ := blk_cells (g5.heap b4)
  obtain ⟨c7, f7, z7⟩ := blk_cells (g5.heap b7)
  obtain ⟨c8, f8, z8⟩ := blk_cells (g5.heap b8)
  obtain ⟨c10, f10, z10⟩ := blk_cells (g5.heap b10)
  have z0 : w.heap.size ≤ w5.heap.size := (Gr.trans G g5).b.size
  go_wp2_with fail
  clear c3 f3 c4 f4 c7 f7 c8 f8 c10 f10
  replace b3 := g5.heap b3
  replace b4 := g5.heap b4
  replace b7 := g5.heap b7
  replace b8 := g5.heap b8
  replace b10 := g5.heap b10
  have G := G.trans g5
  clear z3 z4 z7 z8 z10 z0
  clear g5
  refine (M1.out _).mono ?_
  rintro e w6 ⟨rfl, g6⟩
  obtain ⟨c3, f3, z3⟩ := blk_cells (g6.heap b3)
  obtain ⟨c4, f4, z4⟩ := blk_cells (g6.heap b4)
  obtain ⟨c7, f7, z7⟩ := blk_cells (g6.heap b7)
  obtain ⟨c8, f8, z8⟩ := blk_cells (g6.heap b8)
  obtain ⟨c10, f10, z10⟩ := blk_cells (g6.heap b10)
  have z0 : w.heap.size ≤ w6.heap.size := (Gr.trans G g6).b.size
  go_upto_region 11 with (fail)
  clear c3 f3 c4 f4 c7 f7 c8 f8 c10 f10
  replace b3 := g6.heap b3
  replace b4 := g6.heap b4
  replace b7 := g6.heap b7
  replace b8 := g6.heap b8
  replace b10 := g6.heap b10
  have G := G.trans g6
  clear z3 z4 z7 z8 z10 z0
  clear g6
  obtain ⟨c3, f3, z3⟩ := blk_cells b3
  obtain ⟨c4, f4, z4⟩ := blk_cells b4
  obtain ⟨c7, f7, z7⟩ := blk_cells b7
  obtain ⟨c8, f8, z8⟩ := blk_cells b8
  obtain ⟨c10, f10, z10⟩ := blk_cells b10
  refine wp_region_plan [.val (.pointer (some ⟨p3, 0, none⟩)), .val (.int .i64 (n)), .val (.pointer (some ⟨p10, 1, none⟩)), .val (.int .i64 (b)), .val (.int .i64 (n*b)), .val (.pointer (some ⟨p10, 0, none⟩)), .val (.int .i64 (a)), .val (.pointer (some ⟨p3, 1, none⟩)), .val (.int .i64 (d)), .val (.int .i64 (a*d)), .val (.int .i64 (X)), .val (.pointer (some ⟨p3, 0, none⟩)), .val (.int .i64 (n)), .val (.pointer (some ⟨p4, 1, none⟩)), .val (.int .i64 (e)), .val (.int .i64 (n*e)), .val (.pointer (some ⟨p4, 0, none⟩)), .val (.int .i64 (c)), .val (.pointer (some ⟨p3, 1, none⟩)), .val (.int .i64 (d)), .val (.int .i64 (c*d)), .val (.int .i64 (Y)), .val (.int .i64 (X)), .val (.int .i64 (Y))] (by kernel_rfl) (by kernel_rfl) (fun G => by first | (simp only [finAct, Act.put, Plan.value, List.setIfInBounds_toArray, List.set_cons_zero, List.set_cons_succ]; rfl) | (simp only [finAct, Act.put, Plan.value, List.setIfInBounds_toArray, List.set_cons_zero, List.set_cons_succ, Nat.zero_add, Nat.reduceAdd]; rfl)) ?_ ?_
  · refine ⟨?_, ?_, ?_, ?_, ?_, ?_, ?_, ?_, ?_, ?_, ?_, ?_, ?_, ?_, ?_, ?_, ?_, ?_, ?_, ?_, ?_, ?_, ?_, ?_, trivial⟩ <;> (first | exact trivial | (intro G; first | (refine ⟨by kernel_rfl, fun u hu => ?_⟩; obtain ⟨hc, hf, hz⟩ := hu.cells; go_simp; first | exact ⟨rfl, Gr.refl _⟩ | skip) | (refine ⟨by kernel_rfl, fun u T z hu hG hj hb => ?_⟩; cases hj; obtain ⟨hbc, hbf, hbz⟩ := blk_cells hb; first | (refine ⟨_, ?_, ((GrL.of_gr (Gr.refl _)).set _ _ (Or.inr (by simp))).set _ _ (Or.inr (by simp)), put_two hb⟩; go_simp; done) | (refine ⟨_, ?_, (GrL.of_gr (Gr.refl _)).set _ _ (Or.inr (by simp)), put_one hb⟩; go_simp; done)) | (refine ⟨by kernel_rfl, fun u => ?_⟩; go_simp; done) | (show _ = false; kernel_rfl)))
  intro _ U hg _ _
  clear c3 f3 z3 c4 f4 z4 c7 f7 z7 c8 f8 z8 c10 f10 z10
  replace b3 := hg.heap b3
  replace b4 := hg.heap b4
  replace b7 := hg.heap b7
  replace b8 := hg.heap b8
  replace b10 := hg.heap b10
  have G := G.trans hg
  obtain ⟨c3, f3, z3⟩ := blk_cells b3
  obtain ⟨c4, f4, z4⟩ := blk_cells b4
  obtain ⟨c7, f7, z7⟩ := blk_cells b7
  obtain ⟨c8, f8, z8⟩ := blk_cells b8
  obtain ⟨c10, f10, z10⟩ := blk_cells b10
  clear hg q1 q2 q3 q4 q5 q6
  go_wp2_with fail
  clear c3 f3 z3 c4 f4 z4 c7 f7 z7 c8 f8 z8 c10 f10 z10
  refine (alive_any _ (HT.out.gr G)).mono ?_
  rintro e wz ⟨rfl, gz⟩
  obtain ⟨c3, f3, z3⟩ := blk_cells (gz.heap b3)
  obtain ⟨c4, f4, z4⟩ := blk_cells (gz.heap b4)
  obtain ⟨c7, f7, z7⟩ := blk_cells (gz.heap b7)
  obtain ⟨c8, f8, z8⟩ := blk_cells (gz.heap b8)
  obtain ⟨c10, f10, z10⟩ := blk_cells (gz.heap b10)
  go_wp2
  all_goals go_ret
  all_goals first | exact ⟨ret_bool HF.out, G.trans gz⟩ | exact ⟨rfl, G.trans gz⟩ | trace_state
set_option maxRecDepth 100000 in
set_option maxHeartbeats 8000000 in
theorem RuleNear_l2_low (n d c e m a b a' b' _E : Int) (w : World) (ht : Tab w)
    (AR : Hid (Says 23 #[fr n d, .int .i64 m] (.tuple #[fr a b, fr a' b', .int .i64 0])))
    (NE : Hid (Says 25 #[fr n d, .int .i64 m] (.tuple #[fr a b, .int .i64 0])))
    (hb : ¬ m < b) (hb' : ¬ m < b')
    (L1 : Hid (Says 39 #[fr n d, fr a b] (.bool false))) (L2 : Hid (Says 39 #[fr a' b', fr n d] (.bool false)))
    (CF : Hid (Says 40 #[fr c e] (.int .i64 0)))
    (he : ¬ m < e)
    (M1 : Hid (Says 39 #[fr a b, fr c e] (.bool true)))
    (M2 : Hid (Says 39 #[fr c e, fr a' b'] (.bool false)))
    (q1 : IntKind.i64.wrap (n*b) = n*b) (q2 : IntKind.i64.wrap (a*d) = a*d) (q3 : IntKind.i64.wrap (n*e) = n*e) (q4 : IntKind.i64.wrap (c*d) = c*d)
    (X Y : Int) (q5 : IntKind.i64.wrap (n*b - a*d) = X) (q6 : IntKind.i64.wrap (n*e - c*d) = Y)
    (q7 : IntKind.i64.wrap (-X) = -X) (q8 : IntKind.i64.wrap (-Y) = -Y)
    (hfin : (decide (1000000000000 ≤ max Y (-Y)) || decide (wrap64 (max X (-X) * e) ≤ wrap64 (max Y (-Y) * b))) = true)
    : Calls Tryd.prog 10 #[fr n d, fr c e, .int .i64 m] w fun e w' => e = .returned (.bool true) ∧ Gr w w' := by
  have HT := Lib.hid ht
  clear ht
  have HF := Lib.hid hfin
  clear hfin
  go_enter Tryd.func10, Tryd.ntmps10
  go_wp2_with fail
  have G := Gr.refl w
  have b3 := heap_alloc_self w (.cells #[.int .i64 n, .int .i64 d] 23)
  replace G := G.alloc (.cells #[.int .i64 n, .int .i64 d] 23)
  replace b3 := ((Gr.refl _).alloc (.cells #[.int .i64 c, .int .i64 e] 23)).heap b3
  have b4 := heap_alloc_self (w.alloc (.cells #[.int .i64 n, .int .i64 d] 23)) (.cells #[.int .i64 c, .int .i64 e] 23)
  replace G := G.alloc (.cells #[.int .i64 c, .int .i64 e] 23)
  generalize hW : ((w.alloc (.cells #[.int .i64 n, .int .i64 d] 23)).alloc (.cells #[.int .i64 c, .int .i64 e] 23)) = W1 at *
  simp only [World.size_alloc] at b4
  have w0 : w.heap.size ≤ w.heap.size := Nat.le_refl _
  obtain ⟨p4, hp4⟩ : ∃ p4, w.heap.size + 1 = p4 := ⟨_, rfl⟩
  obtain ⟨p3, hp3⟩ : ∃ p3, w.heap.size = p3 := ⟨_, rfl⟩
  rw [hp4] at b4
  rw [hp3] at b3
  try simp only [hp4]
  try simp only [hp3]
  have s3 : w.heap.size ≤ p3 := by omega
  have n3_4 : ¬ p3 = p4 := by omega
  have n4_3 : ¬ p4 = p3 := by omega
  have s4 : w.heap.size ≤ p4 := by omega
  clear  w0
  clear hp3
  clear hp4
  clear hW
  refine (AR.out _).mono ?_
  rintro e w1 ⟨rfl, g1⟩
  obtain ⟨c3, f3, z3⟩ := blk_cells (g1.heap b3)
  obtain ⟨c4, f4, z4⟩ := blk_cells (g1.heap b4)
  have z0 : w.heap.size ≤ w1.heap.size := (Gr.trans G g1).b.size
  go_wp2_with fail
  clear c3 f3 c4 f4
  replace b3 := g1.heap b3
  replace b4 := g1.heap b4
  have G := G.trans g1
  replace b3 := ((Gr.refl _).alloc (.cells #[.int .i64 a, .int .i64 b] 23)).heap b3
  replace b4 := ((Gr.refl _).alloc (.cells #[.int .i64 a, .int .i64 b] 23)).heap b4
  have b7 := heap_alloc_self w1 (.cells #[.int .i64 a, .int .i64 b] 23)
  replace G := G.alloc (.cells #[.int .i64 a, .int .i64 b] 23)
  replace b3 := ((Gr.refl _).alloc (.cells #[.int .i64 (a'), .int .i64 (b')] 23)).heap b3
  replace b4 := ((Gr.refl _).alloc (.cells #[.int .i64 (a'), .int .i64 (b')] 23)).heap b4
  replace b7 := ((Gr.refl _).alloc (.cells #[.int .i64 (a'), .int .i64 (b')] 23)).heap b7
  have b8 := heap_alloc_self (w1.alloc (.cells #[.int .i64 a, .int .i64 b] 23)) (.cells #[.int .i64 (a'), .int .i64 (b')] 23)
  replace G := G.alloc (.cells #[.int .i64 (a'), .int .i64 (b')] 23)
  generalize hW : ((w1.alloc (.cells #[.int .i64 a, .int .i64 b] 23)).alloc (.cells #[.int .i64 (a'), .int .i64 (b')] 23)) = W2 at *
  simp only [World.size_alloc] at b8
  have o3 : p3 < w1.heap.size := z3
  have o4 : p4 < w1.heap.size := z4
  have w0 : w.heap.size ≤ w1.heap.size := z0
  obtain ⟨p8, hp8⟩ : ∃ p8, w1.heap.size + 1 = p8 := ⟨_, rfl⟩
  obtain ⟨p7, hp7⟩ : ∃ p7, w1.heap.size = p7 := ⟨_, rfl⟩
  rw [hp8] at b8
  rw [hp7] at b7
  try simp only [hp8]
  try simp only [hp7]
  have n3_7 : ¬ p3 = p7 := by omega
  have n7_3 : ¬ p7 = p3 := by omega
  have n4_7 : ¬ p4 = p7 := by omega
  have n7_4 : ¬ p7 = p4 := by omega
  have s7 : w.heap.size ≤ p7 := by omega
  have n3_8 : ¬ p3 = p8 := by omega
  have n8_3 : ¬ p8 = p3 := by omega
  have n4_8 : ¬ p4 = p8 := by omega
  have n8_4 : ¬ p8 = p4 := by omega
  have n7_8 : ¬ p7 = p8 := by omega
  have n8_7 : ¬ p8 = p7 := by omega
  have s8 : w.heap.size ≤ p8 := by omega
  clear o3 o4 w0
  clear hp7
  clear hp8
  clear hW
  clear z3 z4 z0
  clear g1
  refine (NE.out _).mono ?_
  rintro e w2 ⟨rfl, g2⟩
  obtain ⟨c3, f3, z3⟩ := blk_cells (g2.heap b3)
  obtain ⟨c4, f4, z4⟩ := blk_cells (g2.heap b4)
  obtain ⟨c7, f7, z7⟩ := blk_cells (g2.heap b7)
  obtain ⟨c8, f8, z8⟩ := blk_cells (g2.heap b8)
  have z0 : w.heap.size ≤ w2.heap.size := (Gr.trans G g2).b.size
  go_wp2_with fail
  clear c3 f3 c4 f4 c7 f7 c8 f8
  replace b3 := g2.heap b3
  replace b4 := g2.heap b4
  replace b7 := g2.heap b7
  replace b8 := g2.heap b8
  have G := G.trans g2
  replace b3 := ((Gr.refl _).alloc (.cells #[.int .i64 a, .int .i64 b] 23)).heap b3
  replace b4 := ((Gr.refl _).alloc (.cells #[.int .i64 a, .int .i64 b] 23)).heap b4
  replace b7 := ((Gr.refl _).alloc (.cells #[.int .i64 a, .int .i64 b] 23)).heap b7
  replace b8 := ((Gr.refl _).alloc (.cells #[.int .i64 a, .int .i64 b] 23)).heap b8
  have b10 := heap_alloc_self w2 (.cells #[.int .i64 a, .int .i64 b] 23)
  replace G := G.alloc (.cells #[.int .i64 a, .int .i64 b] 23)
  generalize hW : (w2.alloc (.cells #[.int .i64 a, .int .i64 b] 23)) = W3 at *
  have o3 : p3 < w2.heap.size := z3
  have o4 : p4 < w2.heap.size := z4
  have o7 : p7 < w2.heap.size := z7
  have o8 : p8 < w2.heap.size := z8
  have w0 : w.heap.size ≤ w2.heap.size := z0
  obtain ⟨p10, hp10⟩ : ∃ p10, w2.heap.size = p10 := ⟨_, rfl⟩
  rw [hp10] at b10
  try simp only [hp10]
  have n3_10 : ¬ p3 = p10 := by omega
  have n10_3 : ¬ p10 = p3 := by omega
  have n4_10 : ¬ p4 = p10 := by omega
  have n10_4 : ¬ p10 = p4 := by omega
  have n7_10 : ¬ p7 = p10 := by omega
  have n10_7 : ¬ p10 = p7 := by omega
  have n8_10 : ¬ p8 = p10 := by omega
  have n10_8 : ¬ p10 = p8 := by omega
  have s10 : w.heap.size ≤ p10 := by omega
  clear o3 o4 o7 o8 w0
  clear hp10
  clear hW
  clear z3 z4 z7 z8 z0
  clear g2
  refine (L1.out _).mono ?_
  rintro e w3 ⟨rfl, g3⟩
  obtain ⟨c3, f3, z3⟩ := blk_cells (g3.heap b3)
  obtain ⟨c4, f4, z4⟩ := blk_cells (g3.heap b4)
  obtain ⟨c7, f7, z7⟩ := blk_cells (g3.heap b7)
  obtain ⟨c8, f8, z8⟩ := blk_cells (g3.heap b8)
  obtain ⟨c10, f10, z10⟩ := blk_cells (g3.heap b10)
  have z0 : w.heap.size ≤ w3.heap.size := (Gr.trans G g3).b.size
  go_wp2_with fail
  clear c3 f3 c4 f4 c7 f7 c8 f8 c10 f10
  replace b3 := g3.heap b3
  replace b4 := g3.heap b4
  replace b7 := g3.heap b7
  replace b8 := g3.heap b8
  replace b10 := g3.heap b10
  have G := G.trans g3
  clear z3 z4 z7 z8 z10 z0
  clear g3
  refine (L2.out _).mono ?_
  rintro e w4 ⟨rfl, g4⟩
  obtain ⟨c3, f3, z3⟩ := blk_cells (g4.heap b3)
  obtain ⟨c4, f4, z4⟩ := blk_cells (g4.heap b4)
  obtain ⟨c7, f7, z7⟩ := blk_cells (g4.heap b7)
  obtain ⟨c8, f8, z8⟩ := blk_cells (g4.heap b8)
  obtain ⟨c10, f10, z10⟩ := blk_cells (g4.heap b10)
  have z0 : w.heap.size ≤ w4.heap.size := (Gr.trans G g4).b.size
  go_wp2_with fail
  clear c3 f3 c4 f4 c7 f7 c8 f8 c10 f10
  replace b3 := g4.heap b3
  replace b4 := g4.heap b4
  replace b7 := g4.heap b7
  replace b8 := g4.heap b8
  replace b10 := g4.heap b10
  have G := G.trans g4
  clear z3 z4 z7 z8 z10 z0
  clear g4
  refine (CF.out _).mono ?_
  rintro e w5 ⟨rfl, g5⟩
  obtain ⟨c3, f3, z3⟩ := blk_cells (g5.heap b3)
  obtain ⟨c4, f4, z4⟩ := blk_cells (g5.heap b4)
  obtain ⟨c7, f7, z7⟩ := blk_cells (g5.heap b7)
  obtain ⟨c8, f8, z8⟩ := blk_cells (g5.heap b8)
  obtain ⟨c10, f10, z10⟩ := blk_cells (g5.heap b10)
  have z0 : w.heap.size ≤ w5.heap.size := (Gr.trans G g5).b.size
  go_wp2_with fail
  clear c3 f3 c4 f4 c7 f7 c8 f8 c10 f10
  replace b3 := g5.heap b3
  replace b4 := g5.heap b4
  replace b7 := g5.heap b7
  replace b8 := g5.heap b8
  replace b10 := g5.heap b10
  have G := G.trans g5
  clear z3 z4 z7 z8 z10 z0
  clear g5
  refine (M1.out _).mono ?_
  rintro e w6 ⟨rfl, g6⟩
  obtain ⟨c3, f3, z3⟩ := blk_cells (g6.heap b3)
  obtain ⟨c4, f4, z4⟩ := blk_cells (g6.heap b4)
  obtain ⟨c7, f7, z7⟩ := blk_cells (g6.heap b7)
  obtain ⟨c8, f8, z8⟩ := blk_cells (g6.heap b8)
  obtain ⟨c10, f10, z10⟩ := blk_cells (g6.heap b10)
  have z0 : w.heap.size ≤ w6.heap.size := (Gr.trans G g6).b.size
  go_wp2_with fail
  clear c3 f3 c4 f4 c7 f7 c8 f8 c10 f10
  replace b3 := g6.heap b3
  replace b4 := g6.heap b4
  replace b7 := g6.heap b7
  replace b8 := g6.heap b8
  replace b10 := g6.heap b10
  have G := G.trans g6
  clear z3 z4 z7 z8 z10 z0
  clear g6
  refine (M2.out _).mono ?_
  rintro e w7 ⟨rfl, g7⟩
  obtain ⟨c3, f3, z3⟩ := blk_cells (g7.heap b3)
  obtain ⟨c4, f4, z4⟩ := blk_cells (g7.heap b4)
  obtain ⟨c7, f7, z7⟩ := blk_cells (g7.heap b7)
  obtain ⟨c8, f8, z8⟩ := blk_cells (g7.heap b8)
  obtain ⟨c10, f10, z10⟩ := blk_cells (g7.heap b10)
  have z0 : w.heap.size ≤ w7.heap.size := (Gr.trans G g7).b.size
  go_upto_region 11 with (fail)
  clear c3 f3 c4 f4 c7 f7 c8 f8 c10 f10
  replace b3 := g7.heap b3
  replace b4 := g7.heap b4
  replace b7 := g7.heap b7
  replace b8 := g7.heap b8
  replace b10 := g7.heap b10
  have G := G.trans g7
  clear z3 z4 z7 z8 z10 z0
  clear g7
  obtain ⟨c3, f3, z3⟩ := blk_cells b3
  obtain ⟨c4, f4, z4⟩ := blk_cells b4
  obtain ⟨c7, f7, z7⟩ := blk_cells b7
  obtain ⟨c8, f8, z8⟩ := blk_cells b8
  obtain ⟨c10, f10, z10⟩ := blk_cells b10
  refine wp_region_plan [.val (.pointer (some ⟨p3, 0, none⟩)), .val (.int .i64 (n)), .val (.pointer (some ⟨p10, 1, none⟩)), .val (.int .i64 (b)), .val (.int .i64 (n*b)), .val (.pointer (some ⟨p10, 0, none⟩)), .val (.int .i64 (a)), .val (.pointer (some ⟨p3, 1, none⟩)), .val (.int .i64 (d)), .val (.int .i64 (a*d)), .val (.int .i64 (X)), .val (.pointer (some ⟨p3, 0, none⟩)), .val (.int .i64 (n)), .val (.pointer (some ⟨p4, 1, none⟩)), .val (.int .i64 (e)), .val (.int .i64 (n*e)), .val (.pointer (some ⟨p4, 0, none⟩)), .val (.int .i64 (c)), .val (.pointer (some ⟨p3, 1, none⟩)), .val (.int .i64 (d)), .val (.int .i64 (c*d)), .val (.int .i64 (Y)), .val (.int .i64 (X)), .val (.int .i64 (Y))] (by kernel_rfl) (by kernel_rfl) (fun G => by first | (simp only [finAct, Act.put, Plan.value, List.setIfInBounds_toArray, List.set_cons_zero, List.set_cons_succ]; rfl) | (simp only [finAct, Act.put, Plan.value, List.setIfInBounds_toArray, List.set_cons_zero, List.set_cons_succ, Nat.zero_add, Nat.reduceAdd]; rfl)) ?_ ?_
  · refine ⟨?_, ?_, ?_, ?_, ?_, ?_, ?_, ?_, ?_, ?_, ?_, ?_, ?_, ?_, ?_, ?_, ?_, ?_, ?_, ?_, ?_, ?_, ?_, ?_, trivial⟩ <;> (first | exact trivial | (intro G; first | (refine ⟨by kernel_rfl, fun u hu => ?_⟩; obtain ⟨hc, hf, hz⟩ := hu.cells; go_simp; first | exact ⟨rfl, Gr.refl _⟩ | skip) | (refine ⟨by kernel_rfl, fun u T z hu hG hj hb => ?_⟩; cases hj; obtain ⟨hbc, hbf, hbz⟩ := blk_cells hb; first | (refine ⟨_, ?_, ((GrL.of_gr (Gr.refl _)).set _ _ (Or.inr (by simp))).set _ _ (Or.inr (by simp)), put_two hb⟩; go_simp; done) | (refine ⟨_, ?_, (GrL.of_gr (Gr.refl _)).set _ _ (Or.inr (by simp)), put_one hb⟩; go_simp; done)) | (refine ⟨by kernel_rfl, fun u => ?_⟩; go_simp; done) | (show _ = false; kernel_rfl)))
  intro _ U hg _ _
  clear c3 f3 z3 c4 f4 z4 c7 f7 z7 c8 f8 z8 c10 f10 z10
  replace b3 := hg.heap b3
  replace b4 := hg.heap b4
  replace b7 := hg.heap b7
  replace b8 := hg.heap b8
  replace b10 := hg.heap b10
  have G := G.trans hg
  obtain ⟨c3, f3, z3⟩ := blk_cells b3
  obtain ⟨c4, f4, z4⟩ := blk_cells b4
  obtain ⟨c7, f7, z7⟩ := blk_cells b7
  obtain ⟨c8, f8, z8⟩ := blk_cells b8
  obtain ⟨c10, f10, z10⟩ := blk_cells b10
  clear hg q1 q2 q3 q4 q5 q6
  go_wp2_with fail
  clear c3 f3 z3 c4 f4 z4 c7 f7 z7 c8 f8 z8 c10 f10 z10
  refine (alive_any _ (HT.out.gr G)).mono ?_
  rintro e wz ⟨rfl, gz⟩
  obtain ⟨c3, f3, z3⟩ := blk_cells (gz.heap b3)
  obtain ⟨c4, f4, z4⟩ := blk_cells (gz.heap b4)
  obtain ⟨c7, f7, z7⟩ := blk_cells (gz.heap b7)
  obtain ⟨c8, f8, z8⟩ := blk_cells (gz.heap b8)
  obtain ⟨c10, f10, z10⟩ := blk_cells (gz.heap b10)
  go_wp2
  all_goals go_ret
  all_goals first | exact ⟨ret_bool HF.out, G.trans gz⟩ | exact ⟨rfl, G.trans gz⟩ | trace_state
set_option maxRecDepth 100000 in
set_option maxHeartbeats 8000000 in
theorem RuleNear_yw_highA (n d c e m a b a' b' _E : Int) (w : World) (ht : Tab w)
    (AR : Hid (Says 23 #[fr n d, .int .i64 m] (.tuple #[fr a b, fr a' b', .int .i64 0])))
    (NE : Hid (Says 25 #[fr n d, .int .i64 m] (.tuple #[fr a' b', .int .i64 0])))
    (hh : ¬ a' = a)
    (hb : ¬ m < b) (hb' : ¬ m < b')
    (L1 : Hid (Says 39 #[fr n d, fr a b] (.bool false))) (L2 : Hid (Says 39 #[fr a' b', fr n d] (.bool false)))
    (CF : Hid (Says 40 #[fr c e] (.int .i64 1)))
    : Calls Tryd.prog 10 #[fr n d, fr c e, .int .i64 m] w fun e w' => e = .returned (.bool true) ∧ Gr w w' := by
  have HT := Lib.hid ht
  clear ht
  go_enter Tryd.func10, Tryd.ntmps10
  go_wp2_with fail
  have G := Gr.refl w
  have b3 := heap_alloc_self w (.cells #[.int .i64 n, .int .i64 d] 23)
  replace G := G.alloc (.cells #[.int .i64 n, .int .i64 d] 23)
  replace b3 := ((Gr.refl _).alloc (.cells #[.int .i64 c, .int .i64 e] 23)).heap b3
  have b4 := heap_alloc_self (w.alloc (.cells #[.int .i64 n, .int .i64 d] 23)) (.cells #[.int .i64 c, .int .i64 e] 23)
  replace G := G.alloc (.cells #[.int .i64 c, .int .i64 e] 23)
  generalize hW : ((w.alloc (.cells #[.int .i64 n, .int .i64 d] 23)).alloc (.cells #[.int .i64 c, .int .i64 e] 23)) = W1 at *
  simp only [World.size_alloc] at b4
  have w0 : w.heap.size ≤ w.heap.size := Nat.le_refl _
  obtain ⟨p4, hp4⟩ : ∃ p4, w.heap.size + 1 = p4 := ⟨_, rfl⟩
  obtain ⟨p3, hp3⟩ : ∃ p3, w.heap.size = p3 := ⟨_, rfl⟩
  rw [hp4] at b4
  rw [hp3] at b3
  try simp only [hp4]
  try simp only [hp3]
  have s3 : w.heap.size ≤ p3 := by omega
  have n3_4 : ¬ p3 = p4 := by omega
  have n4_3 : ¬ p4 = p3 := by omega
  have s4 : w.heap.size ≤ p4 := by omega
  clear  w0
  clear hp3
  clear hp4
  clear hW
  refine (AR.out _).mono ?_
  rintro e w1 ⟨rfl, g1⟩
  obtain ⟨c3, f3, z3⟩ := blk_cells (g1.heap b3)
  obtain ⟨c4, f4, z4⟩ := blk_cells (g1.heap b4)
  have z0 : w.heap.size ≤ w1.heap.size := (Gr.trans G g1).b.size
  go_wp2_with fail
  clear c3 f3 c4 f4
  replace b3 := g1.heap b3
  replace b4 := g1.heap b4
  have G := G.trans g1
  replace b3 := ((Gr.refl _).alloc (.cells #[.int .i64 a, .int .i64 b] 23)).heap b3
  replace b4 := ((Gr.refl _).alloc (.cells #[.int .i64 a, .int .i64 b] 23)).heap b4
  have b7 := heap_alloc_self w1 (.cells #[.int .i64 a, .int .i64 b] 23)
  replace G := G.alloc (.cells #[.int .i64 a, .int .i64 b] 23)
  replace b3 := ((Gr.refl _).alloc (.cells #[.int .i64 (a'), .int .i64 (b')] 23)).heap b3
  replace b4 := ((Gr.refl _).alloc (.cells #[.int .i64 (a'), .int .i64 (b')] 23)).heap b4
  replace b7 := ((Gr.refl _).alloc (.cells #[.int .i64 (a'), .int .i64 (b')] 23)).heap b7
  have b8 := heap_alloc_self (w1.alloc (.cells #[.int .i64 a, .int .i64 b] 23)) (.cells #[.int .i64 (a'), .int .i64 (b')] 23)
  replace G := G.alloc (.cells #[.int .i64 (a'), .int .i64 (b')] 23)
  generalize hW : ((w1.alloc (.cells #[.int .i64 a, .int .i64 b] 23)).alloc (.cells #[.int .i64 (a'), .int .i64 (b')] 23)) = W2 at *
  simp only [World.size_alloc] at b8
  have o3 : p3 < w1.heap.size := z3
  have o4 : p4 < w1.heap.size := z4
  have w0 : w.heap.size ≤ w1.heap.size := z0
  obtain ⟨p8, hp8⟩ : ∃ p8, w1.heap.size + 1 = p8 := ⟨_, rfl⟩
  obtain ⟨p7, hp7⟩ : ∃ p7, w1.heap.size = p7 := ⟨_, rfl⟩
  rw [hp8] at b8
  rw [hp7] at b7
  try simp only [hp8]
  try simp only [hp7]
  have n3_7 : ¬ p3 = p7 := by omega
  have n7_3 : ¬ p7 = p3 := by omega
  have n4_7 : ¬ p4 = p7 := by omega
  have n7_4 : ¬ p7 = p4 := by omega
  have s7 : w.heap.size ≤ p7 := by omega
  have n3_8 : ¬ p3 = p8 := by omega
  have n8_3 : ¬ p8 = p3 := by omega
  have n4_8 : ¬ p4 = p8 := by omega
  have n8_4 : ¬ p8 = p4 := by omega
  have n7_8 : ¬ p7 = p8 := by omega
  have n8_7 : ¬ p8 = p7 := by omega
  have s8 : w.heap.size ≤ p8 := by omega
  clear o3 o4 w0
  clear hp7
  clear hp8
  clear hW
  clear z3 z4 z0
  clear g1
  refine (NE.out _).mono ?_
  rintro e w2 ⟨rfl, g2⟩
  obtain ⟨c3, f3, z3⟩ := blk_cells (g2.heap b3)
  obtain ⟨c4, f4, z4⟩ := blk_cells (g2.heap b4)
  obtain ⟨c7, f7, z7⟩ := blk_cells (g2.heap b7)
  obtain ⟨c8, f8, z8⟩ := blk_cells (g2.heap b8)
  have z0 : w.heap.size ≤ w2.heap.size := (Gr.trans G g2).b.size
  go_wp2_with fail
  clear c3 f3 c4 f4 c7 f7 c8 f8
  replace b3 := g2.heap b3
  replace b4 := g2.heap b4
  replace b7 := g2.heap b7
  replace b8 := g2.heap b8
  have G := G.trans g2
  replace b3 := ((Gr.refl _).alloc (.cells #[.int .i64 (a'), .int .i64 (b')] 23)).heap b3
  replace b4 := ((Gr.refl _).alloc (.cells #[.int .i64 (a'), .int .i64 (b')] 23)).heap b4
  replace b7 := ((Gr.refl _).alloc (.cells #[.int .i64 (a'), .int .i64 (b')] 23)).heap b7
  replace b8 := ((Gr.refl _).alloc (.cells #[.int .i64 (a'), .int .i64 (b')] 23)).heap b8
  have b10 := heap_alloc_self w2 (.cells #[.int .i64 (a'), .int .i64 (b')] 23)
  replace G := G.alloc (.cells #[.int .i64 (a'), .int .i64 (b')] 23)
  generalize hW : (w2.alloc (.cells #[.int .i64 (a'), .int .i64 (b')] 23)) = W3 at *
  have o3 : p3 < w2.heap.size := z3
  have o4 : p4 < w2.heap.size := z4
  have o7 : p7 < w2.heap.size := z7
  have o8 : p8 < w2.heap.size := z8
  have w0 : w.heap.size ≤ w2.heap.size := z0
  obtain ⟨p10, hp10⟩ : ∃ p10, w2.heap.size = p10 := ⟨_, rfl⟩
  rw [hp10] at b10
  try simp only [hp10]
  have n3_10 : ¬ p3 = p10 := by omega
  have n10_3 : ¬ p10 = p3 := by omega
  have n4_10 : ¬ p4 = p10 := by omega
  have n10_4 : ¬ p10 = p4 := by omega
  have n7_10 : ¬ p7 = p10 := by omega
  have n10_7 : ¬ p10 = p7 := by omega
  have n8_10 : ¬ p8 = p10 := by omega
  have n10_8 : ¬ p10 = p8 := by omega
  have s10 : w.heap.size ≤ p10 := by omega
  clear o3 o4 o7 o8 w0
  clear hp10
  clear hW
  clear z3 z4 z7 z8 z0
  clear g2
  refine (L1.out _).mono ?_
  rintro e w3 ⟨rfl, g3⟩
  obtain ⟨c3, f3, z3⟩ := blk_cells (g3.heap b3)
  obtain ⟨c4, f4, z4⟩ := blk_cells (g3.heap b4)
  obtain ⟨c7, f7, z7⟩ := blk_cells (g3.heap b7)
  obtain ⟨c8, f8, z8⟩ := blk_cells (g3.heap b8)
  obtain ⟨c10, f10, z10⟩ := blk_cells (g3.heap b10)
  have z0 : w.heap.size ≤ w3.heap.size := (Gr.trans G g3).b.size
  go_wp2_with fail
  clear c3 f3 c4 f4 c7 f7 c8 f8 c10 f10
  replace b3 := g3.heap b3
  replace b4 := g3.heap b4
  replace b7 := g3.heap b7
  replace b8 := g3.heap b8
  replace b10 := g3.heap b10
  have G := G.trans g3
  clear z3 z4 z7 z8 z10 z0
  clear g3
  refine (L2.out _).mono ?_
  rintro e w4 ⟨rfl, g4⟩
  obtain ⟨c3, f3, z3⟩ := blk_cells (g4.heap b3)
  obtain ⟨c4, f4, z4⟩ := blk_cells (g4.heap b4)
  obtain ⟨c7, f7, z7⟩ := blk_cells (g4.heap b7)
  obtain ⟨c8, f8, z8⟩ := blk_cells (g4.heap b8)
  obtain ⟨c10, f10, z10⟩ := blk_cells (g4.heap b10)
  have z0 : w.heap.size ≤ w4.heap.size := (Gr.trans G g4).b.size
  go_wp2_with fail
  clear c3 f3 c4 f4 c7 f7 c8 f8 c10 f10
  replace b3 := g4.heap b3
  replace b4 := g4.heap b4
  replace b7 := g4.heap b7
  replace b8 := g4.heap b8
  replace b10 := g4.heap b10
  have G := G.trans g4
  clear z3 z4 z7 z8 z10 z0
  clear g4
  refine (CF.out _).mono ?_
  rintro e w5 ⟨rfl, g5⟩
  obtain ⟨c3, f3, z3⟩ := blk_cells (g5.heap b3)
  obtain ⟨c4, f4, z4⟩ := blk_cells (g5.heap b4)
  obtain ⟨c7, f7, z7⟩ := blk_cells (g5.heap b7)
  obtain ⟨c8, f8, z8⟩ := blk_cells (g5.heap b8)
  obtain ⟨c10, f10, z10⟩ := blk_cells (g5.heap b10)
  have z0 : w.heap.size ≤ w5.heap.size := (Gr.trans G g5).b.size
  go_wp2_with fail
  clear c3 f3 c4 f4 c7 f7 c8 f8 c10 f10
  replace b3 := g5.heap b3
  replace b4 := g5.heap b4
  replace b7 := g5.heap b7
  replace b8 := g5.heap b8
  replace b10 := g5.heap b10
  have G := G.trans g5
  clear z3 z4 z7 z8 z10 z0
  clear g5
  refine (alive_any _ (HT.out.gr G)).mono ?_
  rintro e wz ⟨rfl, gz⟩
  obtain ⟨c3, f3, z3⟩ := blk_cells (gz.heap b3)
  obtain ⟨c4, f4, z4⟩ := blk_cells (gz.heap b4)
  obtain ⟨c7, f7, z7⟩ := blk_cells (gz.heap b7)
  obtain ⟨c8, f8, z8⟩ := blk_cells (gz.heap b8)
  obtain ⟨c10, f10, z10⟩ := blk_cells (gz.heap b10)
  go_wp2
  go_ret
  exact ⟨rfl, G.trans gz⟩
set_option maxRecDepth 100000 in
set_option maxHeartbeats 8000000 in
theorem RuleNear_ye_highA (n d c e m a b a' b' _E : Int) (w : World) (ht : Tab w)
    (AR : Hid (Says 23 #[fr n d, .int .i64 m] (.tuple #[fr a b, fr a' b', .int .i64 0])))
    (NE : Hid (Says 25 #[fr n d, .int .i64 m] (.tuple #[fr a' b', .int .i64 0])))
    (hh : ¬ a' = a)
    (hb : ¬ m < b) (hb' : ¬ m < b')
    (L1 : Hid (Says 39 #[fr n d, fr a b] (.bool false))) (L2 : Hid (Says 39 #[fr a' b', fr n d] (.bool false)))
    (CF : Hid (Says 40 #[fr c e] (.int .i64 0)))
    (he : m < e)
    : Calls Tryd.prog 10 #[fr n d, fr c e, .int .i64 m] w fun e w' => e = .returned (.bool true) ∧ Gr w w' := by
  have HT := Lib.hid ht
  clear ht
  go_enter Tryd.func10, Tryd.ntmps10
  go_wp2_with fail
  have G := Gr.refl w
  have b3 := heap_alloc_self w (.cells #[.int .i64 n, .int .i64 d] 23)
  replace G := G.alloc (.cells #[.int .i64 n, .int .i64 d] 23)
  replace b3 := ((Gr.refl _).alloc (.cells #[.int .i64 c, .int .i64 e] 23)).heap b3
  have b4 := heap_alloc_self (w.alloc (.cells #[.int .i64 n, .int .i64 d] 23)) (.cells #[.int .i64 c, .int .i64 e] 23)
  replace G := G.alloc (.cells #[.int .i64 c, .int .i64 e] 23)
  generalize hW : ((w.alloc (.cells #[.int .i64 n, .int .i64 d] 23)).alloc (.cells #[.int .i64 c, .int .i64 e] 23)) = W1 at *
  simp only [World.size_alloc] at b4
  have w0 : w.heap.size ≤ w.heap.size := Nat.le_refl _
  obtain ⟨p4, hp4⟩ : ∃ p4, w.heap.size + 1 = p4 := ⟨_, rfl⟩
  obtain ⟨p3, hp3⟩ : ∃ p3, w.heap.size = p3 := ⟨_, rfl⟩
  rw [hp4] at b4
  rw [hp3] at b3
  try simp only [hp4]
  try simp only [hp3]
  have s3 : w.heap.size ≤ p3 := by omega
  have n3_4 : ¬ p3 = p4 := by omega
  have n4_3 : ¬ p4 = p3 := by omega
  have s4 : w.heap.size ≤ p4 := by omega
  clear  w0
  clear hp3
  clear hp4
  clear hW
  refine (AR.out _).mono ?_
  rintro e w1 ⟨rfl, g1⟩
  obtain ⟨c3, f3, z3⟩ := blk_cells (g1.heap b3)
  obtain ⟨c4, f4, z4⟩ := blk_cells (g1.heap b4)
  have z0 : w.heap.size ≤ w1.heap.size := (Gr.trans G g1).b.size
  go_wp2_with fail
  clear c3 f3 c4 f4
  replace b3 := g1.heap b3
  replace b4 := g1.heap b4
  have G := G.trans g1
  replace b3 := ((Gr.refl _).alloc (.cells #[.int .i64 a, .int .i64 b] 23)).heap b3
  replace b4 := ((Gr.refl _).alloc (.cells #[.int .i64 a, .int .i64 b] 23)).heap b4
  have b7 := heap_alloc_self w1 (.cells #[.int .i64 a, .int .i64 b] 23)
  replace G := G.alloc (.cells #[.int .i64 a, .int .i64 b] 23)
  replace b3 := ((Gr.refl _).alloc (.cells #[.int .i64 (a'), .int .i64 (b')] 23)).heap b3
  replace b4 := ((Gr.refl _).alloc (.cells #[.int .i64 (a'), .int .i64 (b')] 23)).heap b4
  replace b7 := ((Gr.refl _).alloc (.cells #[.int .i64 (a'), .int .i64 (b')] 23)).heap b7
  have b8 := heap_alloc_self (w1.alloc (.cells #[.int .i64 a, .int .i64 b] 23)) (.cells #[.int .i64 (a'), .int .i64 (b')] 23)
  replace G := G.alloc (.cells #[.int .i64 (a'), .int .i64 (b')] 23)
  generalize hW : ((w1.alloc (.cells #[.int .i64 a, .int .i64 b] 23)).alloc (.cells #[.int .i64 (a'), .int .i64 (b')] 23)) = W2 at *
  simp only [World.size_alloc] at b8
  have o3 : p3 < w1.heap.size := z3
  have o4 : p4 < w1.heap.size := z4
  have w0 : w.heap.size ≤ w1.heap.size := z0
  obtain ⟨p8, hp8⟩ : ∃ p8, w1.heap.size + 1 = p8 := ⟨_, rfl⟩
  obtain ⟨p7, hp7⟩ : ∃ p7, w1.heap.size = p7 := ⟨_, rfl⟩
  rw [hp8] at b8
  rw [hp7] at b7
  try simp only [hp8]
  try simp only [hp7]
  have n3_7 : ¬ p3 = p7 := by omega
  have n7_3 : ¬ p7 = p3 := by omega
  have n4_7 : ¬ p4 = p7 := by omega
  have n7_4 : ¬ p7 = p4 := by omega
  have s7 : w.heap.size ≤ p7 := by omega
  have n3_8 : ¬ p3 = p8 := by omega
  have n8_3 : ¬ p8 = p3 := by omega
  have n4_8 : ¬ p4 = p8 := by omega
  have n8_4 : ¬ p8 = p4 := by omega
  have n7_8 : ¬ p7 = p8 := by omega
  have n8_7 : ¬ p8 = p7 := by omega
  have s8 : w.heap.size ≤ p8 := by omega
  clear o3 o4 w0
  clear hp7
  clear hp8
  clear hW
  clear z3 z4 z0
  clear g1
  refine (NE.out _).mono ?_
  rintro e w2 ⟨rfl, g2⟩
  obtain ⟨c3, f3, z3⟩ := blk_cells (g2.heap b3)
  obtain ⟨c4, f4, z4⟩ := blk_cells (g2.heap b4)
  obtain ⟨c7, f7, z7⟩ := blk_cells (g2.heap b7)
  obtain ⟨c8, f8, z8⟩ := blk_cells (g2.heap b8)
  have z0 : w.heap.size ≤ w2.heap.size := (Gr.trans G g2).b.size
  go_wp2_with fail
  clear c3 f3 c4 f4 c7 f7 c8 f8
  replace b3 := g2.heap b3
  replace b4 := g2.heap b4
  replace b7 := g2.heap b7
  replace b8 := g2.heap b8
  have G := G.trans g2
  replace b3 := ((Gr.refl _).alloc (.cells #[.int .i64 (a'), .int .i64 (b')] 23)).heap b3
  replace b4 := ((Gr.refl _).alloc (.cells #[.int .i64 (a'), .int .i64 (b')] 23)).heap b4
  replace b7 := ((Gr.refl _).alloc (.cells #[.int .i64 (a'), .int .i64 (b')] 23)).heap b7
  replace b8 := ((Gr.refl _).alloc (.cells #[.int .i64 (a'), .int .i64 (b')] 23)).heap b8
  have b10 := heap_alloc_self w2 (.cells #[.int .i64 (a'), .int .i64 (b')] 23)
  replace G := G.alloc (.cells #[.int .i64 (a'), .int .i64 (b')] 23)
  generalize hW : (w2.alloc (.cells #[.int .i64 (a'), .int .i64 (b')] 23)) = W3 at *
  have o3 : p3 < w2.heap.size := z3
  have o4 : p4 < w2.heap.size := z4
  have o7 : p7 < w2.heap.size := z7
  have o8 : p8 < w2.heap.size := z8
  have w0 : w.heap.size ≤ w2.heap.size := z0
  obtain ⟨p10, hp10⟩ : ∃ p10, w2.heap.size = p10 := ⟨_, rfl⟩
  rw [hp10] at b10
  try simp only [hp10]
  have n3_10 : ¬ p3 = p10 := by omega
  have n10_3 : ¬ p10 = p3 := by omega
  have n4_10 : ¬ p4 = p10 := by omega
  have n10_4 : ¬ p10 = p4 := by omega
  have n7_10 : ¬ p7 = p10 := by omega
  have n10_7 : ¬ p10 = p7 := by omega
  have n8_10 : ¬ p8 = p10 := by omega
  have n10_8 : ¬ p10 = p8 := by omega
  have s10 : w.heap.size ≤ p10 := by omega
  clear o3 o4 o7 o8 w0
  clear hp10
  clear hW
  clear z3 z4 z7 z8 z0
  clear g2
  refine (L1.out _).mono ?_
  rintro e w3 ⟨rfl, g3⟩
  obtain ⟨c3, f3, z3⟩ := blk_cells (g3.heap b3)
  obtain ⟨c4, f4, z4⟩ := blk_cells (g3.heap b4)
  obtain ⟨c7, f7, z7⟩ := blk_cells (g3.heap b7)
  obtain ⟨c8, f8, z8⟩ := blk_cells (g3.heap b8)
  obtain ⟨c10, f10, z10⟩ := blk_cells (g3.heap b10)
  have z0 : w.heap.size ≤ w3.heap.size := (Gr.trans G g3).b.size
  go_wp2_with fail
  clear c3 f3 c4 f4 c7 f7 c8 f8 c10 f10
  replace b3 := g3.heap b3
  replace b4 := g3.heap b4
  replace b7 := g3.heap b7
  replace b8 := g3.heap b8
  replace b10 := g3.heap b10
  have G := G.trans g3
  clear z3 z4 z7 z8 z10 z0
  clear g3
  refine (L2.out _).mono ?_
  rintro e w4 ⟨rfl, g4⟩
  obtain ⟨c3, f3, z3⟩ := blk_cells (g4.heap b3)
  obtain ⟨c4, f4, z4⟩ := blk_cells (g4.heap b4)
  obtain ⟨c7, f7, z7⟩ := blk_cells (g4.heap b7)
  obtain ⟨c8, f8, z8⟩ := blk_cells (g4.heap b8)
  obtain ⟨c10, f10, z10⟩ := blk_cells (g4.heap b10)
  have z0 : w.heap.size ≤ w4.heap.size := (Gr.trans G g4).b.size
  go_wp2_with fail
  clear c3 f3 c4 f4 c7 f7 c8 f8 c10 f10
  replace b3 := g4.heap b3
  replace b4 := g4.heap b4
  replace b7 := g4.heap b7
  replace b8 := g4.heap b8
  replace b10 := g4.heap b10
  have G := G.trans g4
  clear z3 z4 z7 z8 z10 z0
  clear g4
  refine (CF.out _).mono ?_
  rintro e w5 ⟨rfl, g5⟩
  obtain ⟨c3, f3, z3⟩ := blk_cells (g5.heap b3)
  obtain ⟨c4, f4, z4⟩ := blk_cells (g5.heap b4)
  obtain ⟨c7, f7, z7⟩ := blk_cells (g5.heap b7)
  obtain ⟨c8, f8, z8⟩ := blk_cells (g5.heap b8)
  obtain ⟨c10, f10, z10⟩ := blk_cells (g5.heap b10)
  have z0 : w.heap.size ≤ w5.heap.size := (Gr.trans G g5).b.size
  go_wp2_with fail
  clear c3 f3 c4 f4 c7 f7 c8 f8 c10 f10
  replace b3 := g5.heap b3
  replace b4 := g5.heap b4
  replace b7 := g5.heap b7
  replace b8 := g5.heap b8
  replace b10 := g5.heap b10
  have G := G.trans g5
  clear z3 z4 z7 z8 z10 z0
  clear g5
  refine (alive_any _ (HT.out.gr G)).mono ?_
  rintro e wz ⟨rfl, gz⟩
  obtain ⟨c3, f3, z3⟩ := blk_cells (gz.heap b3)
  obtain ⟨c4, f4, z4⟩ := blk_cells (gz.heap b4)
  obtain ⟨c7, f7, z7⟩ := blk_cells (gz.heap b7)
  obtain ⟨c8, f8, z8⟩ := blk_cells (gz.heap b8)
  obtain ⟨c10, f10, z10⟩ := blk_cells (gz.heap b10)
  go_wp2
  go_ret
  exact ⟨rfl, G.trans gz⟩
set_option maxRecDepth 100000 in
set_option maxHeartbeats 8000000 in
theorem RuleNear_l1_highA (n d c e m a b a' b' _E : Int) (w : World) (ht : Tab w)
    (AR : Hid (Says 23 #[fr n d, .int .i64 m] (.tuple #[fr a b, fr a' b', .int .i64 0])))
    (NE : Hid (Says 25 #[fr n d, .int .i64 m] (.tuple #[fr a' b', .int .i64 0])))
    (hh : ¬ a' = a)
    (hb : ¬ m < b) (hb' : ¬ m < b')
    (L1 : Hid (Says 39 #[fr n d, fr a b] (.bool false))) (L2 : Hid (Says 39 #[fr a' b', fr n d] (.bool false)))
    (CF : Hid (Says 40 #[fr c e] (.int .i64 0)))
    (he : ¬ m < e)
    (M1 : Hid (Says 39 #[fr a b, fr c e] (.bool false)))
    (q1 : IntKind.i64.wrap (n*b') = n*b') (q2 : IntKind.i64.wrap (a'*d) = a'*d) (q3 : IntKind.i64.wrap (n*e) = n*e) (q4 : IntKind.i64.wrap (c*d) = c*d)
    (X Y : Int) (q5 : IntKind.i64.wrap (n*b' - a'*d) = X) (q6 : IntKind.i64.wrap (n*e - c*d) = Y)
    (q7 : IntKind.i64.wrap (-X) = -X) (q8 : IntKind.i64.wrap (-Y) = -Y)
    (hfin : (decide (1000000000000 ≤ max Y (-Y)) || decide (wrap64 (max X (-X) * e) ≤ wrap64 (max Y (-Y) * b'))) = true)
    : Calls Tryd.prog 10 #[fr n d, fr c e, .int .i64 m] w fun e w' => e = .returned (.bool true) ∧ Gr w w' := by
  have HT := Lib.hid ht
  clear ht
  have HF := Lib.hid hfin
  clear hfin
  go_enter Tryd.func10, Tryd.ntmps10
  go_wp2_with fail
  have G := Gr.refl w
  have b3 := heap_alloc_self w (.cells #[.int .i64 n, .int .i64 d] 23)
  replace G := G.alloc (.cells #[.int .i64 n, .int .i64 d] 23)
  replace b3 := ((Gr.refl _).alloc (.cells #[.int .i64 c, .int .i64 e] 23)).heap b3
  have b4 := heap_alloc_self (w.alloc (.cells #[.int .i64 n, .int .i64 d] 23)) (.cells #[.int .i64 c, .int .i64 e] 23)
  replace G := G.alloc (.cells #[.int .i64 c, .int .i64 e] 23)
  generalize hW : ((w.alloc (.cells #[.int .i64 n, .int .i64 d] 23)).alloc (.cells #[.int .i64 c, .int .i64 e] 23)) = W1 at *
  simp only [World.size_alloc] at b4
  have w0 : w.heap.size ≤ w.heap.size := Nat.le_refl _
  obtain ⟨p4, hp4⟩ : ∃ p4, w.heap.size + 1 = p4 := ⟨_, rfl⟩
  obtain ⟨p3, hp3⟩ : ∃ p3, w.heap.size = p3 := ⟨_, rfl⟩
  rw [hp4] at b4
  rw [hp3] at b3
  try simp only [hp4]
  try simp only [hp3]
  have s3 : w.heap.size ≤ p3 := by omega
  have n3_4 : ¬ p3 = p4 := by omega
  have n4_3 : ¬ p4 = p3 := by omega
  have s4 : w.heap.size ≤ p4 := by omega
  clear  w0
  clear hp3
  clear hp4
  clear hW
  refine (AR.out _).mono ?_
  rintro e w1 ⟨rfl, g1⟩
  obtain ⟨c3, f3, z3⟩ := blk_cells (g1.heap b3)
  obtain ⟨c4, f4, z4⟩ := blk_cells (g1.heap b4)
  have z0 : w.heap.size ≤ w1.heap.size := (Gr.trans G g1).b.size
  go_wp2_with fail
  clear c3 f3 c4 f4
  replace b3 := g1.heap b3
  replace b4 := g1.heap b4
  have G := G.trans g1
  replace b3 := ((Gr.refl _).alloc (.cells #[.int .i64 a, .int .i64 b] 23)).heap b3
  replace b4 := ((Gr.refl _).alloc (.cells #[.int .i64 a, .int .i64 b] 23)).heap b4
  have b7 := heap_alloc_self w1 (.cells #[.int .i64 a, .int .i64 b] 23)
  replace G := G.alloc (.cells #[.int .i64 a, .int .i64 b] 23)
  replace b3 := ((Gr.refl _).alloc (.cells #[.int .i64 (a'), .int .i64 (b')] 23)).heap b3
  replace b4 := ((Gr.refl _).alloc (.cells #[.int .i64 (a'), .int .i64 (b')] 23)).heap b4
  replace b7 := ((Gr.refl _).alloc (.cells #[.int .i64 (a'), .int .i64 (b')] 23)).heap b7
  have b8 := heap_alloc_self (w1.alloc (.cells #[.int .i64 a, .int .i64 b] 23)) (.cells #[.int .i64 (a'), .int .i64 (b')] 23)
  replace G := G.alloc (.cells #[.int .i64 (a'), .int .i64 (b')] 23)
  generalize hW : ((w1.alloc (.cells #[.int .i64 a, .int .i64 b] 23)).alloc (.cells #[.int .i64 (a'), .int .i64 (b')] 23)) = W2 at *
  simp only [World.size_alloc] at b8
  have o3 : p3 < w1.heap.size := z3
  have o4 : p4 < w1.heap.size := z4
  have w0 : w.heap.size ≤ w1.heap.size := z0
  obtain ⟨p8, hp8⟩ : ∃ p8, w1.heap.size + 1 = p8 := ⟨_, rfl⟩
  obtain ⟨p7, hp7⟩ : ∃ p7, w1.heap.size = p7 := ⟨_, rfl⟩
  rw [hp8] at b8
  rw [hp7] at b7
  try simp only [hp8]
  try simp only [hp7]
  have n3_7 : ¬ p3 = p7 := by omega
  have n7_3 : ¬ p7 = p3 := by omega
  have n4_7 : ¬ p4 = p7 := by omega
  have n7_4 : ¬ p7 = p4 := by omega
  have s7 : w.heap.size ≤ p7 := by omega
  have n3_8 : ¬ p3 = p8 := by omega
  have n8_3 : ¬ p8 = p3 := by omega
  have n4_8 : ¬ p4 = p8 := by omega
  have n8_4 : ¬ p8 = p4 := by omega
  have n7_8 : ¬ p7 = p8 := by omega
  have n8_7 : ¬ p8 = p7 := by omega
  have s8 : w.heap.size ≤ p8 := by omega
  clear o3 o4 w0
  clear hp7
  clear hp8
  clear hW
  clear z3 z4 z0
  clear g1
  refine (NE.out _).mono ?_
  rintro e w2 ⟨rfl, g2⟩
  obtain ⟨c3, f3, z3⟩ := blk_cells (g2.heap b3)
  obtain ⟨c4, f4, z4⟩ := blk_cells (g2.heap b4)
  obtain ⟨c7, f7, z7⟩ := blk_cells (g2.heap b7)
  obtain ⟨c8, f8, z8⟩ := blk_cells (g2.heap b8)
  have z0 : w.heap.size ≤ w2.heap.size := (Gr.trans G g2).b.size
  go_wp2_with fail
  clear c3 f3 c4 f4 c7 f7 c8 f8
  replace b3 := g2.heap b3
  replace b4 := g2.heap b4
  replace b7 := g2.heap b7
  replace b8 := g2.heap b8
  have G := G.trans g2
  replace b3 := ((Gr.refl _).alloc (.cells #[.int .i64 (a'), .int .i64 (b')] 23)).heap b3
  replace b4 := ((Gr.refl _).alloc (.cells #[.int .i64 (a'), .int .i64 (b')] 23)).heap b4
  replace b7 := ((Gr.refl _).alloc (.cells #[.int .i64 (a'), .int .i64 (b')] 23)).heap b7
  replace b8 := ((Gr.refl _).alloc (.cells #[.int .i64 (a'), .int .i64 (b')] 23)).heap b8
  have b10 := heap_alloc_self w2 (.cells #[.int .i64 (a'), .int .i64 (b')] 23)
  replace G := G.alloc (.cells #[.int .i64 (a'), .int .i64 (b')] 23)
  generalize hW : (w2.alloc (.cells #[.int .i64 (a'), .int .i64 (b')] 23)) = W3 at *
  have o3 : p3 < w2.heap.size := z3
  have o4 : p4 < w2.heap.size := z4
  have o7 : p7 < w2.heap.size := z7
  have o8 : p8 < w2.heap.size := z8
  have w0 : w.heap.size ≤ w2.heap.size := z0
  obtain ⟨p10, hp10⟩ : ∃ p10, w2.heap.size = p10 := ⟨_, rfl⟩
  rw [hp10] at b10
  try simp only [hp10]
  have n3_10 : ¬ p3 = p10 := by omega
  have n10_3 : ¬ p10 = p3 := by omega
  have n4_10 : ¬ p4 = p10 := by omega
  have n10_4 : ¬ p10 = p4 := by omega
  have n7_10 : ¬ p7 = p10 := by omega
  have n10_7 : ¬ p10 = p7 := by omega
  have n8_10 : ¬ p8 = p10 := by omega
  have n10_8 : ¬ p10 = p8 := by omega
  have s10 : w.heap.size ≤ p10 := by omega
  clear o3 o4 o7 o8 w0
  clear hp10
  clear hW
  clear z3 z4 z7 z8 z0
  clear g2
  refine (L1.out _).mono ?_
  rintro e w3 ⟨rfl, g3⟩
  obtain ⟨c3, f3, z3⟩ := blk_cells (g3.heap b3)
  obtain ⟨c4, f4, z4⟩ := blk_cells (g3.heap b4)
  obtain ⟨c7, f7, z7⟩ := blk_cells (g3.heap b7)
  obtain ⟨c8, f8, z8⟩ := blk_cells (g3.heap b8)
  obtain ⟨c10, f10, z10⟩ := blk_cells (g3.heap b10)
  have z0 : w.heap.size ≤ w3.heap.size := (Gr.trans G g3).b.size
  go_wp2_with fail
  clear c3 f3 c4 f4 c7 f7 c8 f8 c10 f10
  replace b3 := g3.heap b3
  replace b4 := g3.heap b4
  replace b7 := g3.heap b7
  replace b8 := g3.heap b8
  replace b10 := g3.heap b10
  have G := G.trans g3
  clear z3 z4 z7 z8 z10 z0
  clear g3
  refine (L2.out _).mono ?_
  rintro e w4 ⟨rfl, g4⟩
  obtain ⟨c3, f3, z3⟩ := blk_cells (g4.heap b3)
  obtain ⟨c4, f4, z4⟩ := blk_cells (g4.heap b4)
  obtain ⟨c7, f7, z7⟩ := blk_cells (g4.heap b7)
  obtain ⟨c8, f8, z8⟩ := blk_cells (g4.heap b8)
  obtain ⟨c10, f10, z10⟩ := blk_cells (g4.heap b10)
  have z0 : w.heap.size ≤ w4.heap.size := (Gr.trans G g4).b.size
  go_wp2_with fail
  clear c3 f3 c4 f4 c7 f7 c8 f8 c10 f10
  replace b3 := g4.heap b3
  replace b4 := g4.heap b4
  replace b7 := g4.heap b7
  replace b8 := g4.heap b8
  replace b10 := g4.heap b10
  have G := G.trans g4
  clear z3 z4 z7 z8 z10 z0
  clear g4
  refine (CF.out _).mono ?_
  rintro e w5 ⟨rfl, g5⟩
  obtain ⟨c3, f3, z3⟩ := blk_cells (g5.heap b3)
  obtain ⟨c4, f4, z4⟩ := blk_cells (g5.heap b4)
  obtain ⟨c7, f7, z7⟩ := blk_cells (g5.heap b7)
  obtain ⟨c8, f8, z8⟩ := blk_cells (g5.heap b8)
  obtain ⟨c10, f10, z10⟩ := blk_cells (g5.heap b10)
  have z0 : w.heap.size ≤ w5.heap.size := (Gr.trans G g5).b.size
  go_wp2_with fail
  clear c3 f3 c4 f4 c7 f7 c8 f8 c10 f10
  replace b3 := g5.heap b3
  replace b4 := g5.heap b4
  replace b7 := g5.heap b7
  replace b8 := g5.heap b8
  replace b10 := g5.heap b10
  have G := G.trans g5
  clear z3 z4 z7 z8 z10 z0
  clear g5
  refine (M1.out _).mono ?_
  rintro e w6 ⟨rfl, g6⟩
  obtain ⟨c3, f3, z3⟩ := blk_cells (g6.heap b3)
  obtain ⟨c4, f4, z4⟩ := blk_cells (g6.heap b4)
  obtain ⟨c7, f7, z7⟩ := blk_cells (g6.heap b7)
  obtain ⟨c8, f8, z8⟩ := blk_cells (g6.heap b8)
  obtain ⟨c10, f10, z10⟩ := blk_cells (g6.heap b10)
  have z0 : w.heap.size ≤ w6.heap.size := (Gr.trans G g6).b.size
  go_upto_region 11 with (fail)
  clear c3 f3 c4 f4 c7 f7 c8 f8 c10 f10
  replace b3 := g6.heap b3
  replace b4 := g6.heap b4
  replace b7 := g6.heap b7
  replace b8 := g6.heap b8
  replace b10 := g6.heap b10
  have G := G.trans g6
  clear z3 z4 z7 z8 z10 z0
  clear g6
  obtain ⟨c3, f3, z3⟩ := blk_cells b3
  obtain ⟨c4, f4, z4⟩ := blk_cells b4
  obtain ⟨c7, f7, z7⟩ := blk_cells b7
  obtain ⟨c8, f8, z8⟩ := blk_cells b8
  obtain ⟨c10, f10, z10⟩ := blk_cells b10
  refine wp_region_plan [.val (.pointer (some ⟨p3, 0, none⟩)), .val (.int .i64 (n)), .val (.pointer (some ⟨p10, 1, none⟩)), .val (.int .i64 (b')), .val (.int .i64 (n*b')), .val (.pointer (some ⟨p10, 0, none⟩)), .val (.int .i64 (a')), .val (.pointer (some ⟨p3, 1, none⟩)), .val (.int .i64 (d)), .val (.int .i64 (a'*d)), .val (.int .i64 (X)), .val (.pointer (some ⟨p3, 0, none⟩)), .val (.int .i64 (n)), .val (.pointer (some ⟨p4, 1, none⟩)), .val (.int .i64 (e)), .val (.int .i64 (n*e)), .val (.pointer (some ⟨p4, 0, none⟩)), .val (.int .i64 (c)), .val (.pointer (some ⟨p3, 1, none⟩)), .val (.int .i64 (d)), .val (.int .i64 (c*d)), .val (.int .i64 (Y)), .val (.int .i64 (X)), .val (.int .i64 (Y))] (by kernel_rfl) (by kernel_rfl) (fun G => by first | (simp only [finAct, Act.put, Plan.value, List.setIfInBounds_toArray, List.set_cons_zero, List.set_cons_succ]; rfl) | (simp only [finAct, Act.put, Plan.value, List.setIfInBounds_toArray, List.set_cons_zero, List.set_cons_succ, Nat.zero_add, Nat.reduceAdd]; rfl)) ?_ ?_
  · refine ⟨?_, ?_, ?_, ?_, ?_, ?_, ?_, ?_, ?_, ?_, ?_, ?_, ?_, ?_, ?_, ?_, ?_, ?_, ?_, ?_, ?_, ?_, ?_, ?_, trivial⟩ <;> (first | exact trivial | (intro G; first | (refine ⟨by kernel_rfl, fun u hu => ?_⟩; obtain ⟨hc, hf, hz⟩ := hu.cells; go_simp; first | exact ⟨rfl, Gr.refl _⟩ | skip) | (refine ⟨by kernel_rfl, fun u T z hu hG hj hb => ?_⟩; cases hj; obtain ⟨hbc, hbf, hbz⟩ := blk_cells hb; first | (refine ⟨_, ?_, ((GrL.of_gr (Gr.refl _)).set _ _ (Or.inr (by simp))).set _ _ (Or.inr (by simp)), put_two hb⟩; go_simp; done) | (refine ⟨_, ?_, (GrL.of_gr (Gr.refl _)).set _ _ (Or.inr (by simp)), put_one hb⟩; go_simp; done)) | (refine ⟨by kernel_rfl, fun u => ?_⟩; go_simp; done) | (show _ = false; kernel_rfl)))
  intro _ U hg _ _
  clear c3 f3 z3 c4 f4 z4 c7 f7 z7 c8 f8 z8 c10 f10 z10
  replace b3 := hg.heap b3
  replace b4 := hg.heap b4
  replace b7 := hg.heap b7
  replace b8 := hg.heap b8
  replace b10 := hg.heap b10
  have G := G.trans hg
  obtain ⟨c3, f3, z3⟩ := blk_cells b3
  obtain ⟨c4, f4, z4⟩ := blk_cells b4
  obtain ⟨c7, f7, z7⟩ := blk_cells b7
  obtain ⟨c8, f8, z8⟩ := blk_cells b8
  obtain ⟨c10, f10, z10⟩ := blk_cells b10
  clear hg q1 q2 q3 q4 q5 q6
  go_wp2_with fail
  clear c3 f3 z3 c4 f4 z4 c7 f7 z7 c8 f8 z8 c10 f10 z10
  refine (alive_any _ (HT.out.gr G)).mono ?_
  rintro e wz ⟨rfl, gz⟩
  obtain ⟨c3, f3, z3⟩ := blk_cells (gz.heap b3)
  obtain ⟨c4, f4, z4⟩ := blk_cells (gz.heap b4)
  obtain ⟨c7, f7, z7⟩ := blk_cells (gz.heap b7)
  obtain ⟨c8, f8, z8⟩ := blk_cells (gz.heap b8)
  obtain ⟨c10, f10, z10⟩ := blk_cells (gz.heap b10)
  go_wp2
  all_goals go_ret
  all_goals first | exact ⟨ret_bool HF.out, G.trans gz⟩ | exact ⟨rfl, G.trans gz⟩ | trace_state
set_option maxRecDepth 100000 in
set_option maxHeartbeats 8000000 in
theorem RuleNear_l2_highA (n d c e m a b a' b' _E : Int) (w : World) (ht : Tab w)
    (AR : Hid (Says 23 #[fr n d, .int .i64 m] (.tuple #[fr a b, fr a' b', .int .i64 0])))
    (NE : Hid (Says 25 #[fr n d, .int .i64 m] (.tuple #[fr a' b', .int .i64 0])))
    (hh : ¬ a' = a)
    (hb : ¬ m < b) (hb' : ¬ m < b')
    (L1 : Hid (Says 39 #[fr n d, fr a b] (.bool false))) (L2 : Hid (Says 39 #[fr a' b', fr n d] (.bool false)))
    (CF : Hid (Says 40 #[fr c e] (.int .i64 0)))
    (he : ¬ m < e)
    (M1 : Hid (Says 39 #[fr a b, fr c e] (.bool true)))
    (M2 : Hid (Says 39 #[fr c e, fr a' b'] (.bool false)))
    (q1 : IntKind.i64.wrap (n*b') = n*b') (q2 : IntKind.i64.wrap (a'*d) = a'*d) (q3 : IntKind.i64.wrap (n*e) = n*e) (q4 : IntKind.i64.wrap (c*d) = c*d)
    (X Y : Int) (q5 : IntKind.i64.wrap (n*b' - a'*d) = X) (q6 : IntKind.i64.wrap (n*e - c*d) = Y)
    (q7 : IntKind.i64.wrap (-X) = -X) (q8 : IntKind.i64.wrap (-Y) = -Y)
    (hfin : (decide (1000000000000 ≤ max Y (-Y)) || decide (wrap64 (max X (-X) * e) ≤ wrap64 (max Y (-Y) * b'))) = true)
    : Calls Tryd.prog 10 #[fr n d, fr c e, .int .i64 m] w fun e w' => e = .returned (.bool true) ∧ Gr w w' := by
  have HT := Lib.hid ht
  clear ht
  have HF := Lib.hid hfin
  clear hfin
  go_enter Tryd.func10, Tryd.ntmps10
  go_wp2_with fail
  have G := Gr.refl w
  have b3 := heap_alloc_self w (.cells #[.int .i64 n, .int .i64 d] 23)
  replace G := G.alloc (.cells #[.int .i64 n, .int .i64 d] 23)
  replace b3 := ((Gr.refl _).alloc (.cells #[.int .i64 c, .int .i64 e] 23)).heap b3
  have b4 := heap_alloc_self (w.alloc (.cells #[.int .i64 n, .int .i64 d] 23)) (.cells #[.int .i64 c, .int .i64 e] 23)
  replace G := G.alloc (.cells #[.int .i64 c, .int .i64 e] 23)
  generalize hW : ((w.alloc (.cells #[.int .i64 n, .int .i64 d] 23)).alloc (.cells #[.int .i64 c, .int .i64 e] 23)) = W1 at *
  simp only [World.size_alloc] at b4
  have w0 : w.heap.size ≤ w.heap.size := Nat.le_refl _
  obtain ⟨p4, hp4⟩ : ∃ p4, w.heap.size + 1 = p4 := ⟨_, rfl⟩
  obtain ⟨p3, hp3⟩ : ∃ p3, w.heap.size = p3 := ⟨_, rfl⟩
  rw [hp4] at b4
  rw [hp3] at b3
  try simp only [hp4]
  try simp only [hp3]
  have s3 : w.heap.size ≤ p3 := by omega
  have n3_4 : ¬ p3 = p4 := by omega
  have n4_3 : ¬ p4 = p3 := by omega
  have s4 : w.heap.size ≤ p4 := by omega
  clear  w0
  clear hp3
  clear hp4
  clear hW
  refine (AR.out _).mono ?_
  rintro e w1 ⟨rfl, g1⟩
  obtain ⟨c3, f3, z3⟩ := blk_cells (g1.heap b3)
  obtain ⟨c4, f4, z4⟩ := blk_cells (g1.heap b4)
  have z0 : w.heap.size ≤ w1.heap.size := (Gr.trans G g1).b.size
  go_wp2_with fail
  clear c3 f3 c4 f4
  replace b3 := g1.heap b3
  replace b4 := g1.heap b4
  have G := G.trans g1
  replace b3 := ((Gr.refl _).alloc (.cells #[.int .i64 a, .int .i64 b] 23)).heap b3
  replace b4 := ((Gr.refl _).alloc (.cells #[.int .i64 a, .int .i64 b] 23)).heap b4
  have b7 := heap_alloc_self w1 (.cells #[.int .i64 a, .int .i64 b] 23)
  replace G := G.alloc (.cells #[.int .i64 a, .int .i64 b] 23)
  replace b3 := ((Gr.refl _).alloc (.cells #[.int .i64 (a'), .int .i64 (b')] 23)).heap b3
  replace b4 := ((Gr.refl _).alloc (.cells #[.int .i64 (a'), .int .i64 (b')] 23)).heap b4
  replace b7 := ((Gr.refl _).alloc (.cells #[.int .i64 (a'), .int .i64 (b')] 23)).heap b7
  have b8 := heap_alloc_self (w1.alloc (.cells #[.int .i64 a, .int .i64 b] 23)) (.cells #[.int .i64 (a'), .int .i64 (b')] 23)
  replace G := G.alloc (.cells #[.int .i64 (a'), .int .i64 (b')] 23)
  generalize hW : ((w1.alloc (.cells #[.int .i64 a, .int .i64 b] 23)).alloc (.cells #[.int .i64 (a'), .int .i64 (b')] 23)) = W2 at *
  simp only [World.size_alloc] at b8
  have o3 : p3 < w1.heap.size := z3
  have o4 : p4 < w1.heap.size := z4
  have w0 : w.heap.size ≤ w1.heap.size := z0
  obtain ⟨p8, hp8⟩ : ∃ p8, w1.heap.size + 1 = p8 := ⟨_, rfl⟩
  obtain ⟨p7, hp7⟩ : ∃ p7, w1.heap.size = p7 := ⟨_, rfl⟩
  rw [hp8] at b8
  rw [hp7] at b7
  try simp only [hp8]
  try simp only [hp7]
  have n3_7 : ¬ p3 = p7 := by omega
  have n7_3 : ¬ p7 = p3 := by omega
  have n4_7 : ¬ p4 = p7 := by omega
  have n7_4 : ¬ p7 = p4 := by omega
  have s7 : w.heap.size ≤ p7 := by omega
  have n3_8 : ¬ p3 = p8 := by omega
  have n8_3 : ¬ p8 = p3 := by omega
  have n4_8 : ¬ p4 = p8 := by omega
  have n8_4 : ¬ p8 = p4 := by omega
  have n7_8 : ¬ p7 = p8 := by omega
  have n8_7 : ¬ p8 = p7 := by omega
  have s8 : w.heap.size ≤ p8 := by omega
  clear o3 o4 w0
  clear hp7
  clear hp8
  clear hW
  clear z3 z4 z0
  clear g1
  refine (NE.out _).mono ?_
  rintro e w2 ⟨rfl, g2⟩
  obtain ⟨c3, f3, z3⟩ := blk_cells (g2.heap b3)
  obtain ⟨c4, f4, z4⟩ := blk_cells (g2.heap b4)
  obtain ⟨c7, f7, z7⟩ := blk_cells (g2.heap b7)
  obtain ⟨c8, f8, z8⟩ := blk_cells (g2.heap b8)
  have z0 : w.heap.size ≤ w2.heap.size := (Gr.trans G g2).b.size
  go_wp2_with fail
  clear c3 f3 c4 f4 c7 f7 c8 f8
  replace b3 := g2.heap b3
  replace b4 := g2.heap b4
  replace b7 := g2.heap b7
  replace b8 := g2.heap b8
  have G := G.trans g2
  replace b3 := ((Gr.refl _).alloc (.cells #[.int .i64 (a'), .int .i64 (b')] 23)).heap b3
  replace b4 := ((Gr.refl _).alloc (.cells #[.int .i64 (a'), .int .i64 (b')] 23)).heap b4
  replace b7 := ((Gr.refl _).alloc (.cells #[.int .i64 (a'), .int .i64 (b')] 23)).heap b7
  replace b8 := ((Gr.refl _).alloc (.cells #[.int .i64 (a'), .int .i64 (b')] 23)).heap b8
  have b10 := heap_alloc_self w2 (.cells #[.int .i64 (a'), .int .i64 (b')] 23)
  replace G := G.alloc (.cells #[.int .i64 (a'), .int .i64 (b')] 23)
  generalize hW : (w2.alloc (.cells #[.int .i64 (a'), .int .i64 (b')] 23)) = W3 at *
  have o3 : p3 < w2.heap.size := z3
  have o4 : p4 < w2.heap.size := z4
  have o7 : p7 < w2.heap.size := z7
  have o8 : p8 < w2.heap.size := z8
  have w0 : w.heap.size ≤ w2.heap.size := z0
  obtain ⟨p10, hp10⟩ : ∃ p10, w2.heap.size = p10 := ⟨_, rfl⟩
  rw [hp10] at b10
  try simp only [hp10]
  have n3_10 : ¬ p3 = p10 := by omega
  have n10_3 : ¬ p10 = p3 := by omega
  have n4_10 : ¬ p4 = p10 := by omega
  have n10_4 : ¬ p10 = p4 := by omega
  have n7_10 : ¬ p7 = p10 := by omega
  have n10_7 : ¬ p10 = p7 := by omega
  have n8_10 : ¬ p8 = p10 := by omega
  have n10_8 : ¬ p10 = p8 := by omega
  have s10 : w.heap.size ≤ p10 := by omega
  clear o3 o4 o7 o8 w0
  clear hp10
  clear hW
  clear z3 z4 z7 z8 z0
  clear g2
  refine (L1.out _).mono ?_
  rintro e w3 ⟨rfl, g3⟩
  obtain ⟨c3, f3, z3⟩ := blk_cells (g3.heap b3)
  obtain ⟨c4, f4, z4⟩ := blk_cells (g3.heap b4)
  obtain ⟨c7, f7, z7⟩ := blk_cells (g3.heap b7)
  obtain ⟨c8, f8, z8⟩ := blk_cells (g3.heap b8)
  obtain ⟨c10, f10, z10⟩ := blk_cells (g3.heap b10)
  have z0 : w.heap.size ≤ w3.heap.size := (Gr.trans G g3).b.size
  go_wp2_with fail
  clear c3 f3 c4 f4 c7 f7 c8 f8 c10 f10
  replace b3 := g3.heap b3
  replace b4 := g3.heap b4
  replace b7 := g3.heap b7
  replace b8 := g3.heap b8
  replace b10 := g3.heap b10
  have G := G.trans g3
  clear z3 z4 z7 z8 z10 z0
  clear g3
  refine (L2.out _).mono ?_
  rintro e w4 ⟨rfl, g4⟩
  obtain ⟨c3, f3, z3⟩ := blk_cells (g4.heap b3)
  obtain ⟨c4, f4, z4⟩ := blk_cells (g4.heap b4)
  obtain ⟨c7, f7, z7⟩ := blk_cells (g4.heap b7)
  obtain ⟨c8, f8, z8⟩ := blk_cells (g4.heap b8)
  obtain ⟨c10, f10, z10⟩ := blk_cells (g4.heap b10)
  have z0 : w.heap.size ≤ w4.heap.size := (Gr.trans G g4).b.size
  go_wp2_with fail
  clear c3 f3 c4 f4 c7 f7 c8 f8 c10 f10
  replace b3 := g4.heap b3
  replace b4 := g4.heap b4
  replace b7 := g4.heap b7
  replace b8 := g4.heap b8
  replace b10 := g4.heap b10
  have G := G.trans g4
  clear z3 z4 z7 z8 z10 z0
  clear g4
  refine (CF.out _).mono ?_
  rintro e w5 ⟨rfl, g5⟩
  obtain ⟨c3, f3, z3⟩ := blk_cells (g5.heap b3)
  obtain ⟨c4, f4, z4⟩ := blk_cells (g5.heap b4)
  obtain ⟨c7, f7, z7⟩ := blk_cells (g5.heap b7)
  obtain ⟨c8, f8, z8⟩ := blk_cells (g5.heap b8)
  obtain ⟨c10, f10, z10⟩ := blk_cells (g5.heap b10)
  have z0 : w.heap.size ≤ w5.heap.size := (Gr.trans G g5).b.size
  go_wp2_with fail
  clear c3 f3 c4 f4 c7 f7 c8 f8 c10 f10
  replace b3 := g5.heap b3
  replace b4 := g5.heap b4
  replace b7 := g5.heap b7
  replace b8 := g5.heap b8
  replace b10 := g5.heap b10
  have G := G.trans g5
  clear z3 z4 z7 z8 z10 z0
  clear g5
  refine (M1.out _).mono ?_
  rintro e w6 ⟨rfl, g6⟩
  obtain ⟨c3, f3, z3⟩ := blk_cells (g6.heap b3)
  obtain ⟨c4, f4, z4⟩ := blk_cells (g6.heap b4)
  obtain ⟨c7, f7, z7⟩ := blk_cells (g6.heap b7)
  obtain ⟨c8, f8, z8⟩ := blk_cells (g6.heap b8)
  obtain ⟨c10, f10, z10⟩ := blk_cells (g6.heap b10)
  have z0 : w.heap.size ≤ w6.heap.size := (Gr.trans G g6).b.size
  go_wp2_with fail
  clear c3 f3 c4 f4 c7 f7 c8 f8 c10 f10
  replace b3 := g6.heap b3
  replace b4 := g6.heap b4
  replace b7 := g6.heap b7
  replace b8 := g6.heap b8
  replace b10 := g6.heap b10
  have G := G.trans g6
  clear z3 z4 z7 z8 z10 z0
  clear g6
  refine (M2.out _).mono ?_
  rintro e w7 ⟨rfl, g7⟩
  obtain ⟨c3, f3, z3⟩ := blk_cells (g7.heap b3)
  obtain ⟨c4, f4, z4⟩ := blk_cells (g7.heap b4)
  obtain ⟨c7, f7, z7⟩ := blk_cells (g7.heap b7)
  obtain ⟨c8, f8, z8⟩ := blk_cells (g7.heap b8)
  obtain ⟨c10, f10, z10⟩ := blk_cells (g7.heap b10)
  have z0 : w.heap.size ≤ w7.heap.size := (Gr.trans G g7).b.size
  go_upto_region 11 with (fail)
  clear c3 f3 c4 f4 c7 f7 c8 f8 c10 f10
  replace b3 := g7.heap b3
  replace b4 := g7.heap b4
  replace b7 := g7.heap b7
  replace b8 := g7.heap b8
  replace b10 := g7.heap b10
  have G := G.trans g7
  clear z3 z4 z7 z8 z10 z0
  clear g7
  obtain ⟨c3, f3, z3⟩ := blk_cells b3
  obtain ⟨c4, f4, z4⟩ := blk_cells b4
  obtain ⟨c7, f7, z7⟩ := blk_cells b7
  obtain ⟨c8, f8, z8⟩ := blk_cells b8
  obtain ⟨c10, f10, z10⟩ := blk_cells b10
  refine wp_region_plan [.val (.pointer (some ⟨p3, 0, none⟩)), .val (.int .i64 (n)), .val (.pointer (some ⟨p10, 1, none⟩)), .val (.int .i64 (b')), .val (.int .i64 (n*b')), .val (.pointer (some ⟨p10, 0, none⟩)), .val (.int .i64 (a')), .val (.pointer (some ⟨p3, 1, none⟩)), .val (.int .i64 (d)), .val (.int .i64 (a'*d)), .val (.int .i64 (X)), .val (.pointer (some ⟨p3, 0, none⟩)), .val (.int .i64 (n)), .val (.pointer (some ⟨p4, 1, none⟩)), .val (.int .i64 (e)), .val (.int .i64 (n*e)), .val (.pointer (some ⟨p4, 0, none⟩)), .val (.int .i64 (c)), .val (.pointer (some ⟨p3, 1, none⟩)), .val (.int .i64 (d)), .val (.int .i64 (c*d)), .val (.int .i64 (Y)), .val (.int .i64 (X)), .val (.int .i64 (Y))] (by kernel_rfl) (by kernel_rfl) (fun G => by first | (simp only [finAct, Act.put, Plan.value, List.setIfInBounds_toArray, List.set_cons_zero, List.set_cons_succ]; rfl) | (simp only [finAct, Act.put, Plan.value, List.setIfInBounds_toArray, List.set_cons_zero, List.set_cons_succ, Nat.zero_add, Nat.reduceAdd]; rfl)) ?_ ?_
  · refine ⟨?_, ?_, ?_, ?_, ?_, ?_, ?_, ?_, ?_, ?_, ?_, ?_, ?_, ?_, ?_, ?_, ?_, ?_, ?_, ?_, ?_, ?_, ?_, ?_, trivial⟩ <;> (first | exact trivial | (intro G; first | (refine ⟨by kernel_rfl, fun u hu => ?_⟩; obtain ⟨hc, hf, hz⟩ := hu.cells; go_simp; first | exact ⟨rfl, Gr.refl _⟩ | skip) | (refine ⟨by kernel_rfl, fun u T z hu hG hj hb => ?_⟩; cases hj; obtain ⟨hbc, hbf, hbz⟩ := blk_cells hb; first | (refine ⟨_, ?_, ((GrL.of_gr (Gr.refl _)).set _ _ (Or.inr (by simp))).set _ _ (Or.inr (by simp)), put_two hb⟩; go_simp; done) | (refine ⟨_, ?_, (GrL.of_gr (Gr.refl _)).set _ _ (Or.inr (by simp)), put_one hb⟩; go_simp; done)) | (refine ⟨by kernel_rfl, fun u => ?_⟩; go_simp; done) | (show _ = false; kernel_rfl)))
  intro _ U hg _ _
  clear c3 f3 z3 c4 f4 z4 c7 f7 z7 c8 f8 z8 c10 f10 z10
  replace b3 := hg.heap b3
  replace b4 := hg.heap b4
  replace b7 := hg.heap b7
  replace b8 := hg.heap b8
  replace b10 := hg.heap b10
  have G := G.trans hg
  obtain ⟨c3, f3, z3⟩ := blk_cells b3
  obtain ⟨c4, f4, z4⟩ := blk_cells b4
  obtain ⟨c7, f7, z7⟩ := blk_cells b7
  obtain ⟨c8, f8, z8⟩ := blk_cells b8
  obtain ⟨c10, f10, z10⟩ := blk_cells b10
  clear hg q1 q2 q3 q4 q5 q6
  go_wp2_with fail
  clear c3 f3 z3 c4 f4 z4 c7 f7 z7 c8 f8 z8 c10 f10 z10
  refine (alive_any _ (HT.out.gr G)).mono ?_
  rintro e wz ⟨rfl, gz⟩
  obtain ⟨c3, f3, z3⟩ := blk_cells (gz.heap b3)
  obtain ⟨c4, f4, z4⟩ := blk_cells (gz.heap b4)
  obtain ⟨c7, f7, z7⟩ := blk_cells (gz.heap b7)
  obtain ⟨c8, f8, z8⟩ := blk_cells (gz.heap b8)
  obtain ⟨c10, f10, z10⟩ := blk_cells (gz.heap b10)
  go_wp2
  all_goals go_ret
  all_goals first | exact ⟨ret_bool HF.out, G.trans gz⟩ | exact ⟨rfl, G.trans gz⟩ | trace_state
set_option maxRecDepth 100000 in
set_option maxHeartbeats 8000000 in
theorem RuleNear_yw_highB (n d c e m a b _a' b' _E : Int) (w : World) (ht : Tab w)
    (AR : Hid (Says 23 #[fr n d, .int .i64 m] (.tuple #[fr a b, fr a b', .int .i64 0])))
    (NE : Hid (Says 25 #[fr n d, .int .i64 m] (.tuple #[fr a b', .int .i64 0])))
    (hh : ¬ b' = b)
    (hb : ¬ m < b) (hb' : ¬ m < b')
    (L1 : Hid (Says 39 #[fr n d, fr a b] (.bool false))) (L2 : Hid (Says 39 #[fr a b', fr n d] (.bool false)))
    (CF : Hid (Says 40 #[fr c e] (.int .i64 1)))
    : Calls Tryd.prog 10 #[fr n d, fr c e, .int .i64 m] w fun e w' => e = .returned (.bool true) ∧ Gr w w' := by
  have HT := Lib.hid ht
  clear ht
  go_enter Tryd.func10, Tryd.ntmps10
  go_wp2_with fail
  have G := Gr.refl w
  have b3 := heap_alloc_self w (.cells #[.int .i64 n, .int .i64 d] 23)
  replace G := G.alloc (.cells #[.int .i64 n, .int .i64 d] 23)
  replace b3 := ((Gr.refl _).alloc (.cells #[.int .i64 c, .int .i64 e] 23)).heap b3
  have b4 := heap_alloc_self (w.alloc (.cells #[.int .i64 n, .int .i64 d] 23)) (.cells #[.int .i64 c, .int .i64 e] 23)
  replace G := G.alloc (.cells #[.int .i64 c, .int .i64 e] 23)
  generalize hW : ((w.alloc (.cells #[.int .i64 n, .int .i64 d] 23)).alloc (.cells #[.int .i64 c, .int .i64 e] 23)) = W1 at *
  simp only [World.size_alloc] at b4
  have w0 : w.heap.size ≤ w.heap.size := Nat.le_refl _
  obtain ⟨p4, hp4⟩ : ∃ p4, w.heap.size + 1 = p4 := ⟨_, rfl⟩
  obtain ⟨p3, hp3⟩ : ∃ p3, w.heap.size = p3 := ⟨_, rfl⟩
  rw [hp4] at b4
  rw [hp3] at b3
  try simp only [hp4]
  try simp only [hp3]
  have s3 : w.heap.size ≤ p3 := by omega
  have n3_4 : ¬ p3 = p4 := by omega
  have n4_3 : ¬ p4 = p3 := by omega
  have s4 : w.heap.size ≤ p4 := by omega
  clear  w0
  clear hp3
  clear hp4
  clear hW
  refine (AR.out _).mono ?_
  rintro e w1 ⟨rfl, g1⟩
  obtain ⟨c3, f3, z3⟩ := blk_cells (g1.heap b3)
  obtain ⟨c4, f4, z4⟩ := blk_cells (g1.heap b4)
  have z0 : w.heap.size ≤ w1.heap.size := (Gr.trans G g1).b.size
  go_wp2_with fail
  clear c3 f3 c4 f4
  replace b3 := g1.heap b3
  replace b4 := g1.heap b4
  have G := G.trans g1
  replace b3 := ((Gr.refl _).alloc (.cells #[.int .i64 a, .int .i64 b] 23)).heap b3
  replace b4 := ((Gr.refl _).alloc (.cells #[.int .i64 a, .int .i64 b] 23)).heap b4
  have b7 := heap_alloc_self w1 (.cells #[.int .i64 a, .int .i64 b] 23)
  replace G := G.alloc (.cells #[.int .i64 a, .int .i64 b] 23)
  replace b3 := ((Gr.refl _).alloc (.cells #[.int .i64 a, .int .i64 (b')] 23)).heap b3
  replace b4 := ((Gr.refl _).alloc (.cells #[.int .i64 a, .int .i64 (b')] 23)).heap b4
  replace b7 := ((Gr.refl _).alloc (.cells #[.int .i64 a, .int .i64 (b')] 23)).heap b7
  have b8 := heap_alloc_self (w1.alloc (.cells #[.int .i64 a, .int .i64 b] 23)) (.cells #[.int .i64 a, .int .i64 (b')] 23)
  replace G := G.alloc (.cells #[.int .i64 a, .int .i64 (b')] 23)
  generalize hW : ((w1.alloc (.cells #[.int .i64 a, .int .i64 b] 23)).alloc (.cells #[.int .i64 a, .int .i64 (b')] 23)) = W2 at *
  simp only [World.size_alloc] at b8
  have o3 : p3 < w1.heap.size := z3
  have o4 : p4 < w1.heap.size := z4
  have w0 : w.heap.size ≤ w1.heap.size := z0
  obtain ⟨p8, hp8⟩ : ∃ p8, w1.heap.size + 1 = p8 := ⟨_, rfl⟩
  obtain ⟨p7, hp7⟩ : ∃ p7, w1.heap.size = p7 := ⟨_, rfl⟩
  rw [hp8] at b8
  rw [hp7] at b7
  try simp only [hp8]
  try simp only [hp7]
  have n3_7 : ¬ p3 = p7 := by omega
  have n7_3 : ¬ p7 = p3 := by omega
  have n4_7 : ¬ p4 = p7 := by omega
  have n7_4 : ¬ p7 = p4 := by omega
  have s7 : w.heap.size ≤ p7 := by omega
  have n3_8 : ¬ p3 = p8 := by omega
  have n8_3 : ¬ p8 = p3 := by omega
  have n4_8 : ¬ p4 = p8 := by omega
  have n8_4 : ¬ p8 = p4 := by omega
  have n7_8 : ¬ p7 = p8 := by omega
  have n8_7 : ¬ p8 = p7 := by omega
  have s8 : w.heap.size ≤ p8 := by omega
  clear o3 o4 w0
  clear hp7
  clear hp8
  clear hW
  clear z3 z4 z0
  clear g1
  refine (NE.out _).mono ?_
  rintro e w2 ⟨rfl, g2⟩
  obtain ⟨c3, f3, z3⟩ := blk_cells (g2.heap b3)
  obtain ⟨c4, f4, z4⟩ := blk_cells (g2.heap b4)
  obtain ⟨c7, f7, z7⟩ := blk_cells (g2.heap b7)
  obtain ⟨c8, f8, z8⟩ := blk_cells (g2.heap b8)
  have z0 : w.heap.size ≤ w2.heap.size := (Gr.trans G g2).b.size
  go_wp2_with fail
  clear c3 f3 c4 f4 c7 f7 c8 f8
  replace b3 := g2.heap b3
  replace b4 := g2.heap b4
  replace b7 := g2.heap b7
  replace b8 := g2.heap b8
  have G := G.trans g2
  replace b3 := ((Gr.refl _).alloc (.cells #[.int .i64 a, .int .i64 (b')] 23)).heap b3
  replace b4 := ((Gr.refl _).alloc (.cells #[.int .i64 a, .int .i64 (b')] 23)).heap b4
  replace b7 := ((Gr.refl _).alloc (.cells #[.int .i64 a, .int .i64 (b')] 23)).heap b7
  replace b8 := ((Gr.refl _).alloc (.cells #[.int .i64 a, .int .i64 (b')] 23)).heap b8
  have b10 := heap_alloc_self w2 (.cells #[.int .i64 a, .int .i64 (b')] 23)
  replace G := G.alloc (.cells #[.int .i64 a, .int .i64 (b')] 23)
  generalize hW : (w2.alloc (.cells #[.int .i64 a, .int .i64 (b')] 23)) = W3 at *
  have o3 : p3 < w2.heap.size := z3
  have o4 : p4 < w2.heap.size := z4
  have o7 : p7 < w2.heap.size := z7
  have o8 : p8 < w2.heap.size := z8
  have w0 : w.heap.size ≤ w2.heap.size := z0
  obtain ⟨p10, hp10⟩ : ∃ p10, w2.heap.size = p10 := ⟨_, rfl⟩
  rw [hp10] at b10
  try simp only [hp10]
  have n3_10 : ¬ p3 = p10 := by omega
  have n10_3 : ¬ p10 = p3 := by omega
  have n4_10 : ¬ p4 = p10 := by omega
  have n10_4 : ¬ p10 = p4 := by omega
  have n7_10 : ¬ p7 = p10 := by omega
  have n10_7 : ¬ p10 = p7 := by omega
  have n8_10 : ¬ p8 = p10 := by omega
  have n10_8 : ¬ p10 = p8 := by omega
  have s10 : w.heap.size ≤ p10 := by omega
  clear o3 o4 o7 o8 w0
  clear hp10
  clear hW
  clear z3 z4 z7 z8 z0
  clear g2
  refine (L1.out _).mono ?_
  rintro e w3 ⟨rfl, g3⟩
  obtain ⟨c3, f3, z3⟩ := blk_cells (g3.heap b3)
  obtain ⟨c4, f4, z4⟩ := blk_cells (g3.heap b4)
  obtain ⟨c7, f7, z7⟩ := blk_cells (g3.heap b7)
  obtain ⟨c8, f8, z8⟩ := blk_cells (g3.heap b8)
  obtain ⟨c10, f10, z10⟩ := blk_cells (g3.heap b10)
  have z0 : w.heap.size ≤ w3.heap.size := (Gr.trans G g3).b.size
  go_wp2_with fail
  clear c3 f3 c4 f4 c7 f7 c8 f8 c10 f10
  replace b3 := g3.heap b3
  replace b4 := g3.heap b4
  replace b7 := g3.heap b7
  replace b8 := g3.heap b8
  replace b10 := g3.heap b10
  have G := G.trans g3
  clear z3 z4 z7 z8 z10 z0
  clear g3
  refine (L2.out _).mono ?_
  rintro e w4 ⟨rfl, g4⟩
  obtain ⟨c3, f3, z3⟩ := blk_cells (g4.heap b3)
  obtain ⟨c4, f4, z4⟩ := blk_cells (g4.heap b4)
  obtain ⟨c7, f7, z7⟩ := blk_cells (g4.heap b7)
  obtain ⟨c8, f8, z8⟩ := blk_cells (g4.heap b8)
  obtain ⟨c10, f10, z10⟩ := blk_cells (g4.heap b10)
  have z0 : w.heap.size ≤ w4.heap.size := (Gr.trans G g4).b.size
  go_wp2_with fail
  clear c3 f3 c4 f4 c7 f7 c8 f8 c10 f10
  replace b3 := g4.heap b3
  replace b4 := g4.heap b4
  replace b7 := g4.heap b7
  replace b8 := g4.heap b8
  replace b10 := g4.heap b10
  have G := G.trans g4
  clear z3 z4 z7 z8 z10 z0
  clear g4
  refine (CF.out _).mono ?_
  rintro e w5 ⟨rfl, g5⟩
  obtain ⟨c3, f3, z3⟩ := blk_cells (g5.heap b3)
  obtain ⟨c4, f4, z4⟩ := blk_cells (g5.heap b4)
  obtain ⟨c7, f7, z7⟩ := blk_cells (g5.heap b7)
  obtain ⟨c8, f8, z8⟩ := blk_cells (g5.heap b8)
  obtain ⟨c10, f10, z10⟩ := blk_cells (g5.heap b10)
  have z0 : w.heap.size ≤ w5.heap.size := (Gr.trans G g5).b.size
  go_wp2_with fail
  clear c3 f3 c4 f4 c7 f7 c8 f8 c10 f10
  replace b3 := g5.heap b3
  replace b4 := g5.heap b4
  replace b7 := g5.heap b7
  replace b8 := g5.heap b8
  replace b10 := g5.heap b10
  have G := G.trans g5
  clear z3 z4 z7 z8 z10 z0
  clear g5
  refine (alive_any _ (HT.out.gr G)).mono ?_
  rintro e wz ⟨rfl, gz⟩
  obtain ⟨c3, f3, z3⟩ := blk_cells (gz.heap b3)
  obtain ⟨c4, f4, z4⟩ := blk_cells (gz.heap b4)
  obtain ⟨c7, f7, z7⟩ := blk_cells (gz.heap b7)
  obtain ⟨c8, f8, z8⟩ := blk_cells (gz.heap b8)
  obtain ⟨c10, f10, z10⟩ := blk_cells (gz.heap b10)
  go_wp2
  go_ret
  exact ⟨rfl, G.trans gz⟩
set_option maxRecDepth 100000 in
set_option maxHeartbeats 8000000 in
theorem RuleNear_ye_highB (n d c e m a b _a' b' _E : Int) (w : World) (ht : Tab w)
    (AR : Hid (Says 23 #[fr n d, .int .i64 m] (.tuple #[fr a b, fr a b', .int .i64 0])))
    (NE : Hid (Says 25 #[fr n d, .int .i64 m] (.tuple #[fr a b', .int .i64 0])))
    (hh : ¬ b' = b)
    (hb : ¬ m < b) (hb' : ¬ m < b')
    (L1 : Hid (Says 39 #[fr n d, fr a b] (.bool false))) (L2 : Hid (Says 39 #[fr a b', fr n d] (.bool false)))
    (CF : Hid (Says 40 #[fr c e] (.int .i64 0)))
    (he : m < e)
    : Calls Tryd.prog 10 #[fr n d, fr c e, .int .i64 m] w fun e w' => e = .returned (.bool true) ∧ Gr w w' := by
  have HT := Lib.hid ht
  clear ht
  go_enter Tryd.func10, Tryd.ntmps10
  go_wp2_with fail
  have G := Gr.refl w
  have b3 := heap_alloc_self w (.cells #[.int .i64 n, .int .i64 d] 23)
  replace G := G.alloc (.cells #[.int .i64 n, .int .i64 d] 23)
  replace b3 := ((Gr.refl _).alloc (.cells #[.int .i64 c, .int .i64 e] 23)).heap b3
  have b4 := heap_alloc_self (w.alloc (.cells #[.int .i64 n, .int .i64 d] 23)) (.cells #[.int .i64 c, .int .i64 e] 23)
  replace G := G.alloc (.cells #[.int .i64 c, .int .i64 e] 23)
  generalize hW : ((w.alloc (.cells #[.int .i64 n, .int .i64 d] 23)).alloc (.cells #[.int .i64 c, .int .i64 e] 23)) = W1 at *
  simp only [World.size_alloc] at b4
  have w0 : w.heap.size ≤ w.heap.size := Nat.le_refl _
  obtain ⟨p4, hp4⟩ : ∃ p4, w.heap.size + 1 = p4 := ⟨_, rfl⟩
  obtain ⟨p3, hp3⟩ : ∃ p3, w.heap.size = p3 := ⟨_, rfl⟩
  rw [hp4] at b4
  rw [hp3] at b3
  try simp only [hp4]
  try simp only [hp3]
  have s3 : w.heap.size ≤ p3 := by omega
  have n3_4 : ¬ p3 = p4 := by omega
  have n4_3 : ¬ p4 = p3 := by omega
  have s4 : w.heap.size ≤ p4 := by omega
  clear  w0
  clear hp3
  clear hp4
  clear hW
  refine (AR.out _).mono ?_
  rintro e w1 ⟨rfl, g1⟩
  obtain ⟨c3, f3, z3⟩ := blk_cells (g1.heap b3)
  obtain ⟨c4, f4, z4⟩ := blk_cells (g1.heap b4)
  have z0 : w.heap.size ≤ w1.heap.size := (Gr.trans G g1).b.size
  go_wp2_with fail
  clear c3 f3 c4 f4
  replace b3 := g1.heap b3
  replace b4 := g1.heap b4
  have G := G.trans g1
  replace b3 := ((Gr.refl _).alloc (.cells #[.int .i64 a, .int .i64 b] 23)).heap b3
  replace b4 := ((Gr.refl _).alloc (.cells #[.int .i64 a, .int .i64 b] 23)).heap b4
  have b7 := heap_alloc_self w1 (.cells #[.int .i64 a, .int .i64 b] 23)
  replace G := G.alloc (.cells #[.int .i64 a, .int .i64 b] 23)
  replace b3 := ((Gr.refl _).alloc (.cells #[.int .i64 a, .int .i64 (b')] 23)).heap b3
  replace b4 := ((Gr.refl _).alloc (.cells #[.int .i64 a, .int .i64 (b')] 23)).heap b4
  replace b7 := ((Gr.refl _).alloc (.cells #[.int .i64 a, .int .i64 (b')] 23)).heap b7
  have b8 := heap_alloc_self (w1.alloc (.cells #[.int .i64 a, .int .i64 b] 23)) (.cells #[.int .i64 a, .int .i64 (b')] 23)
  replace G := G.alloc (.cells #[.int .i64 a, .int .i64 (b')] 23)
  generalize hW : ((w1.alloc (.cells #[.int .i64 a, .int .i64 b] 23)).alloc (.cells #[.int .i64 a, .int .i64 (b')] 23)) = W2 at *
  simp only [World.size_alloc] at b8
  have o3 : p3 < w1.heap.size := z3
  have o4 : p4 < w1.heap.size := z4
  have w0 : w.heap.size ≤ w1.heap.size := z0
  obtain ⟨p8, hp8⟩ : ∃ p8, w1.heap.size + 1 = p8 := ⟨_, rfl⟩
  obtain ⟨p7, hp7⟩ : ∃ p7, w1.heap.size = p7 := ⟨_, rfl⟩
  rw [hp8] at b8
  rw [hp7] at b7
  try simp only [hp8]
  try simp only [hp7]
  have n3_7 : ¬ p3 = p7 := by omega
  have n7_3 : ¬ p7 = p3 := by omega
  have n4_7 : ¬ p4 = p7 := by omega
  have n7_4 : ¬ p7 = p4 := by omega
  have s7 : w.heap.size ≤ p7 := by omega
  have n3_8 : ¬ p3 = p8 := by omega
  have n8_3 : ¬ p8 = p3 := by omega
  have n4_8 : ¬ p4 = p8 := by omega
  have n8_4 : ¬ p8 = p4 := by omega
  have n7_8 : ¬ p7 = p8 := by omega
  have n8_7 : ¬ p8 = p7 := by omega
  have s8 : w.heap.size ≤ p8 := by omega
  clear o3 o4 w0
  clear hp7
  clear hp8
  clear hW
  clear z3 z4 z0
  clear g1
  refine (NE.out _).mono ?_
  rintro e w2 ⟨rfl, g2⟩
  obtain ⟨c3, f3, z3⟩ := blk_cells (g2.heap b3)
  obtain ⟨c4, f4, z4⟩ := blk_cells (g2.heap b4)
  obtain ⟨c7, f7, z7⟩ := blk_cells (g2.heap b7)
  obtain ⟨c8, f8, z8⟩ := blk_cells (g2.heap b8)
  have z0 : w.heap.size ≤ w2.heap.size := (Gr.trans G g2).b.size
  go_wp2_with fail
  clear c3 f3 c4 f4 c7 f7 c8 f8
  replace b3 := g2.heap b3
  replace b4 := g2.heap b4
  replace b7 := g2.heap b7
  replace b8 := g2.heap b8
  have G := G.trans g2
  replace b3 := ((Gr.refl _).alloc (.cells #[.int .i64 a, .int .i64 (b')] 23)).heap b3
  replace b4 := ((Gr.refl _).alloc (.cells #[.int .i64 a, .int .i64 (b')] 23)).heap b4
  replace b7 := ((Gr.refl _).alloc (.cells #[.int .i64 a, .int .i64 (b')] 23)).heap b7
  replace b8 := ((Gr.refl _).alloc (.cells #[.int .i64 a, .int .i64 (b')] 23)).heap b8
  have b10 := heap_alloc_self w2 (.cells #[.int .i64 a, .int .i64 (b')] 23)
  replace G := G.alloc (.cells #[.int .i64 a, .int .i64 (b')] 23)
  generalize hW : (w2.alloc (.cells #[.int .i64 a, .int .i64 (b')] 23)) = W3 at *
  have o3 : p3 < w2.heap.size := z3
  have o4 : p4 < w2.heap.size := z4
  have o7 : p7 < w2.heap.size := z7
  have o8 : p8 < w2.heap.size := z8
  have w0 : w.heap.size ≤ w2.heap.size := z0
  obtain ⟨p10, hp10⟩ : ∃ p10, w2.heap.size = p10 := ⟨_, rfl⟩
  rw [hp10] at b10
  try simp only [hp10]
  have n3_10 : ¬ p3 = p10 := by omega
  have n10_3 : ¬ p10 = p3 := by omega
  have n4_10 : ¬ p4 = p10 := by omega
  have n10_4 : ¬ p10 = p4 := by omega
  have n7_10 : ¬ p7 = p10 := by omega
  have n10_7 : ¬ p10 = p7 := by omega
  have n8_10 : ¬ p8 = p10 := by omega
  have n10_8 : ¬ p10 = p8 := by omega
  have s10 : w.heap.size ≤ p10 := by omega
  clear o3 o4 o7 o8 w0
  clear hp10
  clear hW
  clear z3 z4 z7 z8 z0
  clear g2
  refine (L1.out _).mono ?_
  rintro e w3 ⟨rfl, g3⟩
  obtain ⟨c3, f3, z3⟩ := blk_cells (g3.heap b3)
  obtain ⟨c4, f4, z4⟩ := blk_cells (g3.heap b4)
  obtain ⟨c7, f7, z7⟩ := blk_cells (g3.heap b7)
  obtain ⟨c8, f8, z8⟩ := blk_cells (g3.heap b8)
  obtain ⟨c10, f10, z10⟩ := blk_cells (g3.heap b10)
  have z0 : w.heap.size ≤ w3.heap.size := (Gr.trans G g3).b.size
  go_wp2_with fail
  clear c3 f3 c4 f4 c7 f7 c8 f8 c10 f10
  replace b3 := g3.heap b3
  replace b4 := g3.heap b4
  replace b7 := g3.heap b7
  replace b8 := g3.heap b8
  replace b10 := g3.heap b10
  have G := G.trans g3
  clear z3 z4 z7 z8 z10 z0
  clear g3
  refine (L2.out _).mono ?_
  rintro e w4 ⟨rfl, g4⟩
  obtain ⟨c3, f3, z3⟩ := blk_cells (g4.heap b3)
  obtain ⟨c4, f4, z4⟩ := blk_cells (g4.heap b4)
  obtain ⟨c7, f7, z7⟩ := blk_cells (g4.heap b7)
  obtain ⟨c8, f8, z8⟩ := blk_cells (g4.heap b8)
  obtain ⟨c10, f10, z10⟩ := blk_cells (g4.heap b10)
  have z0 : w.heap.size ≤ w4.heap.size := (Gr.trans G g4).b.size
  go_wp2_with fail
  clear c3 f3 c4 f4 c7 f7 c8 f8 c10 f10
  replace b3 := g4.heap b3
  replace b4 := g4.heap b4
  replace b7 := g4.heap b7
  replace b8 := g4.heap b8
  replace b10 := g4.heap b10
  have G := G.trans g4
  clear z3 z4 z7 z8 z10 z0
  clear g4
  refine (CF.out _).mono ?_
  rintro e w5 ⟨rfl, g5⟩
  obtain ⟨c3, f3, z3⟩ := blk_cells (g5.heap b3)
  obtain ⟨c4, f4, z4⟩ := blk_cells (g5.heap b4)
  obtain ⟨c7, f7, z7⟩ := blk_cells (g5.heap b7)
  obtain ⟨c8, f8, z8⟩ := blk_cells (g5.heap b8)
  obtain ⟨c10, f10, z10⟩ := blk_cells (g5.heap b10)
  have z0 : w.heap.size ≤ w5.heap.size := (Gr.trans G g5).b.size
  go_wp2_with fail
  clear c3 f3 c4 f4 c7 f7 c8 f8 c10 f10
  replace b3 := g5.heap b3
  replace b4 := g5.heap b4
  replace b7 := g5.heap b7
  replace b8 := g5.heap b8
  replace b10 := g5.heap b10
  have G := G.trans g5
  clear z3 z4 z7 z8 z10 z0
  clear g5
  refine (alive_any _ (HT.out.gr G)).mono ?_
  rintro e wz ⟨rfl, gz⟩
  obtain ⟨c3, f3, z3⟩ := blk_cells (gz.heap b3)
  obtain ⟨c4, f4, z4⟩ := blk_cells (gz.heap b4)
  obtain ⟨c7, f7, z7⟩ := blk_cells (gz.heap b7)
  obtain ⟨c8, f8, z8⟩ := blk_cells (gz.heap b8)
  obtain ⟨c10, f10, z10⟩ := blk_cells (gz.heap b10)
  go_wp2
  go_ret
  exact ⟨rfl, G.trans gz⟩
set_option maxRecDepth 100000 in
set_option maxHeartbeats 8000000 in
theorem RuleNear_l1_highB (n d c e m a b _a' b' _E : Int) (w : World) (ht : Tab w)
    (AR : Hid (Says 23 #[fr n d, .int .i64 m] (.tuple #[fr a b, fr a b', .int .i64 0])))
    (NE : Hid (Says 25 #[fr n d, .int .i64 m] (.tuple #[fr a b', .int .i64 0])))
    (hh : ¬ b' = b)
    (hb : ¬ m < b) (hb' : ¬ m < b')
    (L1 : Hid (Says 39 #[fr n d, fr a b] (.bool false))) (L2 : Hid (Says 39 #[fr a b', fr n d] (.bool false)))
    (CF : Hid (Says 40 #[fr c e] (.int .i64 0)))
    (he : ¬ m < e)
    (M1 : Hid (Says 39 #[fr a b, fr c e] (.bool false)))
    (q1 : IntKind.i64.wrap (n*b') = n*b') (q2 : IntKind.i64.wrap (a*d) = a*d) (q3 : IntKind.i64.wrap (n*e) = n*e) (q4 : IntKind.i64.wrap (c*d) = c*d)
    (X Y : Int) (q5 : IntKind.i64.wrap (n*b' - a*d) = X) (q6 : IntKind.i64.wrap (n*e - c*d) = Y)
    (q7 : IntKind.i64.wrap (-X) = -X) (q8 : IntKind.i64.wrap (-Y) = -Y)
    (hfin : (decide (1000000000000 ≤ max Y (-Y)) || decide (wrap64 (max X (-X) * e) ≤ wrap64 (max Y (-Y) * b'))) = true)
    : Calls Tryd.prog 10 #[fr n d, fr c e, .int .i64 m] w fun e w' => e = .returned (.bool true) ∧ Gr w w' := by
  have HT := Lib.hid ht
  clear ht
  have HF := Lib.hid hfin
  clear hfin
  go_enter Tryd.func10, Tryd.ntmps10
  go_wp2_with fail
  have G := Gr.refl w
  have b3 := heap_alloc_self w (.cells #[.int .i64 n, .int .i64 d] 23)
  replace G := G.alloc (.cells #[.int .i64 n, .int .i64 d] 23)
  replace b3 := ((Gr.refl _).alloc (.cells #[.int .i64 c, .int .i64 e] 23)).heap b3
  have b4 := heap_alloc_self (w.alloc (.cells #[.int .i64 n, .int .i64 d] 23)) (.cells #[.int .i64 c, .int .i64 e] 23)
  replace G := G.alloc (.cells #[.int .i64 c, .int .i64 e] 23)
  generalize hW : ((w.alloc (.cells #[.int .i64 n, .int .i64 d] 23)).alloc (.cells #[.int .i64 c, .int .i64 e] 23)) = W1 at *
  simp only [World.size_alloc] at b4
  have w0 : w.heap.size ≤ w.heap.size := Nat.le_refl _
  obtain ⟨p4, hp4⟩ : ∃ p4, w.heap.size + 1 = p4 := ⟨_, rfl⟩
  obtain ⟨p3, hp3⟩ : ∃ p3, w.heap.size = p3 := ⟨_, rfl⟩
  rw [hp4] at b4
  rw [hp3] at b3
  try simp only [hp4]
  try simp only [hp3]
  have s3 : w.heap.size ≤ p3 := by omega
  have n3_4 : ¬ p3 = p4 := by omega
  have n4_3 : ¬ p4 = p3 := by omega
  have s4 : w.heap.size ≤ p4 := by omega
  clear  w0
  clear hp3
  clear hp4
  clear hW
  refine (AR.out _).mono ?_
  rintro e w1 ⟨rfl, g1⟩
  obtain ⟨c3, f3, z3⟩ := blk_cells (g1.heap b3)
  obtain ⟨c4, f4, z4⟩ := blk_cells (g1.heap b4)
  have z0 : w.heap.size ≤ w1.heap.size := (Gr.trans G g1).b.size
  go_wp2_with fail
  clear c3 f3 c4 f4
  replace b3 := g1.heap b3
  replace b4 := g1.heap b4
  have G := G.trans g1
  replace b3 := ((Gr.refl _).alloc (.cells #[.int .i64 a, .int .i64 b] 23)).heap b3
  replace b4 := ((Gr.refl _).alloc (.cells #[.int .i64 a, .int .i64 b] 23)).heap b4
  have b7 := heap_alloc_self w1 (.cells #[.int .i64 a, .int .i64 b] 23)
  replace G := G.alloc (.cells #[.int .i64 a, .int .i64 b] 23)
  replace b3 := ((Gr.refl _).alloc (.cells #[.int .i64 a, .int .i64 (b')] 23)).heap b3
  replace b4 := ((Gr.refl _).alloc (.cells #[.int .i64 a, .int .i64 (b')] 23)).heap b4
  replace b7 := ((Gr.refl _).alloc (.cells #[.int .i64 a, .int .i64 (b')] 23)).heap b7
  have b8 := heap_alloc_self (w1.alloc (.cells #[.int .i64 a, .int .i64 b] 23)) (.cells #[.int .i64 a, .int .i64 (b')] 23)
  replace G := G.alloc (.cells #[.int .i64 a, .int .i64 (b')] 23)
  generalize hW : ((w1.alloc (.cells #[.int .i64 a, .int .i64 b] 23)).alloc (.cells #[.int .i64 a, .int .i64 (b')] 23)) = W2 at *
  simp only [World.size_alloc] at b8
  have o3 : p3 < w1.heap.size := z3
  have o4 : p4 < w1.heap.size := z4
  have w0 : w.heap.size ≤ w1.heap.size := z0
  obtain ⟨p8, hp8⟩ : ∃ p8, w1.heap.size + 1 = p8 := ⟨_, rfl⟩
  obtain ⟨p7, hp7⟩ : ∃ p7, w1.heap.size = p7 := ⟨_, rfl⟩
  rw [hp8] at b8
  rw [hp7] at b7
  try simp only [hp8]
  try simp only [hp7]
  have n3_7 : ¬ p3 = p7 := by omega
  have n7_3 : ¬ p7 = p3 := by omega
  have n4_7 : ¬ p4 = p7 := by omega
  have n7_4 : ¬ p7 = p4 := by omega
  have s7 : w.heap.size ≤ p7 := by omega
  have n3_8 : ¬ p3 = p8 := by omega
  have n8_3 : ¬ p8 = p3 := by omega
  have n4_8 : ¬ p4 = p8 := by omega
  have n8_4 : ¬ p8 = p4 := by omega
  have n7_8 : ¬ p7 = p8 := by omega
  have n8_7 : ¬ p8 = p7 := by omega
  have s8 : w.heap.size ≤ p8 := by omega
  clear o3 o4 w0
  clear hp7
  clear hp8
  clear hW
  clear z3 z4 z0
  clear g1
  refine (NE.out _).mono ?_
  rintro e w2 ⟨rfl, g2⟩
  obtain ⟨c3, f3, z3⟩ := blk_cells (g2.heap b3)
  obtain ⟨c4, f4, z4⟩ := blk_cells (g2.heap b4)
  obtain ⟨c7, f7, z7⟩ := blk_cells (g2.heap b7)
  obtain ⟨c8, f8, z8⟩ := blk_cells (g2.heap b8)
  have z0 : w.heap.size ≤ w2.heap.size := (Gr.trans G g2).b.size
  go_wp2_with fail
  clear c3 f3 c4 f4 c7 f7 c8 f8
  replace b3 := g2.heap b3
  replace b4 := g2.heap b4
  replace b7 := g2.heap b7
  replace b8 := g2.heap b8
  have G := G.trans g2
  replace b3 := ((Gr.refl _).alloc (.cells #[.int .i64 a, .int .i64 (b')] 23)).heap b3
  replace b4 := ((Gr.refl _).alloc (.cells #[.int .i64 a, .int .i64 (b')] 23)).heap b4
  replace b7 := ((Gr.refl _).alloc (.cells #[.int .i64 a, .int .i64 (b')] 23)).heap b7
  replace b8 := ((Gr.refl _).alloc (.cells #[.int .i64 a, .int .i64 (b')] 23)).heap b8
  have b10 := heap_alloc_self w2 (.cells #[.int .i64 a, .int .i64 (b')] 23)
  replace G := G.alloc (.cells #[.int .i64 a, .int .i64 (b')] 23)
  generalize hW : (w2.alloc (.cells #[.int .i64 a, .int .i64 (b')] 23)) = W3 at *
  have o3 : p3 < w2.heap.size := z3
  have o4 : p4 < w2.heap.size := z4
  have o7 : p7 < w2.heap.size := z7
  have o8 : p8 < w2.heap.size := z8
  have w0 : w.heap.size ≤ w2.heap.size := z0
  obtain ⟨p10, hp10⟩ : ∃ p10, w2.heap.size = p10 := ⟨_, rfl⟩
  rw [hp10] at b10
  try simp only [hp10]
  have n3_10 : ¬ p3 = p10 := by omega
  have n10_3 : ¬ p10 = p3 := by omega
  have n4_10 : ¬ p4 = p10 := by omega
  have n10_4 : ¬ p10 = p4 := by omega
  have n7_10 : ¬ p7 = p10 := by omega
  have n10_7 : ¬ p10 = p7 := by omega
  have n8_10 : ¬ p8 = p10 := by omega
  have n10_8 : ¬ p10 = p8 := by omega
  have s10 : w.heap.size ≤ p10 := by omega
  clear o3 o4 o7 o8 w0
  clear hp10
  clear hW
  clear z3 z4 z7 z8 z0
  clear g2
  refine (L1.out _).mono ?_
  rintro e w3 ⟨rfl, g3⟩
  obtain ⟨c3, f3, z3⟩ := blk_cells (g3.heap b3)
  obtain ⟨c4, f4, z4⟩ := blk_cells (g3.heap b4)
  obtain ⟨c7, f7, z7⟩ := blk_cells (g3.heap b7)
  obtain ⟨c8, f8, z8⟩ := blk_cells (g3.heap b8)
  obtain ⟨c10, f10, z10⟩ := blk_cells (g3.heap b10)
  have z0 : w.heap.size ≤ w3.heap.size := (Gr.trans G g3).b.size
  go_wp2_with fail
  clear c3 f3 c4 f4 c7 f7 c8 f8 c10 f10
  replace b3 := g3.heap b3
  replace b4 := g3.heap b4
  replace b7 := g3.heap b7
  replace b8 := g3.heap b8
  replace b10 := g3.heap b10
  have G := G.trans g3
  clear z3 z4 z7 z8 z10 z0
  clear g3
  refine (L2.out _).mono ?_
  rintro e w4 ⟨rfl, g4⟩
  obtain ⟨c3, f3, z3⟩ := blk_cells (g4.heap b3)
  obtain ⟨c4, f4, z4⟩ := blk_cells (g4.heap b4)
  obtain ⟨c7, f7, z7⟩ := blk_cells (g4.heap b7)
  obtain ⟨c8, f8, z8⟩ := blk_cells (g4.heap b8)
  obtain ⟨c10, f10, z10⟩ := blk_cells (g4.heap b10)
  have z0 : w.heap.size ≤ w4.heap.size := (Gr.trans G g4).b.size
  go_wp2_with fail
  clear c3 f3 c4 f4 c7 f7 c8 f8 c10 f10
  replace b3 := g4.heap b3
  replace b4 := g4.heap b4
  replace b7 := g4.heap b7
  replace b8 := g4.heap b8
  replace b10 := g4.heap b10
  have G := G.trans g4
  clear z3 z4 z7 z8 z10 z0
  clear g4
  refine (CF.out _).mono ?_
  rintro e w5 ⟨rfl, g5⟩
  obtain ⟨c3, f3, z3⟩ := blk_cells (g5.heap b3)
  obtain ⟨c4, f4, z4⟩ := blk_cells (g5.heap b4)
  obtain ⟨c7, f7, z7⟩ := blk_cells (g5.heap b7)
  obtain ⟨c8, f8, z8⟩ := blk_cells (g5.heap b8)
  obtain ⟨c10, f10, z10⟩ := blk_cells (g5.heap b10)
  have z0 : w.heap.size ≤ w5.heap.size := (Gr.trans G g5).b.size
  go_wp2_with fail
  clear c3 f3 c4 f4 c7 f7 c8 f8 c10 f10
  replace b3 := g5.heap b3
  replace b4 := g5.heap b4
  replace b7 := g5.heap b7
  replace b8 := g5.heap b8
  replace b10 := g5.heap b10
  have G := G.trans g5
  clear z3 z4 z7 z8 z10 z0
  clear g5
  refine (M1.out _).mono ?_
  rintro e w6 ⟨rfl, g6⟩
  obtain ⟨c3, f3, z3⟩ := blk_cells (g6.heap b3)
  obtain ⟨c4, f4, z4⟩ := blk_cells (g6.heap b4)
  obtain ⟨c7, f7, z7⟩ := blk_cells (g6.heap b7)
  obtain ⟨c8, f8, z8⟩ := blk_cells (g6.heap b8)
  obtain ⟨c10, f10, z10⟩ := blk_cells (g6.heap b10)
  have z0 : w.heap.size ≤ w6.heap.size := (Gr.trans G g6).b.size
  go_upto_region 11 with (fail)
  clear c3 f3 c4 f4 c7 f7 c8 f8 c10 f10
  replace b3 := g6.heap b3
  replace b4 := g6.heap b4
  replace b7 := g6.heap b7
  replace b8 := g6.heap b8
  replace b10 := g6.heap b10
  have G := G.trans g6
  clear z3 z4 z7 z8 z10 z0
  clear g6
  obtain ⟨c3, f3, z3⟩ := blk_cells b3
  obtain ⟨c4, f4, z4⟩ := blk_cells b4
  obtain ⟨c7, f7, z7⟩ := blk_cells b7
  obtain ⟨c8, f8, z8⟩ := blk_cells b8
  obtain ⟨c10, f10, z10⟩ := blk_cells b10
  refine wp_region_plan [.val (.pointer (some ⟨p3, 0, none⟩)), .val (.int .i64 (n)), .val (.pointer (some ⟨p10, 1, none⟩)), .val (.int .i64 (b')), .val (.int .i64 (n*b')), .val (.pointer (some ⟨p10, 0, none⟩)), .val (.int .i64 (a)), .val (.pointer (some ⟨p3, 1, none⟩)), .val (.int .i64 (d)), .val (.int .i64 (a*d)), .val (.int .i64 (X)), .val (.pointer (some ⟨p3, 0, none⟩)), .val (.int .i64 (n)), .val (.pointer (some ⟨p4, 1, none⟩)), .val (.int .i64 (e)), .val (.int .i64 (n*e)), .val (.pointer (some ⟨p4, 0, none⟩)), .val (.int .i64 (c)), .val (.pointer (some ⟨p3, 1, none⟩)), .val (.int .i64 (d)), .val (.int .i64 (c*d)), .val (.int .i64 (Y)), .val (.int .i64 (X)), .val (.int .i64 (Y))] (by kernel_rfl) (by kernel_rfl) (fun G => by first | (simp only [finAct, Act.put, Plan.value, List.setIfInBounds_toArray, List.set_cons_zero, List.set_cons_succ]; rfl) | (simp only [finAct, Act.put, Plan.value, List.setIfInBounds_toArray, List.set_cons_zero, List.set_cons_succ, Nat.zero_add, Nat.reduceAdd]; rfl)) ?_ ?_
  · refine ⟨?_, ?_, ?_, ?_, ?_, ?_, ?_, ?_, ?_, ?_, ?_, ?_, ?_, ?_, ?_, ?_, ?_, ?_, ?_, ?_, ?_, ?_, ?_, ?_, trivial⟩ <;> (first | exact trivial | (intro G; first | (refine ⟨by kernel_rfl, fun u hu => ?_⟩; obtain ⟨hc, hf, hz⟩ := hu.cells; go_simp; first | exact ⟨rfl, Gr.refl _⟩ | skip) | (refine ⟨by kernel_rfl, fun u T z hu hG hj hb => ?_⟩; cases hj; obtain ⟨hbc, hbf, hbz⟩ := blk_cells hb; first | (refine ⟨_, ?_, ((GrL.of_gr (Gr.refl _)).set _ _ (Or.inr (by simp))).set _ _ (Or.inr (by simp)), put_two hb⟩; go_simp; done) | (refine ⟨_, ?_, (GrL.of_gr (Gr.refl _)).set _ _ (Or.inr (by simp)), put_one hb⟩; go_simp; done)) | (refine ⟨by kernel_rfl, fun u => ?_⟩; go_simp; done) | (show _ = false; kernel_rfl)))
  intro _ U hg _ _
  clear c3 f3 z3 c4 f4 z4 c7 f7 z7 c8 f8 z8 c10 f10 z10
  replace b3 := hg.heap b3
  replace b4 := hg.heap b4
  replace b7 := hg.heap b7
  replace b8 := hg.heap b8
  replace b10 := hg.heap b10
  have G := G.trans hg
  obtain ⟨c3, f3, z3⟩ := blk_cells b3
  obtain ⟨c4, f4, z4⟩ := blk_cells b4
  obtain ⟨c7, f7, z7⟩ := blk_cells b7
  obtain ⟨c8, f8, z8⟩ := blk_cells b8
  obtain ⟨c10, f10, z10⟩ := blk_cells b10
  clear hg q1 q2 q3 q4 q5 q6
  go_wp2_with fail
  clear c3 f3 z3 c4 f4 z4 c7 f7 z7 c8 f8 z8 c10 f10 z10
  refine (alive_any _ (HT.out.gr G)).mono ?_
  rintro e wz ⟨rfl, gz⟩
  obtain ⟨c3, f3, z3⟩ := blk_cells (gz.heap b3)
  obtain ⟨c4, f4, z4⟩ := blk_cells (gz.heap b4)
  obtain ⟨c7, f7, z7⟩ := blk_cells (gz.heap b7)
  obtain ⟨c8, f8, z8⟩ := blk_cells (gz.heap b8)
  obtain ⟨c10, f10, z10⟩ := blk_cells (gz.heap b10)
  go_wp2
  all_goals go_ret
  all_goals first | exact ⟨ret_bool HF.out, G.trans gz⟩ | exact ⟨rfl, G.trans gz⟩ | trace_state
set_option maxRecDepth 100000 in
set_option maxHeartbeats 8000000 in
theorem RuleNear_l2_highB (n d c e m a b _a' b' _E : Int) (w : World) (ht : Tab w)
    (AR : Hid (Says 23 #[fr n d, .int .i64 m] (.tuple #[fr a b, fr a b', .int .i64 0])))
    (NE : Hid (Says 25 #[fr n d, .int .i64 m] (.tuple #[fr a b', .int .i64 0])))
    (hh : ¬ b' = b)
    (hb : ¬ m < b) (hb' : ¬ m < b')
    (L1 : Hid (Says 39 #[fr n d, fr a b] (.bool false))) (L2 : Hid (Says 39 #[fr a b', fr n d] (.bool false)))
    (CF : Hid (Says 40 #[fr c e] (.int .i64 0)))
    (he : ¬ m < e)
    (M1 : Hid (Says 39 #[fr a b, fr c e] (.bool true)))
    (M2 : Hid (Says 39 #[fr c e, fr a b'] (.bool false)))
    (q1 : IntKind.i64.wrap (n*b') = n*b') (q2 : IntKind.i64.wrap (a*d) = a*d) (q3 : IntKind.i64.wrap (n*e) = n*e) (q4 : IntKind.i64.wrap (c*d) = c*d)
    (X Y : Int) (q5 : IntKind.i64.wrap (n*b' - a*d) = X) (q6 : IntKind.i64.wrap (n*e - c*d) = Y)
    (q7 : IntKind.i64.wrap (-X) = -X) (q8 : IntKind.i64.wrap (-Y) = -Y)
    (hfin : (decide (1000000000000 ≤ max Y (-Y)) || decide (wrap64 (max X (-X) * e) ≤ wrap64 (max Y (-Y) * b'))) = true)
    : Calls Tryd.prog 10 #[fr n d, fr c e, .int .i64 m] w fun e w' => e = .returned (.bool true) ∧ Gr w w' := by
  have HT := Lib.hid ht
  clear ht
  have HF := Lib.hid hfin
  clear hfin
  go_enter Tryd.func10, Tryd.ntmps10
  go_wp2_with fail
  have G := Gr.refl w
  have b3 := heap_alloc_self w (.cells #[.int .i64 n, .int .i64 d] 23)
  replace G := G.alloc (.cells #[.int .i64 n, .int .i64 d] 23)
  replace b3 := ((Gr.refl _).alloc (.cells #[.int .i64 c, .int .i64 e] 23)).heap b3
  have b4 := heap_alloc_self (w.alloc (.cells #[.int .i64 n, .int .i64 d] 23)) (.cells #[.int .i64 c, .int .i64 e] 23)
  replace G := G.alloc (.cells #[.int .i64 c, .int .i64 e] 23)
  generalize hW : ((w.alloc (.cells #[.int .i64 n, .int .i64 d] 23)).alloc (.cells #[.int .i64 c, .int .i64 e] 23)) = W1 at *
  simp only [World.size_alloc] at b4
  have w0 : w.heap.size ≤ w.heap.size := Nat.le_refl _
  obtain ⟨p4, hp4⟩ : ∃ p4, w.heap.size + 1 = p4 := ⟨_, rfl⟩
  obtain ⟨p3, hp3⟩ : ∃ p3, w.heap.size = p3 := ⟨_, rfl⟩
  rw [hp4] at b4
  rw [hp3] at b3
  try simp only [hp4]
  try simp only [hp3]
  have s3 : w.heap.size ≤ p3 := by omega
  have n3_4 : ¬ p3 = p4 := by omega
  have n4_3 : ¬ p4 = p3 := by omega
  have s4 : w.heap.size ≤ p4 := by omega
  clear  w0
  clear hp3
  clear hp4
  clear hW
  refine (AR.out _).mono ?_
  rintro e w1 ⟨rfl, g1⟩
  obtain ⟨c3, f3, z3⟩ := blk_cells (g1.heap b3)
  obtain ⟨c4, f4, z4⟩ := blk_cells (g1.heap b4)
  have z0 : w.heap.size ≤ w1.heap.size := (Gr.trans G g1).b.size
  go_wp2_with fail
  clear c3 f3 c4 f4
  replace b3 := g1.heap b3
  replace b4 := g1.heap b4
  have G := G.trans g1
  replace b3 := ((Gr.refl _).alloc (.cells #[.int .i64 a, .int .i64 b] 23)).heap b3
  replace b4 := ((Gr.refl _).alloc (.cells #[.int .i64 a, .int .i64 b] 23)).heap b4
  have b7 := heap_alloc_self w1 (.cells #[.int .i64 a, .int .i64 b] 23)
  replace G := G.alloc (.cells #[.int .i64 a, .int .i64 b] 23)
  replace b3 := ((Gr.refl _).alloc (.cells #[.int .i64 a, .int .i64 (b')] 23)).heap b3
  replace b4 := ((Gr.refl _).alloc (.cells #[.int .i64 a, .int .i64 (b')] 23)).heap b4
  replace b7 := ((Gr.refl _).alloc (.cells #[.int .i64 a, .int .i64 (b')] 23)).heap b7
  have b8 := heap_alloc_self (w1.alloc (.cells #[.int .i64 a, .int .i64 b] 23)) (.cells #[.int .i64 a, .int .i64 (b')] 23)
  replace G := G.alloc (.cells #[.int .i64 a, .int .i64 (b')] 23)
  generalize hW : ((w1.alloc (.cells #[.int .i64 a, .int .i64 b] 23)).alloc (.cells #[.int .i64 a, .int .i64 (b')] 23)) = W2 at *
  simp only [World.size_alloc] at b8
  have o3 : p3 < w1.heap.size := z3
  have o4 : p4 < w1.heap.size := z4
  have w0 : w.heap.size ≤ w1.heap.size := z0
  obtain ⟨p8, hp8⟩ : ∃ p8, w1.heap.size + 1 = p8 := ⟨_, rfl⟩
  obtain ⟨p7, hp7⟩ : ∃ p7, w1.heap.size = p7 := ⟨_, rfl⟩
  rw [hp8] at b8
  rw [hp7] at b7
  try simp only [hp8]
  try simp only [hp7]
  have n3_7 : ¬ p3 = p7 := by omega
  have n7_3 : ¬ p7 = p3 := by omega
  have n4_7 : ¬ p4 = p7 := by omega
  have n7_4 : ¬ p7 = p4 := by omega
  have s7 : w.heap.size ≤ p7 := by omega
  have n3_8 : ¬ p3 = p8 := by omega
  have n8_3 : ¬ p8 = p3 := by omega
  have n4_8 : ¬ p4 = p8 := by omega
  have n8_4 : ¬ p8 = p4 := by omega
  have n7_8 : ¬ p7 = p8 := by omega
  have n8_7 : ¬ p8 = p7 := by omega
  have s8 : w.heap.size ≤ p8 := by omega
  clear o3 o4 w0
  clear hp7
  clear hp8
  clear hW
  clear z3 z4 z0
  clear g1
  refine (NE.out _).mono ?_
  rintro e w2 ⟨rfl, g2⟩
  obtain ⟨c3, f3, z3⟩ := blk_cells (g2.heap b3)
  obtain ⟨c4, f4, z4⟩ := blk_cells (g2.heap b4)
  obtain ⟨c7, f7, z7⟩ := blk_cells (g2.heap b7)
  obtain ⟨c8, f8, z8⟩ := blk_cells (g2.heap b8)
  have z0 : w.heap.size ≤ w2.heap.size := (Gr.trans G g2).b.size
  go_wp2_with fail
  clear c3 f3 c4 f4 c7 f7 c8 f8
  replace b3 := g2.heap b3
  replace b4 := g2.heap b4
  replace b7 := g2.heap b7
  replace b8 := g2.heap b8
  have G := G.trans g2
  replace b3 := ((Gr.refl _).alloc (.cells #[.int .i64 a, .int .i64 (b')] 23)).heap b3
  replace b4 := ((Gr.refl _).alloc (.cells #[.int .i64 a, .int .i64 (b')] 23)).heap b4
  replace b7 := ((Gr.refl _).alloc (.cells #[.int .i64 a, .int .i64 (b')] 23)).heap b7
  replace b8 := ((Gr.refl _).alloc (.cells #[.int .i64 a, .int .i64 (b')] 23)).heap b8
  have b10 := heap_alloc_self w2 (.cells #[.int .i64 a, .int .i64 (b')] 23)
  replace G := G.alloc (.cells #[.int .i64 a, .int .i64 (b')] 23)
  generalize hW : (w2.alloc (.cells #[.int .i64 a, .int .i64 (b')] 23)) = W3 at *
  have o3 : p3 < w2.heap.size := z3
  have o4 : p4 < w2.heap.size := z4
  have o7 : p7 < w2.heap.size := z7
  have o8 : p8 < w2.heap.size := z8
  have w0 : w.heap.size ≤ w2.heap.size := z0
  obtain ⟨p10, hp10⟩ : ∃ p10, w2.heap.size = p10 := ⟨_, rfl⟩
  rw [hp10] at b10
  try simp only [hp10]
  have n3_10 : ¬ p3 = p10 := by omega
  have n10_3 : ¬ p10 = p3 := by omega
  have n4_10 : ¬ p4 = p10 := by omega
  have n10_4 : ¬ p10 = p4 := by omega
  have n7_10 : ¬ p7 = p10 := by omega
  have n10_7 : ¬ p10 = p7 := by omega
  have n8_10 : ¬ p8 = p10 := by omega
  have n10_8 : ¬ p10 = p8 := by omega
  have s10 : w.heap.size ≤ p10 := by omega
  clear o3 o4 o7 o8 w0
  clear hp10
  clear hW
  clear z3 z4 z7 z8 z0
  clear g2
  refine (L1.out _).mono ?_
  rintro e w3 ⟨rfl, g3⟩
  obtain ⟨c3, f3, z3⟩ := blk_cells (g3.heap b3)
  obtain ⟨c4, f4, z4⟩ := blk_cells (g3.heap b4)
  obtain ⟨c7, f7, z7⟩ := blk_cells (g3.heap b7)
  obtain ⟨c8, f8, z8⟩ := blk_cells (g3.heap b8)
  obtain ⟨c10, f10, z10⟩ := blk_cells (g3.heap b10)
  have z0 : w.heap.size ≤ w3.heap.size := (Gr.trans G g3).b.size
  go_wp2_with fail
  clear c3 f3 c4 f4 c7 f7 c8 f8 c10 f10
  replace b3 := g3.heap b3
  replace b4 := g3.heap b4
  replace b7 := g3.heap b7
  replace b8 := g3.heap b8
  replace b10 := g3.heap b10
  have G := G.trans g3
  clear z3 z4 z7 z8 z10 z0
  clear g3
  refine (L2.out _).mono ?_
  rintro e w4 ⟨rfl, g4⟩
  obtain ⟨c3, f3, z3⟩ := blk_cells (g4.heap b3)
  obtain ⟨c4, f4, z4⟩ := blk_cells (g4.heap b4)
  obtain ⟨c7, f7, z7⟩ := blk_cells (g4.heap b7)
  obtain ⟨c8, f8, z8⟩ := blk_cells (g4.heap b8)
  obtain ⟨c10, f10, z10⟩ := blk_cells (g4.heap b10)
  have z0 : w.heap.size ≤ w4.heap.size := (Gr.trans G g4).b.size
  go_wp2_with fail
  clear c3 f3 c4 f4 c7 f7 c8 f8 c10 f10
  replace b3 := g4.heap b3
  replace b4 := g4.heap b4
  replace b7 := g4.heap b7
  replace b8 := g4.heap b8
  replace b10 := g4.heap b10
  have G := G.trans g4
  clear z3 z4 z7 z8 z10 z0
  clear g4
  refine (CF.out _).mono ?_
  rintro e w5 ⟨rfl, g5⟩
  obtain ⟨c3, f3, z3⟩ := blk_cells (g5.heap b3)
  obtain ⟨c4, f4, z4⟩ := blk_cells (g5.heap b4)
  obtain ⟨c7, f7, z7⟩ := blk_cells (g5.heap b7)
  obtain ⟨c8, f8, z8⟩ := blk_cells (g5.heap b8)
  obtain ⟨c10, f10, z10⟩ := blk_cells (g5.heap b10)
  have z0 : w.heap.size ≤ w5.heap.size := (Gr.trans G g5).b.size
  go_wp2_with fail
  clear c3 f3 c4 f4 c7 f7 c8 f8 c10 f10
  replace b3 := g5.heap b3
  replace b4 := g5.heap b4
  replace b7 := g5.heap b7
  replace b8 := g5.heap b8
  replace b10 := g5.heap b10
  have G := G.trans g5
  clear z3 z4 z7 z8 z10 z0
  clear g5
  refine (M1.out _).mono ?_
  rintro e w6 ⟨rfl, g6⟩
  obtain ⟨c3, f3, z3⟩ := blk_cells (g6.heap b3)
  obtain ⟨c4, f4, z4⟩ := blk_cells (g6.heap b4)
  obtain ⟨c7, f7, z7⟩ := blk_cells (g6.heap b7)
  obtain ⟨c8, f8, z8⟩ := blk_cells (g6.heap b8)
  obtain ⟨c10, f10, z10⟩ := blk_cells (g6.heap b10)
  have z0 : w.heap.size ≤ w6.heap.size := (Gr.trans G g6).b.size
  go_wp2_with fail
  clear c3 f3 c4 f4 c7 f7 c8 f8 c10 f10
  replace b3 := g6.heap b3
  replace b4 := g6.heap b4
  replace b7 := g6.heap b7
  replace b8 := g6.heap b8
  replace b10 := g6.heap b10
  have G := G.trans g6
  clear z3 z4 z7 z8 z10 z0
  clear g6
  refine (M2.out _).mono ?_
  rintro e w7 ⟨rfl, g7⟩
  obtain ⟨c3, f3, z3⟩ := blk_cells (g7.heap b3)
  obtain ⟨c4, f4, z4⟩ := blk_cells (g7.heap b4)
  obtain ⟨c7, f7, z7⟩ := blk_cells (g7.heap b7)
  obtain ⟨c8, f8, z8⟩ := blk_cells (g7.heap b8)
  obtain ⟨c10, f10, z10⟩ := blk_cells (g7.heap b10)
  have z0 : w.heap.size ≤ w7.heap.size := (Gr.trans G g7).b.size
  go_upto_region 11 with (fail)
  clear c3 f3 c4 f4 c7 f7 c8 f8 c10 f10
  replace b3 := g7.heap b3
  replace b4 := g7.heap b4
  replace b7 := g7.heap b7
  replace b8 := g7.heap b8
  replace b10 := g7.heap b10
  have G := G.trans g7
  clear z3 z4 z7 z8 z10 z0
  clear g7
  obtain ⟨c3, f3, z3⟩ := blk_cells b3
  obtain ⟨c4, f4, z4⟩ := blk_cells b4
  obtain ⟨c7, f7, z7⟩ := blk_cells b7
  obtain ⟨c8, f8, z8⟩ := blk_cells b8
  obtain ⟨c10, f10, z10⟩ := blk_cells b10
  refine wp_region_plan [.val (.pointer (some ⟨p3, 0, none⟩)), .val (.int .i64 (n)), .val (.pointer (some ⟨p10, 1, none⟩)), .val (.int .i64 (b')), .val (.int .i64 (n*b')), .val (.pointer (some ⟨p10, 0, none⟩)), .val (.int .i64 (a)), .val (.pointer (some ⟨p3, 1, none⟩)), .val (.int .i64 (d)), .val (.int .i64 (a*d)), .val (.int .i64 (X)), .val (.pointer (some ⟨p3, 0, none⟩)), .val (.int .i64 (n)), .val (.pointer (some ⟨p4, 1, none⟩)), .val (.int .i64 (e)), .val (.int .i64 (n*e)), .val (.pointer (some ⟨p4, 0, none⟩)), .val (.int .i64 (c)), .val (.pointer (some ⟨p3, 1, none⟩)), .val (.int .i64 (d)), .val (.int .i64 (c*d)), .val (.int .i64 (Y)), .val (.int .i64 (X)), .val (.int .i64 (Y))] (by kernel_rfl) (by kernel_rfl) (fun G => by first | (simp only [finAct, Act.put, Plan.value, List.setIfInBounds_toArray, List.set_cons_zero, List.set_cons_succ]; rfl) | (simp only [finAct, Act.put, Plan.value, List.setIfInBounds_toArray, List.set_cons_zero, List.set_cons_succ, Nat.zero_add, Nat.reduceAdd]; rfl)) ?_ ?_
  · refine ⟨?_, ?_, ?_, ?_, ?_, ?_, ?_, ?_, ?_, ?_, ?_, ?_, ?_, ?_, ?_, ?_, ?_, ?_, ?_, ?_, ?_, ?_, ?_, ?_, trivial⟩ <;> (first | exact trivial | (intro G; first | (refine ⟨by kernel_rfl, fun u hu => ?_⟩; obtain ⟨hc, hf, hz⟩ := hu.cells; go_simp; first | exact ⟨rfl, Gr.refl _⟩ | skip) | (refine ⟨by kernel_rfl, fun u T z hu hG hj hb => ?_⟩; cases hj; obtain ⟨hbc, hbf, hbz⟩ := blk_cells hb; first | (refine ⟨_, ?_, ((GrL.of_gr (Gr.refl _)).set _ _ (Or.inr (by simp))).set _ _ (Or.inr (by simp)), put_two hb⟩; go_simp; done) | (refine ⟨_, ?_, (GrL.of_gr (Gr.refl _)).set _ _ (Or.inr (by simp)), put_one hb⟩; go_simp; done)) | (refine ⟨by kernel_rfl, fun u => ?_⟩; go_simp; done) | (show _ = false; kernel_rfl)))
  intro _ U hg _ _
  clear c3 f3 z3 c4 f4 z4 c7 f7 z7 c8 f8 z8 c10 f10 z10
  replace b3 := hg.heap b3
  replace b4 := hg.heap b4
  replace b7 := hg.heap b7
  replace b8 := hg.heap b8
  replace b10 := hg.heap b10
  have G := G.trans hg
  obtain ⟨c3, f3, z3⟩ := blk_cells b3
  obtain ⟨c4, f4, z4⟩ := blk_cells b4
  obtain ⟨c7, f7, z7⟩ := blk_cells b7
  obtain ⟨c8, f8, z8⟩ := blk_cells b8
  obtain ⟨c10, f10, z10⟩ := blk_cells b10
  clear hg q1 q2 q3 q4 q5 q6
  go_wp2_with fail
  clear c3 f3 z3 c4 f4 z4 c7 f7 z7 c8 f8 z8 c10 f10 z10
  refine (alive_any _ (HT.out.gr G)).mono ?_
  rintro e wz ⟨rfl, gz⟩
  obtain ⟨c3, f3, z3⟩ := blk_cells (gz.heap b3)
  obtain ⟨c4, f4, z4⟩ := blk_cells (gz.heap b4)
  obtain ⟨c7, f7, z7⟩ := blk_cells (gz.heap b7)
  obtain ⟨c8, f8, z8⟩ := blk_cells (gz.heap b8)
  obtain ⟨c10, f10, z10⟩ := blk_cells (gz.heap b10)
  go_wp2
  all_goals go_ret
  all_goals first | exact ⟨ret_bool HF.out, G.trans gz⟩ | exact ⟨rfl, G.trans gz⟩ | trace_state
theorem near_fin {n d c e N D : Int} (hD : 1 ≤ D) (hD' : D ≤ 1000000) (he : 1 ≤ e) (he' : e ≤ 1000000) {u y : Int} (hu0 : 0 ≤ u) (hu1 : u ≤ 1000000000000) (hu : max (n*D - N*d) (-(n*D - N*d)) = u) (hy : max (n*e - c*d) (-(n*e - c*d)) = y) (h : u*e ≤ y*D) :
    (decide (1000000000000 ≤ max (n*e - c*d) (-(n*e - c*d))) || decide (wrap64 (max (n*D - N*d) (-(n*D - N*d)) * e) ≤ wrap64 (max (n*e - c*d) (-(n*e - c*d)) * D))) = true := by
  rw [hu, hy]
  by_cases hb : 1000000000000 ≤ y
  · simp [hb]
  · have y0 : 0 ≤ y := by rw [← hy]; omega
    have m1 := Rm.mul_bound (a := u) (b := e) (A := 1000000000000) (B := 1000000) (by omega) (by omega) (by omega) (by omega) (by omega)
    have m2 := Rm.mul_bound (a := y) (b := D) (A := 1000000000000) (B := 1000000) (by omega) (by omega) (by omega) (by omega) (by omega)
    have w1 : wrap64 (u*e) = u*e := IntWalk.wrap64_in _ (by omega)
    have w2 : wrap64 (y*D) = y*D := IntWalk.wrap64_in _ (by omega)
    rw [w1, w2]
    simp [h]

theorem near_low {n d a b a' b' c e m : Int} (B : Rm.Brk n d m a b a' b') (hd : 1 ≤ d) (he : 1 ≤ e) (hem : e ≤ m) (hn : (n*b - a*d)*b' ≤ (a'*d - n*b')*b) {y : Int} (hy : max (n*e - c*d) (-(n*e - c*d)) = y) : (n*b - a*d)*e ≤ y*b := by
  by_cases h : c*d ≤ n*e
  · have e1 : y = n*e - c*d := by rw [← hy]; omega
    rw [e1]; exact Rm.below_far (B.ag c e he hem h).1 hd
  · have e1 : y = c*d - n*e := by rw [← hy]; omega
    rw [e1]; exact Rm.far_of hn (Rm.above_far (B.bg c e he hem (by omega)).1 hd) B.a1 B.b1 he
theorem near_high {n d a b a' b' c e m : Int} (B : Rm.Brk n d m a b a' b') (hd : 1 ≤ d) (he : 1 ≤ e) (hem : e ≤ m) (hn : (a'*d - n*b')*b ≤ (n*b - a*d)*b') {y : Int} (hy : max (n*e - c*d) (-(n*e - c*d)) = y) : (a'*d - n*b')*e ≤ y*b' := by
  by_cases h : c*d ≤ n*e
  · have e1 : y = n*e - c*d := by rw [← hy]; omega
    rw [e1]; exact Rm.far_of hn (Rm.below_far (B.ag c e he hem h).1 hd) B.b1 B.a1 he
  · have e1 : y = c*d - n*e := by rw [← hy]; omega
    rw [e1]; exact Rm.above_far (B.bg c e he hem (by omega)).1 hd
theorem lessB_no {a b c d : Int} (h : ¬ a*d < c*b) : lessB a b c d = false := by simp [lessB, h]
set_option maxHeartbeats 2000000 in
theorem RuleNear_any (n d c e m : Int) (w : World) (ht : Tab w) : Calls Tryd.prog 10 #[fr n d, fr c e, .int .i64 m] w fun e w' => e = .returned (.bool true) ∧ Gr w w' := by
  have AR := Around_any n d m
  have NE := Nearest_any n d m
  cases hA : abOk n d m
  · have e1 : nrN n d m = 0 ∧ nrD n d m = 0 := by simp [nrN, nrD, hA]
    rw [e1.1, e1.2, hA, Rm.err_false rfl] at NE
    rw [hA, Rm.err_false rfl] at AR
    exact RuleNear_bad n d c e m _ _ _ _ 1 w ht (Lib.hid AR) (Lib.hid NE) (by decide)
  obtain ⟨e1, e2, e3, e4⟩ := ab_yes hA
  rw [e1, e2, e3, e4, hA, Rm.err_true rfl] at AR
  have hk : Rm.okF n d = true ∧ 1 ≤ m ∧ m ≤ 1000000 := by simpa [abOk] using hA
  obtain ⟨x1, x2, x3, x4, x5⟩ := Rm.okF_iff.1 hk.1
  have B := @Rm.bk_brk n d m x3 hk.2.1
  have e5 : nrN n d m = (if nrB n d m then Rm.bkN n d m else Rm.bhN n d m) := by unfold nrN; rw [if_pos hA]
  have e6 : nrD n d m = (if nrB n d m then Rm.bkD n d m else Rm.bhD n d m) := by unfold nrD; rw [if_pos hA]
  rw [e5, e6, hA, Rm.err_true rfl] at NE
  have O := B.off x3 hk.2.1
  unfold nrB at NE
  clear e1 e2 e3 e4 e5 e6 hA
  generalize Rm.bkN n d m = a at *
  generalize Rm.bkD n d m = b at *
  generalize Rm.bhN n d m = a' at *
  generalize Rm.bhD n d m = b' at *
  have a1 := B.a1
  have am := B.am
  have b1 := B.b1
  have bm := B.bm
  have p := Rm.near_bd O.1 O.2.1 a1 (by omega) x3 x4 b1 (by omega)
  have q := Rm.near_bd O.2.2.1 O.2.2.2 b1 (by omega) x3 x4 a1 (by omega)
  have r1 := Rm.nd_bound x1 x2 a1 (by omega)
  have r2 := Rm.nd_bound x1 x2 b1 (by omega)
  have L1 := less_any n d a b
  rw [lessB_no (by have := B.al; omega)] at L1
  have L2 := less_any a' b' n d
  rw [lessB_no (by have := B.bl; omega)] at L2
  have CF := CheckFrac_any c e
  have w1 : IntKind.i64.wrap (n*b) = n*b := IntWalk.i64_in _ (by omega)
  have w2 : IntKind.i64.wrap (a*d) = a*d := IntWalk.i64_in _ (by omega)
  have w3 : IntKind.i64.wrap (n*b') = n*b' := IntWalk.i64_in _ (by omega)
  have w4 : IntKind.i64.wrap (a'*d) = a'*d := IntWalk.i64_in _ (by omega)
  have w5 : IntKind.i64.wrap (n*b - a*d) = n*b - a*d := IntWalk.i64_in _ (by omega)
  have w6 : IntKind.i64.wrap (n*b' - a'*d) = n*b' - a'*d := IntWalk.i64_in _ (by omega)
  have w7 : IntKind.i64.wrap (-(n*b - a*d)) = -(n*b - a*d) := IntWalk.i64_in _ (by omega)
  have w8 : IntKind.i64.wrap (-(n*b' - a'*d)) = -(n*b' - a'*d) := IntWalk.i64_in _ (by omega)
  cases hy : Rm.okF c e
  · rw [hy, Rm.err_false rfl] at CF
    split at NE
    · exact RuleNear_yw_low n d c e m a b a' b' 0 w ht (Lib.hid AR) (Lib.hid NE) (by omega) (by omega) (Lib.hid L1) (Lib.hid L2) (Lib.hid CF)
    · by_cases h1 : a' = a
      · subst h1
        by_cases h2 : b' = b
        · subst h2
          exact RuleNear_yw_low n d c e m _ _ _ _ 0 w ht (Lib.hid AR) (Lib.hid NE) (by omega) (by omega) (Lib.hid L1) (Lib.hid L2) (Lib.hid CF)
        · exact RuleNear_yw_highB n d c e m _ b 0 b' 0 w ht (Lib.hid AR) (Lib.hid NE) h2 (by omega) (by omega) (Lib.hid L1) (Lib.hid L2) (Lib.hid CF)
      · exact RuleNear_yw_highA n d c e m a b a' b' 0 w ht (Lib.hid AR) (Lib.hid NE) h1 (by omega) (by omega) (Lib.hid L1) (Lib.hid L2) (Lib.hid CF)
  rw [hy, Rm.err_true rfl] at CF
  obtain ⟨y1, y2, y3, y4, _⟩ := Rm.okF_iff.1 hy
  by_cases he : m < e
  · split at NE
    · exact RuleNear_ye_low n d c e m a b a' b' 0 w ht (Lib.hid AR) (Lib.hid NE) (by omega) (by omega) (Lib.hid L1) (Lib.hid L2) (Lib.hid CF) he
    · by_cases h1 : a' = a
      · subst h1
        by_cases h2 : b' = b
        · subst h2
          exact RuleNear_ye_low n d c e m _ _ _ _ 0 w ht (Lib.hid AR) (Lib.hid NE) (by omega) (by omega) (Lib.hid L1) (Lib.hid L2) (Lib.hid CF) he
        · exact RuleNear_ye_highB n d c e m _ b 0 b' 0 w ht (Lib.hid AR) (Lib.hid NE) h2 (by omega) (by omega) (Lib.hid L1) (Lib.hid L2) (Lib.hid CF) he
      · exact RuleNear_ye_highA n d c e m a b a' b' 0 w ht (Lib.hid AR) (Lib.hid NE) h1 (by omega) (by omega) (Lib.hid L1) (Lib.hid L2) (Lib.hid CF) he
  have s1 := Rm.nd_bound x1 x2 y3 y4
  have s2 := Rm.nd_bound y1 y2 x3 x4
  have v3 : IntKind.i64.wrap (n*e) = n*e := IntWalk.i64_in _ (by omega)
  have v4 : IntKind.i64.wrap (c*d) = c*d := IntWalk.i64_in _ (by omega)
  have v6 : IntKind.i64.wrap (n*e - c*d) = n*e - c*d := IntWalk.i64_in _ (by omega)
  have v8 : IntKind.i64.wrap (-(n*e - c*d)) = -(n*e - c*d) := IntWalk.i64_in _ (by omega)
  have M1 := less_any a b c e
  have M2 := less_any c e a' b'
  have hm : lessB a b c e = true → lessB c e a' b' = false := fun h1 => by
    have k1 := lessB_lt h1
    by_cases h : c*d ≤ n*e
    · have := (B.ag c e y3 (by omega) h).1; omega
    · have := (B.bg c e y3 (by omega) (by omega)).1
      exact lessB_no (by omega)
  have FL : (n*b - a*d)*b' ≤ (a'*d - n*b')*b → _ := fun hn => near_fin (n := n) (d := d) (c := c) (e := e) (N := a) (D := b) a1 (by omega) y3 y4 p.1 p.2.1 (by omega) rfl (near_low B x3 y3 (by omega) hn rfl)
  have FH : (a'*d - n*b')*b ≤ (n*b - a*d)*b' → _ := fun hn => near_fin (n := n) (d := d) (c := c) (e := e) (N := a') (D := b') b1 (by omega) y3 y4 q.1 q.2.1 (by omega) rfl (near_high B x3 y3 (by omega) hn rfl)
  split at NE
  · rename_i hnb
    have F := FL (by simp only [Rm.nearB, Bool.or_eq_true, Bool.and_eq_true, decide_eq_true_eq] at hnb; omega)
    cases h1 : lessB a b c e
    · rw [h1] at M1
      exact RuleNear_l1_low n d c e m a b a' b' 0 w ht (Lib.hid AR) (Lib.hid NE) (by omega) (by omega) (Lib.hid L1) (Lib.hid L2) (Lib.hid CF) he (Lib.hid M1) w1 w2 v3 v4 _ _ w5 v6 w7 v8 F
    · rw [hm h1] at M2
      rw [h1] at M1
      exact RuleNear_l2_low n d c e m a b a' b' 0 w ht (Lib.hid AR) (Lib.hid NE) (by omega) (by omega) (Lib.hid L1) (Lib.hid L2) (Lib.hid CF) he (Lib.hid M1) (Lib.hid M2) w1 w2 v3 v4 _ _ w5 v6 w7 v8 F
  · rename_i hnb
    have F := FH (by simp only [Rm.nearB, Bool.or_eq_true, Bool.and_eq_true, decide_eq_true_eq] at hnb; omega)
    clear FL FH
    by_cases h1 : a' = a
    · subst h1
      by_cases h2 : b' = b
      · subst h2
        cases h1 : lessB a' b' c e
        · rw [h1] at M1
          exact RuleNear_l1_low n d c e m _ _ _ _ 0 w ht (Lib.hid AR) (Lib.hid NE) (by omega) (by omega) (Lib.hid L1) (Lib.hid L2) (Lib.hid CF) he (Lib.hid M1) w1 w2 v3 v4 _ _ w5 v6 w7 v8 F
        · rw [hm h1] at M2
          rw [h1] at M1
          exact RuleNear_l2_low n d c e m _ _ _ _ 0 w ht (Lib.hid AR) (Lib.hid NE) (by omega) (by omega) (Lib.hid L1) (Lib.hid L2) (Lib.hid CF) he (Lib.hid M1) (Lib.hid M2) w1 w2 v3 v4 _ _ w5 v6 w7 v8 F
      · cases h1 : lessB a' b c e
        · rw [h1] at M1
          exact RuleNear_l1_highB n d c e m _ b 0 b' 0 w ht (Lib.hid AR) (Lib.hid NE) h2 (by omega) (by omega) (Lib.hid L1) (Lib.hid L2) (Lib.hid CF) he (Lib.hid M1) w3 w4 v3 v4 _ _ w6 v6 w8 v8 F
        · rw [hm h1] at M2
          rw [h1] at M1
          exact RuleNear_l2_highB n d c e m _ b 0 b' 0 w ht (Lib.hid AR) (Lib.hid NE) h2 (by omega) (by omega) (Lib.hid L1) (Lib.hid L2) (Lib.hid CF) he (Lib.hid M1) (Lib.hid M2) w3 w4 v3 v4 _ _ w6 v6 w8 v8 F
    · cases h1' : lessB a b c e
      · rw [h1'] at M1
        exact RuleNear_l1_highA n d c e m a b a' b' 0 w ht (Lib.hid AR) (Lib.hid NE) h1 (by omega) (by omega) (Lib.hid L1) (Lib.hid L2) (Lib.hid CF) he (Lib.hid M1) w3 w4 v3 v4 _ _ w6 v6 w8 v8 F
      · rw [hm h1'] at M2
        rw [h1'] at M1
        exact RuleNear_l2_highA n d c e m a b a' b' 0 w ht (Lib.hid AR) (Lib.hid NE) h1 (by omega) (by omega) (Lib.hid L1) (Lib.hid L2) (Lib.hid CF) he (Lib.hid M1) (Lib.hid M2) w3 w4 v3 v4 _ _ w6 v6 w8 v8 F
end Go.Proofs.YtconhikflghkdaaDoor
