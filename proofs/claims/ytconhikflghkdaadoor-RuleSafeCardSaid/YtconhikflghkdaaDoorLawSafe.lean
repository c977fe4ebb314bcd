/- stricklelaw01.RuleSafe. -/
import Derived.Test.YtconhikflghkdaaDoorAlive
import Derived.Test.YtconhikflghkdaaDoorCasted
import Derived.Test.YtconhikflghkdaaDoorMathB
namespace Go.Proofs.YtconhikflghkdaaDoor
open Go.RowKit Go.Shelf
def lessB (a b c d : Int) : Bool := ok2 a b c d && decide (a*d < c*b)
set_option maxHeartbeats 1000000 in
theorem less_any (a b c d : Int) : Says 39 #[fr a b, fr c d] (.bool (lessB a b c d)) := fun w => by
  have C := Lib.hid (Compare_any a b c d)
  cases h : ok2 a b c d
  · have e : lessB a b c d = false := by simp [lessB, h]
    rw [e]
    rw [h, Rm.err_false rfl] at C
    generalize cmpN a b c d = K at *
    clear h e
    go_enter Tryd.func39, Tryd.ntmps39
    go_wp2_with fail
    refine (C.out _).mono ?_
    rintro e w1 ⟨rfl, hg1⟩
    go_wp2
    go_ret
    exact ⟨rfl, (by repeat (first | exact Gr.refl _ | assumption | refine Gr.alloc ?_ _ | refine Gr.drew ?_ | refine Gr.drewN ?_ _ | refine Gr.set ?_ _ _ (by first | (simp; done) | (simp; omega)) | refine Gr.trans ?_ (by assumption)))⟩
  · rw [h, Rm.err_true rfl] at C
    by_cases hk : a*d < c*b
    · have e : lessB a b c d = true := by simp [lessB, h, hk]
      have e2 : cmpN a b c d = -1 := by simp only [cmpN, h, sgn, if_true]; rw [if_pos (by omega)]
      rw [e]
      rw [e2] at C
      clear h e e2 hk
      go_enter Tryd.func39, Tryd.ntmps39
      go_wp2_with fail
      refine (C.out _).mono ?_
      rintro e w1 ⟨rfl, hg1⟩
      go_wp2
      go_ret
      exact ⟨rfl, (by repeat (first | exact Gr.refl _ | assumption | refine Gr.alloc ?_ _ | refine Gr.drew ?_ | refine Gr.drewN ?_ _ | refine Gr.set ?_ _ _ (by first | (simp; done) | (simp; omega)) | refine Gr.trans ?_ (by assumption)))⟩
    · have e : lessB a b c d = false := by simp [lessB, hk]
      have e2 : ¬ cmpN a b c d < 0 := by simp only [cmpN, h, sgn, if_true]; split <;> (try split) <;> omega
      rw [e]
      generalize cmpN a b c d = K at *
      clear h e hk
      go_enter Tryd.func39, Tryd.ntmps39
      go_wp2_with fail
      refine (C.out _).mono ?_
      rintro e w1 ⟨rfl, hg1⟩
      go_wp2
      go_ret
      exact ⟨ret_bool (decide_eq_false (by omega)), (by repeat (first | exact Gr.refl _ | assumption | refine Gr.alloc ?_ _ | refine Gr.drew ?_ | refine Gr.drewN ?_ _ | refine Gr.set ?_ _ _ (by first | (simp; done) | (simp; omega)) | refine Gr.trans ?_ (by assumption)))⟩
theorem lessB_yes {a b c d : Int} (h1 : Rm.okF a b = true) (h2 : Rm.okF c d = true) (h : a*d < c*b) : lessB a b c d = true := by simp [lessB, ok2, h1, h2, h]
theorem lessB_lt {a b c d : Int} (h : lessB a b c d = true) : a*d < c*b := by simp [lessB] at h; exact h.2
/-- what Neighbours returns are the neighbours -/
theorem nb_bk {n d : Int} (h : Rm.okF n d = true) (hd : 2 ≤ d) : Rm.Nb n d (Rm.bkN n d (d-1)) (Rm.bkD n d (d-1)) (Rm.bhN n d (d-1)) (Rm.bhD n d (d-1)) := by
  obtain ⟨x1, x2, x3, x4, x5⟩ := Rm.okF_iff.1 h
  obtain ⟨_, P, t, s, _, hci⟩ := Rm.conv_last x1 x2 x3 x4 x5
  have hnb := hci.nb hd
  rcases hci.sg with e | e
  · have k := hnb.1 e
    obtain ⟨k1, k2, k3, k4⟩ := Rm.bk_eq (by omega) (by omega) k.brk
    rw [k1, k2, k3, k4]; exact k
  · have k := hnb.2 e
    obtain ⟨k1, k2, k3, k4⟩ := Rm.bk_eq (by omega) (by omega) k.brk
    rw [k1, k2, k3, k4]; exact k
attribute [local go_sem] Oper.semAt_some
set_option maxRecDepth 100000 in
set_option maxHeartbeats 8000000 in
theorem RuleSafe_bad1 {a b c d low high n N D N' D' E E2 : Int} (w : World) (ht : Tab w) (S : Hid (Says 27 #[ru a b c d, .int .i64 low, .int .i64 high] (.tuple #[.int .i64 0, .int .i64 0, .bool false, .int .i64 E]))) (C : Hid (Says 45 #[ru a b c d, .int .i64 n] (.tuple #[fr N D, fr N' D', .int .i64 E2]))) (hE : ¬ E = 0) : Calls Tryd.prog 12 #[ru a b c d, .int .i64 low, .int .i64 high, .int .i64 n] w fun e w' => e = .returned (.bool true) ∧ Gr w w' := by
  have HT := Lib.hid ht
  clear ht
  go_enter Tryd.func12, Tryd.ntmps12
  go_wp2_with fail
  have G := Gr.refl w
  have b4 := heap_alloc_self w (.cells #[.int .i64 a, .int .i64 b, .int .i64 c, .int .i64 d] 34)
  replace G := G.alloc (.cells #[.int .i64 a, .int .i64 b, .int .i64 c, .int .i64 d] 34)
  generalize hW : (w.alloc (.cells #[.int .i64 a, .int .i64 b, .int .i64 c, .int .i64 d] 34)) = W1 at *
  have w0 : w.heap.size ≤ w.heap.size := Nat.le_refl _
  obtain ⟨p4, hp4⟩ : ∃ p4, w.heap.size = p4 := ⟨_, rfl⟩
  rw [hp4] at b4
  try simp only [hp4]
  have s4 : w.heap.size ≤ p4 := by omega
  clear  w0
  clear hp4
  clear hW
  refine (S.out _).mono ?_
  rintro e w1 ⟨rfl, g1⟩
  obtain ⟨c4, f4, z4⟩ := blk_cells (g1.heap b4)
  have z0 : w.heap.size ≤ w1.heap.size := (Gr.trans G g1).b.size
  go_wp2_with fail
  clear c4 f4
  replace b4 := g1.heap b4
  have G := G.trans g1
  clear z4 z0
  clear g1
  refine (C.out _).mono ?_
  rintro e w2 ⟨rfl, g2⟩
  obtain ⟨c4, f4, z4⟩ := blk_cells (g2.heap b4)
  have z0 : w.heap.size ≤ w2.heap.size := (Gr.trans G g2).b.size
  go_wp2_with fail
  clear c4 f4
  replace b4 := g2.heap b4
  have G := G.trans g2
  replace b4 := ((Gr.refl _).alloc (.cells #[.int .i64 N, .int .i64 D] 23)).heap b4
  have b13 := heap_alloc_self w2 (.cells #[.int .i64 N, .int .i64 D] 23)
  replace G := G.alloc (.cells #[.int .i64 N, .int .i64 D] 23)
  replace b4 := ((Gr.refl _).alloc (.cells #[.int .i64 (N'), .int .i64 (D')] 23)).heap b4
  replace b13 := ((Gr.refl _).alloc (.cells #[.int .i64 (N'), .int .i64 (D')] 23)).heap b13
  have b14 := heap_alloc_self (w2.alloc (.cells #[.int .i64 N, .int .i64 D] 23)) (.cells #[.int .i64 (N'), .int .i64 (D')] 23)
  replace G := G.alloc (.cells #[.int .i64 (N'), .int .i64 (D')] 23)
  generalize hW : ((w2.alloc (.cells #[.int .i64 N, .int .i64 D] 23)).alloc (.cells #[.int .i64 (N'), .int .i64 (D')] 23)) = W3 at *
  simp only [World.size_alloc] at b14
  have o4 : p4 < w2.heap.size := z4
  have w0 : w.heap.size ≤ w2.heap.size := z0
  obtain ⟨p14, hp14⟩ : ∃ p14, w2.heap.size + 1 = p14 := ⟨_, rfl⟩
  obtain ⟨p13, hp13⟩ : ∃ p13, w2.heap.size = p13 := ⟨_, rfl⟩
  rw [hp14] at b14
  rw [hp13] at b13
  try simp only [hp14]
  try simp only [hp13]
  have n4_13 : ¬ p4 = p13 := by omega
  have n13_4 : ¬ p13 = p4 := by omega
  have s13 : w.heap.size ≤ p13 := by omega
  have n4_14 : ¬ p4 = p14 := by omega
  have n14_4 : ¬ p14 = p4 := by omega
  have n13_14 : ¬ p13 = p14 := by omega
  have n14_13 : ¬ p14 = p13 := by omega
  have s14 : w.heap.size ≤ p14 := by omega
  clear o4 w0
  clear hp13
  clear hp14
  clear hW
  clear z4 z0
  clear g2
  refine (alive_any _ (HT.out.gr G)).mono ?_
  rintro e wz ⟨rfl, gz⟩
  obtain ⟨c4, f4, z4⟩ := blk_cells (gz.heap b4)
  obtain ⟨c13, f13, z13⟩ := blk_cells (gz.heap b13)
  obtain ⟨c14, f14, z14⟩ := blk_cells (gz.heap b14)
  go_wp2
  go_ret
  exact ⟨rfl, G.trans gz⟩
set_option maxRecDepth 100000 in
set_option maxHeartbeats 8000000 in
theorem RuleSafe_bad2t {a b c d low high n x y N D N' D' E2 : Int} (w : World) (ht : Tab w) (S : Hid (Says 27 #[ru a b c d, .int .i64 low, .int .i64 high] (.tuple #[.int .i64 x, .int .i64 y, .bool true, .int .i64 0]))) (C : Hid (Says 45 #[ru a b c d, .int .i64 n] (.tuple #[fr N D, fr N' D', .int .i64 E2]))) (hE : ¬ E2 = 0) : Calls Tryd.prog 12 #[ru a b c d, .int .i64 low, .int .i64 high, .int .i64 n] w fun e w' => e = .returned (.bool true) ∧ Gr w w' := by
  have HT := Lib.hid ht
  clear ht
  go_enter Tryd.func12, Tryd.ntmps12
  go_wp2_with fail
  have G := Gr.refl w
  have b4 := heap_alloc_self w (.cells #[.int .i64 a, .int .i64 b, .int .i64 c, .int .i64 d] 34)
  replace G := G.alloc (.cells #[.int .i64 a, .int .i64 b, .int .i64 c, .int .i64 d] 34)
  generalize hW : (w.alloc (.cells #[.int .i64 a, .int .i64 b, .int .i64 c, .int .i64 d] 34)) = W1 at *
  have w0 : w.heap.size ≤ w.heap.size := Nat.le_refl _
  obtain ⟨p4, hp4⟩ : ∃ p4, w.heap.size = p4 := ⟨_, rfl⟩
  rw [hp4] at b4
  try simp only [hp4]
  have s4 : w.heap.size ≤ p4 := by omega
  clear  w0
  clear hp4
  clear hW
  refine (S.out _).mono ?_
  rintro e w1 ⟨rfl, g1⟩
  obtain ⟨c4, f4, z4⟩ := blk_cells (g1.heap b4)
  have z0 : w.heap.size ≤ w1.heap.size := (Gr.trans G g1).b.size
  go_wp2_with fail
  clear c4 f4
  replace b4 := g1.heap b4
  have G := G.trans g1
  clear z4 z0
  clear g1
  refine (C.out _).mono ?_
  rintro e w2 ⟨rfl, g2⟩
  obtain ⟨c4, f4, z4⟩ := blk_cells (g2.heap b4)
  have z0 : w.heap.size ≤ w2.heap.size := (Gr.trans G g2).b.size
  go_wp2_with fail
  clear c4 f4
  replace b4 := g2.heap b4
  have G := G.trans g2
  replace b4 := ((Gr.refl _).alloc (.cells #[.int .i64 N, .int .i64 D] 23)).heap b4
  have b13 := heap_alloc_self w2 (.cells #[.int .i64 N, .int .i64 D] 23)
  replace G := G.alloc (.cells #[.int .i64 N, .int .i64 D] 23)
  replace b4 := ((Gr.refl _).alloc (.cells #[.int .i64 (N'), .int .i64 (D')] 23)).heap b4
  replace b13 := ((Gr.refl _).alloc (.cells #[.int .i64 (N'), .int .i64 (D')] 23)).heap b13
  have b14 := heap_alloc_self (w2.alloc (.cells #[.int .i64 N, .int .i64 D] 23)) (.cells #[.int .i64 (N'), .int .i64 (D')] 23)
  replace G := G.alloc (.cells #[.int .i64 (N'), .int .i64 (D')] 23)
  generalize hW : ((w2.alloc (.cells #[.int .i64 N, .int .i64 D] 23)).alloc (.cells #[.int .i64 (N'), .int .i64 (D')] 23)) = W3 at *
  simp only [World.size_alloc] at b14
  have o4 : p4 < w2.heap.size := z4
  have w0 : w.heap.size ≤ w2.heap.size := z0
  obtain ⟨p14, hp14⟩ : ∃ p14, w2.heap.size + 1 = p14 := ⟨_, rfl⟩
  obtain ⟨p13, hp13⟩ : ∃ p13, w2.heap.size = p13 := ⟨_, rfl⟩
  rw [hp14] at b14
  rw [hp13] at b13
  try simp only [hp14]
  try simp only [hp13]
  have n4_13 : ¬ p4 = p13 := by omega
  have n13_4 : ¬ p13 = p4 := by omega
  have s13 : w.heap.size ≤ p13 := by omega
  have n4_14 : ¬ p4 = p14 := by omega
  have n14_4 : ¬ p14 = p4 := by omega
  have n13_14 : ¬ p13 = p14 := by omega
  have n14_13 : ¬ p14 = p13 := by omega
  have s14 : w.heap.size ≤ p14 := by omega
  clear o4 w0
  clear hp13
  clear hp14
  clear hW
  clear z4 z0
  clear g2
  refine (alive_any _ (HT.out.gr G)).mono ?_
  rintro e wz ⟨rfl, gz⟩
  obtain ⟨c4, f4, z4⟩ := blk_cells (gz.heap b4)
  obtain ⟨c13, f13, z13⟩ := blk_cells (gz.heap b13)
  obtain ⟨c14, f14, z14⟩ := blk_cells (gz.heap b14)
  go_wp2
  go_ret
  exact ⟨rfl, G.trans gz⟩
set_option maxRecDepth 100000 in
set_option maxHeartbeats 8000000 in
theorem RuleSafe_bad2f {a b c d low high n x y N D N' D' E2 : Int} (w : World) (ht : Tab w) (S : Hid (Says 27 #[ru a b c d, .int .i64 low, .int .i64 high] (.tuple #[.int .i64 x, .int .i64 y, .bool false, .int .i64 0]))) (C : Hid (Says 45 #[ru a b c d, .int .i64 n] (.tuple #[fr N D, fr N' D', .int .i64 E2]))) (hE : ¬ E2 = 0) : Calls Tryd.prog 12 #[ru a b c d, .int .i64 low, .int .i64 high, .int .i64 n] w fun e w' => e = .returned (.bool true) ∧ Gr w w' := by
  have HT := Lib.hid ht
  clear ht
  go_enter Tryd.func12, Tryd.ntmps12
  go_wp2_with fail
  have G := Gr.refl w
  have b4 := heap_alloc_self w (.cells #[.int .i64 a, .int .i64 b, .int .i64 c, .int .i64 d] 34)
  replace G := G.alloc (.cells #[.int .i64 a, .int .i64 b, .int .i64 c, .int .i64 d] 34)
  generalize hW : (w.alloc (.cells #[.int .i64 a, .int .i64 b, .int .i64 c, .int .i64 d] 34)) = W1 at *
  have w0 : w.heap.size ≤ w.heap.size := Nat.le_refl _
  obtain ⟨p4, hp4⟩ : ∃ p4, w.heap.size = p4 := ⟨_, rfl⟩
  rw [hp4] at b4
  try simp only [hp4]
  have s4 : w.heap.size ≤ p4 := by omega
  clear  w0
  clear hp4
  clear hW
  refine (S.out _).mono ?_
  rintro e w1 ⟨rfl, g1⟩
  obtain ⟨c4, f4, z4⟩ := blk_cells (g1.heap b4)
  have z0 : w.heap.size ≤ w1.heap.size := (Gr.trans G g1).b.size
  go_wp2_with fail
  clear c4 f4
  replace b4 := g1.heap b4
  have G := G.trans g1
  clear z4 z0
  clear g1
  refine (C.out _).mono ?_
  rintro e w2 ⟨rfl, g2⟩
  obtain ⟨c4, f4, z4⟩ := blk_cells (g2.heap b4)
  have z0 : w.heap.size ≤ w2.heap.size := (Gr.trans G g2).b.size
  go_wp2_with fail
  clear c4 f4
  replace b4 := g2.heap b4
  have G := G.trans g2
  replace b4 := ((Gr.refl _).alloc (.cells #[.int .i64 N, .int .i64 D] 23)).heap b4
  have b13 := heap_alloc_self w2 (.cells #[.int .i64 N, .int .i64 D] 23)
  replace G := G.alloc (.cells #[.int .i64 N, .int .i64 D] 23)
  replace b4 := ((Gr.refl _).alloc (.cells #[.int .i64 (N'), .int .i64 (D')] 23)).heap b4
  replace b13 := ((Gr.refl _).alloc (.cells #[.int .i64 (N'), .int .i64 (D')] 23)).heap b13
  have b14 := heap_alloc_self (w2.alloc (.cells #[.int .i64 N, .int .i64 D] 23)) (.cells #[.int .i64 (N'), .int .i64 (D')] 23)
  replace G := G.alloc (.cells #[.int .i64 (N'), .int .i64 (D')] 23)
  generalize hW : ((w2.alloc (.cells #[.int .i64 N, .int .i64 D] 23)).alloc (.cells #[.int .i64 (N'), .int .i64 (D')] 23)) = W3 at *
  simp only [World.size_alloc] at b14
  have o4 : p4 < w2.heap.size := z4
  have w0 : w.heap.size ≤ w2.heap.size := z0
  obtain ⟨p14, hp14⟩ : ∃ p14, w2.heap.size + 1 = p14 := ⟨_, rfl⟩
  obtain ⟨p13, hp13⟩ : ∃ p13, w2.heap.size = p13 := ⟨_, rfl⟩
  rw [hp14] at b14
  rw [hp13] at b13
  try simp only [hp14]
  try simp only [hp13]
  have n4_13 : ¬ p4 = p13 := by omega
  have n13_4 : ¬ p13 = p4 := by omega
  have s13 : w.heap.size ≤ p13 := by omega
  have n4_14 : ¬ p4 = p14 := by omega
  have n14_4 : ¬ p14 = p4 := by omega
  have n13_14 : ¬ p13 = p14 := by omega
  have n14_13 : ¬ p14 = p13 := by omega
  have s14 : w.heap.size ≤ p14 := by omega
  clear o4 w0
  clear hp13
  clear hp14
  clear hW
  clear z4 z0
  clear g2
  refine (alive_any _ (HT.out.gr G)).mono ?_
  rintro e wz ⟨rfl, gz⟩
  obtain ⟨c4, f4, z4⟩ := blk_cells (gz.heap b4)
  obtain ⟨c13, f13, z13⟩ := blk_cells (gz.heap b13)
  obtain ⟨c14, f14, z14⟩ := blk_cells (gz.heap b14)
  go_wp2
  go_ret
  exact ⟨rfl, G.trans gz⟩
set_option maxRecDepth 100000 in
set_option maxHeartbeats 8000000 in
theorem RuleSafe_t_no {a b c d low high n N D N' D' : Int} (w : World) (ht : Tab w) (S : Hid (Says 27 #[ru a b c d, .int .i64 low, .int .i64 high] (.tuple #[.int .i64 0, .int .i64 0, .bool false, .int .i64 0]))) (C : Hid (Says 45 #[ru a b c d, .int .i64 n] (.tuple #[fr N D, fr N' D', .int .i64 0]))) (F1 : Hid (Says 46 #[.int .i64 low, .int .i64 1] (fr low 1))) (L1 : Hid (Says 39 #[fr N D, fr low 1] (.bool true))) : Calls Tryd.prog 12 #[ru a b c d, .int .i64 low, .int .i64 high, .int .i64 n] w fun e w' => e = .returned (.bool true) ∧ Gr w w' := by
  have HT := Lib.hid ht
  clear ht
  go_enter Tryd.func12, Tryd.ntmps12
  go_wp2_with fail
  have G := Gr.refl w
  have b4 := heap_alloc_self w (.cells #[.int .i64 a, .int .i64 b, .int .i64 c, .int .i64 d] 34)
  replace G := G.alloc (.cells #[.int .i64 a, .int .i64 b, .int .i64 c, .int .i64 d] 34)
  generalize hW : (w.alloc (.cells #[.int .i64 a, .int .i64 b, .int .i64 c, .int .i64 d] 34)) = W1 at *
  have w0 : w.heap.size ≤ w.heap.size := Nat.le_refl _
  obtain ⟨p4, hp4⟩ : ∃ p4, w.heap.size = p4 := ⟨_, rfl⟩
  rw [hp4] at b4
  try simp only [hp4]
  have s4 : w.heap.size ≤ p4 := by omega
  clear  w0
  clear hp4
  clear hW
  refine (S.out _).mono ?_
  rintro e w1 ⟨rfl, g1⟩
  obtain ⟨c4, f4, z4⟩ := blk_cells (g1.heap b4)
  have z0 : w.heap.size ≤ w1.heap.size := (Gr.trans G g1).b.size
  go_wp2_with fail
  clear c4 f4
  replace b4 := g1.heap b4
  have G := G.trans g1
  clear z4 z0
  clear g1
  refine (C.out _).mono ?_
  rintro e w2 ⟨rfl, g2⟩
  obtain ⟨c4, f4, z4⟩ := blk_cells (g2.heap b4)
  have z0 : w.heap.size ≤ w2.heap.size := (Gr.trans G g2).b.size
  go_upto_region 5 with (fail)
  clear c4 f4
  replace b4 := g2.heap b4
  have G := G.trans g2
  replace b4 := ((Gr.refl _).alloc (.cells #[.int .i64 N, .int .i64 D] 23)).heap b4
  have b13 := heap_alloc_self w2 (.cells #[.int .i64 N, .int .i64 D] 23)
  replace G := G.alloc (.cells #[.int .i64 N, .int .i64 D] 23)
  replace b4 := ((Gr.refl _).alloc (.cells #[.int .i64 (N'), .int .i64 (D')] 23)).heap b4
  replace b13 := ((Gr.refl _).alloc (.cells #[.int .i64 (N'), .int .i64 (D')] 23)).heap b13
  have b14 := heap_alloc_self (w2.alloc (.cells #[.int .i64 N, .int .i64 D] 23)) (.cells #[.int .i64 (N'), .int .i64 (D')] 23)
  replace G := G.alloc (.cells #[.int .i64 (N'), .int .i64 (D')] 23)
  generalize hW : ((w2.alloc (.cells #[.int .i64 N, .int .i64 D] 23)).alloc (.cells #[.int .i64 (N'), .int .i64 (D')] 23)) = W3 at *
  simp only [World.size_alloc] at b14
  have o4 : p4 < w2.heap.size := z4
  have w0 : w.heap.size ≤ w2.heap.size := z0
  obtain ⟨p14, hp14⟩ : ∃ p14, w2.heap.size + 1 = p14 := ⟨_, rfl⟩
  obtain ⟨p13, hp13⟩ : ∃ p13, w2.heap.size = p13 := ⟨_, rfl⟩
  rw [hp14] at b14
  rw [hp13] at b13
  try simp only [hp14]
  try simp only [hp13]
  have n4_13 : ¬ p4 = p13 := by omega
  have n13_4 : ¬ p13 = p4 := by omega
  have s13 : w.heap.size ≤ p13 := by omega
  have n4_14 : ¬ p4 = p14 := by omega
  have n14_4 : ¬ p14 = p4 := by omega
  have n13_14 : ¬ p13 = p14 := by omega
  have n14_13 : ¬ p14 = p13 := by omega
  have s14 : w.heap.size ≤ p14 := by omega
  clear o4 w0
  clear hp13
  clear hp14
  clear hW
  clear z4 z0
  clear g2
  obtain ⟨c4, f4, z4⟩ := blk_cells b4
  obtain ⟨c13, f13, z13⟩ := blk_cells b13
  obtain ⟨c14, f14, z14⟩ := blk_cells b14
  refine wp_region_plan [.val (fr (N) (D)), .val (.int .i64 (low)), .val (fr (low) (1)), .val (.bool true), .val (.bool false), .val (.bool false), .off, .off, .off, .off, .off, .val (.bool false), .val (.bool false)] (by kernel_rfl) (by kernel_rfl) (fun G => by first | (simp only [finAct, Act.put, Plan.value, List.setIfInBounds_toArray, List.set_cons_zero, List.set_cons_succ]; rfl) | (simp only [finAct, Act.put, Plan.value, List.setIfInBounds_toArray, List.set_cons_zero, List.set_cons_succ, Nat.zero_add, Nat.reduceAdd]; rfl)) ?_ ?_
  · refine ⟨?_, ?_, ?_, ?_, ?_, ?_, ?_, ?_, ?_, ?_, ?_, ?_, ?_, trivial⟩ <;> (first | exact trivial | (intro G; first | (refine ⟨by kernel_rfl, fun u hu => ?_⟩; obtain ⟨hc, hf, hz⟩ := hu.cells; go_simp; first | exact ⟨rfl, Gr.refl _⟩ | skip) | (refine ⟨by kernel_rfl, fun u T z hu hG hj hb => ?_⟩; cases hj; obtain ⟨hbc, hbf, hbz⟩ := blk_cells hb; first | (refine ⟨_, ?_, ((GrL.of_gr (Gr.refl _)).set _ _ (Or.inr (by simp))).set _ _ (Or.inr (by simp)), put_two hb⟩; go_simp; done) | (refine ⟨_, ?_, (GrL.of_gr (Gr.refl _)).set _ _ (Or.inr (by simp)), put_one hb⟩; go_simp; done)) | (refine ⟨by kernel_rfl, fun u => ?_⟩; go_simp; done) | (show _ = false; kernel_rfl)))
    · exact F1.out _
    · exact L1.out _
  intro _ U3 hg _ _
  clear c4 f4 z4 c13 f13 z13 c14 f14 z14
  replace b4 := hg.heap b4
  replace b13 := hg.heap b13
  replace b14 := hg.heap b14
  have G := G.trans hg
  clear hg
  go_wp2_with fail
  refine (alive_any _ (HT.out.gr G)).mono ?_
  rintro e wz ⟨rfl, gz⟩
  obtain ⟨c4, f4, z4⟩ := blk_cells (gz.heap b4)
  obtain ⟨c13, f13, z13⟩ := blk_cells (gz.heap b13)
  obtain ⟨c14, f14, z14⟩ := blk_cells (gz.heap b14)
  go_wp2
  go_ret
  exact ⟨rfl, G.trans gz⟩
set_option maxRecDepth 100000 in
set_option maxHeartbeats 8000000 in
theorem RuleSafe_t_lo {a b c d low high n x y N D N' D' : Int} (w : World) (ht : Tab w) (S : Hid (Says 27 #[ru a b c d, .int .i64 low, .int .i64 high] (.tuple #[.int .i64 x, .int .i64 y, .bool true, .int .i64 0]))) (C : Hid (Says 45 #[ru a b c d, .int .i64 n] (.tuple #[fr N D, fr N' D', .int .i64 0]))) (F1 : Hid (Says 46 #[.int .i64 low, .int .i64 1] (fr low 1))) (L1 : Hid (Says 39 #[fr N D, fr low 1] (.bool true))) (h1 : ¬ x ≤ n) : Calls Tryd.prog 12 #[ru a b c d, .int .i64 low, .int .i64 high, .int .i64 n] w fun e w' => e = .returned (.bool true) ∧ Gr w w' := by
  have HT := Lib.hid ht
  clear ht
  go_enter Tryd.func12, Tryd.ntmps12
  go_wp2_with fail
  have G := Gr.refl w
  have b4 := heap_alloc_self w (.cells #[.int .i64 a, .int .i64 b, .int .i64 c, .int .i64 d] 34)
  replace G := G.alloc (.cells #[.int .i64 a, .int .i64 b, .int .i64 c, .int .i64 d] 34)
  generalize hW : (w.alloc (.cells #[.int .i64 a, .int .i64 b, .int .i64 c, .int .i64 d] 34)) = W1 at *
  have w0 : w.heap.size ≤ w.heap.size := Nat.le_refl _
  obtain ⟨p4, hp4⟩ : ∃ p4, w.heap.size = p4 := ⟨_, rfl⟩
  rw [hp4] at b4
  try simp only [hp4]
  have s4 : w.heap.size ≤ p4 := by omega
  clear  w0
  clear hp4
  clear hW
  refine (S.out _).mono ?_
  rintro e w1 ⟨rfl, g1⟩
  obtain ⟨c4, f4, z4⟩ := blk_cells (g1.heap b4)
  have z0 : w.heap.size ≤ w1.heap.size := (Gr.trans G g1).b.size
  go_wp2_with fail
  clear c4 f4
  replace b4 := g1.heap b4
  have G := G.trans g1
  clear z4 z0
  clear g1
  refine (C.out _).mono ?_
  rintro e w2 ⟨rfl, g2⟩
  obtain ⟨c4, f4, z4⟩ := blk_cells (g2.heap b4)
  have z0 : w.heap.size ≤ w2.heap.size := (Gr.trans G g2).b.size
  go_upto_region 5 with (fail)
  clear c4 f4
  replace b4 := g2.heap b4
  have G := G.trans g2
  replace b4 := ((Gr.refl _).alloc (.cells #[.int .i64 N, .int .i64 D] 23)).heap b4
  have b13 := heap_alloc_self w2 (.cells #[.int .i64 N, .int .i64 D] 23)
  replace G := G.alloc (.cells #[.int .i64 N, .int .i64 D] 23)
  replace b4 := ((Gr.refl _).alloc (.cells #[.int .i64 (N'), .int .i64 (D')] 23)).heap b4
  replace b13 := ((Gr.refl _).alloc (.cells #[.int .i64 (N'), .int .i64 (D')] 23)).heap b13
  have b14 := heap_alloc_self (w2.alloc (.cells #[.int .i64 N, .int .i64 D] 23)) (.cells #[.int .i64 (N'), .int .i64 (D')] 23)
  replace G := G.alloc (.cells #[.int .i64 (N'), .int .i64 (D')] 23)
  generalize hW : ((w2.alloc (.cells #[.int .i64 N, .int .i64 D] 23)).alloc (.cells #[.int .i64 (N'), .int .i64 (D')] 23)) = W3 at *
  simp only [World.size_alloc] at b14
  have o4 : p4 < w2.heap.size := z4
  have w0 : w.heap.size ≤ w2.heap.size := z0
  obtain ⟨p14, hp14⟩ : ∃ p14, w2.heap.size + 1 = p14 := ⟨_, rfl⟩
  obtain ⟨p13, hp13⟩ : ∃ p13, w2.heap.size = p13 := ⟨_, rfl⟩
  rw [hp14] at b14
  rw [hp13] at b13
  try simp only [hp14]
  try simp only [hp13]
  have n4_13 : ¬ p4 = p13 := by omega
  have n13_4 : ¬ p13 = p4 := by omega
  have s13 : w.heap.size ≤ p13 := by omega
  have n4_14 : ¬ p4 = p14 := by omega
  have n14_4 : ¬ p14 = p4 := by omega
  have n13_14 : ¬ p13 = p14 := by omega
  have n14_13 : ¬ p14 = p13 := by omega
  have s14 : w.heap.size ≤ p14 := by omega
  clear o4 w0
  clear hp13
  clear hp14
  clear hW
  clear z4 z0
  clear g2
  obtain ⟨c4, f4, z4⟩ := blk_cells b4
  obtain ⟨c13, f13, z13⟩ := blk_cells b13
  obtain ⟨c14, f14, z14⟩ := blk_cells b14
  refine wp_region_plan [.val (fr (N) (D)), .val (.int .i64 (low)), .val (fr (low) (1)), .val (.bool true), .val (.bool false), .val (.bool false), .off, .off, .off, .off, .off, .val (.bool false), .val (.bool false)] (by kernel_rfl) (by kernel_rfl) (fun G => by first | (simp only [finAct, Act.put, Plan.value, List.setIfInBounds_toArray, List.set_cons_zero, List.set_cons_succ]; rfl) | (simp only [finAct, Act.put, Plan.value, List.setIfInBounds_toArray, List.set_cons_zero, List.set_cons_succ, Nat.zero_add, Nat.reduceAdd]; rfl)) ?_ ?_
  · refine ⟨?_, ?_, ?_, ?_, ?_, ?_, ?_, ?_, ?_, ?_, ?_, ?_, ?_, trivial⟩ <;> (first | exact trivial | (intro G; first | (refine ⟨by kernel_rfl, fun u hu => ?_⟩; obtain ⟨hc, hf, hz⟩ := hu.cells; go_simp; first | exact ⟨rfl, Gr.refl _⟩ | skip) | (refine ⟨by kernel_rfl, fun u T z hu hG hj hb => ?_⟩; cases hj; obtain ⟨hbc, hbf, hbz⟩ := blk_cells hb; first | (refine ⟨_, ?_, ((GrL.of_gr (Gr.refl _)).set _ _ (Or.inr (by simp))).set _ _ (Or.inr (by simp)), put_two hb⟩; go_simp; done) | (refine ⟨_, ?_, (GrL.of_gr (Gr.refl _)).set _ _ (Or.inr (by simp)), put_one hb⟩; go_simp; done)) | (refine ⟨by kernel_rfl, fun u => ?_⟩; go_simp; done) | (show _ = false; kernel_rfl)))
    · exact F1.out _
    · exact L1.out _
  intro _ U3 hg _ _
  clear c4 f4 z4 c13 f13 z13 c14 f14 z14
  replace b4 := hg.heap b4
  replace b13 := hg.heap b13
  replace b14 := hg.heap b14
  have G := G.trans hg
  clear hg
  go_wp2_with fail
  refine (alive_any _ (HT.out.gr G)).mono ?_
  rintro e wz ⟨rfl, gz⟩
  obtain ⟨c4, f4, z4⟩ := blk_cells (gz.heap b4)
  obtain ⟨c13, f13, z13⟩ := blk_cells (gz.heap b13)
  obtain ⟨c14, f14, z14⟩ := blk_cells (gz.heap b14)
  go_wp2
  go_ret
  exact ⟨rfl, G.trans gz⟩
set_option maxRecDepth 100000 in
set_option maxHeartbeats 8000000 in
theorem RuleSafe_t_hi {a b c d low high n x y N D N' D' : Int} (w : World) (ht : Tab w) (S : Hid (Says 27 #[ru a b c d, .int .i64 low, .int .i64 high] (.tuple #[.int .i64 x, .int .i64 y, .bool true, .int .i64 0]))) (C : Hid (Says 45 #[ru a b c d, .int .i64 n] (.tuple #[fr N D, fr N' D', .int .i64 0]))) (F1 : Hid (Says 46 #[.int .i64 low, .int .i64 1] (fr low 1))) (L1 : Hid (Says 39 #[fr N D, fr low 1] (.bool true))) (h1 : x ≤ n) (h2 : ¬ n ≤ y) : Calls Tryd.prog 12 #[ru a b c d, .int .i64 low, .int .i64 high, .int .i64 n] w fun e w' => e = .returned (.bool true) ∧ Gr w w' := by
  have HT := Lib.hid ht
  clear ht
  go_enter Tryd.func12, Tryd.ntmps12
  go_wp2_with fail
  have G := Gr.refl w
  have b4 := heap_alloc_self w (.cells #[.int .i64 a, .int .i64 b, .int .i64 c, .int .i64 d] 34)
  replace G := G.alloc (.cells #[.int .i64 a, .int .i64 b, .int .i64 c, .int .i64 d] 34)
  generalize hW : (w.alloc (.cells #[.int .i64 a, .int .i64 b, .int .i64 c, .int .i64 d] 34)) = W1 at *
  have w0 : w.heap.size ≤ w.heap.size := Nat.le_refl _
  obtain ⟨p4, hp4⟩ : ∃ p4, w.heap.size = p4 := ⟨_, rfl⟩
  rw [hp4] at b4
  try simp only [hp4]
  have s4 : w.heap.size ≤ p4 := by omega
  clear  w0
  clear hp4
  clear hW
  refine (S.out _).mono ?_
  rintro e w1 ⟨rfl, g1⟩
  obtain ⟨c4, f4, z4⟩ := blk_cells (g1.heap b4)
  have z0 : w.heap.size ≤ w1.heap.size := (Gr.trans G g1).b.size
  go_wp2_with fail
  clear c4 f4
  replace b4 := g1.heap b4
  have G := G.trans g1
  clear z4 z0
  clear g1
  refine (C.out _).mono ?_
  rintro e w2 ⟨rfl, g2⟩
  obtain ⟨c4, f4, z4⟩ := blk_cells (g2.heap b4)
  have z0 : w.heap.size ≤ w2.heap.size := (Gr.trans G g2).b.size
  go_upto_region 5 with (fail)
  clear c4 f4
  replace b4 := g2.heap b4
  have G := G.trans g2
  replace b4 := ((Gr.refl _).alloc (.cells #[.int .i64 N, .int .i64 D] 23)).heap b4
  have b13 := heap_alloc_self w2 (.cells #[.int .i64 N, .int .i64 D] 23)
  replace G := G.alloc (.cells #[.int .i64 N, .int .i64 D] 23)
  replace b4 := ((Gr.refl _).alloc (.cells #[.int .i64 (N'), .int .i64 (D')] 23)).heap b4
  replace b13 := ((Gr.refl _).alloc (.cells #[.int .i64 (N'), .int .i64 (D')] 23)).heap b13
  have b14 := heap_alloc_self (w2.alloc (.cells #[.int .i64 N, .int .i64 D] 23)) (.cells #[.int .i64 (N'), .int .i64 (D')] 23)
  replace G := G.alloc (.cells #[.int .i64 (N'), .int .i64 (D')] 23)
  generalize hW : ((w2.alloc (.cells #[.int .i64 N, .int .i64 D] 23)).alloc (.cells #[.int .i64 (N'), .int .i64 (D')] 23)) = W3 at *
  simp only [World.size_alloc] at b14
  have o4 : p4 < w2.heap.size := z4
  have w0 : w.heap.size ≤ w2.heap.size := z0
  obtain ⟨p14, hp14⟩ : ∃ p14, w2.heap.size + 1 = p14 := ⟨_, rfl⟩
  obtain ⟨p13, hp13⟩ : ∃ p13, w2.heap.size = p13 := ⟨_, rfl⟩
  rw [hp14] at b14
  rw [hp13] at b13
  try simp only [hp14]
  try simp only [hp13]
  have n4_13 : ¬ p4 = p13 := by omega
  have n13_4 : ¬ p13 = p4 := by omega
  have s13 : w.heap.size ≤ p13 := by omega
  have n4_14 : ¬ p4 = p14 := by omega
  have n14_4 : ¬ p14 = p4 := by omega
  have n13_14 : ¬ p13 = p14 := by omega
  have n14_13 : ¬ p14 = p13 := by omega
  have s14 : w.heap.size ≤ p14 := by omega
  clear o4 w0
  clear hp13
  clear hp14
  clear hW
  clear z4 z0
  clear g2
  obtain ⟨c4, f4, z4⟩ := blk_cells b4
  obtain ⟨c13, f13, z13⟩ := blk_cells b13
  obtain ⟨c14, f14, z14⟩ := blk_cells b14
  refine wp_region_plan [.val (fr (N) (D)), .val (.int .i64 (low)), .val (fr (low) (1)), .val (.bool true), .val (.bool false), .val (.bool false), .off, .off, .off, .off, .off, .val (.bool false), .val (.bool false)] (by kernel_rfl) (by kernel_rfl) (fun G => by first | (simp only [finAct, Act.put, Plan.value, List.setIfInBounds_toArray, List.set_cons_zero, List.set_cons_succ]; rfl) | (simp only [finAct, Act.put, Plan.value, List.setIfInBounds_toArray, List.set_cons_zero, List.set_cons_succ, Nat.zero_add, Nat.reduceAdd]; rfl)) ?_ ?_
  · refine ⟨?_, ?_, ?_, ?_, ?_, ?_, ?_, ?_, ?_, ?_, ?_, ?_, ?_, trivial⟩ <;> (first | exact trivial | (intro G; first | (refine ⟨by kernel_rfl, fun u hu => ?_⟩; obtain ⟨hc, hf, hz⟩ := hu.cells; go_simp; first | exact ⟨rfl, Gr.refl _⟩ | skip) | (refine ⟨by kernel_rfl, fun u T z hu hG hj hb => ?_⟩; cases hj; obtain ⟨hbc, hbf, hbz⟩ := blk_cells hb; first | (refine ⟨_, ?_, ((GrL.of_gr (Gr.refl _)).set _ _ (Or.inr (by simp))).set _ _ (Or.inr (by simp)), put_two hb⟩; go_simp; done) | (refine ⟨_, ?_, (GrL.of_gr (Gr.refl _)).set _ _ (Or.inr (by simp)), put_one hb⟩; go_simp; done)) | (refine ⟨by kernel_rfl, fun u => ?_⟩; go_simp; done) | (show _ = false; kernel_rfl)))
    · exact F1.out _
    · exact L1.out _
  intro _ U3 hg _ _
  clear c4 f4 z4 c13 f13 z13 c14 f14 z14
  replace b4 := hg.heap b4
  replace b13 := hg.heap b13
  replace b14 := hg.heap b14
  have G := G.trans hg
  clear hg
  go_wp2_with fail
  refine (alive_any _ (HT.out.gr G)).mono ?_
  rintro e wz ⟨rfl, gz⟩
  obtain ⟨c4, f4, z4⟩ := blk_cells (gz.heap b4)
  obtain ⟨c13, f13, z13⟩ := blk_cells (gz.heap b13)
  obtain ⟨c14, f14, z14⟩ := blk_cells (gz.heap b14)
  go_wp2
  go_ret
  exact ⟨ret_bool (by simp; omega), G.trans gz⟩
set_option maxRecDepth 100000 in
set_option maxHeartbeats 8000000 in
theorem RuleSafe_ft_no {a b c d low high n N D N' D' : Int} (w : World) (ht : Tab w) (S : Hid (Says 27 #[ru a b c d, .int .i64 low, .int .i64 high] (.tuple #[.int .i64 0, .int .i64 0, .bool false, .int .i64 0]))) (C : Hid (Says 45 #[ru a b c d, .int .i64 n] (.tuple #[fr N D, fr N' D', .int .i64 0]))) (F1 : Hid (Says 46 #[.int .i64 low, .int .i64 1] (fr low 1))) (L1 : Hid (Says 39 #[fr N D, fr low 1] (.bool false))) (F2 : Hid (Says 46 #[.int .i64 high, .int .i64 1] (fr high 1))) (L2 : Hid (Says 39 #[fr high 1, fr N' D'] (.bool true))) : Calls Tryd.prog 12 #[ru a b c d, .int .i64 low, .int .i64 high, .int .i64 n] w fun e w' => e = .returned (.bool true) ∧ Gr w w' := by
  have HT := Lib.hid ht
  clear ht
  go_enter Tryd.func12, Tryd.ntmps12
  go_wp2_with fail
  have G := Gr.refl w
  have b4 := heap_alloc_self w (.cells #[.int .i64 a, .int .i64 b, .int .i64 c, .int .i64 d] 34)
  replace G := G.alloc (.cells #[.int .i64 a, .int .i64 b, .int .i64 c, .int .i64 d] 34)
  generalize hW : (w.alloc (.cells #[.int .i64 a, .int .i64 b, .int .i64 c, .int .i64 d] 34)) = W1 at *
  have w0 : w.heap.size ≤ w.heap.size := Nat.le_refl _
  obtain ⟨p4, hp4⟩ : ∃ p4, w.heap.size = p4 := ⟨_, rfl⟩
  rw [hp4] at b4
  try simp only [hp4]
  have s4 : w.heap.size ≤ p4 := by omega
  clear  w0
  clear hp4
  clear hW
  refine (S.out _).mono ?_
  rintro e w1 ⟨rfl, g1⟩
  obtain ⟨c4, f4, z4⟩ := blk_cells (g1.heap b4)
  have z0 : w.heap.size ≤ w1.heap.size := (Gr.trans G g1).b.size
  go_wp2_with fail
  clear c4 f4
  replace b4 := g1.heap b4
  have G := G.trans g1
  clear z4 z0
  clear g1
  refine (C.out _).mono ?_
  rintro e w2 ⟨rfl, g2⟩
  obtain ⟨c4, f4, z4⟩ := blk_cells (g2.heap b4)
  have z0 : w.heap.size ≤ w2.heap.size := (Gr.trans G g2).b.size
  go_upto_region 5 with (fail)
  clear c4 f4
  replace b4 := g2.heap b4
  have G := G.trans g2
  replace b4 := ((Gr.refl _).alloc (.cells #[.int .i64 N, .int .i64 D] 23)).heap b4
  have b13 := heap_alloc_self w2 (.cells #[.int .i64 N, .int .i64 D] 23)
  replace G := G.alloc (.cells #[.int .i64 N, .int .i64 D] 23)
  replace b4 := ((Gr.refl _).alloc (.cells #[.int .i64 (N'), .int .i64 (D')] 23)).heap b4
  replace b13 := ((Gr.refl _).alloc (.cells #[.int .i64 (N'), .int .i64 (D')] 23)).heap b13
  have b14 := heap_alloc_self (w2.alloc (.cells #[.int .i64 N, .int .i64 D] 23)) (.cells #[.int .i64 (N'), .int .i64 (D')] 23)
  replace G := G.alloc (.cells #[.int .i64 (N'), .int .i64 (D')] 23)
  generalize hW : ((w2.alloc (.cells #[.int .i64 N, .int .i64 D] 23)).alloc (.cells #[.int .i64 (N'), .int .i64 (D')] 23)) = W3 at *
  simp only [World.size_alloc] at b14
  have o4 : p4 < w2.heap.size := z4
  have w0 : w.heap.size ≤ w2.heap.size := z0
  obtain ⟨p14, hp14⟩ : ∃ p14, w2.heap.size + 1 = p14 := ⟨_, rfl⟩
  obtain ⟨p13, hp13⟩ : ∃ p13, w2.heap.size = p13 := ⟨_, rfl⟩
  rw [hp14] at b14
  rw [hp13] at b13
  try simp only [hp14]
  try simp only [hp13]
  have n4_13 : ¬ p4 = p13 := by omega
  have n13_4 : ¬ p13 = p4 := by omega
  have s13 : w.heap.size ≤ p13 := by omega
  have n4_14 : ¬ p4 = p14 := by omega
  have n14_4 : ¬ p14 = p4 := by omega
  have n13_14 : ¬ p13 = p14 := by omega
  have n14_13 : ¬ p14 = p13 := by omega
  have s14 : w.heap.size ≤ p14 := by omega
  clear o4 w0
  clear hp13
  clear hp14
  clear hW
  clear z4 z0
  clear g2
  obtain ⟨c4, f4, z4⟩ := blk_cells b4
  obtain ⟨c13, f13, z13⟩ := blk_cells b13
  obtain ⟨c14, f14, z14⟩ := blk_cells b14
  refine wp_region_plan [.val (fr (N) (D)), .val (.int .i64 (low)), .val (fr (low) (1)), .val (.bool false), .val (.bool true), .val (.bool true), .val (.int .i64 (high)), .val (fr (high) (1)), .val (fr (N') (D')), .val (.bool true), .val (.bool false), .val (.bool false), .val (.bool false)] (by kernel_rfl) (by kernel_rfl) (fun G => by first | (simp only [finAct, Act.put, Plan.value, List.setIfInBounds_toArray, List.set_cons_zero, List.set_cons_succ]; rfl) | (simp only [finAct, Act.put, Plan.value, List.setIfInBounds_toArray, List.set_cons_zero, List.set_cons_succ, Nat.zero_add, Nat.reduceAdd]; rfl)) ?_ ?_
  · refine ⟨?_, ?_, ?_, ?_, ?_, ?_, ?_, ?_, ?_, ?_, ?_, ?_, ?_, trivial⟩ <;> (first | exact trivial | (intro G; first | (refine ⟨by kernel_rfl, fun u hu => ?_⟩; obtain ⟨hc, hf, hz⟩ := hu.cells; go_simp; first | exact ⟨rfl, Gr.refl _⟩ | skip) | (refine ⟨by kernel_rfl, fun u T z hu hG hj hb => ?_⟩; cases hj; obtain ⟨hbc, hbf, hbz⟩ := blk_cells hb; first | (refine ⟨_, ?_, ((GrL.of_gr (Gr.refl _)).set _ _ (Or.inr (by simp))).set _ _ (Or.inr (by simp)), put_two hb⟩; go_simp; done) | (refine ⟨_, ?_, (GrL.of_gr (Gr.refl _)).set _ _ (Or.inr (by simp)), put_one hb⟩; go_simp; done)) | (refine ⟨by kernel_rfl, fun u => ?_⟩; go_simp; done) | (show _ = false; kernel_rfl)))
    · exact F1.out _
    · exact L1.out _
    · exact F2.out _
    · exact L2.out _
  intro _ U3 hg _ _
  clear c4 f4 z4 c13 f13 z13 c14 f14 z14
  replace b4 := hg.heap b4
  replace b13 := hg.heap b13
  replace b14 := hg.heap b14
  have G := G.trans hg
  clear hg
  go_wp2_with fail
  refine (alive_any _ (HT.out.gr G)).mono ?_
  rintro e wz ⟨rfl, gz⟩
  obtain ⟨c4, f4, z4⟩ := blk_cells (gz.heap b4)
  obtain ⟨c13, f13, z13⟩ := blk_cells (gz.heap b13)
  obtain ⟨c14, f14, z14⟩ := blk_cells (gz.heap b14)
  go_wp2
  go_ret
  exact ⟨rfl, G.trans gz⟩
set_option maxRecDepth 100000 in
set_option maxHeartbeats 8000000 in
theorem RuleSafe_ft_lo {a b c d low high n x y N D N' D' : Int} (w : World) (ht : Tab w) (S : Hid (Says 27 #[ru a b c d, .int .i64 low, .int .i64 high] (.tuple #[.int .i64 x, .int .i64 y, .bool true, .int .i64 0]))) (C : Hid (Says 45 #[ru a b c d, .int .i64 n] (.tuple #[fr N D, fr N' D', .int .i64 0]))) (F1 : Hid (Says 46 #[.int .i64 low, .int .i64 1] (fr low 1))) (L1 : Hid (Says 39 #[fr N D, fr low 1] (.bool false))) (F2 : Hid (Says 46 #[.int .i64 high, .int .i64 1] (fr high 1))) (L2 : Hid (Says 39 #[fr high 1, fr N' D'] (.bool true))) (h1 : ¬ x ≤ n) : Calls Tryd.prog 12 #[ru a b c d, .int .i64 low, .int .i64 high, .int .i64 n] w fun e w' => e = .returned (.bool true) ∧ Gr w w' := by
  have HT := Lib.hid ht
  clear ht
  go_enter Tryd.func12, Tryd.ntmps12
  go_wp2_with fail
  have G := Gr.refl w
  have b4 := heap_alloc_self w (.cells #[.int .i64 a, .int .i64 b, .int .i64 c, .int .i64 d] 34)
  replace G := G.alloc (.cells #[.int .i64 a, .int .i64 b, .int .i64 c, .int .i64 d] 34)
  generalize hW : (w.alloc (.cells #[.int .i64 a, .int .i64 b, .int .i64 c, .int .i64 d] 34)) = W1 at *
  have w0 : w.heap.size ≤ w.heap.size := Nat.le_refl _
  obtain ⟨p4, hp4⟩ : ∃ p4, w.heap.size = p4 := ⟨_, rfl⟩
  rw [hp4] at b4
  try simp only [hp4]
  have s4 : w.heap.size ≤ p4 := by omega
  clear  w0
  clear hp4
  clear hW
  refine (S.out _).mono ?_
  rintro e w1 ⟨rfl, g1⟩
  obtain ⟨c4, f4, z4⟩ := blk_cells (g1.heap b4)
  have z0 : w.heap.size ≤ w1.heap.size := (Gr.trans G g1).b.size
  go_wp2_with fail
  clear c4 f4
  replace b4 := g1.heap b4
  have G := G.trans g1
  clear z4 z0
  clear g1
  refine (C.out _).mono ?_
  rintro e w2 ⟨rfl, g2⟩
  obtain ⟨c4, f4, z4⟩ := blk_cells (g2.heap b4)
  have z0 : w.heap.size ≤ w2.heap.size := (Gr.trans G g2).b.size
  go_upto_region 5 with (fail)
  clear c4 f4
  replace b4 := g2.heap b4
  have G := G.trans g2
  replace b4 := ((Gr.refl _).alloc (.cells #[.int .i64 N, .int .i64 D] 23)).heap b4
  have b13 := heap_alloc_self w2 (.cells #[.int .i64 N, .int .i64 D] 23)
  replace G := G.alloc (.cells #[.int .i64 N, .int .i64 D] 23)
  replace b4 := ((Gr.refl _).alloc (.cells #[.int .i64 (N'), .int .i64 (D')] 23)).heap b4
  replace b13 := ((Gr.refl _).alloc (.cells #[.int .i64 (N'), .int .i64 (D')] 23)).heap b13
  have b14 := heap_alloc_self (w2.alloc (.cells #[.int .i64 N, .int .i64 D] 23)) (.cells #[.int .i64 (N'), .int .i64 (D')] 23)
  replace G := G.alloc (.cells #[.int .i64 (N'), .int .i64 (D')] 23)
  generalize hW : ((w2.alloc (.cells #[.int .i64 N, .int .i64 D] 23)).alloc (.cells #[.int .i64 (N'), .int .i64 (D')] 23)) = W3 at *
  simp only [World.size_alloc] at b14
  have o4 : p4 < w2.heap.size := z4
  have w0 : w.heap.size ≤ w2.heap.size := z0
  obtain ⟨p14, hp14⟩ : ∃ p14, w2.heap.size + 1 = p14 := ⟨_, rfl⟩
  obtain ⟨p13, hp13⟩ : ∃ p13, w2.heap.size = p13 := ⟨_, rfl⟩
  rw [hp14] at b14
  rw [hp13] at b13
  try simp only [hp14]
  try simp only [hp13]
  have n4_13 : ¬ p4 = p13 := by omega
  have n13_4 : ¬ p13 = p4 := by omega
  have s13 : w.heap.size ≤ p13 := by omega
  have n4_14 : ¬ p4 = p14 := by omega
  have n14_4 : ¬ p14 = p4 := by omega
  have n13_14 : ¬ p13 = p14 := by omega
  have n14_13 : ¬ p14 = p13 := by omega
  have s14 : w.heap.size ≤ p14 := by omega
  clear o4 w0
  clear hp13
  clear hp14
  clear hW
  clear z4 z0
  clear g2
  obtain ⟨c4, f4, z4⟩ := blk_cells b4
  obtain ⟨c13, f13, z13⟩ := blk_cells b13
  obtain ⟨c14, f14, z14⟩ := blk_cells b14
  refine wp_region_plan [.val (fr (N) (D)), .val (.int .i64 (low)), .val (fr (low) (1)), .val (.bool false), .val (.bool true), .val (.bool true), .val (.int .i64 (high)), .val (fr (high) (1)), .val (fr (N') (D')), .val (.bool true), .val (.bool false), .val (.bool false), .val (.bool false)] (by kernel_rfl) (by kernel_rfl) (fun G => by first | (simp only [finAct, Act.put, Plan.value, List.setIfInBounds_toArray, List.set_cons_zero, List.set_cons_succ]; rfl) | (simp only [finAct, Act.put, Plan.value, List.setIfInBounds_toArray, List.set_cons_zero, List.set_cons_succ, Nat.zero_add, Nat.reduceAdd]; rfl)) ?_ ?_
  · refine ⟨?_, ?_, ?_, ?_, ?_, ?_, ?_, ?_, ?_, ?_, ?_, ?_, ?_, trivial⟩ <;> (first | exact trivial | (intro G; first | (refine ⟨by kernel_rfl, fun u hu => ?_⟩; obtain ⟨hc, hf, hz⟩ := hu.cells; go_simp; first | exact ⟨rfl, Gr.refl _⟩ | skip) | (refine ⟨by kernel_rfl, fun u T z hu hG hj hb => ?_⟩; cases hj; obtain ⟨hbc, hbf, hbz⟩ := blk_cells hb; first | (refine ⟨_, ?_, ((GrL.of_gr (Gr.refl _)).set _ _ (Or.inr (by simp))).set _ _ (Or.inr (by simp)), put_two hb⟩; go_simp; done) | (refine ⟨_, ?_, (GrL.of_gr (Gr.refl _)).set _ _ (Or.inr (by simp)), put_one hb⟩; go_simp; done)) | (refine ⟨by kernel_rfl, fun u => ?_⟩; go_simp; done) | (show _ = false; kernel_rfl)))
    · exact F1.out _
    · exact L1.out _
    · exact F2.out _
    · exact L2.out _
  intro _ U3 hg _ _
  clear c4 f4 z4 c13 f13 z13 c14 f14 z14
  replace b4 := hg.heap b4
  replace b13 := hg.heap b13
  replace b14 := hg.heap b14
  have G := G.trans hg
  clear hg
  go_wp2_with fail
  refine (alive_any _ (HT.out.gr G)).mono ?_
  rintro e wz ⟨rfl, gz⟩
  obtain ⟨c4, f4, z4⟩ := blk_cells (gz.heap b4)
  obtain ⟨c13, f13, z13⟩ := blk_cells (gz.heap b13)
  obtain ⟨c14, f14, z14⟩ := blk_cells (gz.heap b14)
  go_wp2
  go_ret
  exact ⟨rfl, G.trans gz⟩
set_option maxRecDepth 100000 in
set_option maxHeartbeats 8000000 in
theorem RuleSafe_ft_hi {a b c d low high n x y N D N' D' : Int} (w : World) (ht : Tab w) (S : Hid (Says 27 #[ru a b c d, .int .i64 low, .int .i64 high] (.tuple #[.int .i64 x, .int .i64 y, .bool true, .int .i64 0]))) (C : Hid (Says 45 #[ru a b c d, .int .i64 n] (.tuple #[fr N D, fr N' D', .int .i64 0]))) (F1 : Hid (Says 46 #[.int .i64 low, .int .i64 1] (fr low 1))) (L1 : Hid (Says 39 #[fr N D, fr low 1] (.bool false))) (F2 : Hid (Says 46 #[.int .i64 high, .int .i64 1] (fr high 1))) (L2 : Hid (Says 39 #[fr high 1, fr N' D'] (.bool true))) (h1 : x ≤ n) (h2 : ¬ n ≤ y) : Calls Tryd.prog 12 #[ru a b c d, .int .i64 low, .int .i64 high, .int .i64 n] w fun e w' => e = .returned (.bool true) ∧ Gr w w' := by
  have HT := Lib.hid ht
  clear ht
  go_enter Tryd.func12, Tryd.ntmps12
  go_wp2_with fail
  have G := Gr.refl w
  have b4 := heap_alloc_self w (.cells #[.int .i64 a, .int .i64 b, .int .i64 c, .int .i64 d] 34)
  replace G := G.alloc (.cells #[.int .i64 a, .int .i64 b, .int .i64 c, .int .i64 d] 34)
  generalize hW : (w.alloc (.cells #[.int .i64 a, .int .i64 b, .int .i64 c, .int .i64 d] 34)) = W1 at *
  have w0 : w.heap.size ≤ w.heap.size := Nat.le_refl _
  obtain ⟨p4, hp4⟩ : ∃ p4, w.heap.size = p4 := ⟨_, rfl⟩
  rw [hp4] at b4
  try simp only [hp4]
  have s4 : w.heap.size ≤ p4 := by omega
  clear  w0
  clear hp4
  clear hW
  refine (S.out _).mono ?_
  rintro e w1 ⟨rfl, g1⟩
  obtain ⟨c4, f4, z4⟩ := blk_cells (g1.heap b4)
  have z0 : w.heap.size ≤ w1.heap.size := (Gr.trans G g1).b.size
  go_wp2_with fail
  clear c4 f4
  replace b4 := g1.heap b4
  have G := G.trans g1
  clear z4 z0
  clear g1
  refine (C.out _).mono ?_
  rintro e w2 ⟨rfl, g2⟩
  obtain ⟨c4, f4, z4⟩ := blk_cells (g2.heap b4)
  have z0 : w.heap.size ≤ w2.heap.size := (Gr.trans G g2).b.size
  go_upto_region 5 with (fail)
  clear c4 f4
  replace b4 := g2.heap b4
  have G := G.trans g2
  replace b4 := ((Gr.refl _).alloc (.cells #[.int .i64 N, .int .i64 D] 23)).heap b4
  have b13 := heap_alloc_self w2 (.cells #[.int .i64 N, .int .i64 D] 23)
  replace G := G.alloc (.cells #[.int .i64 N, .int .i64 D] 23)
  replace b4 := ((Gr.refl _).alloc (.cells #[.int .i64 (N'), .int .i64 (D')] 23)).heap b4
  replace b13 := ((Gr.refl _).alloc (.cells #[.int .i64 (N'), .int .i64 (D')] 23)).heap b13
  have b14 := heap_alloc_self (w2.alloc (.cells #[.int .i64 N, .int .i64 D] 23)) (.cells #[.int .i64 (N'), .int .i64 (D')] 23)
  replace G := G.alloc (.cells #[.int .i64 (N'), .int .i64 (D')] 23)
  generalize hW : ((w2.alloc (.cells #[.int .i64 N, .int .i64 D] 23)).alloc (.cells #[.int .i64 (N'), .int .i64 (D')] 23)) = W3 at *
  simp only [World.size_alloc] at b14
  have o4 : p4 < w2.heap.size := z4
  have w0 : w.heap.size ≤ w2.heap.size := z0
  obtain ⟨p14, hp14⟩ : ∃ p14, w2.heap.size + 1 = p14 := ⟨_, rfl⟩
  obtain ⟨p13, hp13⟩ : ∃ p13, w2.heap.size = p13 := ⟨_, rfl⟩
  rw [hp14] at b14
  rw [hp13] at b13
  try simp only [hp14]
  try simp only [hp13]
  have n4_13 : ¬ p4 = p13 := by omega
  have n13_4 : ¬ p13 = p4 := by omega
  have s13 : w.heap.size ≤ p13 := by omega
  have n4_14 : ¬ p4 = p14 := by omega
  have n14_4 : ¬ p14 = p4 := by omega
  have n13_14 : ¬ p13 = p14 := by omega
  have n14_13 : ¬ p14 = p13 := by omega
  have s14 : w.heap.size ≤ p14 := by omega
  clear o4 w0
  clear hp13
  clear hp14
  clear hW
  clear z4 z0
  clear g2
  obtain ⟨c4, f4, z4⟩ := blk_cells b4
  obtain ⟨c13, f13, z13⟩ := blk_cells b13
  obtain ⟨c14, f14, z14⟩ := blk_cells b14
  refine wp_region_plan [.val (fr (N) (D)), .val (.int .i64 (low)), .val (fr (low) (1)), .val (.bool false), .val (.bool true), .val (.bool true), .val (.int .i64 (high)), .val (fr (high) (1)), .val (fr (N') (D')), .val (.bool true), .val (.bool false), .val (.bool false), .val (.bool false)] (by kernel_rfl) (by kernel_rfl) (fun G => by first | (simp only [finAct, Act.put, Plan.value, List.setIfInBounds_toArray, List.set_cons_zero, List.set_cons_succ]; rfl) | (simp only [finAct, Act.put, Plan.value, List.setIfInBounds_toArray, List.set_cons_zero, List.set_cons_succ, Nat.zero_add, Nat.reduceAdd]; rfl)) ?_ ?_
  · refine ⟨?_, ?_, ?_, ?_, ?_, ?_, ?_, ?_, ?_, ?_, ?_, ?_, ?_, trivial⟩ <;> (first | exact trivial | (intro G; first | (refine ⟨by kernel_rfl, fun u hu => ?_⟩; obtain ⟨hc, hf, hz⟩ := hu.cells; go_simp; first | exact ⟨rfl, Gr.refl _⟩ | skip) | (refine ⟨by kernel_rfl, fun u T z hu hG hj hb => ?_⟩; cases hj; obtain ⟨hbc, hbf, hbz⟩ := blk_cells hb; first | (refine ⟨_, ?_, ((GrL.of_gr (Gr.refl _)).set _ _ (Or.inr (by simp))).set _ _ (Or.inr (by simp)), put_two hb⟩; go_simp; done) | (refine ⟨_, ?_, (GrL.of_gr (Gr.refl _)).set _ _ (Or.inr (by simp)), put_one hb⟩; go_simp; done)) | (refine ⟨by kernel_rfl, fun u => ?_⟩; go_simp; done) | (show _ = false; kernel_rfl)))
    · exact F1.out _
    · exact L1.out _
    · exact F2.out _
    · exact L2.out _
  intro _ U3 hg _ _
  clear c4 f4 z4 c13 f13 z13 c14 f14 z14
  replace b4 := hg.heap b4
  replace b13 := hg.heap b13
  replace b14 := hg.heap b14
  have G := G.trans hg
  clear hg
  go_wp2_with fail
  refine (alive_any _ (HT.out.gr G)).mono ?_
  rintro e wz ⟨rfl, gz⟩
  obtain ⟨c4, f4, z4⟩ := blk_cells (gz.heap b4)
  obtain ⟨c13, f13, z13⟩ := blk_cells (gz.heap b13)
  obtain ⟨c14, f14, z14⟩ := blk_cells (gz.heap b14)
  go_wp2
  go_ret
  exact ⟨ret_bool (by simp; omega), G.trans gz⟩
set_option maxRecDepth 100000 in
set_option maxHeartbeats 8000000 in
theorem RuleSafe_ff_in {a b c d low high n x y N D N' D' : Int} (w : World) (ht : Tab w) (S : Hid (Says 27 #[ru a b c d, .int .i64 low, .int .i64 high] (.tuple #[.int .i64 x, .int .i64 y, .bool true, .int .i64 0]))) (C : Hid (Says 45 #[ru a b c d, .int .i64 n] (.tuple #[fr N D, fr N' D', .int .i64 0]))) (F1 : Hid (Says 46 #[.int .i64 low, .int .i64 1] (fr low 1))) (L1 : Hid (Says 39 #[fr N D, fr low 1] (.bool false))) (F2 : Hid (Says 46 #[.int .i64 high, .int .i64 1] (fr high 1))) (L2 : Hid (Says 39 #[fr high 1, fr N' D'] (.bool false))) (h1 : x ≤ n) (h2 : n ≤ y) : Calls Tryd.prog 12 #[ru a b c d, .int .i64 low, .int .i64 high, .int .i64 n] w fun e w' => e = .returned (.bool true) ∧ Gr w w' := by
  have HT := Lib.hid ht
  clear ht
  go_enter Tryd.func12, Tryd.ntmps12
  go_wp2_with fail
  have G := Gr.refl w
  have b4 := heap_alloc_self w (.cells #[.int .i64 a, .int .i64 b, .int .i64 c, .int .i64 d] 34)
  replace G := G.alloc (.cells #[.int .i64 a, .int .i64 b, .int .i64 c, .int .i64 d] 34)
  generalize hW : (w.alloc (.cells #[.int .i64 a, .int .i64 b, .int .i64 c, .int .i64 d] 34)) = W1 at *
  have w0 : w.heap.size ≤ w.heap.size := Nat.le_refl _
  obtain ⟨p4, hp4⟩ : ∃ p4, w.heap.size = p4 := ⟨_, rfl⟩
  rw [hp4] at b4
  try simp only [hp4]
  have s4 : w.heap.size ≤ p4 := by omega
  clear  w0
  clear hp4
  clear hW
  refine (S.out _).mono ?_
  rintro e w1 ⟨rfl, g1⟩
  obtain ⟨c4, f4, z4⟩ := blk_cells (g1.heap b4)
  have z0 : w.heap.size ≤ w1.heap.size := (Gr.trans G g1).b.size
  go_wp2_with fail
  clear c4 f4
  replace b4 := g1.heap b4
  have G := G.trans g1
  clear z4 z0
  clear g1
  refine (C.out _).mono ?_
  rintro e w2 ⟨rfl, g2⟩
  obtain ⟨c4, f4, z4⟩ := blk_cells (g2.heap b4)
  have z0 : w.heap.size ≤ w2.heap.size := (Gr.trans G g2).b.size
  go_upto_region 5 with (fail)
  clear c4 f4
  replace b4 := g2.heap b4
  have G := G.trans g2
  replace b4 := ((Gr.refl _).alloc (.cells #[.int .i64 N, .int .i64 D] 23)).heap b4
  have b13 := heap_alloc_self w2 (.cells #[.int .i64 N, .int .i64 D] 23)
  replace G := G.alloc (.cells #[.int .i64 N, .int .i64 D] 23)
  replace b4 := ((Gr.refl _).alloc (.cells #[.int .i64 (N'), .int .i64 (D')] 23)).heap b4
  replace b13 := ((Gr.refl _).alloc (.cells #[.int .i64 (N'), .int .i64 (D')] 23)).heap b13
  have b14 := heap_alloc_self (w2.alloc (.cells #[.int .i64 N, .int .i64 D] 23)) (.cells #[.int .i64 (N'), .int .i64 (D')] 23)
  replace G := G.alloc (.cells #[.int .i64 (N'), .int .i64 (D')] 23)
  generalize hW : ((w2.alloc (.cells #[.int .i64 N, .int .i64 D] 23)).alloc (.cells #[.int .i64 (N'), .int .i64 (D')] 23)) = W3 at *
  simp only [World.size_alloc] at b14
  have o4 : p4 < w2.heap.size := z4
  have w0 : w.heap.size ≤ w2.heap.size := z0
  obtain ⟨p14, hp14⟩ : ∃ p14, w2.heap.size + 1 = p14 := ⟨_, rfl⟩
  obtain ⟨p13, hp13⟩ : ∃ p13, w2.heap.size = p13 := ⟨_, rfl⟩
  rw [hp14] at b14
  rw [hp13] at b13
  try simp only [hp14]
  try simp only [hp13]
  have n4_13 : ¬ p4 = p13 := by omega
  have n13_4 : ¬ p13 = p4 := by omega
  have s13 : w.heap.size ≤ p13 := by omega
  have n4_14 : ¬ p4 = p14 := by omega
  have n14_4 : ¬ p14 = p4 := by omega
  have n13_14 : ¬ p13 = p14 := by omega
  have n14_13 : ¬ p14 = p13 := by omega
  have s14 : w.heap.size ≤ p14 := by omega
  clear o4 w0
  clear hp13
  clear hp14
  clear hW
  clear z4 z0
  clear g2
  obtain ⟨c4, f4, z4⟩ := blk_cells b4
  obtain ⟨c13, f13, z13⟩ := blk_cells b13
  obtain ⟨c14, f14, z14⟩ := blk_cells b14
  refine wp_region_plan [.val (fr (N) (D)), .val (.int .i64 (low)), .val (fr (low) (1)), .val (.bool false), .val (.bool true), .val (.bool true), .val (.int .i64 (high)), .val (fr (high) (1)), .val (fr (N') (D')), .val (.bool false), .val (.bool true), .val (.bool true), .val (.bool true)] (by kernel_rfl) (by kernel_rfl) (fun G => by first | (simp only [finAct, Act.put, Plan.value, List.setIfInBounds_toArray, List.set_cons_zero, List.set_cons_succ]; rfl) | (simp only [finAct, Act.put, Plan.value, List.setIfInBounds_toArray, List.set_cons_zero, List.set_cons_succ, Nat.zero_add, Nat.reduceAdd]; rfl)) ?_ ?_
  · refine ⟨?_, ?_, ?_, ?_, ?_, ?_, ?_, ?_, ?_, ?_, ?_, ?_, ?_, trivial⟩ <;> (first | exact trivial | (intro G; first | (refine ⟨by kernel_rfl, fun u hu => ?_⟩; obtain ⟨hc, hf, hz⟩ := hu.cells; go_simp; first | exact ⟨rfl, Gr.refl _⟩ | skip) | (refine ⟨by kernel_rfl, fun u T z hu hG hj hb => ?_⟩; cases hj; obtain ⟨hbc, hbf, hbz⟩ := blk_cells hb; first | (refine ⟨_, ?_, ((GrL.of_gr (Gr.refl _)).set _ _ (Or.inr (by simp))).set _ _ (Or.inr (by simp)), put_two hb⟩; go_simp; done) | (refine ⟨_, ?_, (GrL.of_gr (Gr.refl _)).set _ _ (Or.inr (by simp)), put_one hb⟩; go_simp; done)) | (refine ⟨by kernel_rfl, fun u => ?_⟩; go_simp; done) | (show _ = false; kernel_rfl)))
    · exact F1.out _
    · exact L1.out _
    · exact F2.out _
    · exact L2.out _
  intro _ U3 hg _ _
  clear c4 f4 z4 c13 f13 z13 c14 f14 z14
  replace b4 := hg.heap b4
  replace b13 := hg.heap b13
  replace b14 := hg.heap b14
  have G := G.trans hg
  clear hg
  go_wp2_with fail
  refine (alive_any _ (HT.out.gr G)).mono ?_
  rintro e wz ⟨rfl, gz⟩
  obtain ⟨c4, f4, z4⟩ := blk_cells (gz.heap b4)
  obtain ⟨c13, f13, z13⟩ := blk_cells (gz.heap b13)
  obtain ⟨c14, f14, z14⟩ := blk_cells (gz.heap b14)
  go_wp2
  go_ret
  exact ⟨rfl, G.trans gz⟩
theorem less_low {P d low : Int} (hd : 1 ≤ d) (hk : Rm.okR P d = true) (l1 : 1 ≤ low) (l2 : low ≤ 1000000) : lessB (Rm.redN P d) (Rm.redD P d) low 1 = decide (P < low*d) := by
  have e1 : Rm.okF (Rm.redN P d) (Rm.redD P d) = true := (Rm.okF_red hd).trans hk
  have e2 : Rm.okF low 1 = true := by rw [Rm.okF_iff]; exact ⟨by omega, by omega, by omega, by omega, by simp⟩
  have c := @Rm.cross_lt P d low 1 hd (by omega)
  rw [(Rm.redN_one low).1, (Rm.redN_one low).2, Int.mul_one, Int.mul_one] at c
  unfold lessB ok2
  rw [e1, e2, Int.mul_one]
  simp only [Bool.and_self, Bool.true_and]
  exact decide_eq_decide.2 c
theorem less_high {Q b high : Int} (hb : 1 ≤ b) (hk : Rm.okR Q b = true) (l1 : 1 ≤ high) (l2 : high ≤ 1000000) : lessB high 1 (Rm.redN Q b) (Rm.redD Q b) = decide (high*b < Q) := by
  have e1 : Rm.okF (Rm.redN Q b) (Rm.redD Q b) = true := (Rm.okF_red hb).trans hk
  have e2 : Rm.okF high 1 = true := by rw [Rm.okF_iff]; exact ⟨by omega, by omega, by omega, by omega, by simp⟩
  have c := @Rm.cross_lt high 1 Q b (by omega) hb
  rw [(Rm.redN_one high).1, (Rm.redN_one high).2, Int.mul_one, Int.mul_one] at c
  unfold lessB ok2
  rw [e1, e2, Int.mul_one]
  simp only [Bool.and_self, Bool.true_and]
  exact decide_eq_decide.2 c
theorem RuleSafe_any (a b c d low high n : Int) (w : World) (ht : Tab w) : Calls Tryd.prog 12 #[ru a b c d, .int .i64 low, .int .i64 high, .int .i64 n] w fun e w' => e = .returned (.bool true) ∧ Gr w w' := by
  have S := Sizes_any a b c d low high
  have C := Cast_any a b c d n
  by_cases hE : szE a b c d low high = 0
  · cases hc : caOk a b c d n
    · rw [hc, Rm.err_false rfl] at C
      rw [hE] at S
      generalize szB a b c d low high = B at *
      cases B
      · exact RuleSafe_bad2f w ht (Lib.hid S) (Lib.hid C) (by decide)
      · exact RuleSafe_bad2t w ht (Lib.hid S) (Lib.hid C) (by decide)
    · have e : ∀ x, caV a b c d n x = x := fun x => by simp [caV, hc]
      simp only [e] at C
      rw [hc, Rm.err_true rfl] at C
      rw [hE] at S
      have hk : (ruOk a b c d && (szOk low && szOk high)) = true ∧ ¬ high < low := by
        unfold szE at hE
        split at hE
        · rename_i h
          refine ⟨h, ?_⟩
          split at hE
          · cases hE
          · assumption
        · cases hE
      simp only [caOk, szOk, Bool.and_eq_true, decide_eq_true_eq] at hk hc
      obtain ⟨⟨hr, ⟨l1, l2⟩, g1, g2⟩, ho⟩ := hk
      obtain ⟨_, n1, n2⟩ := hc
      have Rr := RuB.of hr
      have hab : 1 ≤ b - a := by have := Rr.ab; have := Rr.b1; omega
      have hcd : 1 ≤ d - c := by have := Rr.cd; have := Rr.d1; omega
      have x1 := left_bd n1 n2 Rr.a0 Rr.b1 Rr.b2 Rr.ab
      have x2 := left_bd n1 n2 Rr.c0 Rr.d1 Rr.d2 Rr.cd
      have b1 := Rr.b1
      have d1 := Rr.d1
      have b2 := Rr.b2
      have d2 := Rr.d2
      have k1 := Rm.okR_of (n := n*(d-c)) (d := d) (by omega) (by omega) d1 (by omega)
      have k2 := Rm.okR_of (n := n*(b-a)) (d := b) (by omega) (by omega) b1 (by omega)
      have L1 := less_any (Rm.redN (n*(d-c)) d) (Rm.redD (n*(d-c)) d) low 1
      have L2 := less_any high 1 (Rm.redN (n*(b-a)) b) (Rm.redD (n*(b-a)) b)
      rw [less_low d1 k1 l1 l2] at L1
      rw [less_high b1 k2 g1 g2] at L2
      have F1 := law_f low 1
      have F2 := law_f high 1
      have p1 : n*(d-c) < low*d ↔ n < Rm.cl (low*d) (d-c) := by
        have q1 := @Rm.le_cl (low*d) (d-c) hcd
        have q2 := @Rm.cl_le (low*d) (d-c) n hcd
        constructor
        · intro h
          by_cases z : n < Rm.cl (low*d) (d-c)
          · exact z
          · have := Rm.mulle (show Rm.cl (low*d) (d-c) ≤ n by omega) (show 0 ≤ d - c by omega); omega
        · intro h
          by_cases z : n*(d-c) < low*d
          · exact z
          · have := q2 (by omega); omega
      have p2 : high*b < n*(b-a) ↔ Rm.fl (high*b) (b-a) < n := by
        have q1 := @Rm.fl_le (high*b) (b-a) hab
        have q2 := @Rm.le_fl (high*b) (b-a) n hab
        constructor
        · intro h
          by_cases z : Rm.fl (high*b) (b-a) < n
          · exact z
          · have := Rm.mulle (show n ≤ Rm.fl (high*b) (b-a) by omega) (show 0 ≤ b - a by omega); omega
        · intro h
          by_cases z : high*b < n*(b-a)
          · exact z
          · have := q2 (by omega); omega
      have hL : 1 ≤ Rm.cl (low*d) (d-c) := by
        have h1 := @Rm.le_cl (low*d) (d-c) hcd
        have h2 := Int.mul_pos (show 0 < low by omega) (show 0 < d by omega)
        have h3 : 0 < Rm.cl (low*d) (d-c) * (d-c) := by omega
        have := Rm.posl h3 (by omega)
        omega
      have hM : 0 ≤ Rm.fl (high*b) (b-a) := Rm.le_fl hab (by have := Int.mul_pos (show 0 < high by omega) (show 0 < b by omega); omega)
      have q1 : szL c d low = (min (Rm.cl (low*d) (d-c)) 1000001).toNat := rfl
      have q2 : szM a b high = (min (Rm.fl (high*b) (b-a) + 1) 1000001).toNat := rfl
      have q3 : szB a b c d low high = decide (szL c d low + 1 ≤ szM a b high) := by simp [szB, hE]
      have q4 : szLo a b c d low high = if szB a b c d low high then (szL c d low : Int) else 0 := rfl
      have q5 : szHi a b c d low high = if szB a b c d low high then (szM a b high : Int) - 1 else 0 := rfl
      generalize szLo a b c d low high = x at *
      generalize szHi a b c d low high = y at *
      generalize szB a b c d low high = B at *
      generalize Rm.redN (n*(d-c)) d = N at *
      generalize Rm.redD (n*(d-c)) d = D at *
      generalize Rm.redN (n*(b-a)) b = N' at *
      generalize Rm.redD (n*(b-a)) b = D' at *
      generalize Rm.cl (low*d) (d-c) = L at *
      generalize Rm.fl (high*b) (b-a) = M at *
      by_cases z1 : n*(d-c) < low*d
      · rw [decide_eq_true z1] at L1
        cases B
        · simp only [Bool.false_eq_true, if_false] at q4 q5
          rw [q4, q5] at S
          exact RuleSafe_t_no w ht (Lib.hid S) (Lib.hid C) (Lib.hid F1) (Lib.hid L1)
        · simp only [if_true] at q4 q5
          by_cases h1 : x ≤ n
          · have := p1.1 z1; have := of_decide_eq_true q3.symm; omega
          · exact RuleSafe_t_lo w ht (Lib.hid S) (Lib.hid C) (Lib.hid F1) (Lib.hid L1) h1
      · rw [decide_eq_false z1] at L1
        by_cases z2 : high*b < n*(b-a)
        · rw [decide_eq_true z2] at L2
          cases B
          · simp only [Bool.false_eq_true, if_false] at q4 q5
            rw [q4, q5] at S
            exact RuleSafe_ft_no w ht (Lib.hid S) (Lib.hid C) (Lib.hid F1) (Lib.hid L1) (Lib.hid F2) (Lib.hid L2)
          · simp only [if_true] at q4 q5
            by_cases h1 : x ≤ n
            · by_cases h2 : n ≤ y
              · have := p2.1 z2; have := of_decide_eq_true q3.symm; omega
              · exact RuleSafe_ft_hi w ht (Lib.hid S) (Lib.hid C) (Lib.hid F1) (Lib.hid L1) (Lib.hid F2) (Lib.hid L2) h1 h2
            · exact RuleSafe_ft_lo w ht (Lib.hid S) (Lib.hid C) (Lib.hid F1) (Lib.hid L1) (Lib.hid F2) (Lib.hid L2) h1
        · rw [decide_eq_false z2] at L2
          have m1 : ¬ n < L := fun h => z1 (p1.2 h)
          have m2 : ¬ M < n := fun h => z2 (p2.2 h)
          cases B
          · have := of_decide_eq_false q3.symm; omega
          · simp only [if_true] at q4 q5
            have := of_decide_eq_true q3.symm
            exact RuleSafe_ff_in w ht (Lib.hid S) (Lib.hid C) (Lib.hid F1) (Lib.hid L1) (Lib.hid F2) (Lib.hid L2) (by omega) (by omega)
  · have e2 : szB a b c d low high = false := by simp [szB, hE]
    have e3 : szLo a b c d low high = 0 ∧ szHi a b c d low high = 0 := by simp [szLo, szHi, e2]
    rw [e2, e3.1, e3.2] at S
    exact RuleSafe_bad1 w ht (Lib.hid S) (Lib.hid C) hE
end Go.Proofs.YtconhikflghkdaaDoor
