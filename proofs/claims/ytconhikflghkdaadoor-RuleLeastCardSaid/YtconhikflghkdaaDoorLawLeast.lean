/- stricklelaw01.RuleLeast. -/
import Derived.Test.YtconhikflghkdaaDoorAlive
import Derived.Test.YtconhikflghkdaaDoorMiss
import Derived.Test.YtconhikflghkdaaDoorMathB
namespace Go.Proofs.YtconhikflghkdaaDoor
open Go.RowKit Go.Shelf
def lessB (a b c d : Int) : Bool := ok2 a b c d && decide (a*d < c*b)
set_option maxHeartbeats 1000000 in
theorem less_any (a b c d : Int) : Says 39 #[fr a b, fr c d] (.bool (lessB a b c d)) := fun w => by
  have C := Lib.hid (Compare_any a b c d)
  cases h : ok2 a b c d
  · have e : lessB a b c d = false := by simp [lessB, h]
    rw [e]
    rw [h, Rm.err_false rfl] at C
    generalize cmpN a b c d = K at *
    clear h e
    go_enter Tryd.func39, Tryd.ntmps39
    go_wp2_with fail
    refine (C.out _).mono ?_
    rintro e w1 ⟨rfl, hg1⟩
    go_wp2
    go_ret
    exact ⟨rfl, (by repeat (first | exact Gr.refl _ | assumption | refine Gr.alloc ?_ _ | refine Gr.drew ?_ | refine Gr.drewN ?_ _ | refine Gr.set ?_ _ _ (by first | (simp; done) | (simp; omega)) | refine Gr.trans ?_ (by assumption)))⟩
  · rw [h, Rm.err_true rfl] at C
    by_cases hk : a*d < c*b
    · have e : lessB a b c d = true := by simp [lessB, h, hk]
      have e2 : cmpN a b c d = -1 := by simp only [cmpN, h, sgn, if_true]; rw [if_pos (by omega)]
      rw [e]
      rw [e2] at C
      clear h e e2 hk
      go_enter Tryd.func39, Tryd.ntmps39
      go_wp2_with fail
      refine (C.out _).mono ?_
      rintro e w1 ⟨rfl, hg1⟩
      go_wp2
      go_ret
      exact ⟨rfl, (by repeat (first | exact Gr.refl _ | assumption | refine Gr.alloc ?_ _ | refine Gr.drew ?_ | refine Gr.drewN ?_ _ | refine Gr.set ?_ _ _ (by first | (simp; done) | (simp; omega)) | refine Gr.trans ?_ (by assumption)))⟩
    · have e : lessB a b c d = false := by simp [lessB, hk]
      have e2 : ¬ cmpN a b c d < 0 := by simp only [cmpN, h, sgn, if_true]; split <;> (try split) <;> omega
      rw [e]
      generalize cmpN a b c d = K at *
      clear h e hk
      go_enter Tryd.func39, Tryd.ntmps39
      go_wp2_with fail
      refine (C.out _).mono ?_
      rintro e w1 ⟨rfl, hg1⟩
      go_wp2
      go_ret
      exact ⟨ret_bool (decide_eq_false (by omega)), (by repeat (first | exact Gr.refl _ | assumption | refine Gr.alloc ?_ _ | refine Gr.drew ?_ | refine Gr.drewN ?_ _ | refine Gr.set ?_ _ _ (by first | (simp; done) | (simp; omega)) | refine Gr.trans ?_ (by assumption)))⟩
theorem lessB_yes {a b c d : Int} (h1 : Rm.okF a b = true) (h2 : Rm.okF c d = true) (h : a*d < c*b) : lessB a b c d = true := by simp [lessB, ok2, h1, h2, h]
theorem lessB_lt {a b c d : Int} (h : lessB a b c d = true) : a*d < c*b := by simp [lessB] at h; exact h.2
/-- what Neighbours returns are the neighbours -/
theorem nb_bk {n d : Int} (h : Rm.okF n d = true) (hd : 2 ≤ d) : Rm.Nb n d (Rm.bkN n d (d-1)) (Rm.bkD n d (d-1)) (Rm.bhN n d (d-1)) (Rm.bhD n d (d-1)) := by
  obtain ⟨x1, x2, x3, x4, x5⟩ := Rm.okF_iff.1 h
  obtain ⟨_, P, t, s, _, hci⟩ := Rm.conv_last x1 x2 x3 x4 x5
  have hnb := hci.nb hd
  rcases hci.sg with e | e
  · have k := hnb.1 e
    obtain ⟨k1, k2, k3, k4⟩ := Rm.bk_eq (by omega) (by omega) k.brk
    rw [k1, k2, k3, k4]; exact k
  · have k := hnb.2 e
    obtain ⟨k1, k2, k3, k4⟩ := Rm.bk_eq (by omega) (by omega) k.brk
    rw [k1, k2, k3, k4]; exact k
attribute [local go_sem] Oper.semAt_some
set_option maxRecDepth 100000 in
set_option maxHeartbeats 8000000 in
theorem RuleLeast_bad {a b c d want size E : Int} (w : World) (ht : Tab w) (B : Hid (Says 29 #[ru a b c d, .int .i64 want] (.tuple #[.int .i64 0, .int .i64 E]))) (hE : ¬ E = 0) : Calls Tryd.prog 13 #[ru a b c d, .int .i64 want, .int .i64 size] w fun e w' => e = .returned (.bool true) ∧ Gr w w' := by
  have HT := Lib.hid ht
  clear ht
  go_enter Tryd.func13, Tryd.ntmps13
  go_wp2_with fail
  have G := Gr.refl w
  have b3 := heap_alloc_self w (.cells #[.int .i64 a, .int .i64 b, .int .i64 c, .int .i64 d] 34)
  replace G := G.alloc (.cells #[.int .i64 a, .int .i64 b, .int .i64 c, .int .i64 d] 34)
  generalize hW : (w.alloc (.cells #[.int .i64 a, .int .i64 b, .int .i64 c, .int .i64 d] 34)) = W1 at *
  have w0 : w.heap.size ≤ w.heap.size := Nat.le_refl _
  obtain ⟨p3, hp3⟩ : ∃ p3, w.heap.size = p3 := ⟨_, rfl⟩
  rw [hp3] at b3
  try simp only [hp3]
  have s3 : w.heap.size ≤ p3 := by omega
  clear  w0
  clear hp3
  clear hW
  refine (B.out _).mono ?_
  rintro e w1 ⟨rfl, g1⟩
  obtain ⟨c3, f3, z3⟩ := blk_cells (g1.heap b3)
  have z0 : w.heap.size ≤ w1.heap.size := (Gr.trans G g1).b.size
  go_wp2_with fail
  clear c3 f3
  replace b3 := g1.heap b3
  have G := G.trans g1
  clear z3 z0
  clear g1
  refine (alive_any _ (HT.out.gr G)).mono ?_
  rintro e wz ⟨rfl, gz⟩
  obtain ⟨c3, f3, z3⟩ := blk_cells (gz.heap b3)
  go_wp2
  go_ret
  exact ⟨rfl, G.trans gz⟩
set_option maxRecDepth 100000 in
set_option maxHeartbeats 8000000 in
theorem RuleLeast_err {a b c d want size best N D N2 D2 E : Int} (w : World) (ht : Tab w) (B : Hid (Says 29 #[ru a b c d, .int .i64 want] (.tuple #[.int .i64 best, .int .i64 0]))) (M1 : Hid (Says 47 #[ru a b c d, .int .i64 best, .int .i64 want] (.tuple #[fr N D, .int .i64 0]))) (M2 : Hid (Says 47 #[ru a b c d, .int .i64 size, .int .i64 want] (.tuple #[fr N2 D2, .int .i64 E]))) (hE : ¬ E = 0) : Calls Tryd.prog 13 #[ru a b c d, .int .i64 want, .int .i64 size] w fun e w' => e = .returned (.bool true) ∧ Gr w w' := by
  have HT := Lib.hid ht
  clear ht
  go_enter Tryd.func13, Tryd.ntmps13
  go_wp2_with fail
  have G := Gr.refl w
  have b3 := heap_alloc_self w (.cells #[.int .i64 a, .int .i64 b, .int .i64 c, .int .i64 d] 34)
  replace G := G.alloc (.cells #[.int .i64 a, .int .i64 b, .int .i64 c, .int .i64 d] 34)
  generalize hW : (w.alloc (.cells #[.int .i64 a, .int .i64 b, .int .i64 c, .int .i64 d] 34)) = W1 at *
  have w0 : w.heap.size ≤ w.heap.size := Nat.le_refl _
  obtain ⟨p3, hp3⟩ : ∃ p3, w.heap.size = p3 := ⟨_, rfl⟩
  rw [hp3] at b3
  try simp only [hp3]
  have s3 : w.heap.size ≤ p3 := by omega
  clear  w0
  clear hp3
  clear hW
  refine (B.out _).mono ?_
  rintro e w1 ⟨rfl, g1⟩
  obtain ⟨c3, f3, z3⟩ := blk_cells (g1.heap b3)
  have z0 : w.heap.size ≤ w1.heap.size := (Gr.trans G g1).b.size
  go_wp2_with fail
  clear c3 f3
  replace b3 := g1.heap b3
  have G := G.trans g1
  clear z3 z0
  clear g1
  refine (M1.out _).mono ?_
  rintro e w2 ⟨rfl, g2⟩
  obtain ⟨c3, f3, z3⟩ := blk_cells (g2.heap b3)
  have z0 : w.heap.size ≤ w2.heap.size := (Gr.trans G g2).b.size
  go_wp2_with fail
  clear c3 f3
  replace b3 := g2.heap b3
  have G := G.trans g2
  replace b3 := ((Gr.refl _).alloc (.cells #[.int .i64 N, .int .i64 D] 23)).heap b3
  have b9 := heap_alloc_self w2 (.cells #[.int .i64 N, .int .i64 D] 23)
  replace G := G.alloc (.cells #[.int .i64 N, .int .i64 D] 23)
  generalize hW : (w2.alloc (.cells #[.int .i64 N, .int .i64 D] 23)) = W3 at *
  have o3 : p3 < w2.heap.size := z3
  have w0 : w.heap.size ≤ w2.heap.size := z0
  obtain ⟨p9, hp9⟩ : ∃ p9, w2.heap.size = p9 := ⟨_, rfl⟩
  rw [hp9] at b9
  try simp only [hp9]
  have n3_9 : ¬ p3 = p9 := by omega
  have n9_3 : ¬ p9 = p3 := by omega
  have s9 : w.heap.size ≤ p9 := by omega
  clear o3 w0
  clear hp9
  clear hW
  clear z3 z0
  clear g2
  refine (M2.out _).mono ?_
  rintro e w3 ⟨rfl, g3⟩
  obtain ⟨c3, f3, z3⟩ := blk_cells (g3.heap b3)
  obtain ⟨c9, f9, z9⟩ := blk_cells (g3.heap b9)
  have z0 : w.heap.size ≤ w3.heap.size := (Gr.trans G g3).b.size
  go_wp2_with fail
  clear c3 f3 c9 f9
  replace b3 := g3.heap b3
  replace b9 := g3.heap b9
  have G := G.trans g3
  replace b3 := ((Gr.refl _).alloc (.cells #[.int .i64 N2, .int .i64 D2] 23)).heap b3
  replace b9 := ((Gr.refl _).alloc (.cells #[.int .i64 N2, .int .i64 D2] 23)).heap b9
  have b11 := heap_alloc_self w3 (.cells #[.int .i64 N2, .int .i64 D2] 23)
  replace G := G.alloc (.cells #[.int .i64 N2, .int .i64 D2] 23)
  generalize hW : (w3.alloc (.cells #[.int .i64 N2, .int .i64 D2] 23)) = W4 at *
  have o3 : p3 < w3.heap.size := z3
  have o9 : p9 < w3.heap.size := z9
  have w0 : w.heap.size ≤ w3.heap.size := z0
  obtain ⟨p11, hp11⟩ : ∃ p11, w3.heap.size = p11 := ⟨_, rfl⟩
  rw [hp11] at b11
  try simp only [hp11]
  have n3_11 : ¬ p3 = p11 := by omega
  have n11_3 : ¬ p11 = p3 := by omega
  have n9_11 : ¬ p9 = p11 := by omega
  have n11_9 : ¬ p11 = p9 := by omega
  have s11 : w.heap.size ≤ p11 := by omega
  clear o3 o9 w0
  clear hp11
  clear hW
  clear z3 z9 z0
  clear g3
  refine (alive_any _ (HT.out.gr G)).mono ?_
  rintro e wz ⟨rfl, gz⟩
  obtain ⟨c3, f3, z3⟩ := blk_cells (gz.heap b3)
  obtain ⟨c9, f9, z9⟩ := blk_cells (gz.heap b9)
  obtain ⟨c11, f11, z11⟩ := blk_cells (gz.heap b11)
  go_wp2
  go_ret
  exact ⟨rfl, G.trans gz⟩
set_option maxRecDepth 100000 in
set_option maxHeartbeats 8000000 in
theorem RuleLeast_neN {a b c d want size best N D N2 D2 : Int} (w : World) (ht : Tab w) (B : Hid (Says 29 #[ru a b c d, .int .i64 want] (.tuple #[.int .i64 best, .int .i64 0]))) (M1 : Hid (Says 47 #[ru a b c d, .int .i64 best, .int .i64 want] (.tuple #[fr N D, .int .i64 0]))) (M2 : Hid (Says 47 #[ru a b c d, .int .i64 size, .int .i64 want] (.tuple #[fr N2 D2, .int .i64 0]))) (LS : Hid (Says 39 #[fr N2 D2, fr N D] (.bool false))) (hN : ¬ N2 = N) : Calls Tryd.prog 13 #[ru a b c d, .int .i64 want, .int .i64 size] w fun e w' => e = .returned (.bool true) ∧ Gr w w' := by
  have HT := Lib.hid ht
  clear ht
  go_enter Tryd.func13, Tryd.ntmps13
  go_wp2_with fail
  have G := Gr.refl w
  have b3 := heap_alloc_self w (.cells #[.int .i64 a, .int .i64 b, .int .i64 c, .int .i64 d] 34)
  replace G := G.alloc (.cells #[.int .i64 a, .int .i64 b, .int .i64 c, .int .i64 d] 34)
  generalize hW : (w.alloc (.cells #[.int .i64 a, .int .i64 b, .int .i64 c, .int .i64 d] 34)) = W1 at *
  have w0 : w.heap.size ≤ w.heap.size := Nat.le_refl _
  obtain ⟨p3, hp3⟩ : ∃ p3, w.heap.size = p3 := ⟨_, rfl⟩
  rw [hp3] at b3
  try simp only [hp3]
  have s3 : w.heap.size ≤ p3 := by omega
  clear  w0
  clear hp3
  clear hW
  refine (B.out _).mono ?_
  rintro e w1 ⟨rfl, g1⟩
  obtain ⟨c3, f3, z3⟩ := blk_cells (g1.heap b3)
  have z0 : w.heap.size ≤ w1.heap.size := (Gr.trans G g1).b.size
  go_wp2_with fail
  clear c3 f3
  replace b3 := g1.heap b3
  have G := G.trans g1
  clear z3 z0
  clear g1
  refine (M1.out _).mono ?_
  rintro e w2 ⟨rfl, g2⟩
  obtain ⟨c3, f3, z3⟩ := blk_cells (g2.heap b3)
  have z0 : w.heap.size ≤ w2.heap.size := (Gr.trans G g2).b.size
  go_wp2_with fail
  clear c3 f3
  replace b3 := g2.heap b3
  have G := G.trans g2
  replace b3 := ((Gr.refl _).alloc (.cells #[.int .i64 N, .int .i64 D] 23)).heap b3
  have b9 := heap_alloc_self w2 (.cells #[.int .i64 N, .int .i64 D] 23)
  replace G := G.alloc (.cells #[.int .i64 N, .int .i64 D] 23)
  generalize hW : (w2.alloc (.cells #[.int .i64 N, .int .i64 D] 23)) = W3 at *
  have o3 : p3 < w2.heap.size := z3
  have w0 : w.heap.size ≤ w2.heap.size := z0
  obtain ⟨p9, hp9⟩ : ∃ p9, w2.heap.size = p9 := ⟨_, rfl⟩
  rw [hp9] at b9
  try simp only [hp9]
  have n3_9 : ¬ p3 = p9 := by omega
  have n9_3 : ¬ p9 = p3 := by omega
  have s9 : w.heap.size ≤ p9 := by omega
  clear o3 w0
  clear hp9
  clear hW
  clear z3 z0
  clear g2
  refine (M2.out _).mono ?_
  rintro e w3 ⟨rfl, g3⟩
  obtain ⟨c3, f3, z3⟩ := blk_cells (g3.heap b3)
  obtain ⟨c9, f9, z9⟩ := blk_cells (g3.heap b9)
  have z0 : w.heap.size ≤ w3.heap.size := (Gr.trans G g3).b.size
  go_wp2_with fail
  clear c3 f3 c9 f9
  replace b3 := g3.heap b3
  replace b9 := g3.heap b9
  have G := G.trans g3
  replace b3 := ((Gr.refl _).alloc (.cells #[.int .i64 N2, .int .i64 D2] 23)).heap b3
  replace b9 := ((Gr.refl _).alloc (.cells #[.int .i64 N2, .int .i64 D2] 23)).heap b9
  have b11 := heap_alloc_self w3 (.cells #[.int .i64 N2, .int .i64 D2] 23)
  replace G := G.alloc (.cells #[.int .i64 N2, .int .i64 D2] 23)
  generalize hW : (w3.alloc (.cells #[.int .i64 N2, .int .i64 D2] 23)) = W4 at *
  have o3 : p3 < w3.heap.size := z3
  have o9 : p9 < w3.heap.size := z9
  have w0 : w.heap.size ≤ w3.heap.size := z0
  obtain ⟨p11, hp11⟩ : ∃ p11, w3.heap.size = p11 := ⟨_, rfl⟩
  rw [hp11] at b11
  try simp only [hp11]
  have n3_11 : ¬ p3 = p11 := by omega
  have n11_3 : ¬ p11 = p3 := by omega
  have n9_11 : ¬ p9 = p11 := by omega
  have n11_9 : ¬ p11 = p9 := by omega
  have s11 : w.heap.size ≤ p11 := by omega
  clear o3 o9 w0
  clear hp11
  clear hW
  clear z3 z9 z0
  clear g3
  refine (alive_any _ (HT.out.gr G)).mono ?_
  rintro e wz ⟨rfl, gz⟩
  obtain ⟨c3, f3, z3⟩ := blk_cells (gz.heap b3)
  obtain ⟨c9, f9, z9⟩ := blk_cells (gz.heap b9)
  obtain ⟨c11, f11, z11⟩ := blk_cells (gz.heap b11)
  go_wp2_with fail
  refine (LS.out _).mono ?_
  rintro e wy ⟨rfl, gy⟩
  clear c3 f3 z3 c9 f9 z9 c11 f11 z11
  obtain ⟨c3, f3, z3⟩ := blk_cells (gy.heap (gz.heap b3))
  obtain ⟨c9, f9, z9⟩ := blk_cells (gy.heap (gz.heap b9))
  obtain ⟨c11, f11, z11⟩ := blk_cells (gy.heap (gz.heap b11))
  go_wp2
  go_ret
  exact ⟨rfl, (G.trans gz).trans gy⟩
set_option maxRecDepth 100000 in
set_option maxHeartbeats 8000000 in
theorem RuleLeast_neD {a b c d want size best N D D2 : Int} (w : World) (ht : Tab w) (B : Hid (Says 29 #[ru a b c d, .int .i64 want] (.tuple #[.int .i64 best, .int .i64 0]))) (M1 : Hid (Says 47 #[ru a b c d, .int .i64 best, .int .i64 want] (.tuple #[fr N D, .int .i64 0]))) (M2 : Hid (Says 47 #[ru a b c d, .int .i64 size, .int .i64 want] (.tuple #[fr N D2, .int .i64 0]))) (LS : Hid (Says 39 #[fr N D2, fr N D] (.bool false))) (hD : ¬ D2 = D) : Calls Tryd.prog 13 #[ru a b c d, .int .i64 want, .int .i64 size] w fun e w' => e = .returned (.bool true) ∧ Gr w w' := by
  have HT := Lib.hid ht
  clear ht
  go_enter Tryd.func13, Tryd.ntmps13
  go_wp2_with fail
  have G := Gr.refl w
  have b3 := heap_alloc_self w (.cells #[.int .i64 a, .int .i64 b, .int .i64 c, .int .i64 d] 34)
  replace G := G.alloc (.cells #[.int .i64 a, .int .i64 b, .int .i64 c, .int .i64 d] 34)
  generalize hW : (w.alloc (.cells #[.int .i64 a, .int .i64 b, .int .i64 c, .int .i64 d] 34)) = W1 at *
  have w0 : w.heap.size ≤ w.heap.size := Nat.le_refl _
  obtain ⟨p3, hp3⟩ : ∃ p3, w.heap.size = p3 := ⟨_, rfl⟩
  rw [hp3] at b3
  try simp only [hp3]
  have s3 : w.heap.size ≤ p3 := by omega
  clear  w0
  clear hp3
  clear hW
  refine (B.out _).mono ?_
  rintro e w1 ⟨rfl, g1⟩
  obtain ⟨c3, f3, z3⟩ := blk_cells (g1.heap b3)
  have z0 : w.heap.size ≤ w1.heap.size := (Gr.trans G g1).b.size
  go_wp2_with fail
  clear c3 f3
  replace b3 := g1.heap b3
  have G := G.trans g1
  clear z3 z0
  clear g1
  refine (M1.out _).mono ?_
  rintro e w2 ⟨rfl, g2⟩
  obtain ⟨c3, f3, z3⟩ := blk_cells (g2.heap b3)
  have z0 : w.heap.size ≤ w2.heap.size := (Gr.trans G g2).b.size
  go_wp2_with fail
  clear c3 f3
  replace b3 := g2.heap b3
  have G := G.trans g2
  replace b3 := ((Gr.refl _).alloc (.cells #[.int .i64 N, .int .i64 D] 23)).heap b3
  have b9 := heap_alloc_self w2 (.cells #[.int .i64 N, .int .i64 D] 23)
  replace G := G.alloc (.cells #[.int .i64 N, .int .i64 D] 23)
  generalize hW : (w2.alloc (.cells #[.int .i64 N, .int .i64 D] 23)) = W3 at *
  have o3 : p3 < w2.heap.size := z3
  have w0 : w.heap.size ≤ w2.heap.size := z0
  obtain ⟨p9, hp9⟩ : ∃ p9, w2.heap.size = p9 := ⟨_, rfl⟩
  rw [hp9] at b9
  try simp only [hp9]
  have n3_9 : ¬ p3 = p9 := by omega
  have n9_3 : ¬ p9 = p3 := by omega
  have s9 : w.heap.size ≤ p9 := by omega
  clear o3 w0
  clear hp9
  clear hW
  clear z3 z0
  clear g2
  refine (M2.out _).mono ?_
  rintro e w3 ⟨rfl, g3⟩
  obtain ⟨c3, f3, z3⟩ := blk_cells (g3.heap b3)
  obtain ⟨c9, f9, z9⟩ := blk_cells (g3.heap b9)
  have z0 : w.heap.size ≤ w3.heap.size := (Gr.trans G g3).b.size
  go_wp2_with fail
  clear c3 f3 c9 f9
  replace b3 := g3.heap b3
  replace b9 := g3.heap b9
  have G := G.trans g3
  replace b3 := ((Gr.refl _).alloc (.cells #[.int .i64 N, .int .i64 D2] 23)).heap b3
  replace b9 := ((Gr.refl _).alloc (.cells #[.int .i64 N, .int .i64 D2] 23)).heap b9
  have b11 := heap_alloc_self w3 (.cells #[.int .i64 N, .int .i64 D2] 23)
  replace G := G.alloc (.cells #[.int .i64 N, .int .i64 D2] 23)
  generalize hW : (w3.alloc (.cells #[.int .i64 N, .int .i64 D2] 23)) = W4 at *
  have o3 : p3 < w3.heap.size := z3
  have o9 : p9 < w3.heap.size := z9
  have w0 : w.heap.size ≤ w3.heap.size := z0
  obtain ⟨p11, hp11⟩ : ∃ p11, w3.heap.size = p11 := ⟨_, rfl⟩
  rw [hp11] at b11
  try simp only [hp11]
  have n3_11 : ¬ p3 = p11 := by omega
  have n11_3 : ¬ p11 = p3 := by omega
  have n9_11 : ¬ p9 = p11 := by omega
  have n11_9 : ¬ p11 = p9 := by omega
  have s11 : w.heap.size ≤ p11 := by omega
  clear o3 o9 w0
  clear hp11
  clear hW
  clear z3 z9 z0
  clear g3
  refine (alive_any _ (HT.out.gr G)).mono ?_
  rintro e wz ⟨rfl, gz⟩
  obtain ⟨c3, f3, z3⟩ := blk_cells (gz.heap b3)
  obtain ⟨c9, f9, z9⟩ := blk_cells (gz.heap b9)
  obtain ⟨c11, f11, z11⟩ := blk_cells (gz.heap b11)
  go_wp2_with fail
  refine (LS.out _).mono ?_
  rintro e wy ⟨rfl, gy⟩
  clear c3 f3 z3 c9 f9 z9 c11 f11 z11
  obtain ⟨c3, f3, z3⟩ := blk_cells (gy.heap (gz.heap b3))
  obtain ⟨c9, f9, z9⟩ := blk_cells (gy.heap (gz.heap b9))
  obtain ⟨c11, f11, z11⟩ := blk_cells (gy.heap (gz.heap b11))
  go_wp2
  go_ret
  exact ⟨rfl, (G.trans gz).trans gy⟩
set_option maxRecDepth 100000 in
set_option maxHeartbeats 8000000 in
theorem RuleLeast_eq {a b c d want size best N D : Int} (w : World) (ht : Tab w) (B : Hid (Says 29 #[ru a b c d, .int .i64 want] (.tuple #[.int .i64 best, .int .i64 0]))) (M1 : Hid (Says 47 #[ru a b c d, .int .i64 best, .int .i64 want] (.tuple #[fr N D, .int .i64 0]))) (M2 : Hid (Says 47 #[ru a b c d, .int .i64 size, .int .i64 want] (.tuple #[fr N D, .int .i64 0]))) (LS : Hid (Says 39 #[fr N D, fr N D] (.bool false))) (hb : best ≤ size) : Calls Tryd.prog 13 #[ru a b c d, .int .i64 want, .int .i64 size] w fun e w' => e = .returned (.bool true) ∧ Gr w w' := by
  have HT := Lib.hid ht
  clear ht
  go_enter Tryd.func13, Tryd.ntmps13
  go_wp2_with fail
  have G := Gr.refl w
  have b3 := heap_alloc_self w (.cells #[.int .i64 a, .int .i64 b, .int .i64 c, .int .i64 d] 34)
  replace G := G.alloc (.cells #[.int .i64 a, .int .i64 b, .int .i64 c, .int .i64 d] 34)
  generalize hW : (w.alloc (.cells #[.int .i64 a, .int .i64 b, .int .i64 c, .int .i64 d] 34)) = W1 at *
  have w0 : w.heap.size ≤ w.heap.size := Nat.le_refl _
  obtain ⟨p3, hp3⟩ : ∃ p3, w.heap.size = p3 := ⟨_, rfl⟩
  rw [hp3] at b3
  try simp only [hp3]
  have s3 : w.heap.size ≤ p3 := by omega
  clear  w0
  clear hp3
  clear hW
  refine (B.out _).mono ?_
  rintro e w1 ⟨rfl, g1⟩
  obtain ⟨c3, f3, z3⟩ := blk_cells (g1.heap b3)
  have z0 : w.heap.size ≤ w1.heap.size := (Gr.trans G g1).b.size
  go_wp2_with fail
  clear c3 f3
  replace b3 := g1.heap b3
  have G := G.trans g1
  clear z3 z0
  clear g1
  refine (M1.out _).mono ?_
  rintro e w2 ⟨rfl, g2⟩
  obtain ⟨c3, f3, z3⟩ := blk_cells (g2.heap b3)
  have z0 : w.heap.size ≤ w2.heap.size := (Gr.trans G g2).b.size
  go_wp2_with fail
  clear c3 f3
  replace b3 := g2.heap b3
  have G := G.trans g2
  replace b3 := ((Gr.refl _).alloc (.cells #[.int .i64 N, .int .i64 D] 23)).heap b3
  have b9 := heap_alloc_self w2 (.cells #[.int .i64 N, .int .i64 D] 23)
  replace G := G.alloc (.cells #[.int .i64 N, .int .i64 D] 23)
  generalize hW : (w2.alloc (.cells #[.int .i64 N, .int .i64 D] 23)) = W3 at *
  have o3 : p3 < w2.heap.size := z3
  have w0 : w.heap.size ≤ w2.heap.size := z0
  obtain ⟨p9, hp9⟩ : ∃ p9, w2.heap.size = p9 := ⟨_, rfl⟩
  rw [hp9] at b9
  try simp only [hp9]
  have n3_9 : ¬ p3 = p9 := by omega
  have n9_3 : ¬ p9 = p3 := by omega
  have s9 : w.heap.size ≤ p9 := by omega
  clear o3 w0
  clear hp9
  clear hW
  clear z3 z0
  clear g2
  refine (M2.out _).mono ?_
  rintro e w3 ⟨rfl, g3⟩
  obtain ⟨c3, f3, z3⟩ := blk_cells (g3.heap b3)
  obtain ⟨c9, f9, z9⟩ := blk_cells (g3.heap b9)
  have z0 : w.heap.size ≤ w3.heap.size := (Gr.trans G g3).b.size
  go_wp2_with fail
  clear c3 f3 c9 f9
  replace b3 := g3.heap b3
  replace b9 := g3.heap b9
  have G := G.trans g3
  replace b3 := ((Gr.refl _).alloc (.cells #[.int .i64 N, .int .i64 D] 23)).heap b3
  replace b9 := ((Gr.refl _).alloc (.cells #[.int .i64 N, .int .i64 D] 23)).heap b9
  have b11 := heap_alloc_self w3 (.cells #[.int .i64 N, .int .i64 D] 23)
  replace G := G.alloc (.cells #[.int .i64 N, .int .i64 D] 23)
  generalize hW : (w3.alloc (.cells #[.int .i64 N, .int .i64 D] 23)) = W4 at *
  have o3 : p3 < w3.heap.size := z3
  have o9 : p9 < w3.heap.size := z9
  have w0 : w.heap.size ≤ w3.heap.size := z0
  obtain ⟨p11, hp11⟩ : ∃ p11, w3.heap.size = p11 := ⟨_, rfl⟩
  rw [hp11] at b11
  try simp only [hp11]
  have n3_11 : ¬ p3 = p11 := by omega
  have n11_3 : ¬ p11 = p3 := by omega
  have n9_11 : ¬ p9 = p11 := by omega
  have n11_9 : ¬ p11 = p9 := by omega
  have s11 : w.heap.size ≤ p11 := by omega
  clear o3 o9 w0
  clear hp11
  clear hW
  clear z3 z9 z0
  clear g3
  refine (alive_any _ (HT.out.gr G)).mono ?_
  rintro e wz ⟨rfl, gz⟩
  obtain ⟨c3, f3, z3⟩ := blk_cells (gz.heap b3)
  obtain ⟨c9, f9, z9⟩ := blk_cells (gz.heap b9)
  obtain ⟨c11, f11, z11⟩ := blk_cells (gz.heap b11)
  go_wp2_with fail
  refine (LS.out _).mono ?_
  rintro e wy ⟨rfl, gy⟩
  clear c3 f3 z3 c9 f9 z9 c11 f11 z11
  obtain ⟨c3, f3, z3⟩ := blk_cells (gy.heap (gz.heap b3))
  obtain ⟨c9, f9, z9⟩ := blk_cells (gy.heap (gz.heap b9))
  obtain ⟨c11, f11, z11⟩ := blk_cells (gy.heap (gz.heap b11))
  go_wp2
  go_ret
  exact ⟨rfl, (G.trans gz).trans gy⟩
theorem lessB_no {a b c d : Int} (h : ¬ a*d < c*b) : lessB a b c d = false := by simp [lessB, h]
theorem mi_ok {a b c d n want : Int} (h : miOk a b c d n want = true) (hr : Rm.okR (Rm.msN a b c d n want) (Rm.msD a b c d n want) = true) :
    miN a b c d n want = Rm.redN (Rm.msN a b c d n want) (Rm.msD a b c d n want) ∧ miD a b c d n want = Rm.redD (Rm.msN a b c d n want) (Rm.msD a b c d n want) ∧ miE a b c d n want = 0 := by
  obtain ⟨q1, q2, q3⟩ := Rm.made_yes hr
  unfold miN miD miE
  rw [if_pos h, if_pos h, if_pos h]
  exact ⟨q1, q2, q3⟩
theorem RuleLeast_any (a b c d want size : Int) (w : World) (ht : Tab w) : Calls Tryd.prog 13 #[ru a b c d, .int .i64 want, .int .i64 size] w fun e w' => e = .returned (.bool true) ∧ Gr w w' := by
  have B := Best_any a b c d want
  cases h : (ruOk a b c d && szOk want)
  · have e : bsR a b c d want = 0 := by simp only [bsR, h]; rfl
    rw [e, h, Rm.err_false rfl] at B
    exact RuleLeast_bad w ht (Lib.hid B) (by decide)
  · have e : bsR a b c d want = Rm.best a b c d want := by simp only [bsR, h]; rfl
    rw [e, h, Rm.err_true rfl] at B
    rw [Bool.and_eq_true] at h
    have RB := RuB.of h.1
    have hw : 1 ≤ want ∧ want ≤ 1000000 := by simpa [szOk] using h.2
    have IB := Rm.best_is (a := a) (b := b) (c := c) (d := d) (want := want) RB.b1 RB.d1 (by have := RB.ab; have := RB.b1; omega) (by have := RB.cd; have := RB.d1; omega) hw.1
    generalize Rm.best a b c d want = best at *
    have n1 := IB.n1
    have nt := IB.nt
    have so : szOk best = true := by simp [szOk]; omega
    have okb : miOk a b c d best want = true := by simp [miOk, h.1, h.2, so]
    obtain ⟨k1, k2, k3, k4⟩ := ms_bd (MsB.of RB n1 nt hw.1 hw.2)
    obtain ⟨q1, q2, q3⟩ := mi_ok okb (Rm.okR_of k3 k4 k1 (by omega))
    have M1 := Miss_any a b c d best want
    rw [q1, q2, q3] at M1
    have M2 := Miss_any a b c d size want
    cases hs : szOk size
    · have okn : miOk a b c d size want = false := by simp [miOk, hs]
      have e1 : miE a b c d size want = 1 := by unfold miE; rw [okn]; rfl
      rw [e1] at M2
      exact RuleLeast_err w ht (Lib.hid B) (Lib.hid M1) (Lib.hid M2) (by decide)
    · have hs' : 1 ≤ size ∧ size ≤ 1000000 := by simpa [szOk] using hs
      have okn : miOk a b c d size want = true := by simp [miOk, h.1, h.2, hs]
      obtain ⟨l1, l2, l3, l4⟩ := ms_bd (MsB.of RB hs'.1 hs'.2 hw.1 hw.2)
      obtain ⟨r1, r2, r3⟩ := mi_ok okn (Rm.okR_of l3 l4 l1 (by omega))
      rw [r1, r2, r3] at M2
      have LL := Rm.least_le RB.b1 RB.d1 IB hs'.1 hs'.2
      have LE := Rm.least_eq IB hs'.1
      have LS := less_any (Rm.redN (Rm.msN a b c d size want) (Rm.msD a b c d size want)) (Rm.redD (Rm.msN a b c d size want) (Rm.msD a b c d size want)) (Rm.redN (Rm.msN a b c d best want) (Rm.msD a b c d best want)) (Rm.redD (Rm.msN a b c d best want) (Rm.msD a b c d best want))
      rw [lessB_no LL] at LS
      clear q1 q2 q3 r1 r2 r3 k1 k2 k3 k4 l1 l2 l3 l4 LL
      generalize Rm.redN (Rm.msN a b c d size want) (Rm.msD a b c d size want) = N2 at *
      generalize Rm.redD (Rm.msN a b c d size want) (Rm.msD a b c d size want) = D2 at *
      generalize Rm.redN (Rm.msN a b c d best want) (Rm.msD a b c d best want) = N at *
      generalize Rm.redD (Rm.msN a b c d best want) (Rm.msD a b c d best want) = D at *
      by_cases h1 : N2 = N
      · by_cases h2 : D2 = D
        · have hb := LE h1 h2
          rw [h1, h2] at M2 LS
          exact RuleLeast_eq w ht (Lib.hid B) (Lib.hid M1) (Lib.hid M2) (Lib.hid LS) hb
        · rw [h1] at M2 LS
          exact RuleLeast_neD w ht (Lib.hid B) (Lib.hid M1) (Lib.hid M2) (Lib.hid LS) h2
      · exact RuleLeast_neN w ht (Lib.hid B) (Lib.hid M1) (Lib.hid M2) (Lib.hid LS) h1
end Go.Proofs.YtconhikflghkdaaDoor
