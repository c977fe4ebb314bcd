/- stricklelaw01.RuleMediant. -/
import Derived.Test.YtconhikflghkdaaDoorAlive
import Derived.Test.YtconhikflghkdaaDoorMath
namespace Go.Proofs.YtconhikflghkdaaDoor
open Go.RowKit Go.Shelf
def lessB (a b c d : Int) : Bool := ok2 a b c d && decide (a*d < c*b)
set_option maxHeartbeats 1000000 in
theorem less_any (a b c d : Int) : Says 39 #[fr a b, fr c d] (.bool (lessB a b c d)) := fun w => by
  have C := Lib.hid (Compare_any a b c d)
  cases h : ok2 a b c d
  · have e : lessB a b c d = false := by simp [lessB, h]
    rw [e]
    rw [h, Rm.err_false rfl] at C
    generalize cmpN a b c d = K at *
    clear h e
    go_enter Tryd.func39, Tryd.ntmps39
    go_wp2_with fail
    refine (C.out _).mono ?_
    rintro e w1 ⟨rfl, hg1⟩
    go_wp2
    go_ret
    exact ⟨rfl, (by repeat (first | exact Gr.refl _ | assumption | refine Gr.alloc ?_ _ | refine Gr.drew ?_ | refine Gr.drewN ?_ _ | refine Gr.set ?_ _ _ (by first | (simp; done) | (simp; omega)) | refine Gr.trans ?_ (by assumption)))⟩
  · rw [h, Rm.err_true rfl] at C
    by_cases hk : a*d < c*b
    · have e : lessB a b c d = true := by simp [lessB, h, hk]
      have e2 : cmpN a b c d = -1 := by simp only [cmpN, h, sgn, if_true]; rw [if_pos (by omega)]
      rw [e]
      rw [e2] at C
      clear h e e2 hk
      go_enter Tryd.func39, Tryd.ntmps39
      go_wp2_with fail
      refine (C.out _).mono ?_
      rintro e w1 ⟨rfl, hg1⟩
      go_wp2
      go_ret
      exact ⟨rfl, (by repeat (first | exact Gr.refl _ | assumption | refine Gr.alloc ?_ _ | refine Gr.drew ?_ | refine Gr.drewN ?_ _ | refine Gr.set ?_ _ _ (by first | (simp; done) | (simp; omega)) | refine Gr.trans ?_ (by assumption)))⟩
    · have e : lessB a b c d = false := by simp [lessB, hk]
      have e2 : ¬ cmpN a b c d < 0 := by simp only [cmpN, h, sgn, if_true]; split <;> (try split) <;> omega
      rw [e]
      generalize cmpN a b c d = K at *
      clear h e hk
      go_enter Tryd.func39, Tryd.ntmps39
      go_wp2_with fail
      refine (C.out _).mono ?_
      rintro e w1 ⟨rfl, hg1⟩
      go_wp2
      go_ret
      exact ⟨ret_bool (decide_eq_false (by omega)), (by repeat (first | exact Gr.refl _ | assumption | refine Gr.alloc ?_ _ | refine Gr.drew ?_ | refine Gr.drewN ?_ _ | refine Gr.set ?_ _ _ (by first | (simp; done) | (simp; omega)) | refine Gr.trans ?_ (by assumption)))⟩
theorem lessB_yes {a b c d : Int} (h1 : Rm.okF a b = true) (h2 : Rm.okF c d = true) (h : a*d < c*b) : lessB a b c d = true := by simp [lessB, ok2, h1, h2, h]
theorem lessB_lt {a b c d : Int} (h : lessB a b c d = true) : a*d < c*b := by simp [lessB] at h; exact h.2
/-- what Neighbours returns are the neighbours -/
theorem nb_bk {n d : Int} (h : Rm.okF n d = true) (hd : 2 ≤ d) : Rm.Nb n d (Rm.bkN n d (d-1)) (Rm.bkD n d (d-1)) (Rm.bhN n d (d-1)) (Rm.bhD n d (d-1)) := by
  obtain ⟨x1, x2, x3, x4, x5⟩ := Rm.okF_iff.1 h
  obtain ⟨_, P, t, s, _, hci⟩ := Rm.conv_last x1 x2 x3 x4 x5
  have hnb := hci.nb hd
  rcases hci.sg with e | e
  · have k := hnb.1 e
    obtain ⟨k1, k2, k3, k4⟩ := Rm.bk_eq (by omega) (by omega) k.brk
    rw [k1, k2, k3, k4]; exact k
  · have k := hnb.2 e
    obtain ⟨k1, k2, k3, k4⟩ := Rm.bk_eq (by omega) (by omega) k.brk
    rw [k1, k2, k3, k4]; exact k
set_option maxRecDepth 100000 in
set_option maxHeartbeats 8000000 in
theorem RuleMediant_bad (n d c e a b a' b' E : Int) (w : World) (ht : Tab w)
    (NB : Hid (Says 20 #[fr n d] (.tuple #[fr a b, fr a' b', .int .i64 E])))
    (hE : ¬ E = 0)
    : Calls Tryd.prog 9 #[fr n d, fr c e] w fun e w' => e = .returned (.bool true) ∧ Gr w w' := by
  have HT := Lib.hid ht
  clear ht
  go_enter Tryd.func9, Tryd.ntmps9
  go_wp2_with fail
  have G := Gr.refl w
  have b2 := heap_alloc_self w (.cells #[.int .i64 n, .int .i64 d] 23)
  replace G := G.alloc (.cells #[.int .i64 n, .int .i64 d] 23)
  replace b2 := ((Gr.refl _).alloc (.cells #[.int .i64 c, .int .i64 e] 23)).heap b2
  have b3 := heap_alloc_self (w.alloc (.cells #[.int .i64 n, .int .i64 d] 23)) (.cells #[.int .i64 c, .int .i64 e] 23)
  replace G := G.alloc (.cells #[.int .i64 c, .int .i64 e] 23)
  generalize hW : ((w.alloc (.cells #[.int .i64 n, .int .i64 d] 23)).alloc (.cells #[.int .i64 c, .int .i64 e] 23)) = W1 at *
  simp only [World.size_alloc] at b3
  have w0 : w.heap.size ≤ w.heap.size := Nat.le_refl _
  obtain ⟨p3, hp3⟩ : ∃ p3, w.heap.size + 1 = p3 := ⟨_, rfl⟩
  obtain ⟨p2, hp2⟩ : ∃ p2, w.heap.size = p2 := ⟨_, rfl⟩
  rw [hp3] at b3
  rw [hp2] at b2
  try simp only [hp3]
  try simp only [hp2]
  have s2 : w.heap.size ≤ p2 := by omega
  have n2_3 : ¬ p2 = p3 := by omega
  have n3_2 : ¬ p3 = p2 := by omega
  have s3 : w.heap.size ≤ p3 := by omega
  clear  w0
  clear hp2
  clear hp3
  clear hW
  refine (NB.out _).mono ?_
  rintro e w1 ⟨rfl, g1⟩
  obtain ⟨c2, f2, z2⟩ := blk_cells (g1.heap b2)
  obtain ⟨c3, f3, z3⟩ := blk_cells (g1.heap b3)
  have z0 : w.heap.size ≤ w1.heap.size := (Gr.trans G g1).b.size
  go_wp2_with fail
  clear c2 f2 c3 f3
  replace b2 := g1.heap b2
  replace b3 := g1.heap b3
  have G := G.trans g1
  replace b2 := ((Gr.refl _).alloc (.cells #[.int .i64 a, .int .i64 b] 23)).heap b2
  replace b3 := ((Gr.refl _).alloc (.cells #[.int .i64 a, .int .i64 b] 23)).heap b3
  have b5 := heap_alloc_self w1 (.cells #[.int .i64 a, .int .i64 b] 23)
  replace G := G.alloc (.cells #[.int .i64 a, .int .i64 b] 23)
  replace b2 := ((Gr.refl _).alloc (.cells #[.int .i64 (a'), .int .i64 (b')] 23)).heap b2
  replace b3 := ((Gr.refl _).alloc (.cells #[.int .i64 (a'), .int .i64 (b')] 23)).heap b3
  replace b5 := ((Gr.refl _).alloc (.cells #[.int .i64 (a'), .int .i64 (b')] 23)).heap b5
  have b6 := heap_alloc_self (w1.alloc (.cells #[.int .i64 a, .int .i64 b] 23)) (.cells #[.int .i64 (a'), .int .i64 (b')] 23)
  replace G := G.alloc (.cells #[.int .i64 (a'), .int .i64 (b')] 23)
  generalize hW : ((w1.alloc (.cells #[.int .i64 a, .int .i64 b] 23)).alloc (.cells #[.int .i64 (a'), .int .i64 (b')] 23)) = W2 at *
  simp only [World.size_alloc] at b6
  have o2 : p2 < w1.heap.size := z2
  have o3 : p3 < w1.heap.size := z3
  have w0 : w.heap.size ≤ w1.heap.size := z0
  obtain ⟨p6, hp6⟩ : ∃ p6, w1.heap.size + 1 = p6 := ⟨_, rfl⟩
  obtain ⟨p5, hp5⟩ : ∃ p5, w1.heap.size = p5 := ⟨_, rfl⟩
  rw [hp6] at b6
  rw [hp5] at b5
  try simp only [hp6]
  try simp only [hp5]
  have n2_5 : ¬ p2 = p5 := by omega
  have n5_2 : ¬ p5 = p2 := by omega
  have n3_5 : ¬ p3 = p5 := by omega
  have n5_3 : ¬ p5 = p3 := by omega
  have s5 : w.heap.size ≤ p5 := by omega
  have n2_6 : ¬ p2 = p6 := by omega
  have n6_2 : ¬ p6 = p2 := by omega
  have n3_6 : ¬ p3 = p6 := by omega
  have n6_3 : ¬ p6 = p3 := by omega
  have n5_6 : ¬ p5 = p6 := by omega
  have n6_5 : ¬ p6 = p5 := by omega
  have s6 : w.heap.size ≤ p6 := by omega
  clear o2 o3 w0
  clear hp5
  clear hp6
  clear hW
  clear z2 z3 z0
  clear g1
  refine (alive_any _ (HT.out.gr G)).mono ?_
  rintro e wz ⟨rfl, gz⟩
  obtain ⟨c2, f2, z2⟩ := blk_cells (gz.heap b2)
  obtain ⟨c3, f3, z3⟩ := blk_cells (gz.heap b3)
  obtain ⟨c5, f5, z5⟩ := blk_cells (gz.heap b5)
  obtain ⟨c6, f6, z6⟩ := blk_cells (gz.heap b6)
  go_wp2
  go_ret
  exact ⟨rfl, G.trans gz⟩
set_option maxRecDepth 100000 in
set_option maxHeartbeats 8000000 in
theorem RuleMediant_y (n d c e a b a' b' E : Int) (w : World) (ht : Tab w)
    (NB : Hid (Says 20 #[fr n d] (.tuple #[fr a b, fr a' b', .int .i64 0])))
    (q1 : IntKind.i64.wrap (a + a') = n) (q2 : IntKind.i64.wrap (b + b') = d) (hb : ¬ d ≤ b) (hb' : ¬ d ≤ b')
    (L1 : Hid (Says 39 #[fr a b, fr n d] (.bool true))) (L2 : Hid (Says 39 #[fr n d, fr a' b'] (.bool true)))
    (CF : Hid (Says 40 #[fr c e] (.int .i64 1)))
    : Calls Tryd.prog 9 #[fr n d, fr c e] w fun e w' => e = .returned (.bool true) ∧ Gr w w' := by
  have HT := Lib.hid ht
  clear ht
  go_enter Tryd.func9, Tryd.ntmps9
  go_wp2_with fail
  have G := Gr.refl w
  have b2 := heap_alloc_self w (.cells #[.int .i64 n, .int .i64 d] 23)
  replace G := G.alloc (.cells #[.int .i64 n, .int .i64 d] 23)
  replace b2 := ((Gr.refl _).alloc (.cells #[.int .i64 c, .int .i64 e] 23)).heap b2
  have b3 := heap_alloc_self (w.alloc (.cells #[.int .i64 n, .int .i64 d] 23)) (.cells #[.int .i64 c, .int .i64 e] 23)
  replace G := G.alloc (.cells #[.int .i64 c, .int .i64 e] 23)
  generalize hW : ((w.alloc (.cells #[.int .i64 n, .int .i64 d] 23)).alloc (.cells #[.int .i64 c, .int .i64 e] 23)) = W1 at *
  simp only [World.size_alloc] at b3
  have w0 : w.heap.size ≤ w.heap.size := Nat.le_refl _
  obtain ⟨p3, hp3⟩ : ∃ p3, w.heap.size + 1 = p3 := ⟨_, rfl⟩
  obtain ⟨p2, hp2⟩ : ∃ p2, w.heap.size = p2 := ⟨_, rfl⟩
  rw [hp3] at b3
  rw [hp2] at b2
  try simp only [hp3]
  try simp only [hp2]
  have s2 : w.heap.size ≤ p2 := by omega
  have n2_3 : ¬ p2 = p3 := by omega
  have n3_2 : ¬ p3 = p2 := by omega
  have s3 : w.heap.size ≤ p3 := by omega
  clear  w0
  clear hp2
  clear hp3
  clear hW
  refine (NB.out _).mono ?_
  rintro e w1 ⟨rfl, g1⟩
  obtain ⟨c2, f2, z2⟩ := blk_cells (g1.heap b2)
  obtain ⟨c3, f3, z3⟩ := blk_cells (g1.heap b3)
  have z0 : w.heap.size ≤ w1.heap.size := (Gr.trans G g1).b.size
  go_wp2_with fail
  clear c2 f2 c3 f3
  replace b2 := g1.heap b2
  replace b3 := g1.heap b3
  have G := G.trans g1
  replace b2 := ((Gr.refl _).alloc (.cells #[.int .i64 a, .int .i64 b] 23)).heap b2
  replace b3 := ((Gr.refl _).alloc (.cells #[.int .i64 a, .int .i64 b] 23)).heap b3
  have b5 := heap_alloc_self w1 (.cells #[.int .i64 a, .int .i64 b] 23)
  replace G := G.alloc (.cells #[.int .i64 a, .int .i64 b] 23)
  replace b2 := ((Gr.refl _).alloc (.cells #[.int .i64 (a'), .int .i64 (b')] 23)).heap b2
  replace b3 := ((Gr.refl _).alloc (.cells #[.int .i64 (a'), .int .i64 (b')] 23)).heap b3
  replace b5 := ((Gr.refl _).alloc (.cells #[.int .i64 (a'), .int .i64 (b')] 23)).heap b5
  have b6 := heap_alloc_self (w1.alloc (.cells #[.int .i64 a, .int .i64 b] 23)) (.cells #[.int .i64 (a'), .int .i64 (b')] 23)
  replace G := G.alloc (.cells #[.int .i64 (a'), .int .i64 (b')] 23)
  generalize hW : ((w1.alloc (.cells #[.int .i64 a, .int .i64 b] 23)).alloc (.cells #[.int .i64 (a'), .int .i64 (b')] 23)) = W2 at *
  simp only [World.size_alloc] at b6
  have o2 : p2 < w1.heap.size := z2
  have o3 : p3 < w1.heap.size := z3
  have w0 : w.heap.size ≤ w1.heap.size := z0
  obtain ⟨p6, hp6⟩ : ∃ p6, w1.heap.size + 1 = p6 := ⟨_, rfl⟩
  obtain ⟨p5, hp5⟩ : ∃ p5, w1.heap.size = p5 := ⟨_, rfl⟩
  rw [hp6] at b6
  rw [hp5] at b5
  try simp only [hp6]
  try simp only [hp5]
  have n2_5 : ¬ p2 = p5 := by omega
  have n5_2 : ¬ p5 = p2 := by omega
  have n3_5 : ¬ p3 = p5 := by omega
  have n5_3 : ¬ p5 = p3 := by omega
  have s5 : w.heap.size ≤ p5 := by omega
  have n2_6 : ¬ p2 = p6 := by omega
  have n6_2 : ¬ p6 = p2 := by omega
  have n3_6 : ¬ p3 = p6 := by omega
  have n6_3 : ¬ p6 = p3 := by omega
  have n5_6 : ¬ p5 = p6 := by omega
  have n6_5 : ¬ p6 = p5 := by omega
  have s6 : w.heap.size ≤ p6 := by omega
  clear o2 o3 w0
  clear hp5
  clear hp6
  clear hW
  clear z2 z3 z0
  clear g1
  refine (L1.out _).mono ?_
  rintro e w2 ⟨rfl, g2⟩
  obtain ⟨c2, f2, z2⟩ := blk_cells (g2.heap b2)
  obtain ⟨c3, f3, z3⟩ := blk_cells (g2.heap b3)
  obtain ⟨c5, f5, z5⟩ := blk_cells (g2.heap b5)
  obtain ⟨c6, f6, z6⟩ := blk_cells (g2.heap b6)
  have z0 : w.heap.size ≤ w2.heap.size := (Gr.trans G g2).b.size
  go_wp2_with fail
  clear c2 f2 c3 f3 c5 f5 c6 f6
  replace b2 := g2.heap b2
  replace b3 := g2.heap b3
  replace b5 := g2.heap b5
  replace b6 := g2.heap b6
  have G := G.trans g2
  clear z2 z3 z5 z6 z0
  clear g2
  refine (L2.out _).mono ?_
  rintro e w3 ⟨rfl, g3⟩
  obtain ⟨c2, f2, z2⟩ := blk_cells (g3.heap b2)
  obtain ⟨c3, f3, z3⟩ := blk_cells (g3.heap b3)
  obtain ⟨c5, f5, z5⟩ := blk_cells (g3.heap b5)
  obtain ⟨c6, f6, z6⟩ := blk_cells (g3.heap b6)
  have z0 : w.heap.size ≤ w3.heap.size := (Gr.trans G g3).b.size
  go_wp2_with fail
  clear c2 f2 c3 f3 c5 f5 c6 f6
  replace b2 := g3.heap b2
  replace b3 := g3.heap b3
  replace b5 := g3.heap b5
  replace b6 := g3.heap b6
  have G := G.trans g3
  clear z2 z3 z5 z6 z0
  clear g3
  refine (CF.out _).mono ?_
  rintro e w4 ⟨rfl, g4⟩
  obtain ⟨c2, f2, z2⟩ := blk_cells (g4.heap b2)
  obtain ⟨c3, f3, z3⟩ := blk_cells (g4.heap b3)
  obtain ⟨c5, f5, z5⟩ := blk_cells (g4.heap b5)
  obtain ⟨c6, f6, z6⟩ := blk_cells (g4.heap b6)
  have z0 : w.heap.size ≤ w4.heap.size := (Gr.trans G g4).b.size
  go_wp2_with fail
  clear c2 f2 c3 f3 c5 f5 c6 f6
  replace b2 := g4.heap b2
  replace b3 := g4.heap b3
  replace b5 := g4.heap b5
  replace b6 := g4.heap b6
  have G := G.trans g4
  clear z2 z3 z5 z6 z0
  clear g4
  refine (alive_any _ (HT.out.gr G)).mono ?_
  rintro e wz ⟨rfl, gz⟩
  obtain ⟨c2, f2, z2⟩ := blk_cells (gz.heap b2)
  obtain ⟨c3, f3, z3⟩ := blk_cells (gz.heap b3)
  obtain ⟨c5, f5, z5⟩ := blk_cells (gz.heap b5)
  obtain ⟨c6, f6, z6⟩ := blk_cells (gz.heap b6)
  go_wp2
  go_ret
  exact ⟨rfl, G.trans gz⟩
set_option maxRecDepth 100000 in
set_option maxHeartbeats 8000000 in
theorem RuleMediant_same (n d c e a b a' b' E : Int) (w : World) (ht : Tab w)
    (NB : Hid (Says 20 #[fr n d] (.tuple #[fr a b, fr a' b', .int .i64 0])))
    (q1 : IntKind.i64.wrap (a + a') = n) (q2 : IntKind.i64.wrap (b + b') = d) (hb : ¬ d ≤ b) (hb' : ¬ d ≤ b')
    (L1 : Hid (Says 39 #[fr a b, fr n d] (.bool true))) (L2 : Hid (Says 39 #[fr n d, fr a' b'] (.bool true)))
    (CF : Hid (Says 40 #[fr c e] (.int .i64 0)))
    (hc : c = n) (he : e = d)
    : Calls Tryd.prog 9 #[fr n d, fr c e] w fun e w' => e = .returned (.bool true) ∧ Gr w w' := by
  have HT := Lib.hid ht
  clear ht
  subst hc
  subst he
  go_enter Tryd.func9, Tryd.ntmps9
  go_wp2_with fail
  have G := Gr.refl w
  have b2 := heap_alloc_self w (.cells #[.int .i64 c, .int .i64 e] 23)
  replace G := G.alloc (.cells #[.int .i64 c, .int .i64 e] 23)
  replace b2 := ((Gr.refl _).alloc (.cells #[.int .i64 c, .int .i64 e] 23)).heap b2
  have b3 := heap_alloc_self (w.alloc (.cells #[.int .i64 c, .int .i64 e] 23)) (.cells #[.int .i64 c, .int .i64 e] 23)
  replace G := G.alloc (.cells #[.int .i64 c, .int .i64 e] 23)
  generalize hW : ((w.alloc (.cells #[.int .i64 c, .int .i64 e] 23)).alloc (.cells #[.int .i64 c, .int .i64 e] 23)) = W1 at *
  simp only [World.size_alloc] at b3
  have w0 : w.heap.size ≤ w.heap.size := Nat.le_refl _
  obtain ⟨p3, hp3⟩ : ∃ p3, w.heap.size + 1 = p3 := ⟨_, rfl⟩
  obtain ⟨p2, hp2⟩ : ∃ p2, w.heap.size = p2 := ⟨_, rfl⟩
  rw [hp3] at b3
  rw [hp2] at b2
  try simp only [hp3]
  try simp only [hp2]
  have s2 : w.heap.size ≤ p2 := by omega
  have n2_3 : ¬ p2 = p3 := by omega
  have n3_2 : ¬ p3 = p2 := by omega
  have s3 : w.heap.size ≤ p3 := by omega
  clear  w0
  clear hp2
  clear hp3
  clear hW
  refine (NB.out _).mono ?_
  rintro e w1 ⟨rfl, g1⟩
  obtain ⟨c2, f2, z2⟩ := blk_cells (g1.heap b2)
  obtain ⟨c3, f3, z3⟩ := blk_cells (g1.heap b3)
  have z0 : w.heap.size ≤ w1.heap.size := (Gr.trans G g1).b.size
  go_wp2_with fail
  clear c2 f2 c3 f3
  replace b2 := g1.heap b2
  replace b3 := g1.heap b3
  have G := G.trans g1
  replace b2 := ((Gr.refl _).alloc (.cells #[.int .i64 a, .int .i64 b] 23)).heap b2
  replace b3 := ((Gr.refl _).alloc (.cells #[.int .i64 a, .int .i64 b] 23)).heap b3
  have b5 := heap_alloc_self w1 (.cells #[.int .i64 a, .int .i64 b] 23)
  replace G := G.alloc (.cells #[.int .i64 a, .int .i64 b] 23)
  replace b2 := ((Gr.refl _).alloc (.cells #[.int .i64 (a'), .int .i64 (b')] 23)).heap b2
  replace b3 := ((Gr.refl _).alloc (.cells #[.int .i64 (a'), .int .i64 (b')] 23)).heap b3
  replace b5 := ((Gr.refl _).alloc (.cells #[.int .i64 (a'), .int .i64 (b')] 23)).heap b5
  have b6 := heap_alloc_self (w1.alloc (.cells #[.int .i64 a, .int .i64 b] 23)) (.cells #[.int .i64 (a'), .int .i64 (b')] 23)
  replace G := G.alloc (.cells #[.int .i64 (a'), .int .i64 (b')] 23)
  generalize hW : ((w1.alloc (.cells #[.int .i64 a, .int .i64 b] 23)).alloc (.cells #[.int .i64 (a'), .int .i64 (b')] 23)) = W2 at *
  simp only [World.size_alloc] at b6
  have o2 : p2 < w1.heap.size := z2
  have o3 : p3 < w1.heap.size := z3
  have w0 : w.heap.size ≤ w1.heap.size := z0
  obtain ⟨p6, hp6⟩ : ∃ p6, w1.heap.size + 1 = p6 := ⟨_, rfl⟩
  obtain ⟨p5, hp5⟩ : ∃ p5, w1.heap.size = p5 := ⟨_, rfl⟩
  rw [hp6] at b6
  rw [hp5] at b5
  try simp only [hp6]
  try simp only [hp5]
  have n2_5 : ¬ p2 = p5 := by omega
  have n5_2 : ¬ p5 = p2 := by omega
  have n3_5 : ¬ p3 = p5 := by omega
  have n5_3 : ¬ p5 = p3 := by omega
  have s5 : w.heap.size ≤ p5 := by omega
  have n2_6 : ¬ p2 = p6 := by omega
  have n6_2 : ¬ p6 = p2 := by omega
  have n3_6 : ¬ p3 = p6 := by omega
  have n6_3 : ¬ p6 = p3 := by omega
  have n5_6 : ¬ p5 = p6 := by omega
  have n6_5 : ¬ p6 = p5 := by omega
  have s6 : w.heap.size ≤ p6 := by omega
  clear o2 o3 w0
  clear hp5
  clear hp6
  clear hW
  clear z2 z3 z0
  clear g1
  refine (L1.out _).mono ?_
  rintro e w2 ⟨rfl, g2⟩
  obtain ⟨c2, f2, z2⟩ := blk_cells (g2.heap b2)
  obtain ⟨c3, f3, z3⟩ := blk_cells (g2.heap b3)
  obtain ⟨c5, f5, z5⟩ := blk_cells (g2.heap b5)
  obtain ⟨c6, f6, z6⟩ := blk_cells (g2.heap b6)
  have z0 : w.heap.size ≤ w2.heap.size := (Gr.trans G g2).b.size
  go_wp2_with fail
  clear c2 f2 c3 f3 c5 f5 c6 f6
  replace b2 := g2.heap b2
  replace b3 := g2.heap b3
  replace b5 := g2.heap b5
  replace b6 := g2.heap b6
  have G := G.trans g2
  clear z2 z3 z5 z6 z0
  clear g2
  refine (L2.out _).mono ?_
  rintro e w3 ⟨rfl, g3⟩
  obtain ⟨c2, f2, z2⟩ := blk_cells (g3.heap b2)
  obtain ⟨c3, f3, z3⟩ := blk_cells (g3.heap b3)
  obtain ⟨c5, f5, z5⟩ := blk_cells (g3.heap b5)
  obtain ⟨c6, f6, z6⟩ := blk_cells (g3.heap b6)
  have z0 : w.heap.size ≤ w3.heap.size := (Gr.trans G g3).b.size
  go_wp2_with fail
  clear c2 f2 c3 f3 c5 f5 c6 f6
  replace b2 := g3.heap b2
  replace b3 := g3.heap b3
  replace b5 := g3.heap b5
  replace b6 := g3.heap b6
  have G := G.trans g3
  clear z2 z3 z5 z6 z0
  clear g3
  refine (CF.out _).mono ?_
  rintro e w4 ⟨rfl, g4⟩
  obtain ⟨c2, f2, z2⟩ := blk_cells (g4.heap b2)
  obtain ⟨c3, f3, z3⟩ := blk_cells (g4.heap b3)
  obtain ⟨c5, f5, z5⟩ := blk_cells (g4.heap b5)
  obtain ⟨c6, f6, z6⟩ := blk_cells (g4.heap b6)
  have z0 : w.heap.size ≤ w4.heap.size := (Gr.trans G g4).b.size
  go_wp2_with fail
  clear c2 f2 c3 f3 c5 f5 c6 f6
  replace b2 := g4.heap b2
  replace b3 := g4.heap b3
  replace b5 := g4.heap b5
  replace b6 := g4.heap b6
  have G := G.trans g4
  clear z2 z3 z5 z6 z0
  clear g4
  refine (alive_any _ (HT.out.gr G)).mono ?_
  rintro e wz ⟨rfl, gz⟩
  obtain ⟨c2, f2, z2⟩ := blk_cells (gz.heap b2)
  obtain ⟨c3, f3, z3⟩ := blk_cells (gz.heap b3)
  obtain ⟨c5, f5, z5⟩ := blk_cells (gz.heap b5)
  obtain ⟨c6, f6, z6⟩ := blk_cells (gz.heap b6)
  go_wp2
  go_ret
  exact ⟨rfl, G.trans gz⟩
set_option maxRecDepth 100000 in
set_option maxHeartbeats 8000000 in
theorem RuleMediant_l1A (n d c e a b a' b' E : Int) (w : World) (ht : Tab w)
    (NB : Hid (Says 20 #[fr n d] (.tuple #[fr a b, fr a' b', .int .i64 0])))
    (q1 : IntKind.i64.wrap (a + a') = n) (q2 : IntKind.i64.wrap (b + b') = d) (hb : ¬ d ≤ b) (hb' : ¬ d ≤ b')
    (L1 : Hid (Says 39 #[fr a b, fr n d] (.bool true))) (L2 : Hid (Says 39 #[fr n d, fr a' b'] (.bool true)))
    (CF : Hid (Says 40 #[fr c e] (.int .i64 0)))
    (hc : ¬ c = n)
    (M1 : Hid (Says 39 #[fr a b, fr c e] (.bool false)))
    : Calls Tryd.prog 9 #[fr n d, fr c e] w fun e w' => e = .returned (.bool true) ∧ Gr w w' := by
  have HT := Lib.hid ht
  clear ht
  go_enter Tryd.func9, Tryd.ntmps9
  go_wp2_with fail
  have G := Gr.refl w
  have b2 := heap_alloc_self w (.cells #[.int .i64 n, .int .i64 d] 23)
  replace G := G.alloc (.cells #[.int .i64 n, .int .i64 d] 23)
  replace b2 := ((Gr.refl _).alloc (.cells #[.int .i64 c, .int .i64 e] 23)).heap b2
  have b3 := heap_alloc_self (w.alloc (.cells #[.int .i64 n, .int .i64 d] 23)) (.cells #[.int .i64 c, .int .i64 e] 23)
  replace G := G.alloc (.cells #[.int .i64 c, .int .i64 e] 23)
  generalize hW : ((w.alloc (.cells #[.int .i64 n, .int .i64 d] 23)).alloc (.cells #[.int .i64 c, .int .i64 e] 23)) = W1 at *
  simp only [World.size_alloc] at b3
  have w0 : w.heap.size ≤ w.heap.size := Nat.le_refl _
  obtain ⟨p3, hp3⟩ : ∃ p3, w.heap.size + 1 = p3 := ⟨_, rfl⟩
  obtain ⟨p2, hp2⟩ : ∃ p2, w.heap.size = p2 := ⟨_, rfl⟩
  rw [hp3] at b3
  rw [hp2] at b2
  try simp only [hp3]
  try simp only [hp2]
  have s2 : w.heap.size ≤ p2 := by omega
  have n2_3 : ¬ p2 = p3 := by omega
  have n3_2 : ¬ p3 = p2 := by omega
  have s3 : w.heap.size ≤ p3 := by omega
  clear  w0
  clear hp2
  clear hp3
  clear hW
  refine (NB.out _).mono ?_
  rintro e w1 ⟨rfl, g1⟩
  obtain ⟨c2, f2, z2⟩ := blk_cells (g1.heap b2)
  obtain ⟨c3, f3, z3⟩ := blk_cells (g1.heap b3)
  have z0 : w.heap.size ≤ w1.heap.size := (Gr.trans G g1).b.size
  go_wp2_with fail
  clear c2 f2 c3 f3
  replace b2 := g1.heap b2
  replace b3 := g1.heap b3
  have G := G.trans g1
  replace b2 := ((Gr.refl _).alloc (.cells #[.int .i64 a, .int .i64 b] 23)).heap b2
  replace b3 := ((Gr.refl _).alloc (.cells #[.int .i64 a, .int .i64 b] 23)).heap b3
  have b5 := heap_alloc_self w1 (.cells #[.int .i64 a, .int .i64 b] 23)
  replace G := G.alloc (.cells #[.int .i64 a, .int .i64 b] 23)
  replace b2 := ((Gr.refl _).alloc (.cells #[.int .i64 (a'), .int .i64 (b')] 23)).heap b2
  replace b3 := ((Gr.refl _).alloc (.cells #[.int .i64 (a'), .int .i64 (b')] 23)).heap b3
  replace b5 := ((Gr.refl _).alloc (.cells #[.int .i64 (a'), .int .i64 (b')] 23)).heap b5
  have b6 := heap_alloc_self (w1.alloc (.cells #[.int .i64 a, .int .i64 b] 23)) (.cells #[.int .i64 (a'), .int .i64 (b')] 23)
  replace G := G.alloc (.cells #[.int .i64 (a'), .int .i64 (b')] 23)
  generalize hW : ((w1.alloc (.cells #[.int .i64 a, .int .i64 b] 23)).alloc (.cells #[.int .i64 (a'), .int .i64 (b')] 23)) = W2 at *
  simp only [World.size_alloc] at b6
  have o2 : p2 < w1.heap.size := z2
  have o3 : p3 < w1.heap.size := z3
  have w0 : w.heap.size ≤ w1.heap.size := z0
  obtain ⟨p6, hp6⟩ : ∃ p6, w1.heap.size + 1 = p6 := ⟨_, rfl⟩
  obtain ⟨p5, hp5⟩ : ∃ p5, w1.heap.size = p5 := ⟨_, rfl⟩
  rw [hp6] at b6
  rw [hp5] at b5
  try simp only [hp6]
  try simp only [hp5]
  have n2_5 : ¬ p2 = p5 := by omega
  have n5_2 : ¬ p5 = p2 := by omega
  have n3_5 : ¬ p3 = p5 := by omega
  have n5_3 : ¬ p5 = p3 := by omega
  have s5 : w.heap.size ≤ p5 := by omega
  have n2_6 : ¬ p2 = p6 := by omega
  have n6_2 : ¬ p6 = p2 := by omega
  have n3_6 : ¬ p3 = p6 := by omega
  have n6_3 : ¬ p6 = p3 := by omega
  have n5_6 : ¬ p5 = p6 := by omega
  have n6_5 : ¬ p6 = p5 := by omega
  have s6 : w.heap.size ≤ p6 := by omega
  clear o2 o3 w0
  clear hp5
  clear hp6
  clear hW
  clear z2 z3 z0
  clear g1
  refine (L1.out _).mono ?_
  rintro e w2 ⟨rfl, g2⟩
  obtain ⟨c2, f2, z2⟩ := blk_cells (g2.heap b2)
  obtain ⟨c3, f3, z3⟩ := blk_cells (g2.heap b3)
  obtain ⟨c5, f5, z5⟩ := blk_cells (g2.heap b5)
  obtain ⟨c6, f6, z6⟩ := blk_cells (g2.heap b6)
  have z0 : w.heap.size ≤ w2.heap.size := (Gr.trans G g2).b.size
  go_wp2_with fail
  clear c2 f2 c3 f3 c5 f5 c6 f6
  replace b2 := g2.heap b2
  replace b3 := g2.heap b3
  replace b5 := g2.heap b5
  replace b6 := g2.heap b6
  have G := G.trans g2
  clear z2 z3 z5 z6 z0
  clear g2
  refine (L2.out _).mono ?_
  rintro e w3 ⟨rfl, g3⟩
  obtain ⟨c2, f2, z2⟩ := blk_cells (g3.heap b2)
  obtain ⟨c3, f3, z3⟩ := blk_cells (g3.heap b3)
  obtain ⟨c5, f5, z5⟩ := blk_cells (g3.heap b5)
  obtain ⟨c6, f6, z6⟩ := blk_cells (g3.heap b6)
  have z0 : w.heap.size ≤ w3.heap.size := (Gr.trans G g3).b.size
  go_wp2_with fail
  clear c2 f2 c3 f3 c5 f5 c6 f6
  replace b2 := g3.heap b2
  replace b3 := g3.heap b3
  replace b5 := g3.heap b5
  replace b6 := g3.heap b6
  have G := G.trans g3
  clear z2 z3 z5 z6 z0
  clear g3
  refine (CF.out _).mono ?_
  rintro e w4 ⟨rfl, g4⟩
  obtain ⟨c2, f2, z2⟩ := blk_cells (g4.heap b2)
  obtain ⟨c3, f3, z3⟩ := blk_cells (g4.heap b3)
  obtain ⟨c5, f5, z5⟩ := blk_cells (g4.heap b5)
  obtain ⟨c6, f6, z6⟩ := blk_cells (g4.heap b6)
  have z0 : w.heap.size ≤ w4.heap.size := (Gr.trans G g4).b.size
  go_wp2_with fail
  clear c2 f2 c3 f3 c5 f5 c6 f6
  replace b2 := g4.heap b2
  replace b3 := g4.heap b3
  replace b5 := g4.heap b5
  replace b6 := g4.heap b6
  have G := G.trans g4
  clear z2 z3 z5 z6 z0
  clear g4
  refine (M1.out _).mono ?_
  rintro e w5 ⟨rfl, g5⟩
  obtain ⟨c2, f2, z2⟩ := blk_cells (g5.heap b2)
  obtain ⟨c3, f3, z3⟩ := blk_cells (g5.heap b3)
  obtain ⟨c5, f5, z5⟩ := blk_cells (g5.heap b5)
  obtain ⟨c6, f6, z6⟩ := blk_cells (g5.heap b6)
  have z0 : w.heap.size ≤ w5.heap.size := (Gr.trans G g5).b.size
  go_wp2_with fail
  clear c2 f2 c3 f3 c5 f5 c6 f6
  replace b2 := g5.heap b2
  replace b3 := g5.heap b3
  replace b5 := g5.heap b5
  replace b6 := g5.heap b6
  have G := G.trans g5
  clear z2 z3 z5 z6 z0
  clear g5
  refine (alive_any _ (HT.out.gr G)).mono ?_
  rintro e wz ⟨rfl, gz⟩
  obtain ⟨c2, f2, z2⟩ := blk_cells (gz.heap b2)
  obtain ⟨c3, f3, z3⟩ := blk_cells (gz.heap b3)
  obtain ⟨c5, f5, z5⟩ := blk_cells (gz.heap b5)
  obtain ⟨c6, f6, z6⟩ := blk_cells (gz.heap b6)
  go_wp2
  go_ret
  exact ⟨rfl, G.trans gz⟩
set_option maxRecDepth 100000 in
set_option maxHeartbeats 8000000 in
theorem RuleMediant_l1B (n d c e a b a' b' E : Int) (w : World) (ht : Tab w)
    (NB : Hid (Says 20 #[fr n d] (.tuple #[fr a b, fr a' b', .int .i64 0])))
    (q1 : IntKind.i64.wrap (a + a') = n) (q2 : IntKind.i64.wrap (b + b') = d) (hb : ¬ d ≤ b) (hb' : ¬ d ≤ b')
    (L1 : Hid (Says 39 #[fr a b, fr n d] (.bool true))) (L2 : Hid (Says 39 #[fr n d, fr a' b'] (.bool true)))
    (CF : Hid (Says 40 #[fr c e] (.int .i64 0)))
    (hc : c = n) (he : ¬ e = d)
    (M1 : Hid (Says 39 #[fr a b, fr c e] (.bool false)))
    : Calls Tryd.prog 9 #[fr n d, fr c e] w fun e w' => e = .returned (.bool true) ∧ Gr w w' := by
  have HT := Lib.hid ht
  clear ht
  subst hc
  go_enter Tryd.func9, Tryd.ntmps9
  go_wp2_with fail
  have G := Gr.refl w
  have b2 := heap_alloc_self w (.cells #[.int .i64 c, .int .i64 d] 23)
  replace G := G.alloc (.cells #[.int .i64 c, .int .i64 d] 23)
  replace b2 := ((Gr.refl _).alloc (.cells #[.int .i64 c, .int .i64 e] 23)).heap b2
  have b3 := heap_alloc_self (w.alloc (.cells #[.int .i64 c, .int .i64 d] 23)) (.cells #[.int .i64 c, .int .i64 e] 23)
  replace G := G.alloc (.cells #[.int .i64 c, .int .i64 e] 23)
  generalize hW : ((w.alloc (.cells #[.int .i64 c, .int .i64 d] 23)).alloc (.cells #[.int .i64 c, .int .i64 e] 23)) = W1 at *
  simp only [World.size_alloc] at b3
  have w0 : w.heap.size ≤ w.heap.size := Nat.le_refl _
  obtain ⟨p3, hp3⟩ : ∃ p3, w.heap.size + 1 = p3 := ⟨_, rfl⟩
  obtain ⟨p2, hp2⟩ : ∃ p2, w.heap.size = p2 := ⟨_, rfl⟩
  rw [hp3] at b3
  rw [hp2] at b2
  try simp only [hp3]
  try simp only [hp2]
  have s2 : w.heap.size ≤ p2 := by omega
  have n2_3 : ¬ p2 = p3 := by omega
  have n3_2 : ¬ p3 = p2 := by omega
  have s3 : w.heap.size ≤ p3 := by omega
  clear  w0
  clear hp2
  clear hp3
  clear hW
  refine (NB.out _).mono ?_
  rintro e w1 ⟨rfl, g1⟩
  obtain ⟨c2, f2, z2⟩ := blk_cells (g1.heap b2)
  obtain ⟨c3, f3, z3⟩ := blk_cells (g1.heap b3)
  have z0 : w.heap.size ≤ w1.heap.size := (Gr.trans G g1).b.size
  go_wp2_with fail
  clear c2 f2 c3 f3
  replace b2 := g1.heap b2
  replace b3 := g1.heap b3
  have G := G.trans g1
  replace b2 := ((Gr.refl _).alloc (.cells #[.int .i64 a, .int .i64 b] 23)).heap b2
  replace b3 := ((Gr.refl _).alloc (.cells #[.int .i64 a, .int .i64 b] 23)).heap b3
  have b5 := heap_alloc_self w1 (.cells #[.int .i64 a, .int .i64 b] 23)
  replace G := G.alloc (.cells #[.int .i64 a, .int .i64 b] 23)
  replace b2 := ((Gr.refl _).alloc (.cells #[.int .i64 (a'), .int .i64 (b')] 23)).heap b2
  replace b3 := ((Gr.refl _).alloc (.cells #[.int .i64 (a'), .int .i64 (b')] 23)).heap b3
  replace b5 := ((Gr.refl _).alloc (.cells #[.int .i64 (a'), .int .i64 (b')] 23)).heap b5
  have b6 := heap_alloc_self (w1.alloc (.cells #[.int .i64 a, .int .i64 b] 23)) (.cells #[.int .i64 (a'), .int .i64 (b')] 23)
  replace G := G.alloc (.cells #[.int .i64 (a'), .int .i64 (b')] 23)
  generalize hW : ((w1.alloc (.cells #[.int .i64 a, .int .i64 b] 23)).alloc (.cells #[.int .i64 (a'), .int .i64 (b')] 23)) = W2 at *
  simp only [World.size_alloc] at b6
  have o2 : p2 < w1.heap.size := z2
  have o3 : p3 < w1.heap.size := z3
  have w0 : w.heap.size ≤ w1.heap.size := z0
  obtain ⟨p6, hp6⟩ : ∃ p6, w1.heap.size + 1 = p6 := ⟨_, rfl⟩
  obtain ⟨p5, hp5⟩ : ∃ p5, w1.heap.size = p5 := ⟨_, rfl⟩
  rw [hp6] at b6
  rw [hp5] at b5
  try simp only [hp6]
  try simp only [hp5]
  have n2_5 : ¬ p2 = p5 := by omega
  have n5_2 : ¬ p5 = p2 := by omega
  have n3_5 : ¬ p3 = p5 := by omega
  have n5_3 : ¬ p5 = p3 := by omega
  have s5 : w.heap.size ≤ p5 := by omega
  have n2_6 : ¬ p2 = p6 := by omega
  have n6_2 : ¬ p6 = p2 := by omega
  have n3_6 : ¬ p3 = p6 := by omega
  have n6_3 : ¬ p6 = p3 := by omega
  have n5_6 : ¬ p5 = p6 := by omega
  have n6_5 : ¬ p6 = p5 := by omega
  have s6 : w.heap.size ≤ p6 := by omega
  clear o2 o3 w0
  clear hp5
  clear hp6
  clear hW
  clear z2 z3 z0
  clear g1
  refine (L1.out _).mono ?_
  rintro e w2 ⟨rfl, g2⟩
  obtain ⟨c2, f2, z2⟩ := blk_cells (g2.heap b2)
  obtain ⟨c3, f3, z3⟩ := blk_cells (g2.heap b3)
  obtain ⟨c5, f5, z5⟩ := blk_cells (g2.heap b5)
  obtain ⟨c6, f6, z6⟩ := blk_cells (g2.heap b6)
  have z0 : w.heap.size ≤ w2.heap.size := (Gr.trans G g2).b.size
  go_wp2_with fail
  clear c2 f2 c3 f3 c5 f5 c6 f6
  replace b2 := g2.heap b2
  replace b3 := g2.heap b3
  replace b5 := g2.heap b5
  replace b6 := g2.heap b6
  have G := G.trans g2
  clear z2 z3 z5 z6 z0
  clear g2
  refine (L2.out _).mono ?_
  rintro e w3 ⟨rfl, g3⟩
  obtain ⟨c2, f2, z2⟩ := blk_cells (g3.heap b2)
  obtain ⟨c3, f3, z3⟩ := blk_cells (g3.heap b3)
  obtain ⟨c5, f5, z5⟩ := blk_cells (g3.heap b5)
  obtain ⟨c6, f6, z6⟩ := blk_cells (g3.heap b6)
  have z0 : w.heap.size ≤ w3.heap.size := (Gr.trans G g3).b.size
  go_wp2_with fail
  clear c2 f2 c3 f3 c5 f5 c6 f6
  replace b2 := g3.heap b2
  replace b3 := g3.heap b3
  replace b5 := g3.heap b5
  replace b6 := g3.heap b6
  have G := G.trans g3
  clear z2 z3 z5 z6 z0
  clear g3
  refine (CF.out _).mono ?_
  rintro e w4 ⟨rfl, g4⟩
  obtain ⟨c2, f2, z2⟩ := blk_cells (g4.heap b2)
  obtain ⟨c3, f3, z3⟩ := blk_cells (g4.heap b3)
  obtain ⟨c5, f5, z5⟩ := blk_cells (g4.heap b5)
  obtain ⟨c6, f6, z6⟩ := blk_cells (g4.heap b6)
  have z0 : w.heap.size ≤ w4.heap.size := (Gr.trans G g4).b.size
  go_wp2_with fail
  clear c2 f2 c3 f3 c5 f5 c6 f6
  replace b2 := g4.heap b2
  replace b3 := g4.heap b3
  replace b5 := g4.heap b5
  replace b6 := g4.heap b6
  have G := G.trans g4
  clear z2 z3 z5 z6 z0
  clear g4
  refine (M1.out _).mono ?_
  rintro e w5 ⟨rfl, g5⟩
  obtain ⟨c2, f2, z2⟩ := blk_cells (g5.heap b2)
  obtain ⟨c3, f3, z3⟩ := blk_cells (g5.heap b3)
  obtain ⟨c5, f5, z5⟩ := blk_cells (g5.heap b5)
  obtain ⟨c6, f6, z6⟩ := blk_cells (g5.heap b6)
  have z0 : w.heap.size ≤ w5.heap.size := (Gr.trans G g5).b.size
  go_wp2_with fail
  clear c2 f2 c3 f3 c5 f5 c6 f6
  replace b2 := g5.heap b2
  replace b3 := g5.heap b3
  replace b5 := g5.heap b5
  replace b6 := g5.heap b6
  have G := G.trans g5
  clear z2 z3 z5 z6 z0
  clear g5
  refine (alive_any _ (HT.out.gr G)).mono ?_
  rintro e wz ⟨rfl, gz⟩
  obtain ⟨c2, f2, z2⟩ := blk_cells (gz.heap b2)
  obtain ⟨c3, f3, z3⟩ := blk_cells (gz.heap b3)
  obtain ⟨c5, f5, z5⟩ := blk_cells (gz.heap b5)
  obtain ⟨c6, f6, z6⟩ := blk_cells (gz.heap b6)
  go_wp2
  go_ret
  exact ⟨rfl, G.trans gz⟩
set_option maxRecDepth 100000 in
set_option maxHeartbeats 8000000 in
theorem RuleMediant_l2A (n d c e a b a' b' E : Int) (w : World) (ht : Tab w)
    (NB : Hid (Says 20 #[fr n d] (.tuple #[fr a b, fr a' b', .int .i64 0])))
    (q1 : IntKind.i64.wrap (a + a') = n) (q2 : IntKind.i64.wrap (b + b') = d) (hb : ¬ d ≤ b) (hb' : ¬ d ≤ b')
    (L1 : Hid (Says 39 #[fr a b, fr n d] (.bool true))) (L2 : Hid (Says 39 #[fr n d, fr a' b'] (.bool true)))
    (CF : Hid (Says 40 #[fr c e] (.int .i64 0)))
    (hc : ¬ c = n)
    (M1 : Hid (Says 39 #[fr a b, fr c e] (.bool true)))
    (M2 : Hid (Says 39 #[fr c e, fr a' b'] (.bool false)))
    : Calls Tryd.prog 9 #[fr n d, fr c e] w fun e w' => e = .returned (.bool true) ∧ Gr w w' := by
  have HT := Lib.hid ht
  clear ht
  go_enter Tryd.func9, Tryd.ntmps9
  go_wp2_with fail
  have G := Gr.refl w
  have b2 := heap_alloc_self w (.cells #[.int .i64 n, .int .i64 d] 23)
  replace G := G.alloc (.cells #[.int .i64 n, .int .i64 d] 23)
  replace b2 := ((Gr.refl _).alloc (.cells #[.int .i64 c, .int .i64 e] 23)).heap b2
  have b3 := heap_alloc_self (w.alloc (.cells #[.int .i64 n, .int .i64 d] 23)) (.cells #[.int .i64 c, .int .i64 e] 23)
  replace G := G.alloc (.cells #[.int .i64 c, .int .i64 e] 23)
  generalize hW : ((w.alloc (.cells #[.int .i64 n, .int .i64 d] 23)).alloc (.cells #[.int .i64 c, .int .i64 e] 23)) = W1 at *
  simp only [World.size_alloc] at b3
  have w0 : w.heap.size ≤ w.heap.size := Nat.le_refl _
  obtain ⟨p3, hp3⟩ : ∃ p3, w.heap.size + 1 = p3 := ⟨_, rfl⟩
  obtain ⟨p2, hp2⟩ : ∃ p2, w.heap.size = p2 := ⟨_, rfl⟩
  rw [hp3] at b3
  rw [hp2] at b2
  try simp only [hp3]
  try simp only [hp2]
  have s2 : w.heap.size ≤ p2 := by omega
  have n2_3 : ¬ p2 = p3 := by omega
  have n3_2 : ¬ p3 = p2 := by omega
  have s3 : w.heap.size ≤ p3 := by omega
  clear  w0
  clear hp2
  clear hp3
  clear hW
  refine (NB.out _).mono ?_
  rintro e w1 ⟨rfl, g1⟩
  obtain ⟨c2, f2, z2⟩ := blk_cells (g1.heap b2)
  obtain ⟨c3, f3, z3⟩ := blk_cells (g1.heap b3)
  have z0 : w.heap.size ≤ w1.heap.size := (Gr.trans G g1).b.size
  go_wp2_with fail
  clear c2 f2 c3 f3
  replace b2 := g1.heap b2
  replace b3 := g1.heap b3
  have G := G.trans g1
  replace b2 := ((Gr.refl _).alloc (.cells #[.int .i64 a, .int .i64 b] 23)).heap b2
  replace b3 := ((Gr.refl _).alloc (.cells #[.int .i64 a, .int .i64 b] 23)).heap b3
  have b5 := heap_alloc_self w1 (.cells #[.int .i64 a, .int .i64 b] 23)
  replace G := G.alloc (.cells #[.int .i64 a, .int .i64 b] 23)
  replace b2 := ((Gr.refl _).alloc (.cells #[.int .i64 (a'), .int .i64 (b')] 23)).heap b2
  replace b3 := ((Gr.refl _).alloc (.cells #[.int .i64 (a'), .int .i64 (b')] 23)).heap b3
  replace b5 := ((Gr.refl _).alloc (.cells #[.int .i64 (a'), .int .i64 (b')] 23)).heap b5
  have b6 := heap_alloc_self (w1.alloc (.cells #[.int .i64 a, .int .i64 b] 23)) (.cells #[.int .i64 (a'), .int .i64 (b')] 23)
  replace G := G.alloc (.cells #[.int .i64 (a'), .int .i64 (b')] 23)
  generalize hW : ((w1.alloc (.cells #[.int .i64 a, .int .i64 b] 23)).alloc (.cells #[.int .i64 (a'), .int .i64 (b')] 23)) = W2 at *
  simp only [World.size_alloc] at b6
  have o2 : p2 < w1.heap.size := z2
  have o3 : p3 < w1.heap.size := z3
  have w0 : w.heap.size ≤ w1.heap.size := z0
  obtain ⟨p6, hp6⟩ : ∃ p6, w1.heap.size + 1 = p6 := ⟨_, rfl⟩
  obtain ⟨p5, hp5⟩ : ∃ p5, w1.heap.size = p5 := ⟨_, rfl⟩
  rw [hp6] at b6
  rw [hp5] at b5
  try simp only [hp6]
  try simp only [hp5]
  have n2_5 : ¬ p2 = p5 := by omega
  have n5_2 : ¬ p5 = p2 := by omega
  have n3_5 : ¬ p3 = p5 := by omega
  have n5_3 : ¬ p5 = p3 := by omega
  have s5 : w.heap.size ≤ p5 := by omega
  have n2_6 : ¬ p2 = p6 := by omega
  have n6_2 : ¬ p6 = p2 := by omega
  have n3_6 : ¬ p3 = p6 := by omega
  have n6_3 : ¬ p6 = p3 := by omega
  have n5_6 : ¬ p5 = p6 := by omega
  have n6_5 : ¬ p6 = p5 := by omega
  have s6 : w.heap.size ≤ p6 := by omega
  clear o2 o3 w0
  clear hp5
  clear hp6
  clear hW
  clear z2 z3 z0
  clear g1
  refine (L1.out _).mono ?_
  rintro e w2 ⟨rfl, g2⟩
  obtain ⟨c2, f2, z2⟩ := blk_cells (g2.heap b2)
  obtain ⟨c3, f3, z3⟩ := blk_cells (g2.heap b3)
  obtain ⟨c5, f5, z5⟩ := blk_cells (g2.heap b5)
  obtain ⟨c6, f6, z6⟩ := blk_cells (g2.heap b6)
  have z0 : w.heap.size ≤ w2.heap.size := (Gr.trans G g2).b.size
  go_wp2_with fail
  clear c2 f2 c3 f3 c5 f5 c6 f6
  replace b2 := g2.heap b2
  replace b3 := g2.heap b3
  replace b5 := g2.heap b5
  replace b6 := g2.heap b6
  have G := G.trans g2
  clear z2 z3 z5 z6 z0
  clear g2
  refine (L2.out _).mono ?_
  rintro e w3 ⟨rfl, g3⟩
  obtain ⟨c2, f2, z2⟩ := blk_cells (g3.heap b2)
  obtain ⟨c3, f3, z3⟩ := blk_cells (g3.heap b3)
  obtain ⟨c5, f5, z5⟩ := blk_cells (g3.heap b5)
  obtain ⟨c6, f6, z6⟩ := blk_cells (g3.heap b6)
  have z0 : w.heap.size ≤ w3.heap.size := (Gr.trans G g3).b.size
  go_wp2_with fail
  clear c2 f2 c3 f3 c5 f5 c6 f6
  replace b2 := g3.heap b2
  replace b3 := g3.heap b3
  replace b5 := g3.heap b5
  replace b6 := g3.heap b6
  have G := G.trans g3
  clear z2 z3 z5 z6 z0
  clear g3
  refine (CF.out _).mono ?_
  rintro e w4 ⟨rfl, g4⟩
  obtain ⟨c2, f2, z2⟩ := blk_cells (g4.heap b2)
  obtain ⟨c3, f3, z3⟩ := blk_cells (g4.heap b3)
  obtain ⟨c5, f5, z5⟩ := blk_cells (g4.heap b5)
  obtain ⟨c6, f6, z6⟩ := blk_cells (g4.heap b6)
  have z0 : w.heap.size ≤ w4.heap.size := (Gr.trans G g4).b.size
  go_wp2_with fail
  clear c2 f2 c3 f3 c5 f5 c6 f6
  replace b2 := g4.heap b2
  replace b3 := g4.heap b3
  replace b5 := g4.heap b5
  replace b6 := g4.heap b6
  have G := G.trans g4
  clear z2 z3 z5 z6 z0
  clear g4
  refine (M1.out _).mono ?_
  rintro e w5 ⟨rfl, g5⟩
  obtain ⟨c2, f2, z2⟩ := blk_cells (g5.heap b2)
  obtain ⟨c3, f3, z3⟩ := blk_cells (g5.heap b3)
  obtain ⟨c5, f5, z5⟩ := blk_cells (g5.heap b5)
  obtain ⟨c6, f6, z6⟩ := blk_cells (g5.heap b6)
  have z0 : w.heap.size ≤ w5.heap.size := (Gr.trans G g5).b.size
  go_wp2_with fail
  clear c2 f2 c3 f3 c5 f5 c6 f6
  replace b2 := g5.heap b2
  replace b3 := g5.heap b3
  replace b5 := g5.heap b5
  replace b6 := g5.heap b6
  have G := G.trans g5
  clear z2 z3 z5 z6 z0
  clear g5
  refine (M2.out _).mono ?_
  rintro e w6 ⟨rfl, g6⟩
  obtain ⟨c2, f2, z2⟩ := blk_cells (g6.heap b2)
  obtain ⟨c3, f3, z3⟩ := blk_cells (g6.heap b3)
  obtain ⟨c5, f5, z5⟩ := blk_cells (g6.heap b5)
  obtain ⟨c6, f6, z6⟩ := blk_cells (g6.heap b6)
  have z0 : w.heap.size ≤ w6.heap.size := (Gr.trans G g6).b.size
  go_wp2_with fail
  clear c2 f2 c3 f3 c5 f5 c6 f6
  replace b2 := g6.heap b2
  replace b3 := g6.heap b3
  replace b5 := g6.heap b5
  replace b6 := g6.heap b6
  have G := G.trans g6
  clear z2 z3 z5 z6 z0
  clear g6
  refine (alive_any _ (HT.out.gr G)).mono ?_
  rintro e wz ⟨rfl, gz⟩
  obtain ⟨c2, f2, z2⟩ := blk_cells (gz.heap b2)
  obtain ⟨c3, f3, z3⟩ := blk_cells (gz.heap b3)
  obtain ⟨c5, f5, z5⟩ := blk_cells (gz.heap b5)
  obtain ⟨c6, f6, z6⟩ := blk_cells (gz.heap b6)
  go_wp2
  go_ret
  exact ⟨rfl, G.trans gz⟩
set_option maxRecDepth 100000 in
set_option maxHeartbeats 8000000 in
theorem RuleMediant_l2B (n d c e a b a' b' E : Int) (w : World) (ht : Tab w)
    (NB : Hid (Says 20 #[fr n d] (.tuple #[fr a b, fr a' b', .int .i64 0])))
    (q1 : IntKind.i64.wrap (a + a') = n) (q2 : IntKind.i64.wrap (b + b') = d) (hb : ¬ d ≤ b) (hb' : ¬ d ≤ b')
    (L1 : Hid (Says 39 #[fr a b, fr n d] (.bool true))) (L2 : Hid (Says 39 #[fr n d, fr a' b'] (.bool true)))
    (CF : Hid (Says 40 #[fr c e] (.int .i64 0)))
    (hc : c = n) (he : ¬ e = d)
    (M1 : Hid (Says 39 #[fr a b, fr c e] (.bool true)))
    (M2 : Hid (Says 39 #[fr c e, fr a' b'] (.bool false)))
    : Calls Tryd.prog 9 #[fr n d, fr c e] w fun e w' => e = .returned (.bool true) ∧ Gr w w' := by
  have HT := Lib.hid ht
  clear ht
  subst hc
  go_enter Tryd.func9, Tryd.ntmps9
  go_wp2_with fail
  have G := Gr.refl w
  have b2 := heap_alloc_self w (.cells #[.int .i64 c, .int .i64 d] 23)
  replace G := G.alloc (.cells #[.int .i64 c, .int .i64 d] 23)
  replace b2 := ((Gr.refl _).alloc (.cells #[.int .i64 c, .int .i64 e] 23)).heap b2
  have b3 := heap_alloc_self (w.alloc (.cells #[.int .i64 c, .int .i64 d] 23)) (.cells #[.int .i64 c, .int .i64 e] 23)
  replace G := G.alloc (.cells #[.int .i64 c, .int .i64 e] 23)
  generalize hW : ((w.alloc (.cells #[.int .i64 c, .int .i64 d] 23)).alloc (.cells #[.int .i64 c, .int .i64 e] 23)) = W1 at *
  simp only [World.size_alloc] at b3
  have w0 : w.heap.size ≤ w.heap.size := Nat.le_refl _
  obtain ⟨p3, hp3⟩ : ∃ p3, w.heap.size + 1 = p3 := ⟨_, rfl⟩
  obtain ⟨p2, hp2⟩ : ∃ p2, w.heap.size = p2 := ⟨_, rfl⟩
  rw [hp3] at b3
  rw [hp2] at b2
  try simp only [hp3]
  try simp only [hp2]
  have s2 : w.heap.size ≤ p2 := by omega
  have n2_3 : ¬ p2 = p3 := by omega
  have n3_2 : ¬ p3 = p2 := by omega
  have s3 : w.heap.size ≤ p3 := by omega
  clear  w0
  clear hp2
  clear hp3
  clear hW
  refine (NB.out _).mono ?_
  rintro e w1 ⟨rfl, g1⟩
  obtain ⟨c2, f2, z2⟩ := blk_cells (g1.heap b2)
  obtain ⟨c3, f3, z3⟩ := blk_cells (g1.heap b3)
  have z0 : w.heap.size ≤ w1.heap.size := (Gr.trans G g1).b.size
  go_wp2_with fail
  clear c2 f2 c3 f3
  replace b2 := g1.heap b2
  replace b3 := g1.heap b3
  have G := G.trans g1
  replace b2 := ((Gr.refl _).alloc (.cells #[.int .i64 a, .int .i64 b] 23)).heap b2
  replace b3 := ((Gr.refl _).alloc (.cells #[.int .i64 a, .int .i64 b] 23)).heap b3
  have b5 := heap_alloc_self w1 (.cells #[.int .i64 a, .int .i64 b] 23)
  replace G := G.alloc (.cells #[.int .i64 a, .int .i64 b] 23)
  replace b2 := ((Gr.refl _).alloc (.cells #[.int .i64 (a'), .int .i64 (b')] 23)).heap b2
  replace b3 := ((Gr.refl _).alloc (.cells #[.int .i64 (a'), .int .i64 (b')] 23)).heap b3
  replace b5 := ((Gr.refl _).alloc (.cells #[.int .i64 (a'), .int .i64 (b')] 23)).heap b5
  have b6 := heap_alloc_self (w1.alloc (.cells #[.int .i64 a, .int .i64 b] 23)) (.cells #[.int .i64 (a'), .int .i64 (b')] 23)
  replace G := G.alloc (.cells #[.int .i64 (a'), .int .i64 (b')] 23)
  generalize hW : ((w1.alloc (.cells #[.int .i64 a, .int .i64 b] 23)).alloc (.cells #[.int .i64 (a'), .int .i64 (b')] 23)) = W2 at *
  simp only [World.size_alloc] at b6
  have o2 : p2 < w1.heap.size := z2
  have o3 : p3 < w1.heap.size := z3
  have w0 : w.heap.size ≤ w1.heap.size := z0
  obtain ⟨p6, hp6⟩ : ∃ p6, w1.heap.size + 1 = p6 := ⟨_, rfl⟩
  obtain ⟨p5, hp5⟩ : ∃ p5, w1.heap.size = p5 := ⟨_, rfl⟩
  rw [hp6] at b6
  rw [hp5] at b5
  try simp only [hp6]
  try simp only [hp5]
  have n2_5 : ¬ p2 = p5 := by omega
  have n5_2 : ¬ p5 = p2 := by omega
  have n3_5 : ¬ p3 = p5 := by omega
  have n5_3 : ¬ p5 = p3 := by omega
  have s5 : w.heap.size ≤ p5 := by omega
  have n2_6 : ¬ p2 = p6 := by omega
  have n6_2 : ¬ p6 = p2 := by omega
  have n3_6 : ¬ p3 = p6 := by omega
  have n6_3 : ¬ p6 = p3 := by omega
  have n5_6 : ¬ p5 = p6 := by omega
  have n6_5 : ¬ p6 = p5 := by omega
  have s6 : w.heap.size ≤ p6 := by omega
  clear o2 o3 w0
  clear hp5
  clear hp6
  clear hW
  clear z2 z3 z0
  clear g1
  refine (L1.out _).mono ?_
  rintro e w2 ⟨rfl, g2⟩
  obtain ⟨c2, f2, z2⟩ := blk_cells (g2.heap b2)
  obtain ⟨c3, f3, z3⟩ := blk_cells (g2.heap b3)
  obtain ⟨c5, f5, z5⟩ := blk_cells (g2.heap b5)
  obtain ⟨c6, f6, z6⟩ := blk_cells (g2.heap b6)
  have z0 : w.heap.size ≤ w2.heap.size := (Gr.trans G g2).b.size
  go_wp2_with fail
  clear c2 f2 c3 f3 c5 f5 c6 f6
  replace b2 := g2.heap b2
  replace b3 := g2.heap b3
  replace b5 := g2.heap b5
  replace b6 := g2.heap b6
  have G := G.trans g2
  clear z2 z3 z5 z6 z0
  clear g2
  refine (L2.out _).mono ?_
  rintro e w3 ⟨rfl, g3⟩
  obtain ⟨c2, f2, z2⟩ := blk_cells (g3.heap b2)
  obtain ⟨c3, f3, z3⟩ := blk_cells (g3.heap b3)
  obtain ⟨c5, f5, z5⟩ := blk_cells (g3.heap b5)
  obtain ⟨c6, f6, z6⟩ := blk_cells (g3.heap b6)
  have z0 : w.heap.size ≤ w3.heap.size := (Gr.trans G g3).b.size
  go_wp2_with fail
  clear c2 f2 c3 f3 c5 f5 c6 f6
  replace b2 := g3.heap b2
  replace b3 := g3.heap b3
  replace b5 := g3.heap b5
  replace b6 := g3.heap b6
  have G := G.trans g3
  clear z2 z3 z5 z6 z0
  clear g3
  refine (CF.out _).mono ?_
  rintro e w4 ⟨rfl, g4⟩
  obtain ⟨c2, f2, z2⟩ := blk_cells (g4.heap b2)
  obtain ⟨c3, f3, z3⟩ := blk_cells (g4.heap b3)
  obtain ⟨c5, f5, z5⟩ := blk_cells (g4.heap b5)
  obtain ⟨c6, f6, z6⟩ := blk_cells (g4.heap b6)
  have z0 : w.heap.size ≤ w4.heap.size := (Gr.trans G g4).b.size
  go_wp2_with fail
  clear c2 f2 c3 f3 c5 f5 c6 f6
  replace b2 := g4.heap b2
  replace b3 := g4.heap b3
  replace b5 := g4.heap b5
  replace b6 := g4.heap b6
  have G := G.trans g4
  clear z2 z3 z5 z6 z0
  clear g4
  refine (M1.out _).mono ?_
  rintro e w5 ⟨rfl, g5⟩
  obtain ⟨c2, f2, z2⟩ := blk_cells (g5.heap b2)
  obtain ⟨c3, f3, z3⟩ := blk_cells (g5.heap b3)
  obtain ⟨c5, f5, z5⟩ := blk_cells (g5.heap b5)
  obtain ⟨c6, f6, z6⟩ := blk_cells (g5.heap b6)
  have z0 : w.heap.size ≤ w5.heap.size := (Gr.trans G g5).b.size
  go_wp2_with fail
  clear c2 f2 c3 f3 c5 f5 c6 f6
  replace b2 := g5.heap b2
  replace b3 := g5.heap b3
  replace b5 := g5.heap b5
  replace b6 := g5.heap b6
  have G := G.trans g5
  clear z2 z3 z5 z6 z0
  clear g5
  refine (M2.out _).mono ?_
  rintro e w6 ⟨rfl, g6⟩
  obtain ⟨c2, f2, z2⟩ := blk_cells (g6.heap b2)
  obtain ⟨c3, f3, z3⟩ := blk_cells (g6.heap b3)
  obtain ⟨c5, f5, z5⟩ := blk_cells (g6.heap b5)
  obtain ⟨c6, f6, z6⟩ := blk_cells (g6.heap b6)
  have z0 : w.heap.size ≤ w6.heap.size := (Gr.trans G g6).b.size
  go_wp2_with fail
  clear c2 f2 c3 f3 c5 f5 c6 f6
  replace b2 := g6.heap b2
  replace b3 := g6.heap b3
  replace b5 := g6.heap b5
  replace b6 := g6.heap b6
  have G := G.trans g6
  clear z2 z3 z5 z6 z0
  clear g6
  refine (alive_any _ (HT.out.gr G)).mono ?_
  rintro e wz ⟨rfl, gz⟩
  obtain ⟨c2, f2, z2⟩ := blk_cells (gz.heap b2)
  obtain ⟨c3, f3, z3⟩ := blk_cells (gz.heap b3)
  obtain ⟨c5, f5, z5⟩ := blk_cells (gz.heap b5)
  obtain ⟨c6, f6, z6⟩ := blk_cells (gz.heap b6)
  go_wp2
  go_ret
  exact ⟨rfl, G.trans gz⟩
set_option maxRecDepth 100000 in
set_option maxHeartbeats 8000000 in
theorem RuleMediant_allA (n d c e a b a' b' E : Int) (w : World) (ht : Tab w)
    (NB : Hid (Says 20 #[fr n d] (.tuple #[fr a b, fr a' b', .int .i64 0])))
    (q1 : IntKind.i64.wrap (a + a') = n) (q2 : IntKind.i64.wrap (b + b') = d) (hb : ¬ d ≤ b) (hb' : ¬ d ≤ b')
    (L1 : Hid (Says 39 #[fr a b, fr n d] (.bool true))) (L2 : Hid (Says 39 #[fr n d, fr a' b'] (.bool true)))
    (CF : Hid (Says 40 #[fr c e] (.int .i64 0)))
    (hc : ¬ c = n)
    (M1 : Hid (Says 39 #[fr a b, fr c e] (.bool true)))
    (M2 : Hid (Says 39 #[fr c e, fr a' b'] (.bool true)))
    (hd : d < e)
    : Calls Tryd.prog 9 #[fr n d, fr c e] w fun e w' => e = .returned (.bool true) ∧ Gr w w' := by
  have HT := Lib.hid ht
  clear ht
  go_enter Tryd.func9, Tryd.ntmps9
  go_wp2_with fail
  have G := Gr.refl w
  have b2 := heap_alloc_self w (.cells #[.int .i64 n, .int .i64 d] 23)
  replace G := G.alloc (.cells #[.int .i64 n, .int .i64 d] 23)
  replace b2 := ((Gr.refl _).alloc (.cells #[.int .i64 c, .int .i64 e] 23)).heap b2
  have b3 := heap_alloc_self (w.alloc (.cells #[.int .i64 n, .int .i64 d] 23)) (.cells #[.int .i64 c, .int .i64 e] 23)
  replace G := G.alloc (.cells #[.int .i64 c, .int .i64 e] 23)
  generalize hW : ((w.alloc (.cells #[.int .i64 n, .int .i64 d] 23)).alloc (.cells #[.int .i64 c, .int .i64 e] 23)) = W1 at *
  simp only [World.size_alloc] at b3
  have w0 : w.heap.size ≤ w.heap.size := Nat.le_refl _
  obtain ⟨p3, hp3⟩ : ∃ p3, w.heap.size + 1 = p3 := ⟨_, rfl⟩
  obtain ⟨p2, hp2⟩ : ∃ p2, w.heap.size = p2 := ⟨_, rfl⟩
  rw [hp3] at b3
  rw [hp2] at b2
  try simp only [hp3]
  try simp only [hp2]
  have s2 : w.heap.size ≤ p2 := by omega
  have n2_3 : ¬ p2 = p3 := by omega
  have n3_2 : ¬ p3 = p2 := by omega
  have s3 : w.heap.size ≤ p3 := by omega
  clear  w0
  clear hp2
  clear hp3
  clear hW
  refine (NB.out _).mono ?_
  rintro e w1 ⟨rfl, g1⟩
  obtain ⟨c2, f2, z2⟩ := blk_cells (g1.heap b2)
  obtain ⟨c3, f3, z3⟩ := blk_cells (g1.heap b3)
  have z0 : w.heap.size ≤ w1.heap.size := (Gr.trans G g1).b.size
  go_wp2_with fail
  clear c2 f2 c3 f3
  replace b2 := g1.heap b2
  replace b3 := g1.heap b3
  have G := G.trans g1
  replace b2 := ((Gr.refl _).alloc (.cells #[.int .i64 a, .int .i64 b] 23)).heap b2
  replace b3 := ((Gr.refl _).alloc (.cells #[.int .i64 a, .int .i64 b] 23)).heap b3
  have b5 := heap_alloc_self w1 (.cells #[.int .i64 a, .int .i64 b] 23)
  replace G := G.alloc (.cells #[.int .i64 a, .int .i64 b] 23)
  replace b2 := ((Gr.refl _).alloc (.cells #[.int .i64 (a'), .int .i64 (b')] 23)).heap b2
  replace b3 := ((Gr.refl _).alloc (.cells #[.int .i64 (a'), .int .i64 (b')] 23)).heap b3
  replace b5 := ((Gr.refl _).alloc (.cells #[.int .i64 (a'), .int .i64 (b')] 23)).heap b5
  have b6 := heap_alloc_self (w1.alloc (.cells #[.int .i64 a, .int .i64 b] 23)) (.cells #[.int .i64 (a'), .int .i64 (b')] 23)
  replace G := G.alloc (.cells #[.int .i64 (a'), .int .i64 (b')] 23)
  generalize hW : ((w1.alloc (.cells #[.int .i64 a, .int .i64 b] 23)).alloc (.cells #[.int .i64 (a'), .int .i64 (b')] 23)) = W2 at *
  simp only [World.size_alloc] at b6
  have o2 : p2 < w1.heap.size := z2
  have o3 : p3 < w1.heap.size := z3
  have w0 : w.heap.size ≤ w1.heap.size := z0
  obtain ⟨p6, hp6⟩ : ∃ p6, w1.heap.size + 1 = p6 := ⟨_, rfl⟩
  obtain ⟨p5, hp5⟩ : ∃ p5, w1.heap.size = p5 := ⟨_, rfl⟩
  rw [hp6] at b6
  rw [hp5] at b5
  try simp only [hp6]
  try simp only [hp5]
  have n2_5 : ¬ p2 = p5 := by omega
  have n5_2 : ¬ p5 = p2 := by omega
  have n3_5 : ¬ p3 = p5 := by omega
  have n5_3 : ¬ p5 = p3 := by omega
  have s5 : w.heap.size ≤ p5 := by omega
  have n2_6 : ¬ p2 = p6 := by omega
  have n6_2 : ¬ p6 = p2 := by omega
  have n3_6 : ¬ p3 = p6 := by omega
  have n6_3 : ¬ p6 = p3 := by omega
  have n5_6 : ¬ p5 = p6 := by omega
  have n6_5 : ¬ p6 = p5 := by omega
  have s6 : w.heap.size ≤ p6 := by omega
  clear o2 o3 w0
  clear hp5
  clear hp6
  clear hW
  clear z2 z3 z0
  clear g1
  refine (L1.out _).mono ?_
  rintro e w2 ⟨rfl, g2⟩
  obtain ⟨c2, f2, z2⟩ := blk_cells (g2.heap b2)
  obtain ⟨c3, f3, z3⟩ := blk_cells (g2.heap b3)
  obtain ⟨c5, f5, z5⟩ := blk_cells (g2.heap b5)
  obtain ⟨c6, f6, z6⟩ := blk_cells (g2.heap b6)
  have z0 : w.heap.size ≤ w2.heap.size := (Gr.trans G g2).b.size
  go_wp2_with fail
  clear c2 f2 c3 f3 c5 f5 c6 f6
  replace b2 := g2.heap b2
  replace b3 := g2.heap b3
  replace b5 := g2.heap b5
  replace b6 := g2.heap b6
  have G := G.trans g2
  clear z2 z3 z5 z6 z0
  clear g2
  refine (L2.out _).mono ?_
  rintro e w3 ⟨rfl, g3⟩
  obtain ⟨c2, f2, z2⟩ := blk_cells (g3.heap b2)
  obtain ⟨c3, f3, z3⟩ := blk_cells (g3.heap b3)
  obtain ⟨c5, f5, z5⟩ := blk_cells (g3.heap b5)
  obtain ⟨c6, f6, z6⟩ := blk_cells (g3.heap b6)
  have z0 : w.heap.size ≤ w3.heap.size := (Gr.trans G g3).b.size
  go_wp2_with fail
  clear c2 f2 c3 f3 c5 f5 c6 f6
  replace b2 := g3.heap b2
  replace b3 := g3.heap b3
  replace b5 := g3.heap b5
  replace b6 := g3.heap b6
  have G := G.trans g3
  clear z2 z3 z5 z6 z0
  clear g3
  refine (CF.out _).mono ?_
  rintro e w4 ⟨rfl, g4⟩
  obtain ⟨c2, f2, z2⟩ := blk_cells (g4.heap b2)
  obtain ⟨c3, f3, z3⟩ := blk_cells (g4.heap b3)
  obtain ⟨c5, f5, z5⟩ := blk_cells (g4.heap b5)
  obtain ⟨c6, f6, z6⟩ := blk_cells (g4.heap b6)
  have z0 : w.heap.size ≤ w4.heap.size := (Gr.trans G g4).b.size
  go_wp2_with fail
  clear c2 f2 c3 f3 c5 f5 c6 f6
  replace b2 := g4.heap b2
  replace b3 := g4.heap b3
  replace b5 := g4.heap b5
  replace b6 := g4.heap b6
  have G := G.trans g4
  clear z2 z3 z5 z6 z0
  clear g4
  refine (M1.out _).mono ?_
  rintro e w5 ⟨rfl, g5⟩
  obtain ⟨c2, f2, z2⟩ := blk_cells (g5.heap b2)
  obtain ⟨c3, f3, z3⟩ := blk_cells (g5.heap b3)
  obtain ⟨c5, f5, z5⟩ := blk_cells (g5.heap b5)
  obtain ⟨c6, f6, z6⟩ := blk_cells (g5.heap b6)
  have z0 : w.heap.size ≤ w5.heap.size := (Gr.trans G g5).b.size
  go_wp2_with fail
  clear c2 f2 c3 f3 c5 f5 c6 f6
  replace b2 := g5.heap b2
  replace b3 := g5.heap b3
  replace b5 := g5.heap b5
  replace b6 := g5.heap b6
  have G := G.trans g5
  clear z2 z3 z5 z6 z0
  clear g5
  refine (M2.out _).mono ?_
  rintro e w6 ⟨rfl, g6⟩
  obtain ⟨c2, f2, z2⟩ := blk_cells (g6.heap b2)
  obtain ⟨c3, f3, z3⟩ := blk_cells (g6.heap b3)
  obtain ⟨c5, f5, z5⟩ := blk_cells (g6.heap b5)
  obtain ⟨c6, f6, z6⟩ := blk_cells (g6.heap b6)
  have z0 : w.heap.size ≤ w6.heap.size := (Gr.trans G g6).b.size
  go_wp2_with fail
  clear c2 f2 c3 f3 c5 f5 c6 f6
  replace b2 := g6.heap b2
  replace b3 := g6.heap b3
  replace b5 := g6.heap b5
  replace b6 := g6.heap b6
  have G := G.trans g6
  clear z2 z3 z5 z6 z0
  clear g6
  refine (alive_any _ (HT.out.gr G)).mono ?_
  rintro e wz ⟨rfl, gz⟩
  obtain ⟨c2, f2, z2⟩ := blk_cells (gz.heap b2)
  obtain ⟨c3, f3, z3⟩ := blk_cells (gz.heap b3)
  obtain ⟨c5, f5, z5⟩ := blk_cells (gz.heap b5)
  obtain ⟨c6, f6, z6⟩ := blk_cells (gz.heap b6)
  go_wp2
  go_ret
  exact ⟨rfl, G.trans gz⟩
set_option maxRecDepth 100000 in
set_option maxHeartbeats 8000000 in
theorem RuleMediant_allB (n d c e a b a' b' E : Int) (w : World) (ht : Tab w)
    (NB : Hid (Says 20 #[fr n d] (.tuple #[fr a b, fr a' b', .int .i64 0])))
    (q1 : IntKind.i64.wrap (a + a') = n) (q2 : IntKind.i64.wrap (b + b') = d) (hb : ¬ d ≤ b) (hb' : ¬ d ≤ b')
    (L1 : Hid (Says 39 #[fr a b, fr n d] (.bool true))) (L2 : Hid (Says 39 #[fr n d, fr a' b'] (.bool true)))
    (CF : Hid (Says 40 #[fr c e] (.int .i64 0)))
    (hc : c = n) (he : ¬ e = d)
    (M1 : Hid (Says 39 #[fr a b, fr c e] (.bool true)))
    (M2 : Hid (Says 39 #[fr c e, fr a' b'] (.bool true)))
    (hd : d < e)
    : Calls Tryd.prog 9 #[fr n d, fr c e] w fun e w' => e = .returned (.bool true) ∧ Gr w w' := by
  have HT := Lib.hid ht
  clear ht
  subst hc
  go_enter Tryd.func9, Tryd.ntmps9
  go_wp2_with fail
  have G := Gr.refl w
  have b2 := heap_alloc_self w (.cells #[.int .i64 c, .int .i64 d] 23)
  replace G := G.alloc (.cells #[.int .i64 c, .int .i64 d] 23)
  replace b2 := ((Gr.refl _).alloc (.cells #[.int .i64 c, .int .i64 e] 23)).heap b2
  have b3 := heap_alloc_self (w.alloc (.cells #[.int .i64 c, .int .i64 d] 23)) (.cells #[.int .i64 c, .int .i64 e] 23)
  replace G := G.alloc (.cells #[.int .i64 c, .int .i64 e] 23)
  generalize hW : ((w.alloc (.cells #[.int .i64 c, .int .i64 d] 23)).alloc (.cells #[.int .i64 c, .int .i64 e] 23)) = W1 at *
  simp only [World.size_alloc] at b3
  have w0 : w.heap.size ≤ w.heap.size := Nat.le_refl _
  obtain ⟨p3, hp3⟩ : ∃ p3, w.heap.size + 1 = p3 := ⟨_, rfl⟩
  obtain ⟨p2, hp2⟩ : ∃ p2, w.heap.size = p2 := ⟨_, rfl⟩
  rw [hp3] at b3
  rw [hp2] at b2
  try simp only [hp3]
  try simp only [hp2]
  have s2 : w.heap.size ≤ p2 := by omega
  have n2_3 : ¬ p2 = p3 := by omega
  have n3_2 : ¬ p3 = p2 := by omega
  have s3 : w.heap.size ≤ p3 := by omega
  clear  w0
  clear hp2
  clear hp3
  clear hW
  refine (NB.out _).mono ?_
  rintro e w1 ⟨rfl, g1⟩
  obtain ⟨c2, f2, z2⟩ := blk_cells (g1.heap b2)
  obtain ⟨c3, f3, z3⟩ := blk_cells (g1.heap b3)
  have z0 : w.heap.size ≤ w1.heap.size := (Gr.trans G g1).b.size
  go_wp2_with fail
  clear c2 f2 c3 f3
  replace b2 := g1.heap b2
  replace b3 := g1.heap b3
  have G := G.trans g1
  replace b2 := ((Gr.refl _).alloc (.cells #[.int .i64 a, .int .i64 b] 23)).heap b2
  replace b3 := ((Gr.refl _).alloc (.cells #[.int .i64 a, .int .i64 b] 23)).heap b3
  have b5 := heap_alloc_self w1 (.cells #[.int .i64 a, .int .i64 b] 23)
  replace G := G.alloc (.cells #[.int .i64 a, .int .i64 b] 23)
  replace b2 := ((Gr.refl _).alloc (.cells #[.int .i64 (a'), .int .i64 (b')] 23)).heap b2
  replace b3 := ((Gr.refl _).alloc (.cells #[.int .i64 (a'), .int .i64 (b')] 23)).heap b3
  replace b5 := ((Gr.refl _).alloc (.cells #[.int .i64 (a'), .int .i64 (b')] 23)).heap b5
  have b6 := heap_alloc_self (w1.alloc (.cells #[.int .i64 a, .int .i64 b] 23)) (.cells #[.int .i64 (a'), .int .i64 (b')] 23)
  replace G := G.alloc (.cells #[.int .i64 (a'), .int .i64 (b')] 23)
  generalize hW : ((w1.alloc (.cells #[.int .i64 a, .int .i64 b] 23)).alloc (.cells #[.int .i64 (a'), .int .i64 (b')] 23)) = W2 at *
  simp only [World.size_alloc] at b6
  have o2 : p2 < w1.heap.size := z2
  have o3 : p3 < w1.heap.size := z3
  have w0 : w.heap.size ≤ w1.heap.size := z0
  obtain ⟨p6, hp6⟩ : ∃ p6, w1.heap.size + 1 = p6 := ⟨_, rfl⟩
  obtain ⟨p5, hp5⟩ : ∃ p5, w1.heap.size = p5 := ⟨_, rfl⟩
  rw [hp6] at b6
  rw [hp5] at b5
  try simp only [hp6]
  try simp only [hp5]
  have n2_5 : ¬ p2 = p5 := by omega
  have n5_2 : ¬ p5 = p2 := by omega
  have n3_5 : ¬ p3 = p5 := by omega
  have n5_3 : ¬ p5 = p3 := by omega
  have s5 : w.heap.size ≤ p5 := by omega
  have n2_6 : ¬ p2 = p6 := by omega
  have n6_2 : ¬ p6 = p2 := by omega
  have n3_6 : ¬ p3 = p6 := by omega
  have n6_3 : ¬ p6 = p3 := by omega
  have n5_6 : ¬ p5 = p6 := by omega
  have n6_5 : ¬ p6 = p5 := by omega
  have s6 : w.heap.size ≤ p6 := by omega
  clear o2 o3 w0
  clear hp5
  clear hp6
  clear hW
  clear z2 z3 z0
  clear g1
  refine (L1.out _).mono ?_
  rintro e w2 ⟨rfl, g2⟩
  obtain ⟨c2, f2, z2⟩ := blk_cells (g2.heap b2)
  obtain ⟨c3, f3, z3⟩ := blk_cells (g2.heap b3)
  obtain ⟨c5, f5, z5⟩ := blk_cells (g2.heap b5)
  obtain ⟨c6, f6, z6⟩ := blk_cells (g2.heap b6)
  have z0 : w.heap.size ≤ w2.heap.size := (Gr.trans G g2).b.size
  go_wp2_with fail
  clear c2 f2 c3 f3 c5 f5 c6 f6
  replace b2 := g2.heap b2
  replace b3 := g2.heap b3
  replace b5 := g2.heap b5
  replace b6 := g2.heap b6
  have G := G.trans g2
  clear z2 z3 z5 z6 z0
  clear g2
  refine (L2.out _).mono ?_
  rintro e w3 ⟨rfl, g3⟩
  obtain ⟨c2, f2, z2⟩ := blk_cells (g3.heap b2)
  obtain ⟨c3, f3, z3⟩ := blk_cells (g3.heap b3)
  obtain ⟨c5, f5, z5⟩ := blk_cells (g3.heap b5)
  obtain ⟨c6, f6, z6⟩ := blk_cells (g3.heap b6)
  have z0 : w.heap.size ≤ w3.heap.size := (Gr.trans G g3).b.size
  go_wp2_with fail
  clear c2 f2 c3 f3 c5 f5 c6 f6
  replace b2 := g3.heap b2
  replace b3 := g3.heap b3
  replace b5 := g3.heap b5
  replace b6 := g3.heap b6
  have G := G.trans g3
  clear z2 z3 z5 z6 z0
  clear g3
  refine (CF.out _).mono ?_
  rintro e w4 ⟨rfl, g4⟩
  obtain ⟨c2, f2, z2⟩ := blk_cells (g4.heap b2)
  obtain ⟨c3, f3, z3⟩ := blk_cells (g4.heap b3)
  obtain ⟨c5, f5, z5⟩ := blk_cells (g4.heap b5)
  obtain ⟨c6, f6, z6⟩ := blk_cells (g4.heap b6)
  have z0 : w.heap.size ≤ w4.heap.size := (Gr.trans G g4).b.size
  go_wp2_with fail
  clear c2 f2 c3 f3 c5 f5 c6 f6
  replace b2 := g4.heap b2
  replace b3 := g4.heap b3
  replace b5 := g4.heap b5
  replace b6 := g4.heap b6
  have G := G.trans g4
  clear z2 z3 z5 z6 z0
  clear g4
  refine (M1.out _).mono ?_
  rintro e w5 ⟨rfl, g5⟩
  obtain ⟨c2, f2, z2⟩ := blk_cells (g5.heap b2)
  obtain ⟨c3, f3, z3⟩ := blk_cells (g5.heap b3)
  obtain ⟨c5, f5, z5⟩ := blk_cells (g5.heap b5)
  obtain ⟨c6, f6, z6⟩ := blk_cells (g5.heap b6)
  have z0 : w.heap.size ≤ w5.heap.size := (Gr.trans G g5).b.size
  go_wp2_with fail
  clear c2 f2 c3 f3 c5 f5 c6 f6
  replace b2 := g5.heap b2
  replace b3 := g5.heap b3
  replace b5 := g5.heap b5
  replace b6 := g5.heap b6
  have G := G.trans g5
  clear z2 z3 z5 z6 z0
  clear g5
  refine (M2.out _).mono ?_
  rintro e w6 ⟨rfl, g6⟩
  obtain ⟨c2, f2, z2⟩ := blk_cells (g6.heap b2)
  obtain ⟨c3, f3, z3⟩ := blk_cells (g6.heap b3)
  obtain ⟨c5, f5, z5⟩ := blk_cells (g6.heap b5)
  obtain ⟨c6, f6, z6⟩ := blk_cells (g6.heap b6)
  have z0 : w.heap.size ≤ w6.heap.size := (Gr.trans G g6).b.size
  go_wp2_with fail
  clear c2 f2 c3 f3 c5 f5 c6 f6
  replace b2 := g6.heap b2
  replace b3 := g6.heap b3
  replace b5 := g6.heap b5
  replace b6 := g6.heap b6
  have G := G.trans g6
  clear z2 z3 z5 z6 z0
  clear g6
  refine (alive_any _ (HT.out.gr G)).mono ?_
  rintro e wz ⟨rfl, gz⟩
  obtain ⟨c2, f2, z2⟩ := blk_cells (gz.heap b2)
  obtain ⟨c3, f3, z3⟩ := blk_cells (gz.heap b3)
  obtain ⟨c5, f5, z5⟩ := blk_cells (gz.heap b5)
  obtain ⟨c6, f6, z6⟩ := blk_cells (gz.heap b6)
  go_wp2
  go_ret
  exact ⟨rfl, G.trans gz⟩
theorem RuleMediant_any (n d c e : Int) (w : World) (ht : Tab w) : Calls Tryd.prog 9 #[fr n d, fr c e] w fun e w' => e = .returned (.bool true) ∧ Gr w w' := by
  have NB := Neighbours_any n d
  unfold nbR at NB
  by_cases hE : nbE n d = 0
  · have e0 : ∀ v, nbv n d v = v := fun v => by simp [nbv, hE]
    simp only [e0, hE] at NB
    have hk : Rm.okF n d = true := by
      cases h : Rm.okF n d
      · simp [nbE, h] at hE
      · rfl
    have hd : 2 ≤ d := by
      have := (Rm.okF_iff.1 hk).2.2.1
      by_cases h1 : d = 1
      · simp [nbE, hk, h1] at hE
        subst h1; simp [hk] at hE
      · omega
    have nb := nb_bk hk hd
    obtain ⟨ok1, ok2'⟩ := nb.okF hd hk
    generalize Rm.bkN n d (d-1) = a at *
    generalize Rm.bkD n d (d-1) = b at *
    generalize Rm.bhN n d (d-1) = a' at *
    generalize Rm.bhD n d (d-1) = b' at *
    have s1 := nb.sn
    have s2 := nb.sd
    have p1 := nb.a1
    have p2 := nb.b1
    obtain ⟨x1, x2, x3, x4, _⟩ := Rm.okF_iff.1 hk
    have q1 : IntKind.i64.wrap (a + a') = n := by rw [s1]; exact IntWalk.i64_in _ (by omega)
    have q2 : IntKind.i64.wrap (b + b') = d := by rw [s2]; exact IntWalk.i64_in _ (by omega)
    have L1 := less_any a b n d
    rw [lessB_yes ok1 hk (by have := nb.ad1; omega)] at L1
    have L2 := less_any n d a' b'
    rw [lessB_yes hk ok2' (by have := nb.bd1; omega)] at L2
    have CF := CheckFrac_any c e
    cases hy : Rm.okF c e
    · rw [hy, Rm.err_false rfl] at CF
      exact RuleMediant_y _ _ _ _ _ _ _ _ 0 w ht (Lib.hid NB) q1 q2 (by omega) (by omega) (Lib.hid L1) (Lib.hid L2) (Lib.hid CF)
    rw [hy, Rm.err_true rfl] at CF
    by_cases hs : c = n ∧ e = d
    · exact RuleMediant_same _ _ _ _ _ _ _ _ 0 w ht (Lib.hid NB) q1 q2 (by omega) (by omega) (Lib.hid L1) (Lib.hid L2) (Lib.hid CF) hs.1 hs.2
    have M1 := less_any a b c e
    have M2 := less_any c e a' b'
    cases hm1 : lessB a b c e
    · rw [hm1] at M1
      by_cases hc : c = n
      · exact RuleMediant_l1B _ _ _ _ _ _ _ _ 0 w ht (Lib.hid NB) q1 q2 (by omega) (by omega) (Lib.hid L1) (Lib.hid L2) (Lib.hid CF) hc (fun h => hs ⟨hc, h⟩) (Lib.hid M1)
      · exact RuleMediant_l1A _ _ _ _ _ _ _ _ 0 w ht (Lib.hid NB) q1 q2 (by omega) (by omega) (Lib.hid L1) (Lib.hid L2) (Lib.hid CF) hc (Lib.hid M1)
    rw [hm1] at M1
    cases hm2 : lessB c e a' b'
    · rw [hm2] at M2
      by_cases hc : c = n
      · exact RuleMediant_l2B _ _ _ _ _ _ _ _ 0 w ht (Lib.hid NB) q1 q2 (by omega) (by omega) (Lib.hid L1) (Lib.hid L2) (Lib.hid CF) hc (fun h => hs ⟨hc, h⟩) (Lib.hid M1) (Lib.hid M2)
      · exact RuleMediant_l2A _ _ _ _ _ _ _ _ 0 w ht (Lib.hid NB) q1 q2 (by omega) (by omega) (Lib.hid L1) (Lib.hid L2) (Lib.hid CF) hc (Lib.hid M1) (Lib.hid M2)
    rw [hm2] at M2
    have hlt := nb.med (lessB_lt hm1) (lessB_lt hm2) hs
    by_cases hc : c = n
    · exact RuleMediant_allB _ _ _ _ _ _ _ _ 0 w ht (Lib.hid NB) q1 q2 (by omega) (by omega) (Lib.hid L1) (Lib.hid L2) (Lib.hid CF) hc (fun h => hs ⟨hc, h⟩) (Lib.hid M1) (Lib.hid M2) hlt
    · exact RuleMediant_allA _ _ _ _ _ _ _ _ 0 w ht (Lib.hid NB) q1 q2 (by omega) (by omega) (Lib.hid L1) (Lib.hid L2) (Lib.hid CF) hc (Lib.hid M1) (Lib.hid M2) hlt
  · exact RuleMediant_bad _ _ _ _ _ _ _ _ _ w ht (Lib.hid NB) hE
end Go.Proofs.YtconhikflghkdaaDoor
