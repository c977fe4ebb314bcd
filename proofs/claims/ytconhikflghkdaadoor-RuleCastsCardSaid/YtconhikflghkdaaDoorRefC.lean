/- strickleref01: CheckRule, sized, left, Serves, missed, Cast, Miss, Sizes, Best. -/
import Derived.Test.YtconhikflghkdaaDoorRef2
import Derived.Test.YtconhikflghkdaaDoorCasted
import Derived.Test.YtconhikflghkdaaDoorBested
namespace Go.Proofs.YtconhikflghkdaaDoor
open Go.RowKit Go.Shelf
attribute [local go_sem] Oper.semAt_some
set_option maxRecDepth 100000 in
set_option maxHeartbeats 4000000 in
theorem rCheckRule_any (a b c d : Int) (w : World) :
    Calls Tryd.prog 62 #[ru a b c d] w fun e w' => e = .returned (.int .i64 (Rm.err (ruOk a b c d) 1)) ∧ Gr w w' := by
  have BO := Lib.hid (fun w => both_any a b c d w)
  cases h : ok2 a b c d
  · have e : ruOk a b c d = false := by simp [ruOk, h]
    rw [e, Rm.err_false rfl]
    rw [h, Rm.err_false rfl] at BO
    clear e h
    go_enter Tryd.func62, Tryd.ntmps62
    go_wp2_with fail
    have G := Gr.refl w
    have b1 := heap_alloc_self w (.cells #[.int .i64 a, .int .i64 b, .int .i64 c, .int .i64 d] 34)
    replace G := G.alloc (.cells #[.int .i64 a, .int .i64 b, .int .i64 c, .int .i64 d] 34)
    generalize hW : (w.alloc (.cells #[.int .i64 a, .int .i64 b, .int .i64 c, .int .i64 d] 34)) = W1 at *
    have w0 : w.heap.size ≤ w.heap.size := Nat.le_refl _
    obtain ⟨p1, hp1⟩ : ∃ p1, w.heap.size = p1 := ⟨_, rfl⟩
    rw [hp1] at b1
    try simp only [hp1]
    have s1 : w.heap.size ≤ p1 := by omega
    clear  w0
    clear hp1
    clear hW
    refine (BO.out _).mono ?_
    rintro e w1 ⟨rfl, g1⟩
    obtain ⟨c1, f1, z1⟩ := blk_cells (g1.heap b1)
    have z0 : w.heap.size ≤ w1.heap.size := (Gr.trans G g1).b.size
    go_wp2_with fail
    clear c1 f1
    replace b1 := g1.heap b1
    have G := G.trans g1
    clear z1 z0
    clear g1
    go_ret
    exact ⟨rfl, G⟩
  · obtain ⟨⟨x1, x2, x3, x4, _⟩, ⟨y1, y2, y3, y4, _⟩⟩ := ok2_parts h
    have r1 := Rm.nd_bound x1 x2 y3 y4
    have r2 := Rm.nd_bound y1 y2 x3 x4
    have MO := Lib.hid (fun w => More_any a b c d w (by omega) (by omega) (by omega) (by omega))
    rw [h, Rm.err_true rfl] at BO
    have HE : ruOk a b c d = (decide (b ≤ 1000) && decide (d ≤ 1000) && decide (0 ≤ a) && decide (a*d - c*b ≤ 0) && decide (4*c ≤ d)) := by simp only [ruOk, h, Bool.true_and]
    rw [HE]
    clear HE h
    generalize a*d - c*b = X at *
    by_cases k1 : a < 0
    · rw [show (decide (b ≤ 1000) && decide (d ≤ 1000) && decide (0 ≤ a) && decide (X ≤ 0) && decide (4*c ≤ d)) = false from by rw [Bool.eq_false_iff]; intro hh; simp only [Bool.and_eq_true, decide_eq_true_eq] at hh; omega, Rm.err_false rfl]
      go_enter Tryd.func62, Tryd.ntmps62
      go_wp2_with fail
      have G := Gr.refl w
      have b1 := heap_alloc_self w (.cells #[.int .i64 a, .int .i64 b, .int .i64 c, .int .i64 d] 34)
      replace G := G.alloc (.cells #[.int .i64 a, .int .i64 b, .int .i64 c, .int .i64 d] 34)
      generalize hW : (w.alloc (.cells #[.int .i64 a, .int .i64 b, .int .i64 c, .int .i64 d] 34)) = W1 at *
      have w0 : w.heap.size ≤ w.heap.size := Nat.le_refl _
      obtain ⟨p1, hp1⟩ : ∃ p1, w.heap.size = p1 := ⟨_, rfl⟩
      rw [hp1] at b1
      try simp only [hp1]
      have s1 : w.heap.size ≤ p1 := by omega
      clear  w0
      clear hp1
      clear hW
      refine (BO.out _).mono ?_
      rintro e w1 ⟨rfl, g1⟩
      obtain ⟨c1, f1, z1⟩ := blk_cells (g1.heap b1)
      have z0 : w.heap.size ≤ w1.heap.size := (Gr.trans G g1).b.size
      go_wp2_with fail
      clear c1 f1
      replace b1 := g1.heap b1
      have G := G.trans g1
      clear z1 z0
      clear g1
      go_ret
      exact ⟨rfl, G⟩
    by_cases k2 : 0 < X
    · rw [show (decide (b ≤ 1000) && decide (d ≤ 1000) && decide (0 ≤ a) && decide (X ≤ 0) && decide (4*c ≤ d)) = false from by rw [Bool.eq_false_iff]; intro hh; simp only [Bool.and_eq_true, decide_eq_true_eq] at hh; omega, Rm.err_false rfl]
      go_enter Tryd.func62, Tryd.ntmps62
      go_wp2_with fail
      have G := Gr.refl w
      have b1 := heap_alloc_self w (.cells #[.int .i64 a, .int .i64 b, .int .i64 c, .int .i64 d] 34)
      replace G := G.alloc (.cells #[.int .i64 a, .int .i64 b, .int .i64 c, .int .i64 d] 34)
      generalize hW : (w.alloc (.cells #[.int .i64 a, .int .i64 b, .int .i64 c, .int .i64 d] 34)) = W1 at *
      have w0 : w.heap.size ≤ w.heap.size := Nat.le_refl _
      obtain ⟨p1, hp1⟩ : ∃ p1, w.heap.size = p1 := ⟨_, rfl⟩
      rw [hp1] at b1
      try simp only [hp1]
      have s1 : w.heap.size ≤ p1 := by omega
      clear  w0
      clear hp1
      clear hW
      refine (BO.out _).mono ?_
      rintro e w1 ⟨rfl, g1⟩
      obtain ⟨c1, f1, z1⟩ := blk_cells (g1.heap b1)
      have z0 : w.heap.size ≤ w1.heap.size := (Gr.trans G g1).b.size
      go_wp2_with fail
      clear c1 f1
      replace b1 := g1.heap b1
      have G := G.trans g1
      clear z1 z0
      clear g1
      refine (MO.out _).mono ?_
      rintro e w2 ⟨rfl, g2⟩
      obtain ⟨c1, f1, z1⟩ := blk_cells (g2.heap b1)
      have z0 : w.heap.size ≤ w2.heap.size := (Gr.trans G g2).b.size
      go_wp2_with fail
      clear c1 f1
      replace b1 := g2.heap b1
      have G := G.trans g2
      clear z1 z0
      clear g2
      go_ret
      exact ⟨rfl, G⟩
    by_cases k3 : d < 4*c
    · rw [show (decide (b ≤ 1000) && decide (d ≤ 1000) && decide (0 ≤ a) && decide (X ≤ 0) && decide (4*c ≤ d)) = false from by rw [Bool.eq_false_iff]; intro hh; simp only [Bool.and_eq_true, decide_eq_true_eq] at hh; omega, Rm.err_false rfl]
      go_enter Tryd.func62, Tryd.ntmps62
      go_wp2_with fail
      have G := Gr.refl w
      have b1 := heap_alloc_self w (.cells #[.int .i64 a, .int .i64 b, .int .i64 c, .int .i64 d] 34)
      replace G := G.alloc (.cells #[.int .i64 a, .int .i64 b, .int .i64 c, .int .i64 d] 34)
      generalize hW : (w.alloc (.cells #[.int .i64 a, .int .i64 b, .int .i64 c, .int .i64 d] 34)) = W1 at *
      have w0 : w.heap.size ≤ w.heap.size := Nat.le_refl _
      obtain ⟨p1, hp1⟩ : ∃ p1, w.heap.size = p1 := ⟨_, rfl⟩
      rw [hp1] at b1
      try simp only [hp1]
      have s1 : w.heap.size ≤ p1 := by omega
      clear  w0
      clear hp1
      clear hW
      refine (BO.out _).mono ?_
      rintro e w1 ⟨rfl, g1⟩
      obtain ⟨c1, f1, z1⟩ := blk_cells (g1.heap b1)
      have z0 : w.heap.size ≤ w1.heap.size := (Gr.trans G g1).b.size
      go_wp2_with fail
      clear c1 f1
      replace b1 := g1.heap b1
      have G := G.trans g1
      clear z1 z0
      clear g1
      refine (MO.out _).mono ?_
      rintro e w2 ⟨rfl, g2⟩
      obtain ⟨c1, f1, z1⟩ := blk_cells (g2.heap b1)
      have z0 : w.heap.size ≤ w2.heap.size := (Gr.trans G g2).b.size
      go_wp2_with fail
      clear c1 f1
      replace b1 := g2.heap b1
      have G := G.trans g2
      clear z1 z0
      clear g2
      go_ret
      exact ⟨rfl, G⟩
    by_cases k4 : 1000 < b
    · rw [show (decide (b ≤ 1000) && decide (d ≤ 1000) && decide (0 ≤ a) && decide (X ≤ 0) && decide (4*c ≤ d)) = false from by rw [Bool.eq_false_iff]; intro hh; simp only [Bool.and_eq_true, decide_eq_true_eq] at hh; omega, Rm.err_false rfl]
      go_enter Tryd.func62, Tryd.ntmps62
      go_wp2_with fail
      have G := Gr.refl w
      have b1 := heap_alloc_self w (.cells #[.int .i64 a, .int .i64 b, .int .i64 c, .int .i64 d] 34)
      replace G := G.alloc (.cells #[.int .i64 a, .int .i64 b, .int .i64 c, .int .i64 d] 34)
      generalize hW : (w.alloc (.cells #[.int .i64 a, .int .i64 b, .int .i64 c, .int .i64 d] 34)) = W1 at *
      have w0 : w.heap.size ≤ w.heap.size := Nat.le_refl _
      obtain ⟨p1, hp1⟩ : ∃ p1, w.heap.size = p1 := ⟨_, rfl⟩
      rw [hp1] at b1
      try simp only [hp1]
      have s1 : w.heap.size ≤ p1 := by omega
      clear  w0
      clear hp1
      clear hW
      refine (BO.out _).mono ?_
      rintro e w1 ⟨rfl, g1⟩
      obtain ⟨c1, f1, z1⟩ := blk_cells (g1.heap b1)
      have z0 : w.heap.size ≤ w1.heap.size := (Gr.trans G g1).b.size
      go_wp2_with fail
      clear c1 f1
      replace b1 := g1.heap b1
      have G := G.trans g1
      clear z1 z0
      clear g1
      refine (MO.out _).mono ?_
      rintro e w2 ⟨rfl, g2⟩
      obtain ⟨c1, f1, z1⟩ := blk_cells (g2.heap b1)
      have z0 : w.heap.size ≤ w2.heap.size := (Gr.trans G g2).b.size
      go_wp2_with fail
      clear c1 f1
      replace b1 := g2.heap b1
      have G := G.trans g2
      clear z1 z0
      clear g2
      go_ret
      exact ⟨rfl, G⟩
    by_cases k5 : 1000 < d
    · rw [show (decide (b ≤ 1000) && decide (d ≤ 1000) && decide (0 ≤ a) && decide (X ≤ 0) && decide (4*c ≤ d)) = false from by rw [Bool.eq_false_iff]; intro hh; simp only [Bool.and_eq_true, decide_eq_true_eq] at hh; omega, Rm.err_false rfl]
      go_enter Tryd.func62, Tryd.ntmps62
      go_wp2_with fail
      have G := Gr.refl w
      have b1 := heap_alloc_self w (.cells #[.int .i64 a, .int .i64 b, .int .i64 c, .int .i64 d] 34)
      replace G := G.alloc (.cells #[.int .i64 a, .int .i64 b, .int .i64 c, .int .i64 d] 34)
      generalize hW : (w.alloc (.cells #[.int .i64 a, .int .i64 b, .int .i64 c, .int .i64 d] 34)) = W1 at *
      have w0 : w.heap.size ≤ w.heap.size := Nat.le_refl _
      obtain ⟨p1, hp1⟩ : ∃ p1, w.heap.size = p1 := ⟨_, rfl⟩
      rw [hp1] at b1
      try simp only [hp1]
      have s1 : w.heap.size ≤ p1 := by omega
      clear  w0
      clear hp1
      clear hW
      refine (BO.out _).mono ?_
      rintro e w1 ⟨rfl, g1⟩
      obtain ⟨c1, f1, z1⟩ := blk_cells (g1.heap b1)
      have z0 : w.heap.size ≤ w1.heap.size := (Gr.trans G g1).b.size
      go_wp2_with fail
      clear c1 f1
      replace b1 := g1.heap b1
      have G := G.trans g1
      clear z1 z0
      clear g1
      refine (MO.out _).mono ?_
      rintro e w2 ⟨rfl, g2⟩
      obtain ⟨c1, f1, z1⟩ := blk_cells (g2.heap b1)
      have z0 : w.heap.size ≤ w2.heap.size := (Gr.trans G g2).b.size
      go_wp2_with fail
      clear c1 f1
      replace b1 := g2.heap b1
      have G := G.trans g2
      clear z1 z0
      clear g2
      go_ret
      exact ⟨rfl, G⟩
    rw [show (decide (b ≤ 1000) && decide (d ≤ 1000) && decide (0 ≤ a) && decide (X ≤ 0) && decide (4*c ≤ d)) = true from by simp only [Bool.and_eq_true, decide_eq_true_eq]; omega, Rm.err_true rfl]
    go_enter Tryd.func62, Tryd.ntmps62
    go_wp2_with fail
    have G := Gr.refl w
    have b1 := heap_alloc_self w (.cells #[.int .i64 a, .int .i64 b, .int .i64 c, .int .i64 d] 34)
    replace G := G.alloc (.cells #[.int .i64 a, .int .i64 b, .int .i64 c, .int .i64 d] 34)
    generalize hW : (w.alloc (.cells #[.int .i64 a, .int .i64 b, .int .i64 c, .int .i64 d] 34)) = W1 at *
    have w0 : w.heap.size ≤ w.heap.size := Nat.le_refl _
    obtain ⟨p1, hp1⟩ : ∃ p1, w.heap.size = p1 := ⟨_, rfl⟩
    rw [hp1] at b1
    try simp only [hp1]
    have s1 : w.heap.size ≤ p1 := by omega
    clear  w0
    clear hp1
    clear hW
    refine (BO.out _).mono ?_
    rintro e w1 ⟨rfl, g1⟩
    obtain ⟨c1, f1, z1⟩ := blk_cells (g1.heap b1)
    have z0 : w.heap.size ≤ w1.heap.size := (Gr.trans G g1).b.size
    go_wp2_with fail
    clear c1 f1
    replace b1 := g1.heap b1
    have G := G.trans g1
    clear z1 z0
    clear g1
    refine (MO.out _).mono ?_
    rintro e w2 ⟨rfl, g2⟩
    obtain ⟨c1, f1, z1⟩ := blk_cells (g2.heap b1)
    have z0 : w.heap.size ≤ w2.heap.size := (Gr.trans G g2).b.size
    go_wp2_with fail
    clear c1 f1
    replace b1 := g2.heap b1
    have G := G.trans g2
    clear z1 z0
    clear g2
    go_ret
    exact ⟨rfl, G⟩
set_option maxRecDepth 100000 in
set_option maxHeartbeats 4000000 in
theorem rsized_any (a b c d n : Int) (w : World) :
    Calls Tryd.prog 90 #[ru a b c d, .int .i64 n] w fun e w' => e = .returned (.int .i64 (Rm.err (ruOk a b c d && szOk n) 1)) ∧ Gr w w' := by
  have CK := Lib.hid (fun w => rCheckRule_any a b c d w)
  have WI : Hid (∀ w, Calls Tryd.prog 82 #[.int .i64 n, .int .i64 1, .int .i64 1000000] w fun e w' => e = .returned (.bool (szOk n)) ∧ Gr w w') := Lib.hid (fun w => (within_any n 1 1000000 w).mono fun e w' k => ⟨k.1, k.2 ▸ Gr.refl w⟩)
  cases h : ruOk a b c d
  · rw [h, Rm.err_false rfl] at CK
    rw [Bool.false_and, Rm.err_false rfl]
    clear h WI
    go_enter Tryd.func90, Tryd.ntmps90
    go_wp2_with fail
    have G := Gr.refl w
    have b2 := heap_alloc_self w (.cells #[.int .i64 a, .int .i64 b, .int .i64 c, .int .i64 d] 34)
    replace G := G.alloc (.cells #[.int .i64 a, .int .i64 b, .int .i64 c, .int .i64 d] 34)
    generalize hW : (w.alloc (.cells #[.int .i64 a, .int .i64 b, .int .i64 c, .int .i64 d] 34)) = W1 at *
    have w0 : w.heap.size ≤ w.heap.size := Nat.le_refl _
    obtain ⟨p2, hp2⟩ : ∃ p2, w.heap.size = p2 := ⟨_, rfl⟩
    rw [hp2] at b2
    try simp only [hp2]
    have s2 : w.heap.size ≤ p2 := by omega
    clear  w0
    clear hp2
    clear hW
    refine (CK.out _).mono ?_
    rintro e w1 ⟨rfl, g1⟩
    obtain ⟨c2, f2, z2⟩ := blk_cells (g1.heap b2)
    have z0 : w.heap.size ≤ w1.heap.size := (Gr.trans G g1).b.size
    go_wp2_with fail
    clear c2 f2
    replace b2 := g1.heap b2
    have G := G.trans g1
    clear z2 z0
    clear g1
    go_ret
    exact ⟨rfl, G⟩
  · rw [h, Rm.err_true rfl] at CK
    rw [Bool.true_and]
    clear h
    cases hn : szOk n
    · rw [hn] at WI
      rw [Rm.err_false rfl]
      clear hn
      go_enter Tryd.func90, Tryd.ntmps90
      go_wp2_with fail
      have G := Gr.refl w
      have b2 := heap_alloc_self w (.cells #[.int .i64 a, .int .i64 b, .int .i64 c, .int .i64 d] 34)
      replace G := G.alloc (.cells #[.int .i64 a, .int .i64 b, .int .i64 c, .int .i64 d] 34)
      generalize hW : (w.alloc (.cells #[.int .i64 a, .int .i64 b, .int .i64 c, .int .i64 d] 34)) = W1 at *
      have w0 : w.heap.size ≤ w.heap.size := Nat.le_refl _
      obtain ⟨p2, hp2⟩ : ∃ p2, w.heap.size = p2 := ⟨_, rfl⟩
      rw [hp2] at b2
      try simp only [hp2]
      have s2 : w.heap.size ≤ p2 := by omega
      clear  w0
      clear hp2
      clear hW
      refine (CK.out _).mono ?_
      rintro e w1 ⟨rfl, g1⟩
      obtain ⟨c2, f2, z2⟩ := blk_cells (g1.heap b2)
      have z0 : w.heap.size ≤ w1.heap.size := (Gr.trans G g1).b.size
      go_wp2_with fail
      clear c2 f2
      replace b2 := g1.heap b2
      have G := G.trans g1
      clear z2 z0
      clear g1
      refine (WI.out _).mono ?_
      rintro e w2 ⟨rfl, g2⟩
      obtain ⟨c2, f2, z2⟩ := blk_cells (g2.heap b2)
      have z0 : w.heap.size ≤ w2.heap.size := (Gr.trans G g2).b.size
      go_wp2_with fail
      clear c2 f2
      replace b2 := g2.heap b2
      have G := G.trans g2
      clear z2 z0
      clear g2
      go_ret
      exact ⟨rfl, G⟩
    · rw [hn] at WI
      rw [Rm.err_true rfl]
      clear hn
      go_enter Tryd.func90, Tryd.ntmps90
      go_wp2_with fail
      have G := Gr.refl w
      have b2 := heap_alloc_self w (.cells #[.int .i64 a, .int .i64 b, .int .i64 c, .int .i64 d] 34)
      replace G := G.alloc (.cells #[.int .i64 a, .int .i64 b, .int .i64 c, .int .i64 d] 34)
      generalize hW : (w.alloc (.cells #[.int .i64 a, .int .i64 b, .int .i64 c, .int .i64 d] 34)) = W1 at *
      have w0 : w.heap.size ≤ w.heap.size := Nat.le_refl _
      obtain ⟨p2, hp2⟩ : ∃ p2, w.heap.size = p2 := ⟨_, rfl⟩
      rw [hp2] at b2
      try simp only [hp2]
      have s2 : w.heap.size ≤ p2 := by omega
      clear  w0
      clear hp2
      clear hW
      refine (CK.out _).mono ?_
      rintro e w1 ⟨rfl, g1⟩
      obtain ⟨c2, f2, z2⟩ := blk_cells (g1.heap b2)
      have z0 : w.heap.size ≤ w1.heap.size := (Gr.trans G g1).b.size
      go_wp2_with fail
      clear c2 f2
      replace b2 := g1.heap b2
      have G := G.trans g1
      clear z2 z0
      clear g1
      refine (WI.out _).mono ?_
      rintro e w2 ⟨rfl, g2⟩
      obtain ⟨c2, f2, z2⟩ := blk_cells (g2.heap b2)
      have z0 : w.heap.size ≤ w2.heap.size := (Gr.trans G g2).b.size
      go_wp2_with fail
      clear c2 f2
      replace b2 := g2.heap b2
      have G := G.trans g2
      clear z2 z0
      clear g2
      go_ret
      exact ⟨rfl, G⟩
set_option maxRecDepth 100000 in
set_option maxHeartbeats 4000000 in
theorem rleft_any (a b n : Int) (w : World) (h1 : -4000000000000000000 ≤ b - a) (h2 : b - a ≤ 4000000000000000000) (h3 : -4000000000000000000 ≤ n*(b-a)) (h4 : n*(b-a) ≤ 4000000000000000000) :
    Calls Tryd.prog 118 #[fr a b, .int .i64 n] w fun e w' => e = .returned (.tuple #[.int .i64 (n*(b-a)), .int .i64 b]) ∧ Gr w w' := by
  go_enter Tryd.func118, Tryd.ntmps118
  go_wp2
  go_region
  all_goals (try go_wp2)
  all_goals exact bodyPost_ret (v := .tuple #[.int .i64 (n*(b-a)), .int .i64 b]) (by simp [results, Tryd.results118, go_sem]) rfl ⟨rfl, (by repeat (first | exact Gr.refl _ | assumption | refine Gr.alloc ?_ _ | refine Gr.drew ?_ | refine Gr.drewN ?_ _ | refine Gr.set ?_ _ _ (by first | (simp; done) | (simp; omega)) | refine Gr.trans ?_ (by assumption)))⟩
set_option maxRecDepth 100000 in
set_option maxHeartbeats 4000000 in
theorem rServes_any (a b c d n low high : Int) (w : World) (R : RuB a b c d) (n1 : 1 ≤ n) (n2 : n ≤ 1000000) (l1 : 1 ≤ low) (l2 : low ≤ 1000000) (h1 : 1 ≤ high) (h2 : high ≤ 1000000) :
    Calls Tryd.prog 91 #[ru a b c d, .int .i64 n, .int .i64 low, .int .i64 high] w fun e w' => e = .returned (.bool (Rm.srv a b c d low high n)) ∧ Gr w w' := by
  have x1 := left_bd n1 n2 R.a0 R.b1 R.b2 R.ab
  have x2 := left_bd n1 n2 R.c0 R.d1 R.d2 R.cd
  have p1 := (MsB.of R n1 n2 l1 l2).p1
  have p2 := (MsB.of R n1 n2 l1 l2).p2
  have p3 := (MsB.of R n1 n2 h1 h2).p3
  have p4 := (MsB.of R n1 n2 h1 h2).p4
  have LA := Lib.hid (fun w => rleft_any c d n w (by omega) (by omega) (by omega) (by omega))
  have LB := Lib.hid (fun w => rleft_any a b n w (by omega) (by omega) (by omega) (by omega))
  have e : Rm.srv a b c d low high n = (decide (low*d ≤ n*(d-c)) && decide (n*(b-a) ≤ high*b)) := rfl
  rw [e]
  clear e R
  generalize n*(d-c) = P at *
  generalize n*(b-a) = Q at *
  by_cases k1 : low*d ≤ P
  · by_cases k2 : Q ≤ high*b
    · go_enter Tryd.func91, Tryd.ntmps91
      go_wp2_with fail
      have G := Gr.refl w
      have b4 := heap_alloc_self w (.cells #[.int .i64 a, .int .i64 b, .int .i64 c, .int .i64 d] 34)
      replace G := G.alloc (.cells #[.int .i64 a, .int .i64 b, .int .i64 c, .int .i64 d] 34)
      generalize hW : (w.alloc (.cells #[.int .i64 a, .int .i64 b, .int .i64 c, .int .i64 d] 34)) = W1 at *
      have w0 : w.heap.size ≤ w.heap.size := Nat.le_refl _
      obtain ⟨p4, hp4⟩ : ∃ p4, w.heap.size = p4 := ⟨_, rfl⟩
      rw [hp4] at b4
      try simp only [hp4]
      have s4 : w.heap.size ≤ p4 := by omega
      clear  w0
      clear hp4
      clear hW
      refine (LA.out _).mono ?_
      rintro e w1 ⟨rfl, g1⟩
      obtain ⟨c4, f4, z4⟩ := blk_cells (g1.heap b4)
      have z0 : w.heap.size ≤ w1.heap.size := (Gr.trans G g1).b.size
      go_wp2_with fail
      clear c4 f4
      replace b4 := g1.heap b4
      have G := G.trans g1
      clear z4 z0
      clear g1
      refine (LB.out _).mono ?_
      rintro e w2 ⟨rfl, g2⟩
      obtain ⟨c4, f4, z4⟩ := blk_cells (g2.heap b4)
      have z0 : w.heap.size ≤ w2.heap.size := (Gr.trans G g2).b.size
      go_wp2_with fail
      clear c4 f4
      replace b4 := g2.heap b4
      have G := G.trans g2
      clear z4 z0
      clear g2
      go_ret
      exact ⟨ret_bool (by simp; omega), G⟩
    · go_enter Tryd.func91, Tryd.ntmps91
      go_wp2_with fail
      have G := Gr.refl w
      have b4 := heap_alloc_self w (.cells #[.int .i64 a, .int .i64 b, .int .i64 c, .int .i64 d] 34)
      replace G := G.alloc (.cells #[.int .i64 a, .int .i64 b, .int .i64 c, .int .i64 d] 34)
      generalize hW : (w.alloc (.cells #[.int .i64 a, .int .i64 b, .int .i64 c, .int .i64 d] 34)) = W1 at *
      have w0 : w.heap.size ≤ w.heap.size := Nat.le_refl _
      obtain ⟨p4, hp4⟩ : ∃ p4, w.heap.size = p4 := ⟨_, rfl⟩
      rw [hp4] at b4
      try simp only [hp4]
      have s4 : w.heap.size ≤ p4 := by omega
      clear  w0
      clear hp4
      clear hW
      refine (LA.out _).mono ?_
      rintro e w1 ⟨rfl, g1⟩
      obtain ⟨c4, f4, z4⟩ := blk_cells (g1.heap b4)
      have z0 : w.heap.size ≤ w1.heap.size := (Gr.trans G g1).b.size
      go_wp2_with fail
      clear c4 f4
      replace b4 := g1.heap b4
      have G := G.trans g1
      clear z4 z0
      clear g1
      refine (LB.out _).mono ?_
      rintro e w2 ⟨rfl, g2⟩
      obtain ⟨c4, f4, z4⟩ := blk_cells (g2.heap b4)
      have z0 : w.heap.size ≤ w2.heap.size := (Gr.trans G g2).b.size
      go_wp2_with fail
      clear c4 f4
      replace b4 := g2.heap b4
      have G := G.trans g2
      clear z4 z0
      clear g2
      go_ret
      exact ⟨ret_bool (by simp; omega), G⟩
  · go_enter Tryd.func91, Tryd.ntmps91
    go_wp2_with fail
    have G := Gr.refl w
    have b4 := heap_alloc_self w (.cells #[.int .i64 a, .int .i64 b, .int .i64 c, .int .i64 d] 34)
    replace G := G.alloc (.cells #[.int .i64 a, .int .i64 b, .int .i64 c, .int .i64 d] 34)
    generalize hW : (w.alloc (.cells #[.int .i64 a, .int .i64 b, .int .i64 c, .int .i64 d] 34)) = W1 at *
    have w0 : w.heap.size ≤ w.heap.size := Nat.le_refl _
    obtain ⟨p4, hp4⟩ : ∃ p4, w.heap.size = p4 := ⟨_, rfl⟩
    rw [hp4] at b4
    try simp only [hp4]
    have s4 : w.heap.size ≤ p4 := by omega
    clear  w0
    clear hp4
    clear hW
    refine (LA.out _).mono ?_
    rintro e w1 ⟨rfl, g1⟩
    obtain ⟨c4, f4, z4⟩ := blk_cells (g1.heap b4)
    have z0 : w.heap.size ≤ w1.heap.size := (Gr.trans G g1).b.size
    go_wp2_with fail
    clear c4 f4
    replace b4 := g1.heap b4
    have G := G.trans g1
    clear z4 z0
    clear g1
    refine (LB.out _).mono ?_
    rintro e w2 ⟨rfl, g2⟩
    obtain ⟨c4, f4, z4⟩ := blk_cells (g2.heap b4)
    have z0 : w.heap.size ≤ w2.heap.size := (Gr.trans G g2).b.size
    go_wp2_with fail
    clear c4 f4
    replace b4 := g2.heap b4
    have G := G.trans g2
    clear z4 z0
    clear g2
    go_ret
    exact ⟨ret_bool (by simp; omega), G⟩
set_option maxRecDepth 100000 in
set_option maxHeartbeats 4000000 in
theorem rmissed_any (a b c d n want : Int) (w : World) (R : RuB a b c d) (n1 : 1 ≤ n) (n2 : n ≤ 1000000) (l1 : 1 ≤ want) (l2 : want ≤ 1000000) :
    Calls Tryd.prog 95 #[ru a b c d, .int .i64 n, .int .i64 want] w fun e w' => e = .returned (.tuple #[.int .i64 (Rm.msN a b c d n want), .int .i64 (Rm.msD a b c d n want)]) ∧ Gr w w' := by
  have x1 := left_bd n1 n2 R.a0 R.b1 R.b2 R.ab
  have x2 := left_bd n1 n2 R.c0 R.d1 R.d2 R.cd
  have LA := Lib.hid (fun w => rleft_any c d n w (by omega) (by omega) (by omega) (by omega))
  have LB := Lib.hid (fun w => rleft_any a b n w (by omega) (by omega) (by omega) (by omega))
  obtain ⟨b1, b2, d1, d2, p1, p2, p3, p4, q1, q2, q3, q4, m1, m2, m3, m4⟩ := MsB.of R n1 n2 l1 l2
  have e1 : Rm.msN a b c d n want = if 0 < Rm.msB c d n want * b - Rm.msA a b n want * d then Rm.msB c d n want else Rm.msA a b n want := rfl
  have e2 : Rm.msD a b c d n want = if 0 < Rm.msB c d n want * b - Rm.msA a b n want * d then d else b := rfl
  rw [e1, e2]
  have f1 : Rm.msB c d n want = want*d - n*(d-c) := rfl
  have f2 : Rm.msA a b n want = n*(b-a) - want*b := rfl
  rw [f1, f2]
  have m1 : -1000000000000 ≤ (want*d - n*(d-c))*b := m1
  have m2 : (want*d - n*(d-c))*b ≤ 1000000000000 := m2
  have m3 : -1000000000000 ≤ (n*(b-a) - want*b)*d := m3
  have m4 : (n*(b-a) - want*b)*d ≤ 1000000000000 := m4
  clear e1 e2 f1 f2 R
  generalize n*(d-c) = P at *
  generalize n*(b-a) = Q at *
  have w1 : IntKind.i64.wrap (want*d) = want*d := IntWalk.i64_in _ (by omega)
  have w2 : IntKind.i64.wrap (want*b) = want*b := IntWalk.i64_in _ (by omega)
  have w3 : IntKind.i64.wrap (want*d - P) = want*d - P := IntWalk.i64_in _ (by omega)
  have w4 : IntKind.i64.wrap (Q - want*b) = Q - want*b := IntWalk.i64_in _ (by omega)
  have w5 : IntKind.i64.wrap ((want*d - P)*b) = (want*d - P)*b := IntWalk.i64_in _ (by omega)
  have w6 : IntKind.i64.wrap ((Q - want*b)*d) = (Q - want*b)*d := IntWalk.i64_in _ (by omega)
  by_cases k : 0 < (want*d - P)*b - (Q - want*b)*d
  · rw [if_pos k, if_pos k]
    go_enter Tryd.func95, Tryd.ntmps95
    go_wp2_with fail
    have G := Gr.refl w
    have b3 := heap_alloc_self w (.cells #[.int .i64 a, .int .i64 b, .int .i64 c, .int .i64 d] 34)
    replace G := G.alloc (.cells #[.int .i64 a, .int .i64 b, .int .i64 c, .int .i64 d] 34)
    generalize hW : (w.alloc (.cells #[.int .i64 a, .int .i64 b, .int .i64 c, .int .i64 d] 34)) = W1 at *
    have w0 : w.heap.size ≤ w.heap.size := Nat.le_refl _
    obtain ⟨p3, hp3⟩ : ∃ p3, w.heap.size = p3 := ⟨_, rfl⟩
    rw [hp3] at b3
    try simp only [hp3]
    have s3 : w.heap.size ≤ p3 := by omega
    clear  w0
    clear hp3
    clear hW
    refine (LA.out _).mono ?_
    rintro e w1 ⟨rfl, g1⟩
    obtain ⟨c3, f3, z3⟩ := blk_cells (g1.heap b3)
    have z0 : w.heap.size ≤ w1.heap.size := (Gr.trans G g1).b.size
    go_wp2_with fail
    clear c3 f3
    replace b3 := g1.heap b3
    have G := G.trans g1
    clear z3 z0
    clear g1
    refine (LB.out _).mono ?_
    rintro e w2 ⟨rfl, g2⟩
    obtain ⟨c3, f3, z3⟩ := blk_cells (g2.heap b3)
    have z0 : w.heap.size ≤ w2.heap.size := (Gr.trans G g2).b.size
    go_wp2_with fail
    clear c3 f3
    replace b3 := g2.heap b3
    have G := G.trans g2
    clear z3 z0
    clear g2
    exact bodyPost_ret (v := .tuple #[.int .i64 (want*d - P), .int .i64 d]) (by simp [results, Tryd.results95, go_sem]) rfl ⟨rfl, G⟩
  · rw [if_neg k, if_neg k]
    go_enter Tryd.func95, Tryd.ntmps95
    go_wp2_with fail
    have G := Gr.refl w
    have b3 := heap_alloc_self w (.cells #[.int .i64 a, .int .i64 b, .int .i64 c, .int .i64 d] 34)
    replace G := G.alloc (.cells #[.int .i64 a, .int .i64 b, .int .i64 c, .int .i64 d] 34)
    generalize hW : (w.alloc (.cells #[.int .i64 a, .int .i64 b, .int .i64 c, .int .i64 d] 34)) = W1 at *
    have w0 : w.heap.size ≤ w.heap.size := Nat.le_refl _
    obtain ⟨p3, hp3⟩ : ∃ p3, w.heap.size = p3 := ⟨_, rfl⟩
    rw [hp3] at b3
    try simp only [hp3]
    have s3 : w.heap.size ≤ p3 := by omega
    clear  w0
    clear hp3
    clear hW
    refine (LA.out _).mono ?_
    rintro e w1 ⟨rfl, g1⟩
    obtain ⟨c3, f3, z3⟩ := blk_cells (g1.heap b3)
    have z0 : w.heap.size ≤ w1.heap.size := (Gr.trans G g1).b.size
    go_wp2_with fail
    clear c3 f3
    replace b3 := g1.heap b3
    have G := G.trans g1
    clear z3 z0
    clear g1
    refine (LB.out _).mono ?_
    rintro e w2 ⟨rfl, g2⟩
    obtain ⟨c3, f3, z3⟩ := blk_cells (g2.heap b3)
    have z0 : w.heap.size ≤ w2.heap.size := (Gr.trans G g2).b.size
    go_wp2_with fail
    clear c3 f3
    replace b3 := g2.heap b3
    have G := G.trans g2
    clear z3 z0
    clear g2
    exact bodyPost_ret (v := .tuple #[.int .i64 (Q - want*b), .int .i64 b]) (by simp [results, Tryd.results95, go_sem]) rfl ⟨rfl, G⟩
set_option maxRecDepth 100000 in
set_option maxHeartbeats 4000000 in
theorem rCast_bad (a b c d n : Int) (w : World) (h : caOk a b c d n = false) :
    Calls Tryd.prog 59 #[ru a b c d, .int .i64 n] w fun e w' => e = .returned (.tuple #[fr 0 0, fr 0 0, .int .i64 1]) ∧ Gr w w' := by
  have SZ := Lib.hid (fun w => rsized_any a b c d n w)
  rw [show (ruOk a b c d && szOk n) = false from h, Rm.err_false rfl] at SZ
  clear h
  go_enter Tryd.func59, Tryd.ntmps59
  go_wp2_with fail
  have G := Gr.refl w
  have b2 := heap_alloc_self w (.cells #[.int .i64 a, .int .i64 b, .int .i64 c, .int .i64 d] 34)
  replace G := G.alloc (.cells #[.int .i64 a, .int .i64 b, .int .i64 c, .int .i64 d] 34)
  replace b2 := ((Gr.refl _).alloc (.cells #[.int .i64 0, .int .i64 0] 23)).heap b2
  have b4 := heap_alloc_self (w.alloc (.cells #[.int .i64 a, .int .i64 b, .int .i64 c, .int .i64 d] 34)) (.cells #[.int .i64 0, .int .i64 0] 23)
  replace G := G.alloc (.cells #[.int .i64 0, .int .i64 0] 23)
  replace b2 := ((Gr.refl _).alloc (.cells #[.int .i64 0, .int .i64 0] 23)).heap b2
  replace b4 := ((Gr.refl _).alloc (.cells #[.int .i64 0, .int .i64 0] 23)).heap b4
  have b5 := heap_alloc_self ((w.alloc (.cells #[.int .i64 a, .int .i64 b, .int .i64 c, .int .i64 d] 34)).alloc (.cells #[.int .i64 0, .int .i64 0] 23)) (.cells #[.int .i64 0, .int .i64 0] 23)
  replace G := G.alloc (.cells #[.int .i64 0, .int .i64 0] 23)
  generalize hW : (((w.alloc (.cells #[.int .i64 a, .int .i64 b, .int .i64 c, .int .i64 d] 34)).alloc (.cells #[.int .i64 0, .int .i64 0] 23)).alloc (.cells #[.int .i64 0, .int .i64 0] 23)) = W1 at *
  simp only [World.size_alloc] at b4
  simp only [World.size_alloc] at b5
  have w0 : w.heap.size ≤ w.heap.size := Nat.le_refl _
  obtain ⟨p5, hp5⟩ : ∃ p5, w.heap.size + 1 + 1 = p5 := ⟨_, rfl⟩
  obtain ⟨p4, hp4⟩ : ∃ p4, w.heap.size + 1 = p4 := ⟨_, rfl⟩
  obtain ⟨p2, hp2⟩ : ∃ p2, w.heap.size = p2 := ⟨_, rfl⟩
  rw [hp5] at b5
  rw [hp4] at b4
  rw [hp2] at b2
  try simp only [hp5]
  try simp only [hp4]
  try simp only [hp2]
  have s2 : w.heap.size ≤ p2 := by omega
  have n2_4 : ¬ p2 = p4 := by omega
  have n4_2 : ¬ p4 = p2 := by omega
  have s4 : w.heap.size ≤ p4 := by omega
  have n2_5 : ¬ p2 = p5 := by omega
  have n5_2 : ¬ p5 = p2 := by omega
  have n4_5 : ¬ p4 = p5 := by omega
  have n5_4 : ¬ p5 = p4 := by omega
  have s5 : w.heap.size ≤ p5 := by omega
  clear  w0
  clear hp2
  clear hp4
  clear hp5
  clear hW
  refine (SZ.out _).mono ?_
  rintro e w1 ⟨rfl, g1⟩
  obtain ⟨c2, f2, z2⟩ := blk_cells (g1.heap b2)
  obtain ⟨c4, f4, z4⟩ := blk_cells (g1.heap b4)
  obtain ⟨c5, f5, z5⟩ := blk_cells (g1.heap b5)
  have z0 : w.heap.size ≤ w1.heap.size := (Gr.trans G g1).b.size
  go_wp2_with fail
  clear c2 f2 c4 f4 c5 f5
  replace b2 := g1.heap b2
  replace b4 := g1.heap b4
  replace b5 := g1.heap b5
  have G := G.trans g1
  clear z2 z4 z5 z0
  clear g1
  all_goals (try go_region)
  all_goals (try go_wp2)
  obtain ⟨c4, f4, z4⟩ := blk_cells b4
  obtain ⟨c5, f5, z5⟩ := blk_cells b5
  exact bodyPost_ret (v := .tuple #[fr 0 0, fr 0 0, .int .i64 1]) (by simp [results, Tryd.results59, go_sem, *]) rfl ⟨rfl, (by repeat (first | exact Gr.refl _ | assumption | refine Gr.alloc ?_ _ | refine Gr.drew ?_ | refine Gr.drewN ?_ _ | refine Gr.set ?_ _ _ (by first | (simp; done) | (simp; omega)) | refine Gr.trans ?_ (by assumption)))⟩
set_option maxRecDepth 100000 in
set_option maxHeartbeats 4000000 in
theorem rCast_yes (a b c d n : Int) (w : World) (h : caOk a b c d n = true) :
    Calls Tryd.prog 59 #[ru a b c d, .int .i64 n] w fun e w' => e = .returned (.tuple #[fr (Rm.redN (n*(d-c)) d) (Rm.redD (n*(d-c)) d), fr (Rm.redN (n*(b-a)) b) (Rm.redD (n*(b-a)) b), .int .i64 0]) ∧ Gr w w' := by
  have SZ := Lib.hid (fun w => rsized_any a b c d n w)
  rw [show (ruOk a b c d && szOk n) = true from h, Rm.err_true rfl] at SZ
  have HR : RuB a b c d ∧ (1 ≤ n ∧ n ≤ 1000000) := by
    simp only [caOk, szOk, Bool.and_eq_true, decide_eq_true_eq] at h
    exact ⟨RuB.of h.1, h.2.1, h.2.2⟩
  obtain ⟨R, n1, n2⟩ := HR
  have x1 := left_bd n1 n2 R.a0 R.b1 R.b2 R.ab
  have x2 := left_bd n1 n2 R.c0 R.d1 R.d2 R.cd
  have LA := Lib.hid (fun w => rleft_any c d n w (by omega) (by omega) (by omega) (by omega))
  have LB := Lib.hid (fun w => rleft_any a b n w (by omega) (by omega) (by omega) (by omega))
  have db := R.d2
  have bb := R.b2
  have d1 := R.d1
  have b1 := R.b1
  have T1 := made_any (n*(d-c)) d
  have T2 := made_any (n*(b-a)) b
  obtain ⟨m1, m2, m3⟩ := Rm.made_yes (Rm.okR_of (n := n*(d-c)) (d := d) (by omega) (by omega) d1 (by omega))
  obtain ⟨m4, m5, m6⟩ := Rm.made_yes (Rm.okR_of (n := n*(b-a)) (d := b) (by omega) (by omega) b1 (by omega))
  rw [m1, m2, m3] at T1
  rw [m4, m5, m6] at T2
  have M1 := Lib.hid (fun w => T1 w d1 (by omega) (by omega) (by omega))
  have M2 := Lib.hid (fun w => T2 w b1 (by omega) (by omega) (by omega))
  clear h R n1 n2 x1 x2 db bb d1 b1 m1 m2 m3 m4 m5 m6 T1 T2
  generalize Rm.redN (n*(d-c)) d = N at *
  generalize Rm.redD (n*(d-c)) d = D at *
  generalize Rm.redN (n*(b-a)) b = N' at *
  generalize Rm.redD (n*(b-a)) b = D' at *
  generalize n*(d-c) = P at *
  generalize n*(b-a) = Q at *
  go_enter Tryd.func59, Tryd.ntmps59
  go_wp2_with fail
  have G := Gr.refl w
  have b2 := heap_alloc_self w (.cells #[.int .i64 a, .int .i64 b, .int .i64 c, .int .i64 d] 34)
  replace G := G.alloc (.cells #[.int .i64 a, .int .i64 b, .int .i64 c, .int .i64 d] 34)
  replace b2 := ((Gr.refl _).alloc (.cells #[.int .i64 0, .int .i64 0] 23)).heap b2
  have b4 := heap_alloc_self (w.alloc (.cells #[.int .i64 a, .int .i64 b, .int .i64 c, .int .i64 d] 34)) (.cells #[.int .i64 0, .int .i64 0] 23)
  replace G := G.alloc (.cells #[.int .i64 0, .int .i64 0] 23)
  replace b2 := ((Gr.refl _).alloc (.cells #[.int .i64 0, .int .i64 0] 23)).heap b2
  replace b4 := ((Gr.refl _).alloc (.cells #[.int .i64 0, .int .i64 0] 23)).heap b4
  have b5 := heap_alloc_self ((w.alloc (.cells #[.int .i64 a, .int .i64 b, .int .i64 c, .int .i64 d] 34)).alloc (.cells #[.int .i64 0, .int .i64 0] 23)) (.cells #[.int .i64 0, .int .i64 0] 23)
  replace G := G.alloc (.cells #[.int .i64 0, .int .i64 0] 23)
  generalize hW : (((w.alloc (.cells #[.int .i64 a, .int .i64 b, .int .i64 c, .int .i64 d] 34)).alloc (.cells #[.int .i64 0, .int .i64 0] 23)).alloc (.cells #[.int .i64 0, .int .i64 0] 23)) = W1 at *
  simp only [World.size_alloc] at b4
  simp only [World.size_alloc] at b5
  have w0 : w.heap.size ≤ w.heap.size := Nat.le_refl _
  obtain ⟨p5, hp5⟩ : ∃ p5, w.heap.size + 1 + 1 = p5 := ⟨_, rfl⟩
  obtain ⟨p4, hp4⟩ : ∃ p4, w.heap.size + 1 = p4 := ⟨_, rfl⟩
  obtain ⟨p2, hp2⟩ : ∃ p2, w.heap.size = p2 := ⟨_, rfl⟩
  rw [hp5] at b5
  rw [hp4] at b4
  rw [hp2] at b2
  try simp only [hp5]
  try simp only [hp4]
  try simp only [hp2]
  have s2 : w.heap.size ≤ p2 := by omega
  have n2_4 : ¬ p2 = p4 := by omega
  have n4_2 : ¬ p4 = p2 := by omega
  have s4 : w.heap.size ≤ p4 := by omega
  have n2_5 : ¬ p2 = p5 := by omega
  have n5_2 : ¬ p5 = p2 := by omega
  have n4_5 : ¬ p4 = p5 := by omega
  have n5_4 : ¬ p5 = p4 := by omega
  have s5 : w.heap.size ≤ p5 := by omega
  clear  w0
  clear hp2
  clear hp4
  clear hp5
  clear hW
  refine (SZ.out _).mono ?_
  rintro e w1 ⟨rfl, g1⟩
  obtain ⟨c2, f2, z2⟩ := blk_cells (g1.heap b2)
  obtain ⟨c4, f4, z4⟩ := blk_cells (g1.heap b4)
  obtain ⟨c5, f5, z5⟩ := blk_cells (g1.heap b5)
  have z0 : w.heap.size ≤ w1.heap.size := (Gr.trans G g1).b.size
  go_wp2_with fail
  clear c2 f2 c4 f4 c5 f5
  replace b2 := g1.heap b2
  replace b4 := g1.heap b4
  replace b5 := g1.heap b5
  have G := G.trans g1
  clear z2 z4 z5 z0
  clear g1
  refine (LA.out _).mono ?_
  rintro e w2 ⟨rfl, g2⟩
  obtain ⟨c2, f2, z2⟩ := blk_cells (g2.heap b2)
  obtain ⟨c4, f4, z4⟩ := blk_cells (g2.heap b4)
  obtain ⟨c5, f5, z5⟩ := blk_cells (g2.heap b5)
  have z0 : w.heap.size ≤ w2.heap.size := (Gr.trans G g2).b.size
  go_wp2_with fail
  clear c2 f2 c4 f4 c5 f5
  replace b2 := g2.heap b2
  replace b4 := g2.heap b4
  replace b5 := g2.heap b5
  have G := G.trans g2
  clear z2 z4 z5 z0
  clear g2
  refine (LB.out _).mono ?_
  rintro e w3 ⟨rfl, g3⟩
  obtain ⟨c2, f2, z2⟩ := blk_cells (g3.heap b2)
  obtain ⟨c4, f4, z4⟩ := blk_cells (g3.heap b4)
  obtain ⟨c5, f5, z5⟩ := blk_cells (g3.heap b5)
  have z0 : w.heap.size ≤ w3.heap.size := (Gr.trans G g3).b.size
  go_wp2_with fail
  clear c2 f2 c4 f4 c5 f5
  replace b2 := g3.heap b2
  replace b4 := g3.heap b4
  replace b5 := g3.heap b5
  have G := G.trans g3
  clear z2 z4 z5 z0
  clear g3
  refine (M1.out _).mono ?_
  rintro e w4 ⟨rfl, g4⟩
  obtain ⟨c2, f2, z2⟩ := blk_cells (g4.heap b2)
  obtain ⟨c4, f4, z4⟩ := blk_cells (g4.heap b4)
  obtain ⟨c5, f5, z5⟩ := blk_cells (g4.heap b5)
  have z0 : w.heap.size ≤ w4.heap.size := (Gr.trans G g4).b.size
  go_wp2_with fail
  clear c2 f2 c4 f4 c5 f5
  replace b2 := g4.heap b2
  replace b4 := g4.heap b4
  replace b5 := g4.heap b5
  have G := G.trans g4
  replace b2 := ((Gr.refl _).alloc (.cells #[.int .i64 N, .int .i64 D] 23)).heap b2
  replace b4 := ((Gr.refl _).alloc (.cells #[.int .i64 N, .int .i64 D] 23)).heap b4
  replace b5 := ((Gr.refl _).alloc (.cells #[.int .i64 N, .int .i64 D] 23)).heap b5
  have b12 := heap_alloc_self w4 (.cells #[.int .i64 N, .int .i64 D] 23)
  replace G := G.alloc (.cells #[.int .i64 N, .int .i64 D] 23)
  generalize hW : (w4.alloc (.cells #[.int .i64 N, .int .i64 D] 23)) = W5 at *
  have o2 : p2 < w4.heap.size := z2
  have o4 : p4 < w4.heap.size := z4
  have o5 : p5 < w4.heap.size := z5
  have w0 : w.heap.size ≤ w4.heap.size := z0
  obtain ⟨p12, hp12⟩ : ∃ p12, w4.heap.size = p12 := ⟨_, rfl⟩
  rw [hp12] at b12
  try simp only [hp12]
  have n2_12 : ¬ p2 = p12 := by omega
  have n12_2 : ¬ p12 = p2 := by omega
  have n4_12 : ¬ p4 = p12 := by omega
  have n12_4 : ¬ p12 = p4 := by omega
  have n5_12 : ¬ p5 = p12 := by omega
  have n12_5 : ¬ p12 = p5 := by omega
  have s12 : w.heap.size ≤ p12 := by omega
  clear o2 o4 o5 w0
  clear hp12
  clear hW
  clear z2 z4 z5 z0
  clear g4
  refine (M2.out _).mono ?_
  rintro e w5 ⟨rfl, g5⟩
  obtain ⟨c2, f2, z2⟩ := blk_cells (g5.heap b2)
  obtain ⟨c4, f4, z4⟩ := blk_cells (g5.heap b4)
  obtain ⟨c5, f5, z5⟩ := blk_cells (g5.heap b5)
  obtain ⟨c12, f12, z12⟩ := blk_cells (g5.heap b12)
  have z0 : w.heap.size ≤ w5.heap.size := (Gr.trans G g5).b.size
  go_wp2_with fail
  clear c2 f2 c4 f4 c5 f5 c12 f12
  replace b2 := g5.heap b2
  replace b4 := g5.heap b4
  replace b5 := g5.heap b5
  replace b12 := g5.heap b12
  have G := G.trans g5
  replace b2 := ((Gr.refl _).alloc (.cells #[.int .i64 (N'), .int .i64 (D')] 23)).heap b2
  replace b4 := ((Gr.refl _).alloc (.cells #[.int .i64 (N'), .int .i64 (D')] 23)).heap b4
  replace b5 := ((Gr.refl _).alloc (.cells #[.int .i64 (N'), .int .i64 (D')] 23)).heap b5
  replace b12 := ((Gr.refl _).alloc (.cells #[.int .i64 (N'), .int .i64 (D')] 23)).heap b12
  have b14 := heap_alloc_self w5 (.cells #[.int .i64 (N'), .int .i64 (D')] 23)
  replace G := G.alloc (.cells #[.int .i64 (N'), .int .i64 (D')] 23)
  generalize hW : (w5.alloc (.cells #[.int .i64 (N'), .int .i64 (D')] 23)) = W6 at *
  have o2 : p2 < w5.heap.size := z2
  have o4 : p4 < w5.heap.size := z4
  have o5 : p5 < w5.heap.size := z5
  have o12 : p12 < w5.heap.size := z12
  have w0 : w.heap.size ≤ w5.heap.size := z0
  obtain ⟨p14, hp14⟩ : ∃ p14, w5.heap.size = p14 := ⟨_, rfl⟩
  rw [hp14] at b14
  try simp only [hp14]
  have n2_14 : ¬ p2 = p14 := by omega
  have n14_2 : ¬ p14 = p2 := by omega
  have n4_14 : ¬ p4 = p14 := by omega
  have n14_4 : ¬ p14 = p4 := by omega
  have n5_14 : ¬ p5 = p14 := by omega
  have n14_5 : ¬ p14 = p5 := by omega
  have n12_14 : ¬ p12 = p14 := by omega
  have n14_12 : ¬ p14 = p12 := by omega
  have s14 : w.heap.size ≤ p14 := by omega
  clear o2 o4 o5 o12 w0
  clear hp14
  clear hW
  clear z2 z4 z5 z12 z0
  clear g5
  obtain ⟨c2, f2, z2⟩ := blk_cells b2
  obtain ⟨c4, f4, z4⟩ := blk_cells b4
  obtain ⟨c5, f5, z5⟩ := blk_cells b5
  obtain ⟨c12, f12, z12⟩ := blk_cells b12
  obtain ⟨c14, f14, z14⟩ := blk_cells b14
  go_wp2_with fail
  all_goals (try go_region)
  all_goals (try go_wp2)
  all_goals exact bodyPost_ret (v := .tuple #[fr N D, fr N' D', .int .i64 0]) (by simp [results, Tryd.results59, go_sem, *]) rfl ⟨rfl, (by repeat (first | exact Gr.refl _ | assumption | refine Gr.alloc ?_ _ | refine Gr.drew ?_ | refine Gr.drewN ?_ _ | refine Gr.set ?_ _ _ (by first | (simp; done) | (simp; omega)) | refine Gr.trans ?_ (by assumption)))⟩
theorem rCast_any (a b c d n : Int) (w : World) :
    Calls Tryd.prog 59 #[ru a b c d, .int .i64 n] w fun e w' => e = .returned (.tuple #[fr (caV a b c d n (Rm.redN (n*(d-c)) d)) (caV a b c d n (Rm.redD (n*(d-c)) d)), fr (caV a b c d n (Rm.redN (n*(b-a)) b)) (caV a b c d n (Rm.redD (n*(b-a)) b)), .int .i64 (Rm.err (caOk a b c d n) 1)]) ∧ Gr w w' := by
  cases h : caOk a b c d n
  · have e : ∀ x, caV a b c d n x = 0 := fun x => by simp [caV, h]
    simp only [e, Rm.err_false rfl]
    exact rCast_bad a b c d n w h
  · have e : ∀ x, caV a b c d n x = x := fun x => by simp [caV, h]
    simp only [e, Rm.err_true rfl]
    exact rCast_yes a b c d n w h
set_option maxRecDepth 100000 in
set_option maxHeartbeats 4000000 in
theorem rMiss_bad (a b c d n want : Int) (w : World) (h : miOk a b c d n want = false) :
    Calls Tryd.prog 60 #[ru a b c d, .int .i64 n, .int .i64 want] w fun e w' => e = .returned (.tuple #[fr 0 0, .int .i64 1]) ∧ Gr w w' := by
  have S1 := Lib.hid (fun w => rsized_any a b c d n w)
  have S2 := Lib.hid (fun w => rsized_any a b c d want w)
  unfold miOk at h
  cases h1 : (ruOk a b c d && szOk n)
  · rw [h1, Rm.err_false rfl] at S1
    clear h h1 S2
    go_enter Tryd.func60, Tryd.ntmps60
    go_wp2_with fail
    have G := Gr.refl w
    have b3 := heap_alloc_self w (.cells #[.int .i64 a, .int .i64 b, .int .i64 c, .int .i64 d] 34)
    replace G := G.alloc (.cells #[.int .i64 a, .int .i64 b, .int .i64 c, .int .i64 d] 34)
    replace b3 := ((Gr.refl _).alloc (.cells #[.int .i64 0, .int .i64 0] 23)).heap b3
    have b6 := heap_alloc_self (w.alloc (.cells #[.int .i64 a, .int .i64 b, .int .i64 c, .int .i64 d] 34)) (.cells #[.int .i64 0, .int .i64 0] 23)
    replace G := G.alloc (.cells #[.int .i64 0, .int .i64 0] 23)
    generalize hW : ((w.alloc (.cells #[.int .i64 a, .int .i64 b, .int .i64 c, .int .i64 d] 34)).alloc (.cells #[.int .i64 0, .int .i64 0] 23)) = W1 at *
    simp only [World.size_alloc] at b6
    have w0 : w.heap.size ≤ w.heap.size := Nat.le_refl _
    obtain ⟨p6, hp6⟩ : ∃ p6, w.heap.size + 1 = p6 := ⟨_, rfl⟩
    obtain ⟨p3, hp3⟩ : ∃ p3, w.heap.size = p3 := ⟨_, rfl⟩
    rw [hp6] at b6
    rw [hp3] at b3
    try simp only [hp6]
    try simp only [hp3]
    have s3 : w.heap.size ≤ p3 := by omega
    have n3_6 : ¬ p3 = p6 := by omega
    have n6_3 : ¬ p6 = p3 := by omega
    have s6 : w.heap.size ≤ p6 := by omega
    clear  w0
    clear hp3
    clear hp6
    clear hW
    refine (S1.out _).mono ?_
    rintro e w1 ⟨rfl, g1⟩
    obtain ⟨c3, f3, z3⟩ := blk_cells (g1.heap b3)
    obtain ⟨c6, f6, z6⟩ := blk_cells (g1.heap b6)
    have z0 : w.heap.size ≤ w1.heap.size := (Gr.trans G g1).b.size
    go_wp2_with fail
    clear c3 f3 c6 f6
    replace b3 := g1.heap b3
    replace b6 := g1.heap b6
    have G := G.trans g1
    clear z3 z6 z0
    clear g1
    obtain ⟨c3, f3, z3⟩ := blk_cells b3
    obtain ⟨c6, f6, z6⟩ := blk_cells b6
    exact bodyPost_ret (v := .tuple #[fr 0 0, .int .i64 1]) (by simp [results, Tryd.results60, go_sem, *]) rfl ⟨rfl, (by repeat (first | exact Gr.refl _ | assumption | refine Gr.alloc ?_ _ | refine Gr.drew ?_ | refine Gr.drewN ?_ _ | refine Gr.set ?_ _ _ (by first | (simp; done) | (simp; omega)) | refine Gr.trans ?_ (by assumption)))⟩
  · have h2 : (ruOk a b c d && szOk want) = false := by
      rw [Bool.and_eq_true] at h1
      rw [h1.1, h1.2] at h
      rw [h1.1]
      simpa using h
    rw [h1, Rm.err_true rfl] at S1
    rw [h2, Rm.err_false rfl] at S2
    clear h h1 h2
    go_enter Tryd.func60, Tryd.ntmps60
    go_wp2_with fail
    have G := Gr.refl w
    have b3 := heap_alloc_self w (.cells #[.int .i64 a, .int .i64 b, .int .i64 c, .int .i64 d] 34)
    replace G := G.alloc (.cells #[.int .i64 a, .int .i64 b, .int .i64 c, .int .i64 d] 34)
    replace b3 := ((Gr.refl _).alloc (.cells #[.int .i64 0, .int .i64 0] 23)).heap b3
    have b6 := heap_alloc_self (w.alloc (.cells #[.int .i64 a, .int .i64 b, .int .i64 c, .int .i64 d] 34)) (.cells #[.int .i64 0, .int .i64 0] 23)
    replace G := G.alloc (.cells #[.int .i64 0, .int .i64 0] 23)
    generalize hW : ((w.alloc (.cells #[.int .i64 a, .int .i64 b, .int .i64 c, .int .i64 d] 34)).alloc (.cells #[.int .i64 0, .int .i64 0] 23)) = W1 at *
    simp only [World.size_alloc] at b6
    have w0 : w.heap.size ≤ w.heap.size := Nat.le_refl _
    obtain ⟨p6, hp6⟩ : ∃ p6, w.heap.size + 1 = p6 := ⟨_, rfl⟩
    obtain ⟨p3, hp3⟩ : ∃ p3, w.heap.size = p3 := ⟨_, rfl⟩
    rw [hp6] at b6
    rw [hp3] at b3
    try simp only [hp6]
    try simp only [hp3]
    have s3 : w.heap.size ≤ p3 := by omega
    have n3_6 : ¬ p3 = p6 := by omega
    have n6_3 : ¬ p6 = p3 := by omega
    have s6 : w.heap.size ≤ p6 := by omega
    clear  w0
    clear hp3
    clear hp6
    clear hW
    refine (S1.out _).mono ?_
    rintro e w1 ⟨rfl, g1⟩
    obtain ⟨c3, f3, z3⟩ := blk_cells (g1.heap b3)
    obtain ⟨c6, f6, z6⟩ := blk_cells (g1.heap b6)
    have z0 : w.heap.size ≤ w1.heap.size := (Gr.trans G g1).b.size
    go_wp2_with fail
    clear c3 f3 c6 f6
    replace b3 := g1.heap b3
    replace b6 := g1.heap b6
    have G := G.trans g1
    clear z3 z6 z0
    clear g1
    refine (S2.out _).mono ?_
    rintro e w2 ⟨rfl, g2⟩
    obtain ⟨c3, f3, z3⟩ := blk_cells (g2.heap b3)
    obtain ⟨c6, f6, z6⟩ := blk_cells (g2.heap b6)
    have z0 : w.heap.size ≤ w2.heap.size := (Gr.trans G g2).b.size
    go_wp2_with fail
    clear c3 f3 c6 f6
    replace b3 := g2.heap b3
    replace b6 := g2.heap b6
    have G := G.trans g2
    clear z3 z6 z0
    clear g2
    obtain ⟨c3, f3, z3⟩ := blk_cells b3
    obtain ⟨c6, f6, z6⟩ := blk_cells b6
    exact bodyPost_ret (v := .tuple #[fr 0 0, .int .i64 1]) (by simp [results, Tryd.results60, go_sem, *]) rfl ⟨rfl, (by repeat (first | exact Gr.refl _ | assumption | refine Gr.alloc ?_ _ | refine Gr.drew ?_ | refine Gr.drewN ?_ _ | refine Gr.set ?_ _ _ (by first | (simp; done) | (simp; omega)) | refine Gr.trans ?_ (by assumption)))⟩
set_option maxRecDepth 100000 in
set_option maxHeartbeats 4000000 in
theorem rMiss_yes (a b c d n want : Int) (w : World) (h : miOk a b c d n want = true) :
    Calls Tryd.prog 60 #[ru a b c d, .int .i64 n, .int .i64 want] w fun e w' => e = .returned (.tuple #[fr (Rm.mN (Rm.msN a b c d n want) (Rm.msD a b c d n want)) (Rm.mD (Rm.msN a b c d n want) (Rm.msD a b c d n want)), .int .i64 (Rm.mE (Rm.msN a b c d n want) (Rm.msD a b c d n want))]) ∧ Gr w w' := by
  have S1 := Lib.hid (fun w => rsized_any a b c d n w)
  have S2 := Lib.hid (fun w => rsized_any a b c d want w)
  have HR : RuB a b c d ∧ (1 ≤ n ∧ n ≤ 1000000) ∧ (1 ≤ want ∧ want ≤ 1000000) ∧ (ruOk a b c d && szOk n) = true ∧ (ruOk a b c d && szOk want) = true := by
    simp only [miOk, szOk, Bool.and_eq_true, decide_eq_true_eq] at h ⊢
    exact ⟨RuB.of h.1, h.2.1, h.2.2, ⟨h.1, h.2.1⟩, h.1, h.2.2⟩
  obtain ⟨Rr, ⟨n1, n2⟩, ⟨l1, l2⟩, e1, e2⟩ := HR
  rw [e1, Rm.err_true rfl] at S1
  rw [e2, Rm.err_true rfl] at S2
  have MS := Lib.hid (fun w => rmissed_any a b c d n want w Rr n1 n2 l1 l2)
  obtain ⟨k1, k2, k3, k4⟩ := ms_bd (MsB.of Rr n1 n2 l1 l2)
  have MD := Lib.hid (fun w => made_any (Rm.msN a b c d n want) (Rm.msD a b c d n want) w k1 (by omega) (by omega) (by omega))
  clear h Rr n1 n2 l1 l2 e1 e2 k1 k2 k3 k4
  generalize Rm.mN (Rm.msN a b c d n want) (Rm.msD a b c d n want) = N' at *
  generalize Rm.mD (Rm.msN a b c d n want) (Rm.msD a b c d n want) = D' at *
  generalize Rm.mE (Rm.msN a b c d n want) (Rm.msD a b c d n want) = E at *
  generalize Rm.msN a b c d n want = N at *
  generalize Rm.msD a b c d n want = D at *
  go_enter Tryd.func60, Tryd.ntmps60
  go_wp2_with fail
  have G := Gr.refl w
  have b3 := heap_alloc_self w (.cells #[.int .i64 a, .int .i64 b, .int .i64 c, .int .i64 d] 34)
  replace G := G.alloc (.cells #[.int .i64 a, .int .i64 b, .int .i64 c, .int .i64 d] 34)
  replace b3 := ((Gr.refl _).alloc (.cells #[.int .i64 0, .int .i64 0] 23)).heap b3
  have b6 := heap_alloc_self (w.alloc (.cells #[.int .i64 a, .int .i64 b, .int .i64 c, .int .i64 d] 34)) (.cells #[.int .i64 0, .int .i64 0] 23)
  replace G := G.alloc (.cells #[.int .i64 0, .int .i64 0] 23)
  generalize hW : ((w.alloc (.cells #[.int .i64 a, .int .i64 b, .int .i64 c, .int .i64 d] 34)).alloc (.cells #[.int .i64 0, .int .i64 0] 23)) = W1 at *
  simp only [World.size_alloc] at b6
  have w0 : w.heap.size ≤ w.heap.size := Nat.le_refl _
  obtain ⟨p6, hp6⟩ : ∃ p6, w.heap.size + 1 = p6 := ⟨_, rfl⟩
  obtain ⟨p3, hp3⟩ : ∃ p3, w.heap.size = p3 := ⟨_, rfl⟩
  rw [hp6] at b6
  rw [hp3] at b3
  try simp only [hp6]
  try simp only [hp3]
  have s3 : w.heap.size ≤ p3 := by omega
  have n3_6 : ¬ p3 = p6 := by omega
  have n6_3 : ¬ p6 = p3 := by omega
  have s6 : w.heap.size ≤ p6 := by omega
  clear  w0
  clear hp3
  clear hp6
  clear hW
  refine (S1.out _).mono ?_
  rintro e w1 ⟨rfl, g1⟩
  obtain ⟨c3, f3, z3⟩ := blk_cells (g1.heap b3)
  obtain ⟨c6, f6, z6⟩ := blk_cells (g1.heap b6)
  have z0 : w.heap.size ≤ w1.heap.size := (Gr.trans G g1).b.size
  go_wp2_with fail
  clear c3 f3 c6 f6
  replace b3 := g1.heap b3
  replace b6 := g1.heap b6
  have G := G.trans g1
  clear z3 z6 z0
  clear g1
  refine (S2.out _).mono ?_
  rintro e w2 ⟨rfl, g2⟩
  obtain ⟨c3, f3, z3⟩ := blk_cells (g2.heap b3)
  obtain ⟨c6, f6, z6⟩ := blk_cells (g2.heap b6)
  have z0 : w.heap.size ≤ w2.heap.size := (Gr.trans G g2).b.size
  go_wp2_with fail
  clear c3 f3 c6 f6
  replace b3 := g2.heap b3
  replace b6 := g2.heap b6
  have G := G.trans g2
  clear z3 z6 z0
  clear g2
  refine (MS.out _).mono ?_
  rintro e w3 ⟨rfl, g3⟩
  obtain ⟨c3, f3, z3⟩ := blk_cells (g3.heap b3)
  obtain ⟨c6, f6, z6⟩ := blk_cells (g3.heap b6)
  have z0 : w.heap.size ≤ w3.heap.size := (Gr.trans G g3).b.size
  go_wp2_with fail
  clear c3 f3 c6 f6
  replace b3 := g3.heap b3
  replace b6 := g3.heap b6
  have G := G.trans g3
  clear z3 z6 z0
  clear g3
  refine (MD.out _).mono ?_
  rintro e w4 ⟨rfl, g4⟩
  obtain ⟨c3, f3, z3⟩ := blk_cells (g4.heap b3)
  obtain ⟨c6, f6, z6⟩ := blk_cells (g4.heap b6)
  have z0 : w.heap.size ≤ w4.heap.size := (Gr.trans G g4).b.size
  go_wp2_with fail
  clear c3 f3 c6 f6
  replace b3 := g4.heap b3
  replace b6 := g4.heap b6
  have G := G.trans g4
  replace b3 := keep2 p6 (.int .i64 N') (.int .i64 D') b3 (by first | assumption | omega)
  replace b6 := put_two (x := .int .i64 N') (y := .int .i64 D') b6
  replace G := gr_set2 p6 (.int .i64 N') (.int .i64 D') G (by omega)
  generalize hW : ((w4.setCell ⟨p6, 0, none⟩ (.int .i64 N')).setCell ⟨p6, 1, none⟩ (.int .i64 D')) = W5 at *
  clear hW
  clear z3 z6 z0
  clear g4
  obtain ⟨c3, f3, z3⟩ := blk_cells b3
  obtain ⟨c6, f6, z6⟩ := blk_cells b6
  exact bodyPost_ret (v := .tuple #[fr N' D', .int .i64 E]) (by simp [results, Tryd.results60, go_sem, *]) rfl ⟨rfl, (by repeat (first | exact Gr.refl _ | assumption | refine Gr.alloc ?_ _ | refine Gr.drew ?_ | refine Gr.drewN ?_ _ | refine Gr.set ?_ _ _ (by first | (simp; done) | (simp; omega)) | refine Gr.trans ?_ (by assumption)))⟩
theorem rMiss_any (a b c d n want : Int) (w : World) :
    Calls Tryd.prog 60 #[ru a b c d, .int .i64 n, .int .i64 want] w fun e w' => e = .returned (.tuple #[fr (miN a b c d n want) (miD a b c d n want), .int .i64 (miE a b c d n want)]) ∧ Gr w w' := by
  cases h : miOk a b c d n want
  · have e1 : miN a b c d n want = 0 ∧ miD a b c d n want = 0 ∧ miE a b c d n want = 1 := by simp [miN, miD, miE, h]
    rw [e1.1, e1.2.1, e1.2.2]
    exact rMiss_bad a b c d n want w h
  · have e1 : miN a b c d n want = _ ∧ miD a b c d n want = _ ∧ miE a b c d n want = _ := ⟨by simp only [miN, h, if_true]; rfl, by simp only [miD, h, if_true]; rfl, by simp only [miE, h, if_true]; rfl⟩
    rw [e1.1, e1.2.1, e1.2.2]
    exact rMiss_yes a b c d n want w h
theorem sizes_end {a b c d low high : Int} (R : RuB a b c d) (l1 : 1 ≤ low) (h1 : 1 ≤ high) (hE : szE a b c d low high = 0) (k : Nat) (hk : (k : Int) = 1000000) :
    Rm.rsL a b c d low high k = szLo a b c d low high ∧ Rm.rsM a b c d low high k = szHi a b c d low high ∧ decide (0 < Rm.rsL a b c d low high k) = szB a b c d low high := by
  have hab : 1 ≤ b - a := by have := R.ab; have := R.b1; omega
  have hcd : 1 ≤ d - c := by have := R.cd; have := R.d1; omega
  have hL : 1 ≤ Rm.cl (low*d) (d-c) := by
    have h1 := @Rm.le_cl (low*d) (d-c) hcd
    have h2 := Int.mul_pos (show 0 < low by omega) (show 0 < d by have := R.d1; omega)
    have h3 : 0 < Rm.cl (low*d) (d-c) * (d-c) := by omega
    have := Rm.posl h3 (by omega)
    omega
  have hM : 0 ≤ Rm.fl (high*b) (b-a) := Rm.le_fl hab (by have := Int.mul_pos (show 0 < high by omega) (show 0 < b by have := R.b1; omega); omega)
  have E := @Rm.rs_eq a b c d low high (Rm.cl (low*d) (d-c)) (Rm.fl (high*b) (b-a)) hL (fun n _ => Rm.srv_iff hab hcd n) k
  obtain ⟨e1, e2⟩ := E
  rw [e1, e2]
  have q1 : szL c d low = (min (Rm.cl (low*d) (d-c)) 1000001).toNat := rfl
  have q2 : szM a b high = (min (Rm.fl (high*b) (b-a) + 1) 1000001).toNat := rfl
  have q3 : szB a b c d low high = decide (szL c d low + 1 ≤ szM a b high) := by simp [szB, hE]
  unfold szLo szHi
  rw [q3]
  generalize Rm.cl (low*d) (d-c) = L at *
  generalize Rm.fl (high*b) (b-a) = M at *
  rw [hk]
  by_cases g : L ≤ M ∧ L ≤ 1000000
  · have g2 : szL c d low + 1 ≤ szM a b high := by omega
    rw [if_pos g, if_pos g, decide_eq_true g2, if_pos rfl, if_pos rfl]
    exact ⟨by omega, by omega, decide_eq_true (by omega)⟩
  · have g2 : ¬ szL c d low + 1 ≤ szM a b high := by omega
    rw [if_neg g, if_neg g, decide_eq_false g2]
    exact ⟨rfl, rfl, rfl⟩
set_option maxRecDepth 100000 in
set_option maxHeartbeats 4000000 in
theorem rSizes_bad (a b c d low high : Int) (w : World) (h : (ruOk a b c d && (szOk low && szOk high)) = false) :
    Calls Tryd.prog 28 #[ru a b c d, .int .i64 low, .int .i64 high] w fun e w' => e = .returned (.tuple #[.int .i64 0, .int .i64 0, .bool false, .int .i64 1]) ∧ Gr w w' := by
  have S1 := Lib.hid (fun w => rsized_any a b c d low w)
  have S2 := Lib.hid (fun w => rsized_any a b c d high w)
  cases h1 : (ruOk a b c d && szOk low)
  · rw [h1, Rm.err_false rfl] at S1
    clear h h1 S2
    go_enter Tryd.func28, Tryd.ntmps28
    go_wp2_with fail
    have G := Gr.refl w
    have b3 := heap_alloc_self w (.cells #[.int .i64 a, .int .i64 b, .int .i64 c, .int .i64 d] 34)
    replace G := G.alloc (.cells #[.int .i64 a, .int .i64 b, .int .i64 c, .int .i64 d] 34)
    generalize hW : (w.alloc (.cells #[.int .i64 a, .int .i64 b, .int .i64 c, .int .i64 d] 34)) = W1 at *
    have w0 : w.heap.size ≤ w.heap.size := Nat.le_refl _
    obtain ⟨p3, hp3⟩ : ∃ p3, w.heap.size = p3 := ⟨_, rfl⟩
    rw [hp3] at b3
    try simp only [hp3]
    have s3 : w.heap.size ≤ p3 := by omega
    clear  w0
    clear hp3
    clear hW
    refine (S1.out _).mono ?_
    rintro e w1 ⟨rfl, g1⟩
    obtain ⟨c3, f3, z3⟩ := blk_cells (g1.heap b3)
    have z0 : w.heap.size ≤ w1.heap.size := (Gr.trans G g1).b.size
    go_wp2_with fail
    clear c3 f3
    replace b3 := g1.heap b3
    have G := G.trans g1
    clear z3 z0
    clear g1
    exact bodyPost_ret (v := .tuple #[.int .i64 0, .int .i64 0, .bool false, .int .i64 1]) (by simp [results, Tryd.results28, go_sem]) rfl ⟨rfl, G⟩
  · have h2 : (ruOk a b c d && szOk high) = false := by
      rw [Bool.and_eq_true] at h1
      rw [h1.1, h1.2] at h
      rw [h1.1]
      simpa using h
    rw [h1, Rm.err_true rfl] at S1
    rw [h2, Rm.err_false rfl] at S2
    clear h h1 h2
    go_enter Tryd.func28, Tryd.ntmps28
    go_wp2_with fail
    have G := Gr.refl w
    have b3 := heap_alloc_self w (.cells #[.int .i64 a, .int .i64 b, .int .i64 c, .int .i64 d] 34)
    replace G := G.alloc (.cells #[.int .i64 a, .int .i64 b, .int .i64 c, .int .i64 d] 34)
    generalize hW : (w.alloc (.cells #[.int .i64 a, .int .i64 b, .int .i64 c, .int .i64 d] 34)) = W1 at *
    have w0 : w.heap.size ≤ w.heap.size := Nat.le_refl _
    obtain ⟨p3, hp3⟩ : ∃ p3, w.heap.size = p3 := ⟨_, rfl⟩
    rw [hp3] at b3
    try simp only [hp3]
    have s3 : w.heap.size ≤ p3 := by omega
    clear  w0
    clear hp3
    clear hW
    refine (S1.out _).mono ?_
    rintro e w1 ⟨rfl, g1⟩
    obtain ⟨c3, f3, z3⟩ := blk_cells (g1.heap b3)
    have z0 : w.heap.size ≤ w1.heap.size := (Gr.trans G g1).b.size
    go_wp2_with fail
    clear c3 f3
    replace b3 := g1.heap b3
    have G := G.trans g1
    clear z3 z0
    clear g1
    refine (S2.out _).mono ?_
    rintro e w2 ⟨rfl, g2⟩
    obtain ⟨c3, f3, z3⟩ := blk_cells (g2.heap b3)
    have z0 : w.heap.size ≤ w2.heap.size := (Gr.trans G g2).b.size
    go_wp2_with fail
    clear c3 f3
    replace b3 := g2.heap b3
    have G := G.trans g2
    clear z3 z0
    clear g2
    exact bodyPost_ret (v := .tuple #[.int .i64 0, .int .i64 0, .bool false, .int .i64 1]) (by simp [results, Tryd.results28, go_sem]) rfl ⟨rfl, G⟩
set_option maxRecDepth 100000 in
set_option maxHeartbeats 4000000 in
theorem rSizes_order (a b c d low high : Int) (w : World) (e1 : (ruOk a b c d && szOk low) = true) (e2 : (ruOk a b c d && szOk high) = true) (ho : high < low) :
    Calls Tryd.prog 28 #[ru a b c d, .int .i64 low, .int .i64 high] w fun e w' => e = .returned (.tuple #[.int .i64 0, .int .i64 0, .bool false, .int .i64 12]) ∧ Gr w w' := by
  have S1 := Lib.hid (fun w => rsized_any a b c d low w)
  have S2 := Lib.hid (fun w => rsized_any a b c d high w)
  rw [e1, Rm.err_true rfl] at S1
  rw [e2, Rm.err_true rfl] at S2
  clear e1 e2
  go_enter Tryd.func28, Tryd.ntmps28
  go_wp2_with fail
  have G := Gr.refl w
  have b3 := heap_alloc_self w (.cells #[.int .i64 a, .int .i64 b, .int .i64 c, .int .i64 d] 34)
  replace G := G.alloc (.cells #[.int .i64 a, .int .i64 b, .int .i64 c, .int .i64 d] 34)
  generalize hW : (w.alloc (.cells #[.int .i64 a, .int .i64 b, .int .i64 c, .int .i64 d] 34)) = W1 at *
  have w0 : w.heap.size ≤ w.heap.size := Nat.le_refl _
  obtain ⟨p3, hp3⟩ : ∃ p3, w.heap.size = p3 := ⟨_, rfl⟩
  rw [hp3] at b3
  try simp only [hp3]
  have s3 : w.heap.size ≤ p3 := by omega
  clear  w0
  clear hp3
  clear hW
  refine (S1.out _).mono ?_
  rintro e w1 ⟨rfl, g1⟩
  obtain ⟨c3, f3, z3⟩ := blk_cells (g1.heap b3)
  have z0 : w.heap.size ≤ w1.heap.size := (Gr.trans G g1).b.size
  go_wp2_with fail
  clear c3 f3
  replace b3 := g1.heap b3
  have G := G.trans g1
  clear z3 z0
  clear g1
  refine (S2.out _).mono ?_
  rintro e w2 ⟨rfl, g2⟩
  obtain ⟨c3, f3, z3⟩ := blk_cells (g2.heap b3)
  have z0 : w.heap.size ≤ w2.heap.size := (Gr.trans G g2).b.size
  go_wp2_with fail
  clear c3 f3
  replace b3 := g2.heap b3
  have G := G.trans g2
  clear z3 z0
  clear g2
  exact bodyPost_ret (v := .tuple #[.int .i64 0, .int .i64 0, .bool false, .int .i64 12]) (by simp [results, Tryd.results28, go_sem]) rfl ⟨rfl, G⟩
set_option maxRecDepth 100000 in
set_option maxHeartbeats 4000000 in
theorem rSizes_go (a b c d low high : Int) (w : World) (e1 : (ruOk a b c d && szOk low) = true) (e2 : (ruOk a b c d && szOk high) = true) (ho : ¬ high < low) :
    Calls Tryd.prog 28 #[ru a b c d, .int .i64 low, .int .i64 high] w fun e w' => e = .returned (.tuple #[.int .i64 (szLo a b c d low high), .int .i64 (szHi a b c d low high), .bool (szB a b c d low high), .int .i64 0]) ∧ Gr w w' := by
  have S1 := Lib.hid (fun w => rsized_any a b c d low w)
  have S2 := Lib.hid (fun w => rsized_any a b c d high w)
  rw [e1, Rm.err_true rfl] at S1
  rw [e2, Rm.err_true rfl] at S2
  have HR : RuB a b c d ∧ (1 ≤ low ∧ low ≤ 1000000) ∧ (1 ≤ high ∧ high ≤ 1000000) ∧ szE a b c d low high = 0 := by
    simp only [szOk, Bool.and_eq_true, decide_eq_true_eq] at e1 e2
    refine ⟨RuB.of e1.1, e1.2, e2.2, ?_⟩
    simp [szE, szOk, e1.1, e1.2, e2.2]; omega
  obtain ⟨Rr, ⟨l1, l2⟩, ⟨h1, h2⟩, hE⟩ := HR
  have SV := Lib.hid (fun q (q1 : 1 ≤ q) (q2 : q ≤ 1000000) w => rServes_any a b c d q low high w Rr q1 q2 l1 l2 h1 h2)
  have HEND := Lib.hid (fun k hk => sizes_end Rr l1 h1 hE k hk)
  have IS := Lib.hid (fun k => (⟨rfl, rfl⟩ : Rm.rsL a b c d low high (k+1) = (if Rm.srv a b c d low high ((k : Int)+1) = true ∧ Rm.rsL a b c d low high k = 0 then (k : Int)+1 else Rm.rsL a b c d low high k) ∧
    Rm.rsM a b c d low high (k+1) = (if Rm.srv a b c d low high ((k : Int)+1) = true then (k : Int)+1 else Rm.rsM a b c d low high k)))
  have I0 : Hid (Rm.rsL a b c d low high 0 = 0 ∧ Rm.rsM a b c d low high 0 = 0) := Lib.hid ⟨rfl, rfl⟩
  clear e1 e2 Rr hE
  generalize szLo a b c d low high = RL at *
  generalize szHi a b c d low high = RM at *
  generalize szB a b c d low high = RB at *
  go_enter Tryd.func28, Tryd.ntmps28
  go_wp2_with fail
  have G := Gr.refl w
  have b3 := heap_alloc_self w (.cells #[.int .i64 a, .int .i64 b, .int .i64 c, .int .i64 d] 34)
  replace G := G.alloc (.cells #[.int .i64 a, .int .i64 b, .int .i64 c, .int .i64 d] 34)
  generalize hW : (w.alloc (.cells #[.int .i64 a, .int .i64 b, .int .i64 c, .int .i64 d] 34)) = W1 at *
  have w0 : w.heap.size ≤ w.heap.size := Nat.le_refl _
  obtain ⟨p3, hp3⟩ : ∃ p3, w.heap.size = p3 := ⟨_, rfl⟩
  rw [hp3] at b3
  try simp only [hp3]
  have s3 : w.heap.size ≤ p3 := by omega
  clear  w0
  clear hp3
  clear hW
  refine (S1.out _).mono ?_
  rintro e w1 ⟨rfl, g1⟩
  obtain ⟨c3, f3, z3⟩ := blk_cells (g1.heap b3)
  have z0 : w.heap.size ≤ w1.heap.size := (Gr.trans G g1).b.size
  go_wp2_with fail
  clear c3 f3
  replace b3 := g1.heap b3
  have G := G.trans g1
  clear z3 z0
  clear g1
  refine (S2.out _).mono ?_
  rintro e w2 ⟨rfl, g2⟩
  obtain ⟨c3, f3, z3⟩ := blk_cells (g2.heap b3)
  have z0 : w.heap.size ≤ w2.heap.size := (Gr.trans G g2).b.size
  go_wp2_with fail
  clear c3 f3
  replace b3 := g2.heap b3
  have G := G.trans g2
  clear z3 z0
  clear g2
  go_loopw [11, 12, 13] (fun l m i wr => ∃ (k : Nat) (q LL MM : Int), l = .int .i64 LL ∧ m = .int .i64 MM ∧ i = .int .i64 q ∧ Hid (q = (k : Int) + 1 ∧ Rm.rsL a b c d low high k = LL ∧ Rm.rsM a b c d low high k = MM) ∧ 1 ≤ q ∧ q ≤ 1000001 ∧ wr.heap[p3]? = some (.cells #[.int .i64 a, .int .i64 b, .int .i64 c, .int .i64 d] 34 (0, 0)) ∧ Gr w wr) (fun _ _ i _ => (1000002 - intOf i).toNat)
  case atStart => exact ⟨0, 1, 0, 0, rfl, rfl, rfl, Lib.hid ⟨rfl, I0.out.1, I0.out.2⟩, by omega, by omega, b3, G⟩
  case round =>
    obtain ⟨k, q, LL, MM, rfl, rfl, rfl, hI, q1, q2, r3, G⟩ := hrel
    clear b3 I0 S1 S2
    have b3 := r3
    clear r3
    by_cases hq : q ≤ 1000000
    · obtain ⟨hk, hlo, hhi⟩ := hI.out
      have S := IS.out k
      rw [hlo, hhi, show (k : Int)+1 = q by omega] at S
      have SQ := SV.out q q1 hq
      clear hlo hhi SV HEND IS hI
      replace hk := Lib.hid hk
      generalize Rm.srv a b c d low high q = B at *
      have S := Lib.hid S
      have SQ := Lib.hid SQ
      cases hs0 : B
      · rw [hs0] at SQ
        have hs := Lib.hid hs0
        clear hs0
        obtain ⟨c3, f3, z3⟩ := blk_cells b3
        go_wp2_with fail
        clear c3 f3 z3
        refine (SQ.out _).mono ?_
        rintro e w11 ⟨rfl, g11⟩
        obtain ⟨c3, f3, z3⟩ := blk_cells (g11.heap b3)
        have z0 : w.heap.size ≤ w11.heap.size := (Gr.trans G g11).b.size
        go_wp2_with fail
        clear c3 f3
        replace b3 := g11.heap b3
        have G := G.trans g11
        clear z3 z0
        clear g11
        go_roundw
        case rel => exact ⟨k+1, q+1, LL, MM, rfl, rfl, by go_num, Lib.hid ⟨by have := hk.out; omega, by rw [S.out.1, hs.out]; simp, by rw [S.out.2, hs.out]; simp⟩, by omega, by omega, b3, G⟩
        case measure => simp [intOf]; omega
      · rw [hs0] at SQ
        have hs := Lib.hid hs0
        clear hs0
        by_cases hz : LL = 0
        · have HZ := Lib.hid hz
          subst hz
          obtain ⟨c3, f3, z3⟩ := blk_cells b3
          go_wp2_with fail
          clear c3 f3 z3
          refine (SQ.out _).mono ?_
          rintro e w11 ⟨rfl, g11⟩
          obtain ⟨c3, f3, z3⟩ := blk_cells (g11.heap b3)
          have z0 : w.heap.size ≤ w11.heap.size := (Gr.trans G g11).b.size
          go_wp2_with fail
          clear c3 f3
          replace b3 := g11.heap b3
          have G := G.trans g11
          clear z3 z0
          clear g11
          go_roundw
          case rel => exact ⟨k+1, q+1, q, q, rfl, rfl, by go_num, Lib.hid ⟨by have := hk.out; omega, by rw [S.out.1, hs.out]; simp, by rw [S.out.2, hs.out]; simp⟩, by omega, by omega, b3, G⟩
          case measure => simp [intOf]; omega
        · have HZ := Lib.hid hz
          obtain ⟨c3, f3, z3⟩ := blk_cells b3
          go_wp2_with fail
          clear c3 f3 z3
          refine (SQ.out _).mono ?_
          rintro e w11 ⟨rfl, g11⟩
          obtain ⟨c3, f3, z3⟩ := blk_cells (g11.heap b3)
          have z0 : w.heap.size ≤ w11.heap.size := (Gr.trans G g11).b.size
          go_wp2_with fail
          clear c3 f3
          replace b3 := g11.heap b3
          have G := G.trans g11
          clear z3 z0
          clear g11
          go_roundw
          case rel => exact ⟨k+1, q+1, LL, q, rfl, rfl, by go_num, Lib.hid ⟨by have := hk.out; omega, by rw [S.out.1, hs.out]; simp [HZ.out], by rw [S.out.2, hs.out]; simp⟩, by omega, by omega, b3, G⟩
          case measure => simp [intOf]; omega
    · obtain ⟨hk, hlo, hhi⟩ := hI.out
      obtain ⟨e1, e2, e3⟩ := HEND.out k (by omega)
      rw [hlo] at e1 e3
      rw [hhi] at e2
      subst e1 e2 e3
      clear hI hk hlo hhi SV HEND IS
      obtain ⟨c3, f3, z3⟩ := blk_cells b3
      go_wp2
      exact bodyPost_ret (v := .tuple #[.int .i64 LL, .int .i64 MM, .bool (decide (0 < LL)), .int .i64 0]) (by simp [results, Tryd.results28, go_sem]) rfl ⟨rfl, G⟩
theorem rSizes_any (a b c d low high : Int) (w : World) :
    Calls Tryd.prog 28 #[ru a b c d, .int .i64 low, .int .i64 high] w fun e w' => e = .returned (.tuple #[.int .i64 (szLo a b c d low high), .int .i64 (szHi a b c d low high), .bool (szB a b c d low high), .int .i64 (szE a b c d low high)]) ∧ Gr w w' := by
  cases h : (ruOk a b c d && (szOk low && szOk high))
  · have e1 : szE a b c d low high = 1 := by simp only [szE, h]; rfl
    have e2 : szB a b c d low high = false := by simp [szB, e1]
    have e3 : szLo a b c d low high = 0 ∧ szHi a b c d low high = 0 := by simp [szLo, szHi, e2]
    rw [e1, e2, e3.1, e3.2]
    exact rSizes_bad a b c d low high w h
  · have h' : (ruOk a b c d && szOk low) = true ∧ (ruOk a b c d && szOk high) = true := by
      simp only [Bool.and_eq_true] at h ⊢
      exact ⟨⟨h.1, h.2.1⟩, h.1, h.2.2⟩
    by_cases ho : high < low
    · have e1 : szE a b c d low high = 12 := by simp only [szE, h, if_true, if_pos ho]
      have e2 : szB a b c d low high = false := by simp [szB, e1]
      have e3 : szLo a b c d low high = 0 ∧ szHi a b c d low high = 0 := by simp [szLo, szHi, e2]
      rw [e1, e2, e3.1, e3.2]
      exact rSizes_order a b c d low high w h'.1 h'.2 ho
    · have e1 : szE a b c d low high = 0 := by simp only [szE, h, if_true, if_neg ho]
      rw [e1]
      exact rSizes_go a b c d low high w h'.1 h'.2 ho
theorem rbest_succ (a b c d want : Int) (k : Nat) : Rm.rbest a b c d want (k+1) = (if Rm.msN a b c d ((k : Int)+1+1) want * Rm.msD a b c d (Rm.rbest a b c d want k) want < Rm.msN a b c d (Rm.rbest a b c d want k) want * Rm.msD a b c d ((k : Int)+1+1) want then (k : Int)+1+1 else Rm.rbest a b c d want k) := rfl
set_option maxRecDepth 100000 in
set_option maxHeartbeats 4000000 in
theorem rBest_bad (a b c d want : Int) (w : World) (h : (ruOk a b c d && szOk want) = false) :
    Calls Tryd.prog 30 #[ru a b c d, .int .i64 want] w fun e w' => e = .returned (.tuple #[.int .i64 0, .int .i64 1]) ∧ Gr w w' := by
  have S1 := Lib.hid (fun w => rsized_any a b c d want w)
  rw [h, Rm.err_false rfl] at S1
  clear h
  go_enter Tryd.func30, Tryd.ntmps30
  go_wp2_with fail
  have G := Gr.refl w
  have b2 := heap_alloc_self w (.cells #[.int .i64 a, .int .i64 b, .int .i64 c, .int .i64 d] 34)
  replace G := G.alloc (.cells #[.int .i64 a, .int .i64 b, .int .i64 c, .int .i64 d] 34)
  generalize hW : (w.alloc (.cells #[.int .i64 a, .int .i64 b, .int .i64 c, .int .i64 d] 34)) = W1 at *
  have w0 : w.heap.size ≤ w.heap.size := Nat.le_refl _
  obtain ⟨p2, hp2⟩ : ∃ p2, w.heap.size = p2 := ⟨_, rfl⟩
  rw [hp2] at b2
  try simp only [hp2]
  have s2 : w.heap.size ≤ p2 := by omega
  clear  w0
  clear hp2
  clear hW
  refine (S1.out _).mono ?_
  rintro e w1 ⟨rfl, g1⟩
  obtain ⟨c2, f2, z2⟩ := blk_cells (g1.heap b2)
  have z0 : w.heap.size ≤ w1.heap.size := (Gr.trans G g1).b.size
  go_wp2_with fail
  clear c2 f2
  replace b2 := g1.heap b2
  have G := G.trans g1
  clear z2 z0
  clear g1
  exact bodyPost_ret (v := .tuple #[.int .i64 0, .int .i64 1]) (by simp [results, Tryd.results30, go_sem]) rfl ⟨rfl, G⟩
set_option maxRecDepth 100000 in
set_option maxHeartbeats 4000000 in
theorem rBest_go (a b c d want : Int) (w : World) (h : (ruOk a b c d && szOk want) = true) :
    Calls Tryd.prog 30 #[ru a b c d, .int .i64 want] w fun e w' => e = .returned (.tuple #[.int .i64 (Rm.best a b c d want), .int .i64 0]) ∧ Gr w w' := by
  have S1 := Lib.hid (fun w => rsized_any a b c d want w)
  rw [h, Rm.err_true rfl] at S1
  have HR : RuB a b c d ∧ (1 ≤ want ∧ want ≤ 1000000) := by
    simp only [szOk, Bool.and_eq_true, decide_eq_true_eq] at h
    exact ⟨RuB.of h.1, h.2⟩
  obtain ⟨Rr, l1, l2⟩ := HR
  have b1 := Rr.b1
  have d1 := Rr.d1
  have MS := Lib.hid (fun q (q1 : 1 ≤ q) (q2 : q ≤ 1000000) w => rmissed_any a b c d q want w Rr q1 q2 l1 l2)
  have MB := Lib.hid (fun q (q1 : 1 ≤ q) (q2 : q ≤ 1000000) => ms_bd (MsB.of Rr q1 q2 l1 l2))
  have HEND := Lib.hid (fun (k : Nat) (hk : (k : Int) + 1 = 1000000) => show Rm.rbest a b c d want k = Rm.best a b c d want from
    (Rm.rbest_is (a := a) (c := c) (want := want) b1 d1 k).unique (by rw [hk]; exact Rm.best_is b1 d1 (by have := Rr.ab; omega) (by have := Rr.cd; omega) l1))
  have HB := Lib.hid (fun (k : Nat) => Rm.rbest_is (a := a) (c := c) (want := want) b1 d1 k)
  have I0 : Hid (Rm.rbest a b c d want 0 = 1) := Lib.hid rfl
  clear h Rr
  generalize Rm.best a b c d want = RB at *
  have M0 := Lib.hid (fun w => MS.out 1 (by omega) (by omega) w)
  obtain ⟨n0, hN0⟩ : ∃ n0, Rm.msN a b c d 1 want = n0 := ⟨_, rfl⟩
  obtain ⟨d0, hD0⟩ : ∃ d0, Rm.msD a b c d 1 want = d0 := ⟨_, rfl⟩
  rw [hN0, hD0] at M0
  have HN0 := Lib.hid (And.intro hN0 hD0)
  clear hN0 hD0
  go_enter Tryd.func30, Tryd.ntmps30
  go_wp2_with fail
  have G := Gr.refl w
  have b2 := heap_alloc_self w (.cells #[.int .i64 a, .int .i64 b, .int .i64 c, .int .i64 d] 34)
  replace G := G.alloc (.cells #[.int .i64 a, .int .i64 b, .int .i64 c, .int .i64 d] 34)
  generalize hW : (w.alloc (.cells #[.int .i64 a, .int .i64 b, .int .i64 c, .int .i64 d] 34)) = W1 at *
  have w0 : w.heap.size ≤ w.heap.size := Nat.le_refl _
  obtain ⟨p2, hp2⟩ : ∃ p2, w.heap.size = p2 := ⟨_, rfl⟩
  rw [hp2] at b2
  try simp only [hp2]
  have s2 : w.heap.size ≤ p2 := by omega
  clear  w0
  clear hp2
  clear hW
  refine (S1.out _).mono ?_
  rintro e w1 ⟨rfl, g1⟩
  obtain ⟨c2, f2, z2⟩ := blk_cells (g1.heap b2)
  have z0 : w.heap.size ≤ w1.heap.size := (Gr.trans G g1).b.size
  go_wp2_with fail
  clear c2 f2
  replace b2 := g1.heap b2
  have G := G.trans g1
  clear z2 z0
  clear g1
  refine (M0.out _).mono ?_
  rintro e w2 ⟨rfl, g2⟩
  obtain ⟨c2, f2, z2⟩ := blk_cells (g2.heap b2)
  have z0 : w.heap.size ≤ w2.heap.size := (Gr.trans G g2).b.size
  go_wp2_with fail
  clear c2 f2
  replace b2 := g2.heap b2
  have G := G.trans g2
  clear z2 z0
  clear g2
  go_loopw [7, 8, 9, 10] (fun l nn dd i wr => ∃ (k : Nat) (B N D q : Int), l = .int .i64 B ∧ nn = .int .i64 N ∧ dd = .int .i64 D ∧ i = .int .i64 q ∧ Hid (q = (k : Int) + 2 ∧ Rm.rbest a b c d want k = B ∧ Rm.msN a b c d B want = N ∧ Rm.msD a b c d B want = D) ∧ 2 ≤ q ∧ q ≤ 1000001 ∧ wr.heap[p2]? = some (.cells #[.int .i64 a, .int .i64 b, .int .i64 c, .int .i64 d] 34 (0, 0)) ∧ Gr w wr) (fun _ _ _ i _ => (1000002 - intOf i).toNat)
  case atStart => exact ⟨0, 1, n0, d0, 2, rfl, rfl, rfl, rfl, Lib.hid ⟨rfl, I0.out, HN0.out⟩, by omega, by omega, b2, G⟩
  case round =>
    obtain ⟨k, B, N, D, q, rfl, rfl, rfl, rfl, hI, q1, q2, r2, G⟩ := hrel
    clear b2 I0 S1 M0 HN0
    have b2 := r2
    clear r2
    by_cases hq : q ≤ 1000000
    · obtain ⟨hk, hb, hn, hd⟩ := hI.out
      have S := rbest_succ a b c d want k
      have HBk := HB.out k
      rw [hb] at S HBk
      rw [show (k : Int)+1+1 = q by omega] at S
      have nb := MB.out B HBk.n1 (by have := HBk.nt; omega)
      have nq := MB.out q (by omega) hq
      have SQ := MS.out q (by omega) hq
      rw [hn, hd] at S nb
      obtain ⟨u1, u2, u3, u4⟩ := nb
      obtain ⟨X, hX⟩ : ∃ X, Rm.msN a b c d q want = X := ⟨_, rfl⟩
      obtain ⟨Y, hY⟩ : ∃ Y, Rm.msD a b c d q want = Y := ⟨_, rfl⟩
      rw [hX, hY] at S nq SQ
      obtain ⟨v1, v2, v3, v4⟩ := nq
      have HX := Lib.hid (And.intro hX hY)
      have hND := Lib.hid (And.intro hn hd)
      have m1 := Rm.mul_bound (a := X) (b := D) (A := 1000000000) (B := 1000) (by omega) (by omega) (by omega) (by omega) (by omega)
      have m2 := Rm.mul_bound (a := N) (b := Y) (A := 1000000000) (B := 1000) (by omega) (by omega) (by omega) (by omega) (by omega)
      clear hb hn hd hX hY HBk MS MB HB HEND hI
      replace hk := Lib.hid hk
      have S := Lib.hid S
      have SQ := Lib.hid SQ
      by_cases hlt : X*D < N*Y
      · obtain ⟨c2, f2, z2⟩ := blk_cells b2
        go_wp2_with fail
        clear c2 f2 z2
        refine (SQ.out _).mono ?_
        rintro e w11 ⟨rfl, g11⟩
        obtain ⟨c2, f2, z2⟩ := blk_cells (g11.heap b2)
        have z0 : w.heap.size ≤ w11.heap.size := (Gr.trans G g11).b.size
        go_wp2_with fail
        clear c2 f2
        replace b2 := g11.heap b2
        have G := G.trans g11
        clear z2 z0
        clear g11
        go_roundw
        case rel => exact ⟨k+1, q, X, Y, q+1, rfl, rfl, rfl, by go_num, Lib.hid ⟨by have := hk.out; omega, by rw [S.out, if_pos hlt], HX.out.1, HX.out.2⟩, by omega, by omega, b2, G⟩
        case measure => simp [intOf]; omega
      · obtain ⟨c2, f2, z2⟩ := blk_cells b2
        go_wp2_with fail
        clear c2 f2 z2
        refine (SQ.out _).mono ?_
        rintro e w11 ⟨rfl, g11⟩
        obtain ⟨c2, f2, z2⟩ := blk_cells (g11.heap b2)
        have z0 : w.heap.size ≤ w11.heap.size := (Gr.trans G g11).b.size
        go_wp2_with fail
        clear c2 f2
        replace b2 := g11.heap b2
        have G := G.trans g11
        clear z2 z0
        clear g11
        go_roundw
        case rel => exact ⟨k+1, B, N, D, q+1, rfl, rfl, rfl, by go_num, Lib.hid ⟨by have := hk.out; omega, by rw [S.out, if_neg (show ¬ X*D < N*Y by omega)], hND.out.1, hND.out.2⟩, by omega, by omega, b2, G⟩
        case measure => simp [intOf]; omega
    · obtain ⟨hk, hb, hn, hd⟩ := hI.out
      have e1 := HEND.out k (by omega)
      rw [hb] at e1
      subst e1
      clear hI hk hb hn hd MS MB HB HEND
      obtain ⟨c2, f2, z2⟩ := blk_cells b2
      go_wp2
      exact bodyPost_ret (v := .tuple #[.int .i64 B, .int .i64 0]) (by simp [results, Tryd.results30, go_sem]) rfl ⟨rfl, G⟩
theorem rBest_any (a b c d want : Int) (w : World) :
    Calls Tryd.prog 30 #[ru a b c d, .int .i64 want] w fun e w' => e = .returned (.tuple #[.int .i64 (bsR a b c d want), .int .i64 (Rm.err (ruOk a b c d && szOk want) 1)]) ∧ Gr w w' := by
  cases h : (ruOk a b c d && szOk want)
  · have e : bsR a b c d want = 0 := by simp only [bsR, h]; rfl
    rw [e, Rm.err_false rfl]
    exact rBest_bad a b c d want w h
  · have e : bsR a b c d want = Rm.best a b c d want := by simp only [bsR, h]; rfl
    rw [e, Rm.err_true rfl]
    exact rBest_go a b c d want w h
end Go.Proofs.YtconhikflghkdaaDoor
