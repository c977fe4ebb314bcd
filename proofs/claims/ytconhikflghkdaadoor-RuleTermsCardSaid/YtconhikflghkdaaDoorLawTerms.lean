/- RuleTerms: the walk: Terms, FromTerms and Convergents return what the reference returns. -/
import Derived.Test.YtconhikflghkdaaDoorAlive
import Derived.Test.YtconhikflghkdaaDoorRefF
namespace Go.Proofs.YtconhikflghkdaaDoor
open Go.RowKit Go.Shelf
set_option maxHeartbeats 1000000 in
theorem RuleTerms_long (a b : Int) (p : Option Addr) (len cap : Nat) (w : World) (ht : Tab w) (h : 60 < len) :
    Calls Tryd.prog 18 #[fr a b, .slice p len cap] w fun e w' => e = .returned (.bool true) ∧ Gr w w' := by
  have AL := Lib.hid (fun w' (g : Gr w w') => alive_any w' (ht.gr g))
  clear ht
  go_enter Tryd.func18, Tryd.ntmps18
  go_wp2_with fail
  refine (AL.out _ (by repeat (first | exact Gr.refl _ | assumption | refine Gr.alloc ?_ _ | refine Gr.drew ?_ | refine Gr.drewN ?_ _ | refine Gr.set ?_ _ _ (by first | (simp; done) | (simp; omega)) | refine Gr.trans ?_ (by assumption)))).mono ?_
  rintro e w1 ⟨rfl, hg⟩
  go_wp2
  go_ret
  exact ⟨rfl, (by repeat (first | exact Gr.refl _ | assumption | refine Gr.alloc ?_ _ | refine Gr.drew ?_ | refine Gr.drewN ?_ _ | refine Gr.set ?_ _ _ (by first | (simp; done) | (simp; omega)) | refine Gr.trans ?_ (by assumption)))⟩
theorem tm_facts {a b : Int} (h : Rm.okF a b = true) : Rm.tm a b ≠ [] ∧ Rm.cv (Rm.tm a b) ≠ [] ∧ (Rm.tm a b).length ≤ 39 ∧ (Rm.cv (Rm.tm a b)).length ≤ 39 := by
  obtain ⟨x1, x2, x3, x4, x5⟩ := Rm.okF_iff.1 h
  have hl := Rm.tm_len40 (n := a) x3 x4
  obtain ⟨c, t, e, _⟩ := Rm.ftOk_parts (Rm.tm_ftOk x1 x2 x3 x4 x5)
  have hc := Rm.cv_length (Rm.tm a b)
  refine ⟨by rw [e]; simp, fun h0 => ?_, hl, by omega⟩
  rw [h0, e] at hc
  simp at hc
set_option maxRecDepth 100000 in
set_option maxHeartbeats 4000000 in
theorem RuleTerms_no (a b : Int) (p : Option Addr) (len cap : Nat) (N D E : Int) (w : World) (ht : Tab w) (h : ¬ 60 < len) (ho : Rm.okF a b = false)
    (FT : Hid (∀ w', Gr w w' → Calls Tryd.prog 67 #[.slice p len cap] w' fun e w'' => e = .returned (.tuple #[fr N D, .int .i64 E]) ∧ Gr w' w''))
    (RF : Hid (∀ w', Gr w w' → Calls Tryd.prog 68 #[.slice p len cap] w' fun e w'' => e = .returned (.tuple #[fr N D, .int .i64 E]) ∧ Gr w' w'')) :
    Calls Tryd.prog 18 #[fr a b, .slice p len cap] w fun e w' => e = .returned (.bool true) ∧ Gr w w' := by
  have AL := Lib.hid (fun w' (g : Gr w w') => alive_any w' (ht.gr g))
  have T1 := Lib.hid (fun w => Terms_no a b w ho)
  have T2 := Lib.hid (fun w => rTerms_no a b w ho)
  have C1 := Lib.hid (fun w => Convergents_no a b w ho)
  have C2 := Lib.hid (fun w => rConvergents_no a b w ho)
  clear ht ho
  go_enter Tryd.func18, Tryd.ntmps18
  have bx0 := heap_alloc_self w (.cells #[.int .i64 a, .int .i64 b] 23)
  have g0 : Gr w (w.alloc (.cells #[.int .i64 a, .int .i64 b] 23)) := (Gr.refl w).alloc _
  go_wp2_with fail
  refine (T1.out _).mono ?_
  rintro e w1 ⟨rfl, hg1⟩
  replace bx0 := hg1.heap bx0
  have g1 := g0.trans hg1
  clear g0
  obtain ⟨cx, fx, zx⟩ := blk_cells bx0
  go_wp2_with fail
  clear cx fx zx
  clear hg1
  refine (T2.out _).mono ?_
  rintro e w2 ⟨rfl, hg2⟩
  replace bx0 := hg2.heap bx0
  have g2 := g1.trans hg2
  clear g1
  obtain ⟨cx, fx, zx⟩ := blk_cells bx0
  go_wp2_with fail
  clear cx fx zx
  clear hg2
  refine (FT.out _ g2).mono ?_
  rintro e w3 ⟨rfl, hg3⟩
  replace bx0 := hg3.heap bx0
  have g3 := g2.trans hg3
  clear g2
  obtain ⟨cx, fx, zx⟩ := blk_cells bx0
  go_wp2_with fail
  clear cx fx zx
  clear hg3
  replace bx0 := ((Gr.refl _).alloc (.cells #[.int .i64 N, .int .i64 D] 23)).heap bx0
  have by0 := heap_alloc_self w3 (.cells #[.int .i64 N, .int .i64 D] 23)
  replace g3 := g3.alloc (.cells #[.int .i64 N, .int .i64 D] 23)
  refine (RF.out _ g3).mono ?_
  rintro e w4 ⟨rfl, hg4⟩
  replace bx0 := hg4.heap bx0
  replace by0 := hg4.heap by0
  have g4 := g3.trans hg4
  clear g3
  obtain ⟨cx, fx, zx⟩ := blk_cells bx0
  obtain ⟨cy, fy, zy⟩ := blk_cells by0
  go_wp2_with fail
  clear cx fx zx cy fy zy
  clear hg4
  replace bx0 := ((Gr.refl _).alloc (.cells #[.int .i64 N, .int .i64 D] 23)).heap bx0
  replace by0 := ((Gr.refl _).alloc (.cells #[.int .i64 N, .int .i64 D] 23)).heap by0
  have bz0 := heap_alloc_self w4 (.cells #[.int .i64 N, .int .i64 D] 23)
  replace g4 := g4.alloc (.cells #[.int .i64 N, .int .i64 D] 23)
  refine (C1.out _).mono ?_
  rintro e w5 ⟨rfl, hg5⟩
  replace bx0 := hg5.heap bx0
  replace by0 := hg5.heap by0
  replace bz0 := hg5.heap bz0
  have g5 := g4.trans hg5
  clear g4
  obtain ⟨cx, fx, zx⟩ := blk_cells bx0
  obtain ⟨cy, fy, zy⟩ := blk_cells by0
  obtain ⟨cz, fz, zz⟩ := blk_cells bz0
  go_wp2_with fail
  clear cx fx zx cy fy zy cz fz zz
  clear hg5
  refine (C2.out _).mono ?_
  rintro e w6 ⟨rfl, hg6⟩
  replace bx0 := hg6.heap bx0
  replace by0 := hg6.heap by0
  replace bz0 := hg6.heap bz0
  have g6 := g5.trans hg6
  clear g5
  obtain ⟨cx, fx, zx⟩ := blk_cells bx0
  obtain ⟨cy, fy, zy⟩ := blk_cells by0
  obtain ⟨cz, fz, zz⟩ := blk_cells bz0
  go_wp2_with fail
  clear cx fx zx cy fy zy cz fz zz
  clear hg6
  refine (AL.out _ g6).mono ?_
  rintro e w7 ⟨rfl, hg7⟩
  replace bx0 := hg7.heap bx0
  replace by0 := hg7.heap by0
  replace bz0 := hg7.heap bz0
  have g7 := g6.trans hg7
  clear g6
  obtain ⟨cx, fx, zx⟩ := blk_cells bx0
  obtain ⟨cy, fy, zy⟩ := blk_cells by0
  obtain ⟨cz, fz, zz⟩ := blk_cells bz0
  go_wp2_with fail
  clear cx fx zx cy fy zy cz fz zz
  clear hg7
  refine (Same_nil _).mono ?_
  rintro e w8 ⟨rfl, hg8⟩
  replace bx0 := hg8.heap bx0
  replace by0 := hg8.heap by0
  replace bz0 := hg8.heap bz0
  have g8 := g7.trans hg8
  obtain ⟨cx, fx, zx⟩ := blk_cells bx0
  obtain ⟨cy, fy, zy⟩ := blk_cells by0
  obtain ⟨cz, fz, zz⟩ := blk_cells bz0
  have eq : ∀ w, (binOp .eql 23 (fr N D) (fr N D)).run Tryd.prog w = .ok (.bool true) w := fun w => by rw [eql_Frac]; simp
  go_wp2_with fail
  clear cx fx zx cy fy zy cz fz zz
  refine (SameFracs_nil _).mono ?_
  rintro e w9 ⟨rfl, hg9⟩
  replace bx0 := hg9.heap bx0
  replace by0 := hg9.heap by0
  replace bz0 := hg9.heap bz0
  have g9 := g8.trans hg9
  obtain ⟨cx, fx, zx⟩ := blk_cells bx0
  obtain ⟨cy, fy, zy⟩ := blk_cells by0
  obtain ⟨cz, fz, zz⟩ := blk_cells bz0
  go_wp2_with fail
  clear cx fx zx cy fy zy cz fz zz
  go_ret
  exact ⟨rfl, g9⟩
set_option maxRecDepth 100000 in
set_option maxHeartbeats 4000000 in
theorem RuleTerms_yes (a b : Int) (p : Option Addr) (len cap : Nat) (N D E : Int) (w : World) (ht : Tab w) (h : ¬ 60 < len) (ho : Rm.okF a b = true)
    (FT : Hid (∀ w', Gr w w' → Calls Tryd.prog 67 #[.slice p len cap] w' fun e w'' => e = .returned (.tuple #[fr N D, .int .i64 E]) ∧ Gr w' w''))
    (RF : Hid (∀ w', Gr w w' → Calls Tryd.prog 68 #[.slice p len cap] w' fun e w'' => e = .returned (.tuple #[fr N D, .int .i64 E]) ∧ Gr w' w'')) :
    Calls Tryd.prog 18 #[fr a b, .slice p len cap] w fun e w' => e = .returned (.bool true) ∧ Gr w w' := by
  have AL := Lib.hid (fun w' (g : Gr w w') => alive_any w' (ht.gr g))
  have T1 := Lib.hid (fun w => Terms_yes a b w ho)
  have T2 := Lib.hid (fun w => rTerms_yes a b w ho)
  have C1 := Lib.hid (fun w => Convergents_yes a b w ho)
  have C2 := Lib.hid (fun w => rConvergents_yes a b w ho)
  obtain ⟨tne, cne, tlen, clen⟩ := tm_facts ho
  have SM := Lib.hid (fun b1 o1 cap1 b2 o2 cap2 w h1 h2 hc1 hc2 => Same_row b1 o1 cap1 b2 o2 cap2 (Rm.tm a b) w h1 h2 (by omega) hc1 hc2)
  have SF := Lib.hid (fun b1 o1 cap1 b2 o2 cap2 w h1 h2 hc1 hc2 => SameFracs_row b1 o1 cap1 b2 o2 cap2 (Rm.cv (Rm.tm a b)) w h1 h2 (by omega) hc1 hc2)
  clear ht ho
  go_enter Tryd.func18, Tryd.ntmps18
  have bx0 := heap_alloc_self w (.cells #[.int .i64 a, .int .i64 b] 23)
  have g0 : Gr w (w.alloc (.cells #[.int .i64 a, .int .i64 b] 23)) := (Gr.refl w).alloc _
  go_wp2_with fail
  refine (T1.out _).mono ?_
  rintro e w1 ⟨v1, rfl, r1, hg1⟩
  replace bx0 := hg1.heap bx0
  have g1 := g0.trans hg1
  clear g0
  obtain ⟨k1, p1, rfl, _, l1, _, d1⟩ := row_cells r1 tne
  clear r1
  have q1 := Gr.refl w1
  obtain ⟨cx, fx, zx⟩ := blk_cells bx0
  go_wp2_with fail
  clear cx fx zx
  clear hg1
  refine (T2.out _).mono ?_
  rintro e w2 ⟨v2, rfl, r2, hg2⟩
  replace bx0 := hg2.heap bx0
  have g2 := g1.trans hg2
  replace q1 := q1.trans hg2
  clear g1
  obtain ⟨k2, p2, rfl, _, l2, _, d2⟩ := row_cells r2 tne
  clear r2
  have q2 := Gr.refl w2
  obtain ⟨cx, fx, zx⟩ := blk_cells bx0
  go_wp2_with fail
  clear cx fx zx
  clear hg2
  refine (FT.out _ g2).mono ?_
  rintro e w3 ⟨rfl, hg3⟩
  replace bx0 := hg3.heap bx0
  have g3 := g2.trans hg3
  replace q1 := q1.trans hg3
  replace q2 := q2.trans hg3
  clear g2
  obtain ⟨cx, fx, zx⟩ := blk_cells bx0
  go_wp2_with fail
  clear cx fx zx
  clear hg3
  replace bx0 := ((Gr.refl _).alloc (.cells #[.int .i64 N, .int .i64 D] 23)).heap bx0
  have by0 := heap_alloc_self w3 (.cells #[.int .i64 N, .int .i64 D] 23)
  replace g3 := g3.alloc (.cells #[.int .i64 N, .int .i64 D] 23)
  replace q1 := q1.alloc (.cells #[.int .i64 N, .int .i64 D] 23)
  replace q2 := q2.alloc (.cells #[.int .i64 N, .int .i64 D] 23)
  refine (RF.out _ g3).mono ?_
  rintro e w4 ⟨rfl, hg4⟩
  replace bx0 := hg4.heap bx0
  replace by0 := hg4.heap by0
  have g4 := g3.trans hg4
  replace q1 := q1.trans hg4
  replace q2 := q2.trans hg4
  clear g3
  obtain ⟨cx, fx, zx⟩ := blk_cells bx0
  obtain ⟨cy, fy, zy⟩ := blk_cells by0
  go_wp2_with fail
  clear cx fx zx cy fy zy
  clear hg4
  replace bx0 := ((Gr.refl _).alloc (.cells #[.int .i64 N, .int .i64 D] 23)).heap bx0
  replace by0 := ((Gr.refl _).alloc (.cells #[.int .i64 N, .int .i64 D] 23)).heap by0
  have bz0 := heap_alloc_self w4 (.cells #[.int .i64 N, .int .i64 D] 23)
  replace g4 := g4.alloc (.cells #[.int .i64 N, .int .i64 D] 23)
  replace q1 := q1.alloc (.cells #[.int .i64 N, .int .i64 D] 23)
  replace q2 := q2.alloc (.cells #[.int .i64 N, .int .i64 D] 23)
  refine (C1.out _).mono ?_
  rintro e w5 ⟨v5, rfl, r5, hg5⟩
  replace bx0 := hg5.heap bx0
  replace by0 := hg5.heap by0
  replace bz0 := hg5.heap bz0
  have g5 := g4.trans hg5
  replace q1 := q1.trans hg5
  replace q2 := q2.trans hg5
  clear g4
  obtain ⟨k5, p5, rfl, _, l5, _, d5⟩ := frow_cells r5 cne
  clear r5
  have q5 := Gr.refl w5
  obtain ⟨cx, fx, zx⟩ := blk_cells bx0
  obtain ⟨cy, fy, zy⟩ := blk_cells by0
  obtain ⟨cz, fz, zz⟩ := blk_cells bz0
  go_wp2_with fail
  clear cx fx zx cy fy zy cz fz zz
  clear hg5
  refine (C2.out _).mono ?_
  rintro e w6 ⟨v6, rfl, r6, hg6⟩
  replace bx0 := hg6.heap bx0
  replace by0 := hg6.heap by0
  replace bz0 := hg6.heap bz0
  have g6 := g5.trans hg6
  replace q1 := q1.trans hg6
  replace q2 := q2.trans hg6
  replace q5 := q5.trans hg6
  clear g5
  obtain ⟨k6, p6, rfl, _, l6, _, d6⟩ := frow_cells r6 cne
  clear r6
  have q6 := Gr.refl w6
  obtain ⟨cx, fx, zx⟩ := blk_cells bx0
  obtain ⟨cy, fy, zy⟩ := blk_cells by0
  obtain ⟨cz, fz, zz⟩ := blk_cells bz0
  go_wp2_with fail
  clear cx fx zx cy fy zy cz fz zz
  clear hg6
  refine (AL.out _ g6).mono ?_
  rintro e w7 ⟨rfl, hg7⟩
  replace bx0 := hg7.heap bx0
  replace by0 := hg7.heap by0
  replace bz0 := hg7.heap bz0
  have g7 := g6.trans hg7
  replace q1 := q1.trans hg7
  replace q2 := q2.trans hg7
  replace q5 := q5.trans hg7
  replace q6 := q6.trans hg7
  clear g6
  obtain ⟨cx, fx, zx⟩ := blk_cells bx0
  obtain ⟨cy, fy, zy⟩ := blk_cells by0
  obtain ⟨cz, fz, zz⟩ := blk_cells bz0
  go_wp2_with fail
  clear cx fx zx cy fy zy cz fz zz
  clear hg7
  have d1' := fun j hj => (q1.cells.1 k1 (0 + j) l1).trans (d1 j hj)
  have d2' := fun j hj => (q2.cells.1 k2 (0 + j) l2).trans (d2 j hj)
  refine (SM.out _ _ _ _ _ _ _ (Nat.lt_of_lt_of_le l1 q1.b.size) (Nat.lt_of_lt_of_le l2 q2.b.size) d1' d2').mono ?_
  rintro e w8 ⟨rfl, hg8⟩
  replace bx0 := hg8.heap bx0
  replace by0 := hg8.heap by0
  replace bz0 := hg8.heap bz0
  have g8 := g7.trans hg8
  replace q1 := q1.trans hg8
  replace q2 := q2.trans hg8
  replace q5 := q5.trans hg8
  replace q6 := q6.trans hg8
  obtain ⟨cx, fx, zx⟩ := blk_cells bx0
  obtain ⟨cy, fy, zy⟩ := blk_cells by0
  obtain ⟨cz, fz, zz⟩ := blk_cells bz0
  have eq : ∀ w, (binOp .eql 23 (fr N D) (fr N D)).run Tryd.prog w = .ok (.bool true) w := fun w => by rw [eql_Frac]; simp
  go_wp2_with fail
  clear cx fx zx cy fy zy cz fz zz
  have d5' := d5.gr q5 l5
  have d6' := d6.gr q6 l6
  refine (SF.out _ _ _ _ _ _ _ (Nat.lt_of_lt_of_le l5 q5.b.size) (Nat.lt_of_lt_of_le l6 q6.b.size) d5' d6').mono ?_
  rintro e w9 ⟨rfl, hg9⟩
  replace bx0 := hg9.heap bx0
  replace by0 := hg9.heap by0
  replace bz0 := hg9.heap bz0
  have g9 := g8.trans hg9
  replace q1 := q1.trans hg9
  replace q2 := q2.trans hg9
  replace q5 := q5.trans hg9
  replace q6 := q6.trans hg9
  obtain ⟨cx, fx, zx⟩ := blk_cells bx0
  obtain ⟨cy, fy, zy⟩ := blk_cells by0
  obtain ⟨cz, fz, zz⟩ := blk_cells bz0
  go_wp2_with fail
  clear cx fx zx cy fy zy cz fz zz
  go_ret
  exact ⟨rfl, g9⟩
theorem RuleTerms_any (a b : Int) (v : Value) (l : List Int) (w : World) (hr : IRow w v l) (ht : Tab w) :
    Calls Tryd.prog 18 #[fr a b, v] w fun e w' => e = .returned (.bool true) ∧ Gr w w' := by
  obtain ⟨p, cap, e⟩ := hr.slice
  by_cases h : 60 < l.length
  · rw [e]; exact RuleTerms_long a b p l.length cap w ht h
  · have F1 := fun w' (g : Gr w w') => FromTerms_any v l w' (hr.gr g) (by omega)
    have F2 := fun w' (g : Gr w w') => rFromTerms_any v l w' (hr.gr g)
    rw [e] at F1 F2 ⊢
    cases ho : Rm.okF a b
    · exact RuleTerms_no a b p l.length cap _ _ _ w ht h ho (Lib.hid F1) (Lib.hid F2)
    · exact RuleTerms_yes a b p l.length cap _ _ _ w ht h ho (Lib.hid F1) (Lib.hid F2)
end Go.Proofs.YtconhikflghkdaaDoor
