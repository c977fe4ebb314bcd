/- cmp.Compare, cmp.Or at int; loft: compare. -/
import Derived.Test.YthmimjofdmnakaaGreatDoorLNil
import Derived.Test.YthmimjofdmnakaaGreatDoorSteps
namespace Go.Proofs.YthmimjofdmnakaaGreatDoor
open Go.RowKit Go.Shelf
/-- cmp.Compare -/
def cmpI (x y : Int) : Int := if x < y then -1 else if y < x then 1 else 0
theorem isNaN_any (x : Int) (w : World) : Calls Tryz.prog 133 #[.int .i64 x] w fun e w' => e = .returned (.bool false) ∧ w = w' := by
  go_enter Tryz.func133, Tryz.ntmps133
  go_wp2
  go_ret
  exact ⟨rfl, rfl⟩
theorem Compare_any (x y : Int) (w : World) : Calls Tryz.prog 70 #[.int .i64 x, .int .i64 y] w fun e w' => e = .returned (.int .i64 (cmpI x y)) ∧ w = w' := by
  unfold cmpI
  by_cases h1 : x < y
  · rw [if_pos h1]
    go_enter Tryz.func70, Tryz.ntmps70
    go_wp2_with (go_at_call 133; refine (isNaN_any _ _).mono ?_; rintro e w1 ⟨rfl, rfl⟩)
    go_ret
    exact ⟨rfl, rfl⟩
  · rw [if_neg h1]
    by_cases h2 : y < x
    · rw [if_pos h2]
      go_enter Tryz.func70, Tryz.ntmps70
      go_wp2_with (go_at_call 133; refine (isNaN_any _ _).mono ?_; rintro e w1 ⟨rfl, rfl⟩)
      go_ret
      exact ⟨rfl, rfl⟩
    · rw [if_neg h2]
      go_enter Tryz.func70, Tryz.ntmps70
      go_wp2_with (go_at_call 133; refine (isNaN_any _ _).mono ?_; rintro e w1 ⟨rfl, rfl⟩)
      go_ret
      exact ⟨rfl, rfl⟩
/-- cmp.Or of two -/
def orI (x y : Int) : Int := if x ≠ 0 then x else y
set_option maxHeartbeats 400000 in
theorem Or_any (g cap : Nat) (x y : Int) (w : World) (hx : w.cell? ⟨g, 0, none⟩ = some (.int .i64 x)) (hy : w.cell? ⟨g, 1, none⟩ = some (.int .i64 y)) :
    Calls Tryz.prog 69 #[.slice (some ⟨g, 0, none⟩) 2 cap] w fun e w' => e = .returned (.int .i64 (orI x y)) ∧ w = w' := by
  unfold orI
  by_cases h : x = 0
  · subst h
    by_cases k : y = 0
    · subst k
      go_enter Tryz.func69, Tryz.ntmps69
      go_wp2
      refine wp_loop_rounds 3 ?_
      rw [rounds_succ]
      go_wp2
      rw [rounds_succ]
      go_wp2
      try (rw [rounds_succ]; go_wp2)
      go_ret
      exact ⟨rfl, rfl⟩
    · go_enter Tryz.func69, Tryz.ntmps69
      go_wp2
      refine wp_loop_rounds 3 ?_
      rw [rounds_succ]
      go_wp2
      rw [rounds_succ]
      go_wp2
      try (rw [rounds_succ]; go_wp2)
      go_ret
      exact ⟨rfl, rfl⟩
  · go_enter Tryz.func69, Tryz.ntmps69
    go_wp2
    refine wp_loop_rounds 3 ?_
    rw [rounds_succ]
    go_wp2
    go_ret
    exact ⟨ret_int (by simp), rfl⟩
/-- loft's compare -/
def cmpR (a b : Rc) : Int := orI (cmpI a.s b.s) (cmpI a.k b.k)
set_option maxRecDepth 100000 in
set_option maxHeartbeats 1000000 in
theorem compare_any (a b : Rc) (w : World) : Calls Tryz.prog 64 #[a.v, b.v] w fun e w' => e = .returned (.int .i64 (cmpR a b)) ∧ Gr w w' := by
  obtain ⟨s, k, d, t⟩ := a
  obtain ⟨s2, k2, d2, t2⟩ := b
  unfold cmpR Rc.v
  dsimp only
  have bx := heap_alloc_self w (.cells #[.int .i64 s, .int .i64 k, .int .i64 d, .string t] 23)
  have by_ := heap_alloc_self (w.alloc (.cells #[.int .i64 s, .int .i64 k, .int .i64 d, .string t] 23)) (.cells #[.int .i64 s2, .int .i64 k2, .int .i64 d2, .string t2] 23)
  have bx := ((Gr.refl _).alloc (.cells #[.int .i64 s2, .int .i64 k2, .int .i64 d2, .string t2] 23)).heap bx
  have g0 : Gr w ((w.alloc (.cells #[.int .i64 s, .int .i64 k, .int .i64 d, .string t] 23)).alloc (.cells #[.int .i64 s2, .int .i64 k2, .int .i64 d2, .string t2] 23)) := ((Gr.refl w).alloc _).alloc _
  simp only [World.size_alloc] at by_
  go_enter Tryz.func64, Tryz.ntmps64
  go_wp2
  generalize (w.alloc (.cells #[.int .i64 s, .int .i64 k, .int .i64 d, .string t] 23)).alloc (.cells #[.int .i64 s2, .int .i64 k2, .int .i64 d2, .string t2] 23) = W at *
  obtain ⟨p2, h2⟩ : ∃ p2, w.heap.size + 1 = p2 := ⟨_, rfl⟩
  rw [h2] at by_
  rw [h2]
  clear h2
  generalize w.heap.size = p1 at *
  obtain ⟨cx, fx, zx⟩ := blk_cells bx
  obtain ⟨cy, fy, zy⟩ := blk_cells by_
  refine wp_region_steps [.val (.pointer (some ⟨p1, 0, none⟩)), .val (.int .i64 s), .val (.pointer (some ⟨p2, 0, none⟩)), .val (.int .i64 s2), .val (.int .i64 (cmpI s s2)), .val (.pointer (some ⟨p1, 1, none⟩)), .val (.int .i64 k), .val (.pointer (some ⟨p2, 1, none⟩)), .val (.int .i64 k2), .val (.int .i64 (cmpI k k2)), .sat (fun v u => ∃ g, v = .slice (some ⟨g, 0, none⟩) 2 2 ∧ u.heap[g]? = some (.cells #[.int .i64 (cmpI s s2), .int .i64 (cmpI k k2)] 3 (0, 0))), .val (.int .i64 (orI (cmpI s s2) (cmpI k k2))), .val (.int .i64 (orI (cmpI s s2) (cmpI k k2)))] (by kernel_rfl) (by kernel_rfl) (fun V => by first | (simp only [finS, Step.isLater, Bool.false_eq_true, if_false, Act.put, Step.value, List.setIfInBounds_toArray, List.set_cons_zero, List.set_cons_succ]; rfl) | (simp only [finS, Step.isLater, Bool.false_eq_true, if_false, if_true, Act.put, Step.value, List.setIfInBounds_toArray, List.set_cons_zero, List.set_cons_succ, Nat.zero_add, Nat.reduceAdd]; rfl)) ?_ ?_
  · refine ⟨?_, ?_, ?_, ?_, ?_, ?_, ?_, ?_, ?_, ?_, ?_, ?_, ?_, trivial⟩ <;> (first | exact trivial | (refine ⟨(by intro v u u1 h g; obtain ⟨b, rfl, h⟩ := h; exact ⟨b, rfl, g.heap h⟩), ?_⟩; intro V u hu hk; refine ⟨by kernel_rfl, ?_⟩; go_simp; exact ⟨⟨_, rfl, heap_alloc_self _ _⟩, (Gr.refl _).alloc _⟩) | (refine ⟨(by intro v u u1 h g; first | exact ownsRow_g h g | exact st_and h g | exact h), ?_⟩; intro V u hu hk; refine ⟨by kernel_rfl, turn_owes (by kernel_rfl) ?_⟩; obtain ⟨hc, hf, hz⟩ := hu.cells; go_simp; skip) | (refine ⟨(by intro v u u1 h g; first | exact ownsRow_g h g | exact st_and h g | exact h), ?_⟩; intro V u hu hk; refine ⟨by kernel_rfl, ?_⟩; obtain ⟨hc, hf, hz⟩ := hu.cells; go_simp; skip) | (intro V u hu hk; refine ⟨by kernel_rfl, ?_⟩; obtain ⟨hc, hf, hz⟩ := hu.cells; go_simp; first | exact ⟨rfl, Gr.refl _⟩ | skip) | (intro V u hu hk; show _ = false; kernel_rfl))
    · exact (Compare_any _ _ _).mono fun e w' ⟨h, e'⟩ => ⟨h, e' ▸ Gr.refl _⟩
    · exact (Compare_any _ _ _).mono fun e w' ⟨h, e'⟩ => ⟨h, e' ▸ Gr.refl _⟩
    · obtain ⟨g, hv, hb⟩ := hk 10 _ rfl (by kernel_rfl)
      rw [hv]
      obtain ⟨cg, fg, zg⟩ := blk_cells hb
      exact (Or_any g 2 _ _ _ (cg 0) (cg 1)).mono fun e w' ⟨h, e'⟩ => ⟨h, e' ▸ Gr.refl _⟩
  · intro V u hg hs
    go_simp
    go_wp2
    go_ret
    exact ⟨rfl, g0.trans hg⟩
end Go.Proofs.YthmimjofdmnakaaGreatDoor
