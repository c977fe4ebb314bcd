/- loft: the one order. -/
import Derived.Test.YthmimjofdmnakaaGreatDoorLLib
import Derived.Test.YthmimjofdmnakaaGreatDoorStepsD
namespace Go.Proofs.YthmimjofdmnakaaGreatDoor
open Go.RowKit Go.Shelf Go.Lib Go.Sort
set_option maxRecDepth 100000 in
set_option maxHeartbeats 1000000 in
theorem compare_D (a b : Rc) (w : World) : Calls Tryz.prog 64 #[a.v, b.v] w fun e w' => e = .returned (.int .i64 (cmpR a b)) ∧ GD w w' := by
  obtain ⟨s, k, d, t⟩ := a
  obtain ⟨s2, k2, d2, t2⟩ := b
  unfold cmpR Rc.v
  dsimp only
  have bx := heap_alloc_self w (.cells #[.int .i64 s, .int .i64 k, .int .i64 d, .string t] 23)
  have by_ := heap_alloc_self (w.alloc (.cells #[.int .i64 s, .int .i64 k, .int .i64 d, .string t] 23)) (.cells #[.int .i64 s2, .int .i64 k2, .int .i64 d2, .string t2] 23)
  have bx := ((Gr.refl _).alloc (.cells #[.int .i64 s2, .int .i64 k2, .int .i64 d2, .string t2] 23)).heap bx
  have g0 : GD w ((w.alloc (.cells #[.int .i64 s, .int .i64 k, .int .i64 d, .string t] 23)).alloc (.cells #[.int .i64 s2, .int .i64 k2, .int .i64 d2, .string t2] 23)) := ((GD.refl w).alloc _).alloc _
  simp only [World.size_alloc] at by_
  go_enter Tryz.func64, Tryz.ntmps64
  go_wp2
  generalize (w.alloc (.cells #[.int .i64 s, .int .i64 k, .int .i64 d, .string t] 23)).alloc (.cells #[.int .i64 s2, .int .i64 k2, .int .i64 d2, .string t2] 23) = W at *
  obtain ⟨p2, h2⟩ : ∃ p2, w.heap.size + 1 = p2 := ⟨_, rfl⟩
  rw [h2] at by_
  rw [h2]
  clear h2
  generalize w.heap.size = p1 at *
  obtain ⟨cx, fx, zx⟩ := blk_cells bx
  obtain ⟨cy, fy, zy⟩ := blk_cells by_
  refine wp_region_steps_D [.val (.pointer (some ⟨p1, 0, none⟩)), .val (.int .i64 s), .val (.pointer (some ⟨p2, 0, none⟩)), .val (.int .i64 s2), .val (.int .i64 (cmpI s s2)), .val (.pointer (some ⟨p1, 1, none⟩)), .val (.int .i64 k), .val (.pointer (some ⟨p2, 1, none⟩)), .val (.int .i64 k2), .val (.int .i64 (cmpI k k2)), .sat (fun v u => ∃ g, v = .slice (some ⟨g, 0, none⟩) 2 2 ∧ u.heap[g]? = some (.cells #[.int .i64 (cmpI s s2), .int .i64 (cmpI k k2)] 3 (0, 0))), .val (.int .i64 (orI (cmpI s s2) (cmpI k k2))), .val (.int .i64 (orI (cmpI s s2) (cmpI k k2)))] (by kernel_rfl) (by kernel_rfl) (fun V => by first | (simp only [finS, Step.isLater, Bool.false_eq_true, if_false, Act.put, Step.value, List.setIfInBounds_toArray, List.set_cons_zero, List.set_cons_succ]; rfl) | (simp only [finS, Step.isLater, Bool.false_eq_true, if_false, if_true, Act.put, Step.value, List.setIfInBounds_toArray, List.set_cons_zero, List.set_cons_succ, Nat.zero_add, Nat.reduceAdd]; rfl)) ?_ ?_
  · refine ⟨?_, ?_, ?_, ?_, ?_, ?_, ?_, ?_, ?_, ?_, ?_, ?_, ?_, trivial⟩ <;> (first | exact trivial | (refine ⟨(by intro v u u1 h g; obtain ⟨b, rfl, h⟩ := h; exact ⟨b, rfl, g.heap h⟩), ?_⟩; intro V u hu hk; refine ⟨by kernel_rfl, ?_⟩; go_simp; exact ⟨⟨_, rfl, heap_alloc_self _ _⟩, (GD.refl _).alloc _⟩) | (refine ⟨(by intro v u u1 h g; first | exact ownsRow_g h g | exact st_and h g | exact h), ?_⟩; intro V u hu hk; refine ⟨by kernel_rfl, turn_owes (by kernel_rfl) ?_⟩; obtain ⟨hc, hf, hz⟩ := hu.cells; go_simp; skip) | (refine ⟨(by intro v u u1 h g; first | exact ownsRow_g h g | exact st_and h g | exact h), ?_⟩; intro V u hu hk; refine ⟨by kernel_rfl, ?_⟩; obtain ⟨hc, hf, hz⟩ := hu.cells; go_simp; skip) | (intro V u hu hk; refine ⟨by kernel_rfl, ?_⟩; obtain ⟨hc, hf, hz⟩ := hu.cells; go_simp; first | exact ⟨rfl, GD.refl _⟩ | skip) | (intro V u hu hk; show _ = false; kernel_rfl))
    · exact (Compare_any _ _ _).mono fun e w' ⟨h, e'⟩ => ⟨h, e' ▸ GD.refl _⟩
    · exact (Compare_any _ _ _).mono fun e w' ⟨h, e'⟩ => ⟨h, e' ▸ GD.refl _⟩
    · obtain ⟨g, hv, hb⟩ := hk 10 _ rfl (by kernel_rfl)
      rw [hv]
      obtain ⟨cg, fg, zg⟩ := blk_cells hb
      exact (Or_any g 2 _ _ _ (cg 0) (cg 1)).mono fun e w' ⟨h, e'⟩ => ⟨h, e' ▸ GD.refl _⟩
  · intro V u hg hs
    go_simp
    go_wp2
    go_ret
    exact ⟨rfl, g0.trans hg⟩
/-- the one order's comparison -/
def cmpO (a b : Rc) : Int := orI (cmpI a.d b.d) (cmpR a b)
set_option maxRecDepth 100000 in
set_option maxHeartbeats 1000000 in
theorem order1_D (a b : Rc) (w : World) : Calls Tryz.prog 68 #[a.v, b.v] w fun e w' => e = .returned (.int .i64 (cmpO a b)) ∧ GD w w' := by
  have CR := Lib.hid (fun w => compare_D a b w)
  unfold cmpO
  generalize cmpR a b = q at *
  obtain ⟨s, k, d, t⟩ := a
  obtain ⟨s2, k2, d2, t2⟩ := b
  unfold Rc.v
  dsimp only
  have bx := heap_alloc_self w (.cells #[.int .i64 s, .int .i64 k, .int .i64 d, .string t] 23)
  have by_ := heap_alloc_self (w.alloc (.cells #[.int .i64 s, .int .i64 k, .int .i64 d, .string t] 23)) (.cells #[.int .i64 s2, .int .i64 k2, .int .i64 d2, .string t2] 23)
  have bx := ((Gr.refl _).alloc (.cells #[.int .i64 s2, .int .i64 k2, .int .i64 d2, .string t2] 23)).heap bx
  have g0 : GD w ((w.alloc (.cells #[.int .i64 s, .int .i64 k, .int .i64 d, .string t] 23)).alloc (.cells #[.int .i64 s2, .int .i64 k2, .int .i64 d2, .string t2] 23)) := ((GD.refl w).alloc _).alloc _
  simp only [World.size_alloc] at by_
  go_enter Tryz.func68, Tryz.ntmps68
  go_wp2
  generalize (w.alloc (.cells #[.int .i64 s, .int .i64 k, .int .i64 d, .string t] 23)).alloc (.cells #[.int .i64 s2, .int .i64 k2, .int .i64 d2, .string t2] 23) = W at *
  obtain ⟨p2, h2⟩ : ∃ p2, w.heap.size + 1 = p2 := ⟨_, rfl⟩
  rw [h2] at by_
  rw [h2]
  clear h2
  generalize w.heap.size = p1 at *
  obtain ⟨cx, fx, zx⟩ := blk_cells bx
  obtain ⟨cy, fy, zy⟩ := blk_cells by_
  refine wp_region_steps_D [.val (.pointer (some ⟨p1, 2, none⟩)), .val (.int .i64 d), .val (.pointer (some ⟨p2, 2, none⟩)), .val (.int .i64 d2), .val (.int .i64 (cmpI d d2)), .val (rcd s k d t), .val (rcd s2 k2 d2 t2), .val (.int .i64 q), .sat (fun v u => ∃ g, v = .slice (some ⟨g, 0, none⟩) 2 2 ∧ u.heap[g]? = some (.cells #[.int .i64 (cmpI d d2), .int .i64 q] 3 (0, 0))), .val (.int .i64 (orI (cmpI d d2) q)), .val (.int .i64 (orI (cmpI d d2) q))] (by kernel_rfl) (by kernel_rfl) (fun V => by first | (simp only [finS, Step.isLater, Bool.false_eq_true, if_false, Act.put, Step.value, List.setIfInBounds_toArray, List.set_cons_zero, List.set_cons_succ]; rfl) | (simp only [finS, Step.isLater, Bool.false_eq_true, if_false, if_true, Act.put, Step.value, List.setIfInBounds_toArray, List.set_cons_zero, List.set_cons_succ, Nat.zero_add, Nat.reduceAdd]; rfl)) ?_ ?_
  · refine ⟨?_, ?_, ?_, ?_, ?_, ?_, ?_, ?_, ?_, ?_, ?_, trivial⟩ <;> (first | exact trivial | (refine ⟨(by intro v u u1 h g; obtain ⟨b, rfl, h⟩ := h; exact ⟨b, rfl, g.heap h⟩), ?_⟩; intro V u hu hk; refine ⟨by kernel_rfl, ?_⟩; go_simp; exact ⟨⟨_, rfl, heap_alloc_self _ _⟩, (GD.refl _).alloc _⟩) | (refine ⟨(by intro v u u1 h g; first | exact ownsRow_g h g | exact st_and h g | exact h), ?_⟩; intro V u hu hk; refine ⟨by kernel_rfl, turn_owes (by kernel_rfl) ?_⟩; obtain ⟨hc, hf, hz⟩ := hu.cells; go_simp; skip) | (refine ⟨(by intro v u u1 h g; first | exact ownsRow_g h g | exact st_and h g | exact h), ?_⟩; intro V u hu hk; refine ⟨by kernel_rfl, ?_⟩; obtain ⟨hc, hf, hz⟩ := hu.cells; go_simp; skip) | (intro V u hu hk; refine ⟨by kernel_rfl, ?_⟩; obtain ⟨hc, hf, hz⟩ := hu.cells; go_simp; first | exact ⟨rfl, GD.refl _⟩ | skip) | (intro V u hu hk; show _ = false; kernel_rfl))
    · exact (Compare_any _ _ _).mono fun e w' ⟨h, e'⟩ => ⟨h, e' ▸ GD.refl _⟩
    · exact CR.out _
    · obtain ⟨g, hv, hb⟩ := hk 8 _ rfl (by kernel_rfl)
      rw [hv]
      obtain ⟨cg, fg, zg⟩ := blk_cells hb
      exact (Or_any g 2 _ _ _ (cg 0) (cg 1)).mono fun e w' ⟨h, e'⟩ => ⟨h, e' ▸ GD.refl _⟩
  · intro V u hg hs
    go_simp
    go_wp2
    go_ret
    exact ⟨rfl, g0.trans hg⟩
end Go.Proofs.YthmimjofdmnakaaGreatDoor
