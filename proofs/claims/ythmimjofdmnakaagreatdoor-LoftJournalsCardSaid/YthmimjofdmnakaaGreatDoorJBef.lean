/- strickleref09: before. -/
import Derived.Test.YthmimjofdmnakaaGreatDoorJOf
namespace Go.Proofs.YthmimjofdmnakaaGreatDoor
open Go.RowKit Go.Shelf
/-- before in the one order -/
def befR (a b : Rc) : Bool := decide (cmpO a b < 0)
theorem befR_is (a b : Rc) : befR a b = decide (a.d < b.d ∨ a.d = b.d ∧ (a.s < b.s ∨ a.s = b.s ∧ a.k < b.k)) := decide_eq_decide.2 (cmpO_lt a b)
set_option maxRecDepth 100000 in
set_option maxHeartbeats 2000000 in
theorem before_any (a b : Rc) (w : World) : Calls Tryz.prog 71 #[a.v, b.v] w fun e w' => e = .returned (.bool (befR a b)) ∧ Gr w w' := by
  rw [befR_is]
  obtain ⟨s, k, d, t⟩ := a
  obtain ⟨s2, k2, d2, t2⟩ := b
  unfold Rc.v
  dsimp only
  obtain ⟨q, hq⟩ : ∃ q, decide (d < d2 ∨ d = d2 ∧ (s < s2 ∨ s = s2 ∧ k < k2)) = q := ⟨_, rfl⟩
  rw [hq]
  have HQ := Lib.hid hq
  clear hq
  have bx := heap_alloc_self w (.cells #[.int .i64 s, .int .i64 k, .int .i64 d, .string t] 23)
  have by_ := heap_alloc_self (w.alloc (.cells #[.int .i64 s, .int .i64 k, .int .i64 d, .string t] 23)) (.cells #[.int .i64 s2, .int .i64 k2, .int .i64 d2, .string t2] 23)
  have bx := ((Gr.refl _).alloc (.cells #[.int .i64 s2, .int .i64 k2, .int .i64 d2, .string t2] 23)).heap bx
  have g0 : Gr w ((w.alloc (.cells #[.int .i64 s, .int .i64 k, .int .i64 d, .string t] 23)).alloc (.cells #[.int .i64 s2, .int .i64 k2, .int .i64 d2, .string t2] 23)) := ((Gr.refl w).alloc _).alloc _
  simp only [World.size_alloc] at by_
  by_cases h1 : d = d2
  · subst h1
    by_cases h2 : s = s2
    · subst h2
      obtain ⟨b, hb⟩ : ∃ b, decide (k < k2) = b := ⟨_, rfl⟩
      have HE : Hid (b = q) := Lib.hid <| by rw [← HQ.out, ← hb]; simp
      by_cases h3 : k < k2
      · obtain rfl : b = true := by rw [← hb]; exact decide_eq_true h3
        clear hb
        go_enter Tryz.func71, Tryz.ntmps71
        go_upto_region 1 with (fail)
        generalize (w.alloc (.cells #[.int .i64 s, .int .i64 k, .int .i64 d, .string t] 23)).alloc (.cells #[.int .i64 s, .int .i64 k2, .int .i64 d, .string t2] 23) = W at *
        obtain ⟨p2, hp2⟩ : ∃ p2, w.heap.size + 1 = p2 := ⟨_, rfl⟩
        rw [hp2] at by_
        rw [hp2]
        clear hp2
        generalize w.heap.size = p1 at *
        obtain ⟨cx, fx, zx⟩ := blk_cells bx
        obtain ⟨cy, fy, zy⟩ := blk_cells by_
        go_wp2
        go_ret
        exact ⟨ret_bool HE.out, g0⟩
      · obtain rfl : b = false := by rw [← hb]; exact decide_eq_false h3
        clear hb
        go_enter Tryz.func71, Tryz.ntmps71
        go_upto_region 1 with (fail)
        generalize (w.alloc (.cells #[.int .i64 s, .int .i64 k, .int .i64 d, .string t] 23)).alloc (.cells #[.int .i64 s, .int .i64 k2, .int .i64 d, .string t2] 23) = W at *
        obtain ⟨p2, hp2⟩ : ∃ p2, w.heap.size + 1 = p2 := ⟨_, rfl⟩
        rw [hp2] at by_
        rw [hp2]
        clear hp2
        generalize w.heap.size = p1 at *
        obtain ⟨cx, fx, zx⟩ := blk_cells bx
        obtain ⟨cy, fy, zy⟩ := blk_cells by_
        go_wp2
        go_ret
        exact ⟨ret_bool HE.out, g0⟩
    · have n3 : decide (s = s2) = false := by simpa using h2
      obtain ⟨b, hb⟩ : ∃ b, decide (s < s2) = b := ⟨_, rfl⟩
      have HE : Hid (b = q) := Lib.hid <| by rw [← HQ.out, ← hb]; simp [h2]
      by_cases h3 : s < s2
      · obtain rfl : b = true := by rw [← hb]; exact decide_eq_true h3
        clear hb
        go_enter Tryz.func71, Tryz.ntmps71
        go_upto_region 1 with (fail)
        generalize (w.alloc (.cells #[.int .i64 s, .int .i64 k, .int .i64 d, .string t] 23)).alloc (.cells #[.int .i64 s2, .int .i64 k2, .int .i64 d, .string t2] 23) = W at *
        obtain ⟨p2, hp2⟩ : ∃ p2, w.heap.size + 1 = p2 := ⟨_, rfl⟩
        rw [hp2] at by_
        rw [hp2]
        clear hp2
        generalize w.heap.size = p1 at *
        obtain ⟨cx, fx, zx⟩ := blk_cells bx
        obtain ⟨cy, fy, zy⟩ := blk_cells by_
        go_wp2
        go_ret
        exact ⟨ret_bool HE.out, g0⟩
      · obtain rfl : b = false := by rw [← hb]; exact decide_eq_false h3
        clear hb
        go_enter Tryz.func71, Tryz.ntmps71
        go_upto_region 1 with (fail)
        generalize (w.alloc (.cells #[.int .i64 s, .int .i64 k, .int .i64 d, .string t] 23)).alloc (.cells #[.int .i64 s2, .int .i64 k2, .int .i64 d, .string t2] 23) = W at *
        obtain ⟨p2, hp2⟩ : ∃ p2, w.heap.size + 1 = p2 := ⟨_, rfl⟩
        rw [hp2] at by_
        rw [hp2]
        clear hp2
        generalize w.heap.size = p1 at *
        obtain ⟨cx, fx, zx⟩ := blk_cells bx
        obtain ⟨cy, fy, zy⟩ := blk_cells by_
        go_wp2
        go_ret
        exact ⟨ret_bool HE.out, g0⟩
  · have n3 : decide (d = d2) = false := by simpa using h1
    obtain ⟨b, hb⟩ : ∃ b, decide (d < d2) = b := ⟨_, rfl⟩
    have HE : Hid (b = q) := Lib.hid <| by rw [← HQ.out, ← hb]; simp [h1]
    by_cases h3 : d < d2
    · obtain rfl : b = true := by rw [← hb]; exact decide_eq_true h3
      clear hb
      go_enter Tryz.func71, Tryz.ntmps71
      go_upto_region 1 with (fail)
      generalize (w.alloc (.cells #[.int .i64 s, .int .i64 k, .int .i64 d, .string t] 23)).alloc (.cells #[.int .i64 s2, .int .i64 k2, .int .i64 d2, .string t2] 23) = W at *
      obtain ⟨p2, hp2⟩ : ∃ p2, w.heap.size + 1 = p2 := ⟨_, rfl⟩
      rw [hp2] at by_
      rw [hp2]
      clear hp2
      generalize w.heap.size = p1 at *
      obtain ⟨cx, fx, zx⟩ := blk_cells bx
      obtain ⟨cy, fy, zy⟩ := blk_cells by_
      go_wp2
      go_ret
      exact ⟨ret_bool HE.out, g0⟩
    · obtain rfl : b = false := by rw [← hb]; exact decide_eq_false h3
      clear hb
      go_enter Tryz.func71, Tryz.ntmps71
      go_upto_region 1 with (fail)
      generalize (w.alloc (.cells #[.int .i64 s, .int .i64 k, .int .i64 d, .string t] 23)).alloc (.cells #[.int .i64 s2, .int .i64 k2, .int .i64 d2, .string t2] 23) = W at *
      obtain ⟨p2, hp2⟩ : ∃ p2, w.heap.size + 1 = p2 := ⟨_, rfl⟩
      rw [hp2] at by_
      rw [hp2]
      clear hp2
      generalize w.heap.size = p1 at *
      obtain ⟨cx, fx, zx⟩ := blk_cells bx
      obtain ⟨cy, fy, zy⟩ := blk_cells by_
      go_wp2
      go_ret
      exact ⟨ret_bool HE.out, g0⟩
end Go.Proofs.YthmimjofdmnakaaGreatDoor
