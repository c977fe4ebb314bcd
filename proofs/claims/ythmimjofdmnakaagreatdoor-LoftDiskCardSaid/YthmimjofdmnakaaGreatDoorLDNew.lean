/- loft/disk.go: NewDisk. -/
import Derived.Test.YthmimjofdmnakaaGreatDoorLDCrash
import Derived.Laws.MakeOwn
namespace Go.Proofs.YthmimjofdmnakaaGreatDoor
open Go.RowKit Go.Shelf
theorem three_new (w : World) (M : Array Value) (T : TypeId) (o : Obj) : let W := (((w.alloc (.cells M T (0, 0))).alloc (.cells M T (0, 0))).alloc o).drew
    Gr w W ∧ W.heap[w.heap.size]? = some (.cells M T (0, 0)) ∧ W.heap[w.heap.size + 1]? = some (.cells M T (0, 0)) ∧ W.heap[w.heap.size + 1 + 1]? = some o := by
  have g1 := (Gr.refl (w.alloc (.cells M T (0, 0)))).alloc (.cells M T (0, 0))
  have g2 := (Gr.refl ((w.alloc (.cells M T (0, 0))).alloc (.cells M T (0, 0)))).alloc o
  have a0 := heap_alloc_self w (.cells M T (0, 0))
  have a1 := heap_alloc_self (w.alloc (.cells M T (0, 0))) (.cells M T (0, 0))
  have a2 := heap_alloc_self ((w.alloc (.cells M T (0, 0))).alloc (.cells M T (0, 0))) o
  simp only [World.size_alloc] at a1 a2
  exact ⟨(((Gr.refl w).alloc _).trans (g1.trans g2)).drew, g2.heap (g1.heap a0), g2.heap a1, a2⟩
theorem made_zero (n : Nat) : madeCells (Value.agg (Array.replicate 64 (.int .u8 0))).cells (n * 64) = (secs (List.replicate n zsec')).toArray := by
  rw [secs_rep]
  have hc : (Value.agg (Array.replicate 64 (.int .u8 0))).cells = Array.replicate 64 (.int .u8 0) := rfl
  rw [hc]
  apply Array.ext
  · rw [size_madeCells]; simp
  · intro j h1 h2
    have hj : j < n * 64 := by simpa using h2
    unfold madeCells
    simp [Nat.mod_lt]
set_option maxRecDepth 100000 in
set_option maxHeartbeats 1000000 in
theorem dNewDisk_yes (n : Nat) (w : World) (h1 : 64 ≤ n) (h2 : n ≤ 65536) :
    Calls Tryz.prog 27 #[.int .i64 n] w fun e w' => ∃ p du nw, e = .returned (.tuple #[.pointer (some ⟨p, 0, none⟩), .int .i64 0]) ∧ Gr w w' ∧ DAt w' p du nw n (.slice none 0 0) (Sp.zero n) 0 ∧ w.heap.size ≤ p ∧ w.heap.size ≤ du ∧ w.heap.size ≤ nw := by
  obtain ⟨i0, hi, hz0, hz1, hz2⟩ := info_parts info_sec
  have WI := Lib.hid (fun w => within_any n 64 65536 w)
  have e1 : (decide (64 ≤ (n : Int)) && decide ((n : Int) ≤ 65536)) = true := by simp; omega
  rw [e1] at WI
  have HM := fun u => run_make (P := Tryz.prog) u 129 140 i0 _ Tryz.underlying129 hi hz0 .i64 .i64 n n (by omega) (by omega) (by rw [hz2]; omega) (by omega)
  have hM : madeCells (Value.agg (Array.replicate 64 (.int .u8 0))).cells ((n : Int).toNat * i0.size) = (secs (List.replicate n zsec')).toArray := by rw [hz1, Int.toNat_natCast]; exact made_zero n
  have HMs := Lib.hid hM
  clear hM
  generalize madeCells _ _ = M at HM HMs
  clear e1 hi hz0 hz1 hz2
  have HH := Lib.hid h1
  have HG := Lib.hid h2
  clear h1 h2
  go_enter Tryz.func27, Tryz.ntmps27
  go_wp2_with fail
  refine (WI.out _).mono ?_
  rintro e w1 ⟨rfl, hg1⟩
  go_upto_region 3 with (fail)
  go_region
  · go_wp2
    go_ret2
    have hM := HMs.out
    subst hM
    obtain ⟨G, a0, a1, a2⟩ := three_new w1 _ 140 (.cells #[.slice (some ⟨(w1.heap.size), 0, none⟩) n n, .slice (some ⟨(w1.heap.size + 1), 0, none⟩) n n, .slice none 0 0, .bool false, .bool false, .int .i64 0] 132 (0, 0))
    have hz := hg1.b.size
    exact ⟨w1.heap.size + 1 + 1, (w1.heap.size), (w1.heap.size + 1), rfl, hg1.trans G, ⟨⟨n, n, false, 0, a2, .inr ⟨rfl, rfl, by omega, Int.le_refl _⟩⟩, a0, ⟨[], by rw [List.append_nil]; exact a1⟩, World.ownsRow_nil _ _ _ _, by omega⟩, by omega, by omega, by omega⟩
  · go_wp2
    go_ret2
    have hM := HMs.out
    subst hM
    obtain ⟨G, a0, a1, a2⟩ := three_new w1 _ 140 (.cells #[.slice (some ⟨(w1.heap.size + 1), 0, none⟩) n n, .slice (some ⟨(w1.heap.size), 0, none⟩) n n, .slice none 0 0, .bool false, .bool false, .int .i64 0] 132 (0, 0))
    have hz := hg1.b.size
    exact ⟨w1.heap.size + 1 + 1, (w1.heap.size + 1), (w1.heap.size), rfl, hg1.trans G, ⟨⟨n, n, false, 0, a2, .inr ⟨rfl, rfl, by omega, Int.le_refl _⟩⟩, a1, ⟨[], by rw [List.append_nil]; exact a0⟩, World.ownsRow_nil _ _ _ _, by omega⟩, by omega, by omega, by omega⟩
end Go.Proofs.YthmimjofdmnakaaGreatDoor
