/- The walk of LoftNil. -/
import Derived.Test.YthmimjofdmnakaaGreatDoorLNil
import Derived.Test.YthmimjofdmnakaaGreatDoorSumOk
namespace Go.Proofs.YthmimjofdmnakaaGreatDoor
open Go.RowKit Go.Shelf
theorem nil1_any (w : World) :
    Calls Tryz.prog 41 #[.int .i64 3] w fun e w' => e = .returned (.bool false) ∧ w' = w := by
  go_enter Tryz.func41, Tryz.ntmps41
  go_wp2
  go_ret
  exact ⟨rfl, rfl⟩
set_option maxRecDepth 100000 in
set_option maxHeartbeats 1000000 in
theorem idxE (blk n cap : Nat) (w : World) (hb : blk < w.heap.size) (hl : n ≤ 1000)
    (hc : ∀ j, j < n → w.cell? ⟨blk, j, none⟩ = some (.int .i64 3)) :
    Calls Tryz.prog 105 #[.slice (some ⟨blk, 0, none⟩) n cap, .func (.func 41) #[] #[]] w fun e w' => e = .returned (.int .i64 (-1)) ∧ Gr w w' := by
  have HC := Lib.hid hc
  clear hc
  go_enter Tryz.func105, Tryz.ntmps105
  go_wp2
  go_loopw [8] (fun p wr => ∃ i : Nat, p = .int .i64 i ∧ i ≤ n ∧ Gr w wr) (fun p _ => n - (intOf p).toNat)
  case atStart => exact ⟨0, rfl, by omega, Gr.refl _⟩
  case round =>
    obtain ⟨i, rfl, hi, gr⟩ := hrel
    by_cases hil : i < n
    · have hil' : (i : Int) < n := by omega
      have hcell := (gr.cells.1 blk i hb).trans (HC.out i hil)
      go_wp2_with fail
      refine (nil1_any _).mono ?_
      rintro e w1 ⟨rfl, rfl⟩
      go_wp2
      exact ⟨⟨i+1, by simp, by omega, gr⟩, by simp [intOf]; omega⟩
    · have hil' : ¬ (i : Int) < n := by omega
      go_wp2
      go_ret
      exact ⟨rfl, gr⟩
set_option maxHeartbeats 1000000 in
theorem hasE (blk n cap : Nat) (w : World) (hb : blk < w.heap.size) (hl : n ≤ 1000)
    (hc : ∀ j, j < n → w.cell? ⟨blk, j, none⟩ = some (.int .i64 3)) :
    Calls Tryz.prog 40 #[.slice (some ⟨blk, 0, none⟩) n cap, .func (.func 41) #[] #[]] w fun e w' => e = .returned (.bool false) ∧ Gr w w' := by
  go_enter Tryz.func40, Tryz.ntmps40
  go_wp2_with fail
  refine (idxE blk n cap w hb hl hc).mono ?_
  rintro e w1 ⟨rfl, hg1⟩
  go_wp2
  go_ret
  exact ⟨rfl, hg1⟩
theorem eq_have (w : World) : (binOp .eql 35 (.agg #[.int .i64 0, .int .i64 0, .int .i64 0, .int .i64 0, .int .i64 0]) (.agg #[.int .i64 0, .int .i64 0, .int .i64 0, .int .i64 0, .int .i64 0])).run Tryz.prog w = .ok (.bool true) w := by kernel_rfl
set_option maxRecDepth 100000 in
set_option maxHeartbeats 4000000 in
theorem LoftNil_any (a : Int) (s : ByteArray) (d : Int) (w : World) (ht : RX.Tables w) :
    Calls Tryz.prog 7 #[.int .i64 a, .string s, .int .i64 d] w fun e w' => e = .returned (.bool true) ∧ Gr w w' := by
  have HT := Lib.hid ht
  clear ht
  have q1 := fun w => eq_have w
  have CV := fun w => Lib.run_convert_string_bytes (P := Tryz.prog) w 9 57 5 s Tryz.underlying9 Tryz.underlying57 Tryz.underlying5
  go_enter Tryz.func7, Tryz.ntmps7
  by_cases hl : 300 < s.size
  · have hl' : (300 : Int) < s.size := by omega
    go_wp2_with fail
    refine (lent_g _ HT.out).mono ?_
    rintro e w1 ⟨rfl, g1⟩
    go_wp2
    go_ret
    exact ⟨rfl, g1⟩
  · have hl' : ¬ (300 : Int) < s.size := by omega
    go_wp2_with fail
    refine (Read_nil a _).mono ?_
    rintro e w1 ⟨rfl, g1⟩
    go_wp2_with fail
    refine (Write_nil a _ _).mono ?_
    rintro e w2 ⟨rfl, g2⟩
    go_wp2_with fail
    refine (Flush_nil _).mono ?_
    rintro e w3 ⟨rfl, g3⟩
    go_wp2_with fail
    refine (Stop_nil d _).mono ?_
    rintro e w4 ⟨rfl, g4⟩
    go_wp2_with fail
    refine (Crash_nil _).mono ?_
    rintro e w5 ⟨rfl, g5⟩
    go_wp2_with fail
    refine (Add_nil s d _).mono ?_
    rintro e w6 ⟨rfl, g6⟩
    go_wp2_with fail
    refine (Want_nil a d d _).mono ?_
    rintro e w7 ⟨rfl, g7⟩
    go_wp2_with fail
    refine (Free_nil a d _).mono ?_
    rintro e w8 ⟨rfl, g8⟩
    go_wp2_with fail
    refine (Hear_nil a s d _).mono ?_
    rintro e w9 ⟨rfl, g9⟩
    go_wp2_with fail
    refine (Open_nil _).mono ?_
    rintro e w10 ⟨rfl, g10⟩
    have g2' := (Gr.of_below (Lib.bytesWorld_below w1 5 s)).trans g2
    have G := ((((((((g1.trans g2').trans g3).trans g4).trans g5).trans g6).trans g7).trans g8).trans g9).trans g10
    clear g1 g2 g2' g3 g4 g5 g6 g7 g8 g9 g10
    go_upto_region 15 with (fail)
    obtain ⟨X, hX⟩ : ∃ X : Obj, X = (.cells #[.int .i64 3, .int .i64 3, .int .i64 3, .int .i64 3, .int .i64 3, .int .i64 3, .int .i64 3, .int .i64 3, .int .i64 3] 25 (0, 0)) := ⟨_, rfl⟩
    rw [← hX]
    have hb : (w10.alloc X).heap[w10.heap.size]? = some (.cells #[.int .i64 3, .int .i64 3, .int .i64 3, .int .i64 3, .int .i64 3, .int .i64 3, .int .i64 3, .int .i64 3, .int .i64 3] 25 (0, 0)) := by rw [← hX]; exact heap_alloc_self w10 X
    have G1 := G.alloc X
    clear hX G
    generalize w10.alloc X = W at *
    have hcell : ∀ (u : World), Gr W u → ∀ j, j < 9 → u.cell? ⟨w10.heap.size, j, none⟩ = some (.int .i64 3) := fun u g j hj => by
      rw [(blk_cells (g.heap hb)).1]
      rcases j with _ | _ | _ | _ | _ | _ | _ | _ | _ | j <;> first | rfl | omega
    have hlt : w10.heap.size < W.heap.size := heap_lt hb
    obtain ⟨p, hp⟩ : ∃ p, w10.heap.size = p := ⟨_, rfl⟩
    rw [hp] at hcell hlt
    rw [hp]
    have HC := Lib.hid hcell
    clear hcell hb hp
    go_wp2_with fail
    refine (lent_g _ (HT.out.gr G1)).mono ?_
    rintro e w11 ⟨rfl, g11⟩
    go_wp2_with fail
    refine (hasE p 9 9 _ (by have := g11.b.size; omega) (by omega) (HC.out _ g11)).mono ?_
    rintro e w12 ⟨rfl, g12⟩
    go_wp2_with fail
    refine (Down_nil _).mono ?_
    rintro e w13 ⟨rfl, g13⟩
    go_wp2_with fail
    refine (Records_nil _).mono ?_
    rintro e w14 ⟨rfl, g14⟩
    go_wp2_with fail
    refine (Have_nil _).mono ?_
    rintro e w15 ⟨rfl, g15⟩
    go_wp2_with fail
    refine (Sealed_nil _).mono ?_
    rintro e w16 ⟨rfl, g16⟩
    go_wp2_with fail
    refine (Promises_nil d _).mono ?_
    rintro e w17 ⟨rfl, g17⟩
    go_wp2_with fail
    refine (Loans_nil d _).mono ?_
    rintro e w18 ⟨rfl, g18⟩
    go_wp2_with fail
    refine (Letters_nil d _).mono ?_
    rintro e w19 ⟨rfl, g19⟩
    go_wp2
    go_ret
    exact ⟨rfl, ((((((((G1.trans g11).trans g12).trans g13).trans g14).trans g15).trans g16).trans g17).trans g18).trans g19⟩
end Go.Proofs.YthmimjofdmnakaaGreatDoor
