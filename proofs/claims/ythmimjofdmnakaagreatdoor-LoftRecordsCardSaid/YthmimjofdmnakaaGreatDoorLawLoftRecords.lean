/- The walk of LoftRecords. -/
import Derived.Test.YthmimjofdmnakaaGreatDoorLReadRec
import Derived.Test.YthmimjofdmnakaaGreatDoorSumOk
namespace Go.Proofs.YthmimjofdmnakaaGreatDoor
open Go.RowKit Go.Shelf
theorem recL_len {n s k d : Int} {t : ByteArray} (h : recOk n s k d t = true) (ht : t.size ≤ 300) : (recL s k d t).length ≤ 1000 := by
  unfold recOk at h
  rw [Bool.and_eq_true] at h
  obtain ⟨s', k', d', rfl, rfl, rfl, h1, h2, h3, h4⟩ := formed_nat (many_le h.1).1 h.2
  have e : t.size = t.data.toList.length := rfl
  have d1 := dec_len20 s' (by omega)
  have d2 := dec_len20 k' (by omega)
  have d3 := dec_len20 d' (by omega)
  rw [recL_form h4]
  simp only [List.length_append, List.length_cons]
  omega
theorem rd_one (n : Int) (s : ByteArray) : ∃ (x y z : Int) (u : ByteArray) (e : Int), rdR n s = (rcd x y z u, e) ∧ refR n s = (rcd x y z u, e) ∧ u.size ≤ s.size ∧ (e = 0 → recOk n x y z u = true ∧ recL x y z u = s.data.toList) := by
  rcases rd_cases n s with ⟨_, h1, h2⟩ | ⟨h1, h2⟩ | ⟨a, b, c, t, h1, h2, h3, h4, h5⟩
  · exact ⟨0, 0, 0, ⟨#[]⟩, 1, h1, h2, Nat.zero_le _, fun h => by cases h⟩
  · exact ⟨0, 0, 0, ⟨#[]⟩, 4, h1, h2, Nat.zero_le _, fun h => by cases h⟩
  · exact ⟨a, b, c, t, 0, h1, h2, h5, fun _ => ⟨h3, h4⟩⟩
set_option maxRecDepth 100000 in
set_option maxHeartbeats 8000000 in
theorem LoftRecords_any (n a b c : Int) (t line : ByteArray) (st num : Int) (w : World) (tw : TW w) (ht : RX.Tables w) :
    Calls Tryz.prog 3 #[.int .i64 n, rcd a b c t, .string line, .int .i64 st, .int .i64 num] w fun e w' => e = .returned (.bool true) ∧ Gr w w' := by
  have LE := Lib.hid (fun w' (g : Gr w w') => lent_g w' (ht.gr g))
  have bx := heap_alloc_self w (.cells #[.int .i64 a, .int .i64 b, .int .i64 c, .string t] 23)
  have g0 : Gr w (w.alloc (.cells #[.int .i64 a, .int .i64 b, .int .i64 c, .string t] 23)) := (Gr.refl w).alloc _
  by_cases hb : 300 < t.size ∨ 300 < line.size
  · have WK := Lib.hid tw
    clear ht tw
    obtain ⟨cx, fx, zx⟩ := blk_cells bx
    by_cases h1 : 300 < t.size
    · have h1' : (300 : Int) < t.size := by omega
      clear hb
      go_enter Tryz.func3, Tryz.ntmps3
      go_wp2_with fail
      refine (LE.out _ g0).mono ?_
      rintro e w1 ⟨rfl, g1⟩
      go_wp2
      go_ret
      exact ⟨rfl, g0.trans g1⟩
    · have h1' : ¬ (300 : Int) < t.size := by omega
      have h2' : (300 : Int) < line.size := by omega
      clear hb
      go_enter Tryz.func3, Tryz.ntmps3
      go_wp2_with fail
      refine (LE.out _ g0).mono ?_
      rintro e w1 ⟨rfl, g1⟩
      go_wp2
      go_ret
      exact ⟨rfl, g0.trans g1⟩
  have h1' : ¬ (300 : Int) < t.size := by omega
  have h2' : ¬ (300 : Int) < line.size := by omega
  have ht3 : t.size ≤ 300 := by omega
  have hl3 : line.size ≤ 300 := by omega
  clear hb
  obtain ⟨x, y, z, u, ev, e1, e2, hu, hev⟩ := rd_one n line
  have WR := Lib.hid (fun w' (g : Gr w w') => WriteRecord_any n a b c t w' (by omega) (tw.gr g))
  have RW := Lib.hid (fun w => rWriteRecord_any n a b c t w (by omega))
  have RD := Lib.hid (fun w' (g : Gr w w') => ReadRecord_any n line w' (by omega) (tw.gr g))
  have RR := Lib.hid (fun w => rReadRecord_any n line w (by omega))
  have WB := Lib.hid (fun w' (g : Gr w w') => WriteRecord_any n x y z u w' (by omega) (tw.gr g))
  rw [e1] at RD
  rw [e2] at RR
  dsimp only at RD RR
  have ID := Lib.hid (fun w => IdOf_any st num w)
  have RI := Lib.hid (fun w => rIdOf_any st num w)
  have NE := fun w => neq_rec_self x y z u w
  have NF := fun w => neq_rec_self a b c t w
  have RB := Lib.hid (fun (hk : recOk n a b c t = true) w' (g : Gr w w') => ReadRecord_any n ⟨(recL a b c t).toArray⟩ w' (by show (recL a b c t).length ≤ 100000; have := recL_len hk ht3; omega) (tw.gr g))
  have RC := Lib.hid (fun (hk : recOk n a b c t = true) => rd_back hk)
  have KT : Hid ((recOk n a b c t = true → recT n a b c t = recL a b c t ∧ recE n a b c t = 0) ∧ (recOk n a b c t = false → recE n a b c t = 1)) := Lib.hid ⟨fun hq => by unfold recT recE; rw [if_pos hq, if_pos hq]; exact ⟨rfl, rfl⟩, fun hq => by unfold recE; rw [if_neg (by simp [hq])]⟩
  have KY : Hid (ev = 0 → recT n x y z u = line.data.toList ∧ recE n x y z u = 0) := Lib.hid fun h0 => by
    obtain ⟨hk, hl⟩ := hev h0
    unfold recT recE
    rw [if_pos hk, if_pos hk]
    exact ⟨hl, rfl⟩
  have eqs : line.toList = line.data.toList := ByteArray.toList_eq line
  obtain ⟨sl, hsl⟩ : ∃ sl, line.data.toList = sl := ⟨_, rfl⟩
  rw [hsl] at eqs KY
  obtain ⟨T, hT⟩ : ∃ T, recT n a b c t = T := ⟨_, rfl⟩
  obtain ⟨E, hE⟩ : ∃ E, recE n a b c t = E := ⟨_, rfl⟩
  obtain ⟨T2, hT2⟩ : ∃ T, recT n x y z u = T := ⟨_, rfl⟩
  obtain ⟨E2, hE2⟩ : ∃ E, recE n x y z u = E := ⟨_, rfl⟩
  rw [hT, hE] at WR RW KT
  rw [hT2, hE2] at WB KY
  have HI := Lib.hid (rfl : idOf st num = idOf st num)
  obtain ⟨I, hI⟩ : ∃ I, idOf st num = I := ⟨_, rfl⟩
  rw [hI] at ID RI
  clear HI hI hT hE hT2 hE2 hsl e1 e2 hu hev ht3 hl3 tw ht
  obtain ⟨q, hq⟩ : ∃ q, recOk n a b c t = q := ⟨_, rfl⟩
  obtain ⟨L, hL⟩ : ∃ L, recL a b c t = L := ⟨_, rfl⟩
  rw [hq] at KT RB RC
  rw [hL] at KT RB RC
  clear hq hL
  obtain ⟨cx, fx, zx⟩ := blk_cells bx
  go_enter Tryz.func3, Tryz.ntmps3
  go_wp2_with fail
  refine (WR.out _ g0).mono ?_
  rintro e w1 ⟨rfl, hg⟩
  have bx1 := hg.heap bx
  have g1 := g0.trans hg
  clear hg bx cx fx zx WR
  obtain ⟨cx, fx, zx⟩ := blk_cells bx1
  go_wp2_with fail
  refine (RW.out _).mono ?_
  rintro e w2 ⟨rfl, hg⟩
  have bx2 := hg.heap bx1
  have g2 := g1.trans hg
  clear hg bx1 cx fx zx RW
  obtain ⟨cx, fx, zx⟩ := blk_cells bx2
  go_wp2_with fail
  refine (RD.out _ g2).mono ?_
  rintro e w3 ⟨rfl, hg⟩
  have bx3 := hg.heap bx2
  have g3 := g2.trans hg
  clear hg bx2 cx fx zx RD
  have by3 := heap_alloc_self w3 (.cells #[.int .i64 x, .int .i64 y, .int .i64 z, .string u] 23)
  go_wp2_with fail
  refine (RR.out _).mono ?_
  rintro e w4 ⟨rfl, hg⟩
  have bx4 := hg.heap (((Gr.refl w3).alloc _).heap bx3)
  have by4 := hg.heap by3
  have g4 := (g3.alloc _).trans hg
  clear hg bx3 by3 RR
  generalize w3.heap.size = p15 at *
  have bz4 := heap_alloc_self w4 (.cells #[.int .i64 x, .int .i64 y, .int .i64 z, .string u] 23)
  have bx5 := ((Gr.refl w4).alloc (.cells #[.int .i64 x, .int .i64 y, .int .i64 z, .string u] 23)).heap bx4
  have by5 := ((Gr.refl w4).alloc (.cells #[.int .i64 x, .int .i64 y, .int .i64 z, .string u] 23)).heap by4
  have g5 := g4.alloc (.cells #[.int .i64 x, .int .i64 y, .int .i64 z, .string u] 23)
  go_upto_region 7 with (fail)
  clear bx4 by4 g4
  obtain ⟨p17, h17⟩ : ∃ p17, w4.heap.size = p17 := ⟨_, rfl⟩
  rw [h17] at bz4
  rw [h17]
  generalize w4.alloc (.cells #[.int .i64 x, .int .i64 y, .int .i64 z, .string u] 23) = W5 at *
  clear h17
  obtain ⟨cx, fx, zx⟩ := blk_cells bx5
  obtain ⟨cy, fy, zy⟩ := blk_cells by5
  obtain ⟨cz, fz, zz⟩ := blk_cells bz4
  go_wp2_with fail
  refine (ID.out _).mono ?_
  rintro e w6 ⟨rfl, hg⟩
  have bx6 := hg.heap bx5
  have by6 := hg.heap by5
  have g6 := g5.trans hg
  clear hg bx5 by5 bz4 g5 ID cx fx zx cy fy zy cz fz zz
  go_wp2_with fail
  refine (RI.out _).mono ?_
  rintro e w7 ⟨rfl, hg⟩
  have bx7 := hg.heap bx6
  have by7 := hg.heap by6
  have g7 := g6.trans hg
  clear hg bx6 by6 g6 RI
  cases q
  · obtain rfl : E = 1 := KT.out.2 rfl
    clear KT RB RC
    go_upto_region 13 with (fail)
    obtain ⟨cy, fy, zy⟩ := blk_cells by7
    by_cases hev : ev = 0
    · obtain ⟨rfl, rfl⟩ := KY.out hev
      subst hev
      clear KY
      go_wp2_with fail
      refine (WB.out _ g7).mono ?_
      rintro e w10 ⟨rfl, hg⟩
      have g10 := g7.trans hg
      have hc : (T2 == line.toList) = true := by rw [eqs]; exact beq_iff_eq.2 rfl
      clear hg cy fy zy by7 g7 WB eqs
      go_wp2_with fail
      refine (LE.out _ g10).mono ?_
      rintro e w11 ⟨rfl, hg⟩
      go_wp2
      go_ret
      exact ⟨rfl, g10.trans hg⟩
    · clear KY
      go_wp2_with fail
      refine (LE.out _ g7).mono ?_
      rintro e w11 ⟨rfl, hg⟩
      go_wp2
      go_ret
      exact ⟨rfl, g7.trans hg⟩
  · obtain ⟨rfl, rfl⟩ := KT.out.1 rfl
    clear KT
    have RB2 := Lib.hid (RB.out rfl)
    rw [RC.out rfl] at RB2
    clear RB RC
    go_wp2_with fail
    refine (RB2.out _ g7).mono ?_
    rintro e w8 ⟨rfl, hg⟩
    have bx8 := hg.heap bx7
    have by8 := hg.heap by7
    have g8 := g7.trans hg
    clear hg bx7 by7 g7 RB2
    have bz8 := heap_alloc_self w8 (.cells #[.int .i64 a, .int .i64 b, .int .i64 c, .string t] 23)
    have bx9 := ((Gr.refl w8).alloc (.cells #[.int .i64 a, .int .i64 b, .int .i64 c, .string t] 23)).heap bx8
    have by7 := ((Gr.refl w8).alloc (.cells #[.int .i64 a, .int .i64 b, .int .i64 c, .string t] 23)).heap by8
    have g7 := g8.alloc (.cells #[.int .i64 a, .int .i64 b, .int .i64 c, .string t] 23)
    go_upto_region 11 with (fail)
    obtain ⟨p19, h19⟩ : ∃ p19, w8.heap.size = p19 := ⟨_, rfl⟩
    rw [h19] at bz8
    rw [h19]
    generalize w8.alloc (.cells #[.int .i64 a, .int .i64 b, .int .i64 c, .string t] 23) = W9 at *
    clear h19 bx8 by8 g8
    obtain ⟨cx, fx, zx⟩ := blk_cells bx9
    obtain ⟨cz, fz, zz⟩ := blk_cells bz8
    go_upto_region 13 with (fail)
    clear cx fx zx cz fz zz bx9 bz8
    obtain ⟨cy, fy, zy⟩ := blk_cells by7
    by_cases hev : ev = 0
    · obtain ⟨rfl, rfl⟩ := KY.out hev
      subst hev
      clear KY
      go_wp2_with fail
      refine (WB.out _ g7).mono ?_
      rintro e w10 ⟨rfl, hg⟩
      have g10 := g7.trans hg
      have hc : (T2 == line.toList) = true := by rw [eqs]; exact beq_iff_eq.2 rfl
      clear hg cy fy zy by7 g7 WB eqs
      go_wp2_with fail
      refine (LE.out _ g10).mono ?_
      rintro e w11 ⟨rfl, hg⟩
      go_wp2
      go_ret
      exact ⟨rfl, g10.trans hg⟩
    · clear KY
      go_wp2_with fail
      refine (LE.out _ g7).mono ?_
      rintro e w11 ⟨rfl, hg⟩
      go_wp2
      go_ret
      exact ⟨rfl, g7.trans hg⟩
end Go.Proofs.YthmimjofdmnakaaGreatDoor
