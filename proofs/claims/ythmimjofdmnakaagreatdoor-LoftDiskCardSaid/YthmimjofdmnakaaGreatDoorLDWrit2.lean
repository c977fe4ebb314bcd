/- loft/disk.go: Write, all cases. -/
import Derived.Test.YthmimjofdmnakaaGreatDoorLDWrite
namespace Go.Proofs.YthmimjofdmnakaaGreatDoor
open Go.RowKit Go.Shelf
theorem upE_V (d : Bool) (i n : Int) : upE d i n = upV d i n := rfl
/-- the power fails -/
theorem DAt.fails {w w' : World} {p du nw m : Nat} {pv : Value} {S : Sp} {K : Int} (h : DAt w p du nw m pv S K) (g : GrL [p] w w') {k1 k2 : Nat} {c : Int} (hl : S.left = 0) (hd : w'.heap[p]? = some (.cells #[.slice (some ⟨du, 0, none⟩) m k1, .slice (some ⟨nw, 0, none⟩) m k2, pv, .bool true, .bool true, .int .i64 c] 132 (0, 0))) (hc : c = 0) : DAt w' p du nw m pv S.call K := by
  have eC : S.call = { S with down := true } := by unfold Sp.call; rw [if_pos hl]
  rw [eC]
  obtain ⟨X, hX⟩ := h.n
  refine ⟨⟨k1, k2, true, c, hd, .inl ⟨rfl, by rw [hc]; exact hl.symm, by show 0 ≤ S.left; omega⟩⟩, (g.block du (heap_lt h.u) (by simpa using Ne.symm h.pu)).trans h.u, ⟨X, (g.block nw (heap_lt hX) (by simpa using Ne.symm h.pn)).trans hX⟩, ownsRow_gr h.q g (fun i hi => by simpa using (h.po i hi).1), h.un⟩
set_option maxRecDepth 100000 in
set_option maxHeartbeats 4000000 in
theorem dWrite_any (p du nw m : Nat) (pv : Value) (S : Sp) (K i : Int) (bv : Value) (b : List UInt8) (w : World) (h : DAt w p du nw m pv S K) (ok : S.Ok m) (hm : m ≤ 1000000) (hK : K ≤ 1000000) (hmx : S.left ≤ 9223372036854775807) (hb : b.length ≤ 1000000) (hn : S.pend.length ≤ 1000000) (hx : BytesAt w bv b (dbs p du nw pv)) (B0 : Nat) (hBw : B0 ≤ w.heap.size) (hB : ∀ x, pv.ownBlock = some x → B0 ≤ x) :
    Calls Tryz.prog 31 #[.pointer (some ⟨p, 0, none⟩), .int .i64 i, bv] w fun e w' => e = .returned (.int .i64 (S.write m i b).1) ∧ GrL (dbs p du nw pv) w w' ∧ ∃ pv', DAt w' p du nw m pv' (S.write m i b).2 (K + 1) ∧ ∀ x, pv'.ownBlock = some x → B0 ≤ x := by
  obtain ⟨k1, k2, ends, c, hd, hc⟩ := h.d
  have HUP := Lib.hid (fun w h => up_any p (.slice (some ⟨du, 0, none⟩) m k1) pv (.bool ends) (.int .i64 c) (some ⟨nw, 0, none⟩) m k2 S.down i w h hm)
  rw [upE_V] at HUP
  have HH := Lib.hid (h.mono (show K ≤ K + 1 by omega))
  have HX := Lib.hid hx
  obtain ⟨a, cap, rfl, -⟩ := hx.s
  by_cases hup : upV S.down i m ≠ 0
  · have e1 : S.write m i b = (upV S.down i m, S) := by unfold Sp.write; rw [if_pos hup]
    have hup' : (upV S.down i m == 0) = false := by simpa using hup
    rw [e1]
    clear h hc ok e1 hx hmx hup
    generalize upV S.down i m = U at *
    go_enter Tryz.func31, Tryz.ntmps31
    go_wp2_with fail
    refine (HUP.out _ hd).mono ?_
    rintro e w1 ⟨rfl, g1⟩
    go_wp2
    go_ret
    exact ⟨rfl, GrL.of_gr g1, pv, HH.out.gr g1, hB⟩
  replace hup : upV S.down i m = 0 := Classical.not_not.1 hup
  rw [hup] at HUP
  obtain ⟨hdn, hi0, hi1⟩ := upV_0 hup
  obtain ⟨k, rfl⟩ : ∃ k : Nat, i = k := ⟨i.toNat, by omega⟩
  by_cases hbl : 64 < b.length
  · have e1 : S.write m k b = (2, S) := by unfold Sp.write; rw [if_neg (by simp [hup]), if_pos hbl]
    have hbl' : (64 : Int) < b.length := by omega
    rw [e1]
    clear h hc ok e1 hx hmx hup hbl
    go_enter Tryz.func31, Tryz.ntmps31
    go_wp2_with fail
    refine (HUP.out _ hd).mono ?_
    rintro e w1 ⟨rfl, g1⟩
    go_wp2
    go_ret
    exact ⟨rfl, GrL.of_gr g1, pv, HH.out.gr g1, hB⟩
  by_cases hl0 : S.left = 0
  · have e1 : S.write m k b = (90, S.call) := by unfold Sp.write; rw [if_neg (by simp [hup]), if_neg hbl, if_pos hl0]
    have hbl' : ¬ (64 : Int) < b.length := by omega
    have ec : ends = true ∧ c = 0 := by
      rcases hc with ⟨h1, h2, _⟩ | ⟨_, h2, _⟩
      · exact ⟨h1, by omega⟩
      · omega
    obtain ⟨rfl, rfl⟩ := ec
    rw [e1]
    have HL := Lib.hid hl0
    rw [hdn] at hd
    have PW := Lib.hid (fun w h => power_any p (.slice (some ⟨du, 0, none⟩) m k1) (.slice (some ⟨nw, 0, none⟩) m k2) pv true false 0 w h (by omega) (by omega))
    simp only [decide_true, Bool.and_self, if_true, Bool.not_true] at PW
    have HD := Lib.hid hd
    rw [hdn] at HUP
    clear h hc ok e1 hx hmx hup hbl hl0
    go_enter Tryz.func31, Tryz.ntmps31
    go_wp2_with fail
    refine (HUP.out _ hd).mono ?_
    rintro e w1 ⟨rfl, g1⟩
    go_wp2_with fail
    refine (PW.out w1 (g1.heap HD.out)).mono ?_
    rintro e w2 ⟨rfl, g2, hd2⟩
    go_wp2
    go_ret
    exact ⟨rfl, (GrL.of_gr g1).trans (g2.mono (by simp [dbs])), pv, DAt.fails (HH.out.gr g1) g2 HL.out hd2 rfl, hB⟩
  · have e1 : S.write m k b = (0, { S.call with pend := S.pend ++ [(k, padB b)] }) := by unfold Sp.write; rw [if_neg (by simp [hup]), if_neg hbl, if_neg hl0]; rfl
    rw [e1]
    exact dWrite_in p du nw m k pv S K _ b w h ok hm hK hmx (by omega) (by omega) hn hdn hl0 HX.out B0 hBw hB
end Go.Proofs.YthmimjofdmnakaaGreatDoor
