/- The walk of LoftDisk. -/
import Derived.Test.YthmimjofdmnakaaGreatDoorLDLaw
import Derived.Test.YthmimjofdmnakaaGreatDoorSumOk
namespace Go.Proofs.YthmimjofdmnakaaGreatDoor
open Go.RowKit Go.Shelf
theorem zero_op (w : World) (i : Int) : OpAt w (.agg #[.int .u8 0, .int .i64 i, .int .i64 0, .slice none 0 0, .slice none 0 0]) ⟨0, i, 0, [], []⟩ :=
  ⟨⟨_, _, rfl, ⟨none, 0, rfl, fun h => absurd h (Nat.lt_irrefl _)⟩, ⟨none, 0, rfl, fun j hj => absurd hj (Nat.not_lt_zero _)⟩⟩, ⟨by show (0 : Int) ≤ 0; omega, by show (0 : Int) ≤ 255; omega⟩, by show (0 : Int) ≤ _; omega⟩
theorem OpAt.gr {w w' : World} {v : Value} {o : DOp} (h : OpAt w v o) (g : Gr w w') : OpAt w' v o := by
  obtain ⟨xd, xk, h1, ⟨a, c, rfl, h2⟩, ⟨b, d, rfl, h3⟩⟩ := h.s
  refine ⟨⟨_, _, h1, ⟨a, c, rfl, fun hp => ?_⟩, ⟨b, d, rfl, fun j hj => ?_⟩⟩, h.kb, h.nb⟩
  · obtain ⟨g', o', e, hl, hr⟩ := h2 hp
    exact ⟨g', o', e, Nat.lt_of_lt_of_le hl g.b.size, rangeAt_gr hr g⟩
  · obtain ⟨g', o', e, hl, hr⟩ := h3 j hj
    exact ⟨g', o', e, Nat.lt_of_lt_of_le hl g.b.size, (g.cells.1 g' _ hl).trans hr⟩
set_option maxRecDepth 100000 in
set_option maxHeartbeats 16000000 in
theorem LoftDisk_any (sectors : Int) (v : Value) (l : List DOp) (w : World) (hv : OpsAt w v l) (ht : RX.Tables w) (hs1 : -9223372036854775808 ≤ sectors) (hs2 : sectors ≤ 9223372036854775807) :
    Calls Tryz.prog 6 #[.int .i64 sectors, v] w fun e w' => e = .returned (.bool true) ∧ Gr w w' := by
  have LE := Lib.hid (fun w' (g : Gr w w') => lent_g w' (ht.gr g))
  have LI := Lib.hid (little_any v l w hv)
  obtain ⟨a, cap, rfl, hops⟩ := hv.s
  have HOPS := Lib.hid hops
  clear hops hv ht
  cases hq : littleB l with
  | false =>
    rw [hq] at LI
    clear hq
    go_enter Tryz.func6, Tryz.ntmps6
    go_wp2_with fail
    refine LI.out.mono ?_
    rintro e w1 ⟨rfl, rfl⟩
    go_wp2_with fail
    refine (LE.out _ (Gr.refl _)).mono ?_
    rintro e w2 ⟨rfl, g2⟩
    go_wp2
    go_ret
    exact ⟨rfl, g2⟩
  | true =>
  rw [hq] at LI
  have hsm : l.length ≤ 200 ∧ ∀ o ∈ l, o.data.length ≤ 200 ∧ o.keep.length ≤ 200 := by
    unfold littleB at hq
    simp only [Bool.and_eq_true, decide_eq_true_eq] at hq
    refine ⟨hq.2, fun o ho => ?_⟩
    rw [List.take_of_length_le (by omega)] at hq
    have := List.all_eq_true.1 hq.1 o ho
    unfold smallO at this
    simpa using this
  have HSM := Lib.hid hsm.2
  have hl200 := hsm.1
  clear hq hsm
  obtain ⟨u, hu⟩ : ∃ u : Nat, IntKind.u64.wrap sectors = (u : Int) := ⟨(IntKind.u64.wrap sectors).toNat, by
    have : 0 ≤ IntKind.u64.wrap sectors := by
      rw [IntKind.wrap_u64]
      omega
    omega⟩
  have q1 : ((u : Int)).tmod 65 = ((u % 65 : Nat) : Int) := by rw [Int.tmod_eq_emod_of_nonneg (by omega)]; omega
  obtain ⟨r, hr⟩ : ∃ r, u % 65 = r := ⟨_, rfl⟩
  have hr65 : r < 65 := by rw [← hr]; exact Nat.mod_lt _ (by omega)
  rw [hr] at q1
  have q2 : IntKind.u64.wrap (r : Int) = r := IntWalk.u64_in _ (by omega)
  have q3 : IntKind.i64.wrap (r : Int) = r := IntWalk.i64_in _ (by omega)
  have q4 : IntKind.i64.wrap (64 + (r : Int)) = 64 + (r : Int) := IntWalk.i64_in _ (by omega)
  have ND := Lib.hid (fun w => dNewDisk_yes (64 + r) w (by omega) (by omega))
  have NR := Lib.hid (fun w => rNewDisk_yes (64 + r) w (by omega) (by omega))
  have en : ((64 + r : Nat) : Int) = 64 + (r : Int) := by omega
  rw [en] at ND NR
  clear hr
  go_enter Tryz.func6, Tryz.ntmps6
  go_wp2_with fail
  refine LI.out.mono ?_
  rintro e w1 ⟨rfl, hw1⟩
  obtain rfl : w = w1 := hw1.symm
  clear LI
  by_cases ha : sectors < 64
  · have NN := Lib.hid (fun w => NewDisk_no sectors w (by omega))
    go_wp2_with fail
    refine (NN.out _).mono ?_
    rintro e wn ⟨rfl, gn⟩
    clear NN
    go_wp2_with fail
    refine (ND.out _).mono ?_
    rintro e w2 ⟨p, du, nw, rfl, hg, hD, hp1, hp2, hp3⟩
    have G2 := gn.trans hg
    have hb2 : ∀ b ∈ dbs p du nw (.slice none 0 0), w.heap.size ≤ b := fun b hb => by
      have := gn.b.size
      simp only [dbs, List.mem_cons, Option.mem_toList] at hb
      rcases hb with rfl | rfl | rfl | hb
      · omega
      · omega
      · omega
      · cases hb
    clear hg hp1 hp2 hp3 ND
    go_wp2_with fail
    refine (NR.out _).mono ?_
    rintro e w3 ⟨q, dv, rfl, hg, hR, hbR⟩
    have hD3 := hD.gr hg
    have G3 := G2.trans hg
    have hb3 : ∀ b ∈ rbs q dv (.slice none 0 0), w.heap.size ≤ b := fun b hb => by
      have h1 := G2.b.size
      have h2 := hbR b hb
      omega
    have HB0 : Hid (Both w.heap.size w3 p q (64 + r) (Sp.zero (64 + r)) ((0 : Nat) : Int)) := Lib.hid ⟨du, nw, _, dv, _, hD3, hR, hb2, hb3⟩
    have HF0 : Hid (Fine (Sp.zero (64 + r)) (64 + r)) := Lib.hid ⟨Sp.zero_ok _, by show (-1 : Int) ≤ _; omega⟩
    clear hg hD hR hD3 hb2 hb3 hbR G2 NR
    go_upto_region 12 with (fail)
    go_wp2_with fail
    go_loopw [12] (fun x wr => ∃ (i : Nat) (S : Sp), x = .int .i64 i ∧ i ≤ l.length ∧ Gr w wr ∧ Hid (Fine S (64 + r) ∧ S.pend.length ≤ i ∧ Both w.heap.size wr p q (64 + r) S i)) (fun x _ => l.length - (intOf x).toNat)
    case atStart => exact ⟨0, Sp.zero (64 + r), rfl, by omega, G3, Lib.hid ⟨HF0.out, by simp [Sp.zero], HB0.out⟩⟩
    case round =>
      obtain ⟨i, S, rfl, hi, gr, HS⟩ := hrel
      by_cases hil : i < l.length
      · have hil' : (i : Int) < l.length := by omega
        obtain ⟨g, o, xd, xk, rfl, hgl, c0, c1, c2, c3, c4, hop, -, -⟩ := HOPS.out i hil
        have hsz := HSM.out l[i] (List.getElem_mem _)
        have ST := Lib.hid (fun wq (G : Gr w wq) (HB : Both w.heap.size wq p q (64 + r) S i) => lstep_any w wq p q (64 + r) S i l[i] _ G HB HS.out.1 hop hsz.1 hsz.2 (by have := HS.out.2.1; omega) (by omega) (by omega) (by omega) (by omega))
        have d0 := (gr.cells.1 g _ hgl).trans c0
        have d1 := (gr.cells.1 g _ hgl).trans c1
        have d2 := (gr.cells.1 g _ hgl).trans c2
        have d3 := (gr.cells.1 g _ hgl).trans c3
        have d4 := (gr.cells.1 g _ hgl).trans c4
        clear c0 c1 c2 c3 c4 hop hsz
        generalize l[i].k = xk' at *
        generalize l[i].sec = xs' at *
        generalize l[i].n = xn' at *
        go_wp2_with fail
        refine (ST.out _ gr HS.out.2.2).mono ?_
        rintro e w4 ⟨rfl, g4, S', hF', hp', hB'⟩
        have HS' : Hid (Fine S' (64 + r) ∧ S'.pend.length ≤ i + 1 ∧ Both w.heap.size w4 p q (64 + r) S' ((i + 1 : Nat) : Int)) := Lib.hid ⟨hF', by have := HS.out.2.1; omega, by rw [show ((i + 1 : Nat) : Int) = (i : Int) + 1 from by omega]; exact hB'⟩
        clear hF' hp' hB' HS ST d0 d1 d2 d3 d4 gr
        go_wp2
        exact ⟨⟨i+1, S', by simp, by omega, g4, HS'⟩, by simp [intOf]; omega⟩
      · have hil' : ¬ (i : Int) < l.length := by omega
        obtain rfl : i = l.length := by omega
        go_wp2_with fail
        go_loopw [13] (fun x wr => ∃ (j : Nat) (S : Sp), x = .int .i64 j ∧ j ≤ 64 + r ∧ Gr w wr ∧ Hid (Fine S (64 + r) ∧ S.pend.length ≤ l.length + j ∧ Both w.heap.size wr p q (64 + r) S (l.length + j : Nat))) (fun x _ => 64 + r - (intOf x).toNat)
        case atStart => exact ⟨0, S, rfl, by omega, gr, Lib.hid ⟨HS.out.1, HS.out.2.1, HS.out.2.2⟩⟩
        case round =>
          obtain ⟨j, S2, rfl, hj, gr2, HS2⟩ := hrel
          by_cases hjl : j < 64 + r
          · have hjl' : (j : Int) < 64 + (r : Int) := by omega
            have ST := Lib.hid (fun wq (G : Gr w wq) (HB : Both w.heap.size wq p q (64 + r) S2 (l.length + j : Nat)) => lstep_any w wq p q (64 + r) S2 (l.length + j : Nat) ⟨0, j, 0, [], []⟩ _ G HB HS2.out.1 (zero_op w j) (by simp) (by simp) (by have := HS2.out.2.1; omega) (by omega) (by omega) (by omega) (by omega))
            go_wp2_with fail
            refine (ST.out _ gr2 HS2.out.2.2).mono ?_
            rintro e w4 ⟨rfl, g4, S', hF', hp', hB'⟩
            have HS' : Hid (Fine S' (64 + r) ∧ S'.pend.length ≤ l.length + (j + 1) ∧ Both w.heap.size w4 p q (64 + r) S' (l.length + (j + 1) : Nat)) := Lib.hid ⟨hF', by have := HS2.out.2.1; omega, by rw [show ((l.length + (j + 1) : Nat) : Int) = ((l.length + j : Nat) : Int) + 1 from by omega]; exact hB'⟩
            clear hF' hp' hB' HS2 ST gr2
            go_wp2
            exact ⟨⟨j+1, S', by simp, by omega, g4, HS'⟩, by simp [intOf]; omega⟩
          · have hjl' : ¬ (j : Int) < 64 + (r : Int) := by omega
            go_wp2_with fail
            refine (LE.out _ gr2).mono ?_
            rintro e w5 ⟨rfl, g5⟩
            go_wp2
            go_ret
            exact ⟨rfl, gr2.trans g5⟩
  · by_cases hb : 65536 < sectors
    · have NN := Lib.hid (fun w => NewDisk_no sectors w (by omega))
      go_wp2_with fail
      refine (NN.out _).mono ?_
      rintro e wn ⟨rfl, gn⟩
      clear NN
      go_wp2_with fail
      refine (ND.out _).mono ?_
      rintro e w2 ⟨p, du, nw, rfl, hg, hD, hp1, hp2, hp3⟩
      have G2 := gn.trans hg
      have hb2 : ∀ b ∈ dbs p du nw (.slice none 0 0), w.heap.size ≤ b := fun b hb => by
        have := gn.b.size
        simp only [dbs, List.mem_cons, Option.mem_toList] at hb
        rcases hb with rfl | rfl | rfl | hb
        · omega
        · omega
        · omega
        · cases hb
      clear hg hp1 hp2 hp3 ND
      go_wp2_with fail
      refine (NR.out _).mono ?_
      rintro e w3 ⟨q, dv, rfl, hg, hR, hbR⟩
      have hD3 := hD.gr hg
      have G3 := G2.trans hg
      have hb3 : ∀ b ∈ rbs q dv (.slice none 0 0), w.heap.size ≤ b := fun b hb => by
        have h1 := G2.b.size
        have h2 := hbR b hb
        omega
      have HB0 : Hid (Both w.heap.size w3 p q (64 + r) (Sp.zero (64 + r)) ((0 : Nat) : Int)) := Lib.hid ⟨du, nw, _, dv, _, hD3, hR, hb2, hb3⟩
      have HF0 : Hid (Fine (Sp.zero (64 + r)) (64 + r)) := Lib.hid ⟨Sp.zero_ok _, by show (-1 : Int) ≤ _; omega⟩
      clear hg hD hR hD3 hb2 hb3 hbR G2 NR
      go_upto_region 12 with (fail)
      go_wp2_with fail
      go_loopw [12] (fun x wr => ∃ (i : Nat) (S : Sp), x = .int .i64 i ∧ i ≤ l.length ∧ Gr w wr ∧ Hid (Fine S (64 + r) ∧ S.pend.length ≤ i ∧ Both w.heap.size wr p q (64 + r) S i)) (fun x _ => l.length - (intOf x).toNat)
      case atStart => exact ⟨0, Sp.zero (64 + r), rfl, by omega, G3, Lib.hid ⟨HF0.out, by simp [Sp.zero], HB0.out⟩⟩
      case round =>
        obtain ⟨i, S, rfl, hi, gr, HS⟩ := hrel
        by_cases hil : i < l.length
        · have hil' : (i : Int) < l.length := by omega
          obtain ⟨g, o, xd, xk, rfl, hgl, c0, c1, c2, c3, c4, hop, -, -⟩ := HOPS.out i hil
          have hsz := HSM.out l[i] (List.getElem_mem _)
          have ST := Lib.hid (fun wq (G : Gr w wq) (HB : Both w.heap.size wq p q (64 + r) S i) => lstep_any w wq p q (64 + r) S i l[i] _ G HB HS.out.1 hop hsz.1 hsz.2 (by have := HS.out.2.1; omega) (by omega) (by omega) (by omega) (by omega))
          have d0 := (gr.cells.1 g _ hgl).trans c0
          have d1 := (gr.cells.1 g _ hgl).trans c1
          have d2 := (gr.cells.1 g _ hgl).trans c2
          have d3 := (gr.cells.1 g _ hgl).trans c3
          have d4 := (gr.cells.1 g _ hgl).trans c4
          clear c0 c1 c2 c3 c4 hop hsz
          generalize l[i].k = xk' at *
          generalize l[i].sec = xs' at *
          generalize l[i].n = xn' at *
          go_wp2_with fail
          refine (ST.out _ gr HS.out.2.2).mono ?_
          rintro e w4 ⟨rfl, g4, S', hF', hp', hB'⟩
          have HS' : Hid (Fine S' (64 + r) ∧ S'.pend.length ≤ i + 1 ∧ Both w.heap.size w4 p q (64 + r) S' ((i + 1 : Nat) : Int)) := Lib.hid ⟨hF', by have := HS.out.2.1; omega, by rw [show ((i + 1 : Nat) : Int) = (i : Int) + 1 from by omega]; exact hB'⟩
          clear hF' hp' hB' HS ST d0 d1 d2 d3 d4 gr
          go_wp2
          exact ⟨⟨i+1, S', by simp, by omega, g4, HS'⟩, by simp [intOf]; omega⟩
        · have hil' : ¬ (i : Int) < l.length := by omega
          obtain rfl : i = l.length := by omega
          go_wp2_with fail
          go_loopw [13] (fun x wr => ∃ (j : Nat) (S : Sp), x = .int .i64 j ∧ j ≤ 64 + r ∧ Gr w wr ∧ Hid (Fine S (64 + r) ∧ S.pend.length ≤ l.length + j ∧ Both w.heap.size wr p q (64 + r) S (l.length + j : Nat))) (fun x _ => 64 + r - (intOf x).toNat)
          case atStart => exact ⟨0, S, rfl, by omega, gr, Lib.hid ⟨HS.out.1, HS.out.2.1, HS.out.2.2⟩⟩
          case round =>
            obtain ⟨j, S2, rfl, hj, gr2, HS2⟩ := hrel
            by_cases hjl : j < 64 + r
            · have hjl' : (j : Int) < 64 + (r : Int) := by omega
              have ST := Lib.hid (fun wq (G : Gr w wq) (HB : Both w.heap.size wq p q (64 + r) S2 (l.length + j : Nat)) => lstep_any w wq p q (64 + r) S2 (l.length + j : Nat) ⟨0, j, 0, [], []⟩ _ G HB HS2.out.1 (zero_op w j) (by simp) (by simp) (by have := HS2.out.2.1; omega) (by omega) (by omega) (by omega) (by omega))
              go_wp2_with fail
              refine (ST.out _ gr2 HS2.out.2.2).mono ?_
              rintro e w4 ⟨rfl, g4, S', hF', hp', hB'⟩
              have HS' : Hid (Fine S' (64 + r) ∧ S'.pend.length ≤ l.length + (j + 1) ∧ Both w.heap.size w4 p q (64 + r) S' (l.length + (j + 1) : Nat)) := Lib.hid ⟨hF', by have := HS2.out.2.1; omega, by rw [show ((l.length + (j + 1) : Nat) : Int) = ((l.length + j : Nat) : Int) + 1 from by omega]; exact hB'⟩
              clear hF' hp' hB' HS2 ST gr2
              go_wp2
              exact ⟨⟨j+1, S', by simp, by omega, g4, HS'⟩, by simp [intOf]; omega⟩
            · have hjl' : ¬ (j : Int) < 64 + (r : Int) := by omega
              go_wp2_with fail
              refine (LE.out _ gr2).mono ?_
              rintro e w5 ⟨rfl, g5⟩
              go_wp2
              go_ret
              exact ⟨rfl, gr2.trans g5⟩
    · have gn := Gr.refl w
      go_wp2_with fail
      refine (ND.out _).mono ?_
      rintro e w2 ⟨p, du, nw, rfl, hg, hD, hp1, hp2, hp3⟩
      have G2 := gn.trans hg
      have hb2 : ∀ b ∈ dbs p du nw (.slice none 0 0), w.heap.size ≤ b := fun b hb => by
        have := gn.b.size
        simp only [dbs, List.mem_cons, Option.mem_toList] at hb
        rcases hb with rfl | rfl | rfl | hb
        · omega
        · omega
        · omega
        · cases hb
      clear hg hp1 hp2 hp3 ND
      go_wp2_with fail
      refine (NR.out _).mono ?_
      rintro e w3 ⟨q, dv, rfl, hg, hR, hbR⟩
      have hD3 := hD.gr hg
      have G3 := G2.trans hg
      have hb3 : ∀ b ∈ rbs q dv (.slice none 0 0), w.heap.size ≤ b := fun b hb => by
        have h1 := G2.b.size
        have h2 := hbR b hb
        omega
      have HB0 : Hid (Both w.heap.size w3 p q (64 + r) (Sp.zero (64 + r)) ((0 : Nat) : Int)) := Lib.hid ⟨du, nw, _, dv, _, hD3, hR, hb2, hb3⟩
      have HF0 : Hid (Fine (Sp.zero (64 + r)) (64 + r)) := Lib.hid ⟨Sp.zero_ok _, by show (-1 : Int) ≤ _; omega⟩
      clear hg hD hR hD3 hb2 hb3 hbR G2 NR
      go_upto_region 12 with (fail)
      go_wp2_with fail
      go_loopw [12] (fun x wr => ∃ (i : Nat) (S : Sp), x = .int .i64 i ∧ i ≤ l.length ∧ Gr w wr ∧ Hid (Fine S (64 + r) ∧ S.pend.length ≤ i ∧ Both w.heap.size wr p q (64 + r) S i)) (fun x _ => l.length - (intOf x).toNat)
      case atStart => exact ⟨0, Sp.zero (64 + r), rfl, by omega, G3, Lib.hid ⟨HF0.out, by simp [Sp.zero], HB0.out⟩⟩
      case round =>
        obtain ⟨i, S, rfl, hi, gr, HS⟩ := hrel
        by_cases hil : i < l.length
        · have hil' : (i : Int) < l.length := by omega
          obtain ⟨g, o, xd, xk, rfl, hgl, c0, c1, c2, c3, c4, hop, -, -⟩ := HOPS.out i hil
          have hsz := HSM.out l[i] (List.getElem_mem _)
          have ST := Lib.hid (fun wq (G : Gr w wq) (HB : Both w.heap.size wq p q (64 + r) S i) => lstep_any w wq p q (64 + r) S i l[i] _ G HB HS.out.1 hop hsz.1 hsz.2 (by have := HS.out.2.1; omega) (by omega) (by omega) (by omega) (by omega))
          have d0 := (gr.cells.1 g _ hgl).trans c0
          have d1 := (gr.cells.1 g _ hgl).trans c1
          have d2 := (gr.cells.1 g _ hgl).trans c2
          have d3 := (gr.cells.1 g _ hgl).trans c3
          have d4 := (gr.cells.1 g _ hgl).trans c4
          clear c0 c1 c2 c3 c4 hop hsz
          generalize l[i].k = xk' at *
          generalize l[i].sec = xs' at *
          generalize l[i].n = xn' at *
          go_wp2_with fail
          refine (ST.out _ gr HS.out.2.2).mono ?_
          rintro e w4 ⟨rfl, g4, S', hF', hp', hB'⟩
          have HS' : Hid (Fine S' (64 + r) ∧ S'.pend.length ≤ i + 1 ∧ Both w.heap.size w4 p q (64 + r) S' ((i + 1 : Nat) : Int)) := Lib.hid ⟨hF', by have := HS.out.2.1; omega, by rw [show ((i + 1 : Nat) : Int) = (i : Int) + 1 from by omega]; exact hB'⟩
          clear hF' hp' hB' HS ST d0 d1 d2 d3 d4 gr
          go_wp2
          exact ⟨⟨i+1, S', by simp, by omega, g4, HS'⟩, by simp [intOf]; omega⟩
        · have hil' : ¬ (i : Int) < l.length := by omega
          obtain rfl : i = l.length := by omega
          go_wp2_with fail
          go_loopw [13] (fun x wr => ∃ (j : Nat) (S : Sp), x = .int .i64 j ∧ j ≤ 64 + r ∧ Gr w wr ∧ Hid (Fine S (64 + r) ∧ S.pend.length ≤ l.length + j ∧ Both w.heap.size wr p q (64 + r) S (l.length + j : Nat))) (fun x _ => 64 + r - (intOf x).toNat)
          case atStart => exact ⟨0, S, rfl, by omega, gr, Lib.hid ⟨HS.out.1, HS.out.2.1, HS.out.2.2⟩⟩
          case round =>
            obtain ⟨j, S2, rfl, hj, gr2, HS2⟩ := hrel
            by_cases hjl : j < 64 + r
            · have hjl' : (j : Int) < 64 + (r : Int) := by omega
              have ST := Lib.hid (fun wq (G : Gr w wq) (HB : Both w.heap.size wq p q (64 + r) S2 (l.length + j : Nat)) => lstep_any w wq p q (64 + r) S2 (l.length + j : Nat) ⟨0, j, 0, [], []⟩ _ G HB HS2.out.1 (zero_op w j) (by simp) (by simp) (by have := HS2.out.2.1; omega) (by omega) (by omega) (by omega) (by omega))
              go_wp2_with fail
              refine (ST.out _ gr2 HS2.out.2.2).mono ?_
              rintro e w4 ⟨rfl, g4, S', hF', hp', hB'⟩
              have HS' : Hid (Fine S' (64 + r) ∧ S'.pend.length ≤ l.length + (j + 1) ∧ Both w.heap.size w4 p q (64 + r) S' (l.length + (j + 1) : Nat)) := Lib.hid ⟨hF', by have := HS2.out.2.1; omega, by rw [show ((l.length + (j + 1) : Nat) : Int) = ((l.length + j : Nat) : Int) + 1 from by omega]; exact hB'⟩
              clear hF' hp' hB' HS2 ST gr2
              go_wp2
              exact ⟨⟨j+1, S', by simp, by omega, g4, HS'⟩, by simp [intOf]; omega⟩
            · have hjl' : ¬ (j : Int) < 64 + (r : Int) := by omega
              go_wp2_with fail
              refine (LE.out _ gr2).mono ?_
              rintro e w5 ⟨rfl, g5⟩
              go_wp2
              go_ret
              exact ⟨rfl, gr2.trans g5⟩
end Go.Proofs.YthmimjofdmnakaaGreatDoor
