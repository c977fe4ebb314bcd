/- stricklelaw09: step, the other operations. -/
import Derived.Test.YthmimjofdmnakaaGreatDoorLDStep
namespace Go.Proofs.YthmimjofdmnakaaGreatDoor
open Go.RowKit Go.Shelf
theorem dlt {w : World} {p du nw m : Nat} {pv : Value} {S : Sp} {K : Int} (h : DAt w p du nw m pv S K) : ∀ b ∈ dbs p du nw pv, b < w.heap.size := fun b hb => by
  obtain ⟨c, e, hc, _⟩ := h.ty b hb
  exact heap_lt hc
theorem dbs_ge {B p du nw : Nat} {pv pv' : Value} (h : ∀ b ∈ dbs p du nw pv, B ≤ b) (h' : ∀ x, pv'.ownBlock = some x → B ≤ x) : ∀ b ∈ dbs p du nw pv', B ≤ b := fun b hb => by
  simp only [dbs, List.mem_cons, Option.mem_toList] at hb
  rcases hb with rfl | rfl | rfl | hb
  · exact h _ (by simp [dbs])
  · exact h _ (by simp [dbs])
  · exact h _ (by simp [dbs])
  · exact h' b hb
theorem rbs_ge {B q : Nat} {dv pv pv' : Value} (h : ∀ b ∈ rbs q dv pv, B ≤ b) (h' : ∀ x, pv'.ownBlock = some x → B ≤ x) : ∀ b ∈ rbs q dv pv', B ≤ b := fun b hb => by
  simp only [rbs, List.mem_cons, List.mem_append, Option.mem_toList] at hb
  rcases hb with rfl | hb | hb
  · exact h _ (by simp [rbs])
  · exact h b (by simp [rbs, hb])
  · exact h' b hb
set_option maxRecDepth 100000 in
set_option maxHeartbeats 8000000 in
theorem step1 (W0 w : World) (p q m : Nat) (S : Sp) (K : Int) (k sec n : Int) (data : List UInt8) (keep : List Int) (xd xk : Value) (g0 : Gr W0 w) (HB : Both W0.heap.size w p q m S K) (HF : Fine S m) (hxd : ArgBytes W0 xd data) (hxk : ArgInts W0 xk keep) (hdl : data.length ≤ 200) (hkl : keep.length ≤ 200) (hn : S.pend.length ≤ 1000) (hK0 : 0 ≤ K) (hK : K ≤ 1000000) (hm0 : 0 < m) (hm : m ≤ 1000000) (hnb : n ≤ 9223372036854775807) (hr : k.tmod 5 = 1) :
    Calls Tryz.prog 29 #[.pointer (some ⟨p, 0, none⟩), .pointer (some ⟨q, 0, none⟩), .agg #[.int .u8 k, .int .i64 sec, .int .i64 n, xd, xk]] w fun e w' => e = .returned (.bool true) ∧ Gr W0 w' ∧ ∃ S', Fine S' m ∧ S'.pend.length ≤ S.pend.length + 1 ∧ Both W0.heap.size w' p q m S' (K + 1) := by
  obtain ⟨du, nw, pv, dv, rv, hD, hR, hbD, hbR⟩ := HB
  have HFO := Lib.hid HF
  have bx := heap_alloc_self w (.cells #[.int .u8 k, .int .i64 sec, .int .i64 n, xd, xk] 60)
  have g1 : Gr w (w.alloc (.cells #[.int .u8 k, .int .i64 sec, .int .i64 n, xd, xk] 60)) := (Gr.refl w).alloc _
  have hD1 := hD.gr g1
  have hR1 := hR.gr g1
  have G1 := g0.trans g1
  have e1 : k.tmod 5 = 1 := hr
  have hB0 : W0.heap.size ≤ w.heap.size := g0.b.size
  have DR := Lib.hid (fun (h : DAt (w.alloc (.cells #[.int .u8 k, .int .i64 sec, .int .i64 n, xd, xk] 60)) p du nw m pv S K) => dWrite_any p du nw m pv S K sec xd data _ h HFO.out.ok hm hK HFO.out.mx (by omega) (by omega) (hxd.at G1 hbD) W0.heap.size G1.b.size (fun x hx => hbD x (by simp [dbs, hx])))
  have RR := Lib.hid (fun w' (G : Gr W0 w') (h : RAt w' q dv rv S) => rWrite_any q dv rv S m sec data w' h HFO.out.ok HFO.out.mx hm (by omega) (by omega) W0.heap.size G.b.size (fun x hx => hbR x (by simp [rbs, hx])))
  have HFN := Lib.hid (HFO.out.write sec data)
  obtain ⟨⟨E, S2⟩, hEB⟩ : ∃ x, S.write m sec data = x := ⟨_, rfl⟩
  rw [hEB] at DR RR HFN
  dsimp only at DR RR HFN
  obtain ⟨cx, fx, zx⟩ := blk_cells bx
  obtain ⟨xa, xcap, rfl, hxa⟩ := hxd
  have HXA := Lib.hid hxa
  clear hR g1 g0 hEB HF hr hxa
  go_enter Tryz.func29, Tryz.ntmps29
  go_wp2_with fail
  refine (DR.out hD1).mono ?_
  rintro e w2 ⟨rfl, hg, pv', hD2, hpv'⟩
  have bx2 := (hg.block _ (heap_lt bx) (fun hm => by have := dlt hD _ hm; omega)).trans bx
  have hR2 := hR1.grl hg (fun b hb hb' => apart_rd hD1 hR1 b hb' hb)
  have G2 : Gr W0 w2 := GrL.gr G1 hg hbD
  have HbD3 := Lib.hid (dbs_ge hbD hpv')
  clear cx fx zx hg bx hD1 hR1 G1 DR
  obtain ⟨cx, fx, zx⟩ := blk_cells bx2
  have hcv := conv_slice w2 xa data.length xcap data rfl (fun hp => by
    obtain ⟨g, o, rfl, hl, hrg⟩ := HXA.out hp
    refine ⟨g, o, rfl, fun j hj => ?_⟩
    exact rangeAt_gr hrg G2 j _ (by simp [hj]))
  go_wp2_with fail
  refine (RR.out _ G2 hR2).mono ?_
  rintro e w3 ⟨rfl, hg, rv', hR3, hrv'⟩
  have hD3 := hD2.grl hg (apart_rd hD2 hR2)
  have G3 : Gr W0 w3 := GrL.gr G2 hg hbR
  have HbR3 := Lib.hid (rbs_ge hbR hrv')
  clear cx fx zx hg bx2 hD2 hR2 G2 RR
  go_upto_region 18 with (fail)
  obtain ⟨k1, k2, ends, c9, hdd, -⟩ := hD3.d
  have hrd := hR3.d
  have DW := Lib.hid (fun w' h => Down_any p (.slice (some ⟨du, 0, none⟩) m k1) (.slice (some ⟨nw, 0, none⟩) m k2) pv' (.bool ends) (.int .i64 c9) (S2).down w' h)
  have HDD := Lib.hid hdd
  obtain ⟨dn, hdn⟩ : ∃ dn, (S2).down = dn := ⟨_, rfl⟩
  rw [hdn] at DW HDD hrd
  obtain ⟨cq, fq, zq⟩ := blk_cells hrd
  have hHD := Lib.hid hD3
  have hHR := Lib.hid hR3
  clear hdd hD3 hR3
  refine wp_region_steps [.val (.bool true), .val (.bool true), .val (.pointer (some ⟨p, 0, none⟩)), .val (.bool dn), .val (.pointer (some ⟨q, 0, none⟩)), .val (.pointer (some ⟨q, 0, none⟩)), .val (.pointer (some ⟨q, 3, none⟩)), .val (.bool dn), .val (.bool true), .val (.bool true), .val (.bool true)] (by kernel_rfl) (by kernel_rfl) (fun V => by first | (simp only [finS, Step.isLater, Bool.false_eq_true, if_false, Act.put, Step.value, List.setIfInBounds_toArray, List.set_cons_zero, List.set_cons_succ]; rfl) | (simp only [finS, Step.isLater, Bool.false_eq_true, if_false, if_true, Act.put, Step.value, List.setIfInBounds_toArray, List.set_cons_zero, List.set_cons_succ, Nat.zero_add, Nat.reduceAdd]; rfl)) ?_ ?_
  · refine ⟨?_, ?_, ?_, ?_, ?_, ?_, ?_, ?_, ?_, ?_, ?_, trivial⟩ <;> (first | exact trivial | (refine ⟨(by intro v u u1 h g; obtain ⟨b, rfl, h⟩ := h; exact ⟨b, rfl, g.heap h⟩), ?_⟩; intro V u hu hk; refine ⟨by kernel_rfl, ?_⟩; go_simp; exact ⟨⟨_, rfl, heap_alloc_self _ _⟩, (Gr.refl _).alloc _⟩) | (refine ⟨(by intro v u u1 h g; first | exact ownsRow_g h g | exact st_and h g | exact h), ?_⟩; intro V u hu hk; refine ⟨by kernel_rfl, turn_owes (by kernel_rfl) ?_⟩; obtain ⟨hc, hf, hz⟩ := hu.cells; go_simp; skip) | (refine ⟨(by intro v u u1 h g; first | exact ownsRow_g h g | exact st_and h g | exact h), ?_⟩; intro V u hu hk; refine ⟨by kernel_rfl, ?_⟩; obtain ⟨hc, hf, hz⟩ := hu.cells; go_simp; skip) | (intro V u hu hk; refine ⟨by kernel_rfl, ?_⟩; obtain ⟨hc, hf, hz⟩ := hu.cells; go_simp; first | exact ⟨rfl, Gr.refl _⟩ | skip) | (intro V u hu hk; show _ = false; kernel_rfl))
    exact (DW.out _ (hu.heap HDD.out)).mono fun e w' ⟨h, e'⟩ => ⟨h, e' ▸ Gr.refl _⟩
  intro V9 u9 hg9 hs9
  clear hs9 cq fq zq
  go_simp
  go_wp2
  go_ret
  exact ⟨rfl, G3.trans hg9, S2, HFN.out.1, HFN.out.2, du, nw, pv', dv, rv', hHD.out.gr hg9, hHR.out.gr hg9, HbD3.out, HbR3.out⟩
set_option maxRecDepth 100000 in
set_option maxHeartbeats 8000000 in
theorem step2 (W0 w : World) (p q m : Nat) (S : Sp) (K : Int) (k sec n : Int) (data : List UInt8) (keep : List Int) (xd xk : Value) (g0 : Gr W0 w) (HB : Both W0.heap.size w p q m S K) (HF : Fine S m) (hxd : ArgBytes W0 xd data) (hxk : ArgInts W0 xk keep) (hdl : data.length ≤ 200) (hkl : keep.length ≤ 200) (hn : S.pend.length ≤ 1000) (hK0 : 0 ≤ K) (hK : K ≤ 1000000) (hm0 : 0 < m) (hm : m ≤ 1000000) (hnb : n ≤ 9223372036854775807) (hr : k.tmod 5 = 2) :
    Calls Tryz.prog 29 #[.pointer (some ⟨p, 0, none⟩), .pointer (some ⟨q, 0, none⟩), .agg #[.int .u8 k, .int .i64 sec, .int .i64 n, xd, xk]] w fun e w' => e = .returned (.bool true) ∧ Gr W0 w' ∧ ∃ S', Fine S' m ∧ S'.pend.length ≤ S.pend.length + 1 ∧ Both W0.heap.size w' p q m S' (K + 1) := by
  obtain ⟨du, nw, pv, dv, rv, hD, hR, hbD, hbR⟩ := HB
  have HFO := Lib.hid HF
  have bx := heap_alloc_self w (.cells #[.int .u8 k, .int .i64 sec, .int .i64 n, xd, xk] 60)
  have g1 : Gr w (w.alloc (.cells #[.int .u8 k, .int .i64 sec, .int .i64 n, xd, xk] 60)) := (Gr.refl w).alloc _
  have hD1 := hD.gr g1
  have hR1 := hR.gr g1
  have G1 := g0.trans g1
  have e1 : k.tmod 5 = 2 := hr
  have DR := Lib.hid (fun w' (h : DAt w' p du nw m pv S K) => dFlush_any p du nw m pv S K w' h HFO.out.ok hm hm0 hK HFO.out.mx (by omega))
  have RR := Lib.hid (fun w' (h : RAt w' q dv rv S) => rFlush_any q dv rv S m w' h HFO.out.ok HFO.out.mx hm hm0 (by omega))
  have HFN := Lib.hid HFO.out.flush
  obtain ⟨⟨E, S2⟩, hEB⟩ : ∃ x, S.flush = x := ⟨_, rfl⟩
  rw [hEB] at DR RR HFN
  dsimp only at DR RR HFN
  obtain ⟨cx, fx, zx⟩ := blk_cells bx
  clear hR g1 g0 hEB HF hr
  go_enter Tryz.func29, Tryz.ntmps29
  go_wp2_with fail
  refine (DR.out _ hD1).mono ?_
  rintro e w2 ⟨rfl, hg, pv', hD2, hpv'⟩
  have bx2 := (hg.block _ (heap_lt bx) (fun hm => by have := dlt hD _ hm; omega)).trans bx
  have hR2 := hR1.grl hg (fun b hb hb' => apart_rd hD1 hR1 b hb' hb)
  have G2 : Gr W0 w2 := GrL.gr G1 hg hbD
  have HbD3 := Lib.hid (dbs_ge (pv' := pv') hbD (fun x hx => hbD x (by simp [dbs, hpv' x hx])))
  clear cx fx zx hg bx hD1 hR1 G1 DR
  obtain ⟨cx, fx, zx⟩ := blk_cells bx2
  go_wp2_with fail
  refine (RR.out _ hR2).mono ?_
  rintro e w3 ⟨rfl, hg, rv', hR3, hrv'⟩
  have hD3 := hD2.grl hg (apart_rd hD2 hR2)
  have G3 : Gr W0 w3 := GrL.gr G2 hg hbR
  have HbR3 := Lib.hid (rbs_ge (pv' := rv') hbR (fun x hx => hbR x (by simp [rbs, hrv' x hx])))
  clear cx fx zx hg bx2 hD2 hR2 G2 RR
  go_upto_region 18 with (fail)
  obtain ⟨k1, k2, ends, c9, hdd, -⟩ := hD3.d
  have hrd := hR3.d
  have DW := Lib.hid (fun w' h => Down_any p (.slice (some ⟨du, 0, none⟩) m k1) (.slice (some ⟨nw, 0, none⟩) m k2) pv' (.bool ends) (.int .i64 c9) (S2).down w' h)
  have HDD := Lib.hid hdd
  obtain ⟨dn, hdn⟩ : ∃ dn, (S2).down = dn := ⟨_, rfl⟩
  rw [hdn] at DW HDD hrd
  obtain ⟨cq, fq, zq⟩ := blk_cells hrd
  have hHD := Lib.hid hD3
  have hHR := Lib.hid hR3
  clear hdd hD3 hR3
  refine wp_region_steps [.val (.bool true), .val (.bool true), .val (.pointer (some ⟨p, 0, none⟩)), .val (.bool dn), .val (.pointer (some ⟨q, 0, none⟩)), .val (.pointer (some ⟨q, 0, none⟩)), .val (.pointer (some ⟨q, 3, none⟩)), .val (.bool dn), .val (.bool true), .val (.bool true), .val (.bool true)] (by kernel_rfl) (by kernel_rfl) (fun V => by first | (simp only [finS, Step.isLater, Bool.false_eq_true, if_false, Act.put, Step.value, List.setIfInBounds_toArray, List.set_cons_zero, List.set_cons_succ]; rfl) | (simp only [finS, Step.isLater, Bool.false_eq_true, if_false, if_true, Act.put, Step.value, List.setIfInBounds_toArray, List.set_cons_zero, List.set_cons_succ, Nat.zero_add, Nat.reduceAdd]; rfl)) ?_ ?_
  · refine ⟨?_, ?_, ?_, ?_, ?_, ?_, ?_, ?_, ?_, ?_, ?_, trivial⟩ <;> (first | exact trivial | (refine ⟨(by intro v u u1 h g; obtain ⟨b, rfl, h⟩ := h; exact ⟨b, rfl, g.heap h⟩), ?_⟩; intro V u hu hk; refine ⟨by kernel_rfl, ?_⟩; go_simp; exact ⟨⟨_, rfl, heap_alloc_self _ _⟩, (Gr.refl _).alloc _⟩) | (refine ⟨(by intro v u u1 h g; first | exact ownsRow_g h g | exact st_and h g | exact h), ?_⟩; intro V u hu hk; refine ⟨by kernel_rfl, turn_owes (by kernel_rfl) ?_⟩; obtain ⟨hc, hf, hz⟩ := hu.cells; go_simp; skip) | (refine ⟨(by intro v u u1 h g; first | exact ownsRow_g h g | exact st_and h g | exact h), ?_⟩; intro V u hu hk; refine ⟨by kernel_rfl, ?_⟩; obtain ⟨hc, hf, hz⟩ := hu.cells; go_simp; skip) | (intro V u hu hk; refine ⟨by kernel_rfl, ?_⟩; obtain ⟨hc, hf, hz⟩ := hu.cells; go_simp; first | exact ⟨rfl, Gr.refl _⟩ | skip) | (intro V u hu hk; show _ = false; kernel_rfl))
    exact (DW.out _ (hu.heap HDD.out)).mono fun e w' ⟨h, e'⟩ => ⟨h, e' ▸ Gr.refl _⟩
  intro V9 u9 hg9 hs9
  clear hs9 cq fq zq
  go_simp
  go_wp2
  go_ret
  exact ⟨rfl, G3.trans hg9, S2, HFN.out.1, HFN.out.2, du, nw, pv', dv, rv', hHD.out.gr hg9, hHR.out.gr hg9, HbD3.out, HbR3.out⟩
set_option maxRecDepth 100000 in
set_option maxHeartbeats 8000000 in
theorem step3 (W0 w : World) (p q m : Nat) (S : Sp) (K : Int) (k sec n : Int) (data : List UInt8) (keep : List Int) (xd xk : Value) (g0 : Gr W0 w) (HB : Both W0.heap.size w p q m S K) (HF : Fine S m) (hxd : ArgBytes W0 xd data) (hxk : ArgInts W0 xk keep) (hdl : data.length ≤ 200) (hkl : keep.length ≤ 200) (hn : S.pend.length ≤ 1000) (hK0 : 0 ≤ K) (hK : K ≤ 1000000) (hm0 : 0 < m) (hm : m ≤ 1000000) (hnb : n ≤ 9223372036854775807) (hr : k.tmod 5 = 3) :
    Calls Tryz.prog 29 #[.pointer (some ⟨p, 0, none⟩), .pointer (some ⟨q, 0, none⟩), .agg #[.int .u8 k, .int .i64 sec, .int .i64 n, xd, xk]] w fun e w' => e = .returned (.bool true) ∧ Gr W0 w' ∧ ∃ S', Fine S' m ∧ S'.pend.length ≤ S.pend.length + 1 ∧ Both W0.heap.size w' p q m S' (K + 1) := by
  obtain ⟨du, nw, pv, dv, rv, hD, hR, hbD, hbR⟩ := HB
  have HFO := Lib.hid HF
  have bx := heap_alloc_self w (.cells #[.int .u8 k, .int .i64 sec, .int .i64 n, xd, xk] 60)
  have g1 : Gr w (w.alloc (.cells #[.int .u8 k, .int .i64 sec, .int .i64 n, xd, xk] 60)) := (Gr.refl w).alloc _
  have hD1 := hD.gr g1
  have hR1 := hR.gr g1
  have G1 := g0.trans g1
  have e1 : k.tmod 5 = 3 := hr
  have DR := Lib.hid (fun w' (h : DAt w' p du nw m pv S K) => dStop_any p du nw m pv S K n w' h hm hm0)
  have RR := Lib.hid (fun w' (h : RAt w' q dv rv S) => rStop_any q dv rv S n w' h)
  have HFN := Lib.hid (HFO.out.stop hnb)
  obtain ⟨⟨E, S2⟩, hEB⟩ : ∃ x, S.stop n = x := ⟨_, rfl⟩
  rw [hEB] at DR RR HFN
  dsimp only at DR RR HFN
  obtain ⟨cx, fx, zx⟩ := blk_cells bx
  clear hR g1 g0 hEB HF hr
  go_enter Tryz.func29, Tryz.ntmps29
  go_wp2_with fail
  refine (DR.out _ hD1).mono ?_
  rintro e w2 ⟨rfl, hg, hD2⟩
  have bx2 := (hg.block _ (heap_lt bx) (fun hm => by have := dlt hD _ hm; omega)).trans bx
  have hR2 := hR1.grl hg (fun b hb hb' => apart_rd hD1 hR1 b hb' hb)
  have G2 : Gr W0 w2 := GrL.gr G1 hg hbD
  have HbD3 := Lib.hid hbD
  clear cx fx zx hg bx hD1 hR1 G1 DR
  obtain ⟨cx, fx, zx⟩ := blk_cells bx2
  go_wp2_with fail
  refine (RR.out _ hR2).mono ?_
  rintro e w3 ⟨rfl, hg', hR3⟩
  have hg := hg'.mono (m := rbs q dv rv) (by simp [rbs])
  clear hg'
  have hD3 := hD2.grl hg (apart_rd hD2 hR2)
  have G3 : Gr W0 w3 := GrL.gr G2 hg hbR
  have HbR3 := Lib.hid hbR
  clear cx fx zx hg bx2 hD2 hR2 G2 RR
  replace hD3 := hD3.mono (show K ≤ K + 1 by omega)
  go_upto_region 18 with (fail)
  obtain ⟨k1, k2, ends, c9, hdd, -⟩ := hD3.d
  have hrd := hR3.d
  have DW := Lib.hid (fun w' h => Down_any p (.slice (some ⟨du, 0, none⟩) m k1) (.slice (some ⟨nw, 0, none⟩) m k2) pv (.bool ends) (.int .i64 c9) (S2).down w' h)
  have HDD := Lib.hid hdd
  obtain ⟨dn, hdn⟩ : ∃ dn, (S2).down = dn := ⟨_, rfl⟩
  rw [hdn] at DW HDD hrd
  obtain ⟨cq, fq, zq⟩ := blk_cells hrd
  have hHD := Lib.hid hD3
  have hHR := Lib.hid hR3
  clear hdd hD3 hR3
  refine wp_region_steps [.val (.bool true), .val (.bool true), .val (.pointer (some ⟨p, 0, none⟩)), .val (.bool dn), .val (.pointer (some ⟨q, 0, none⟩)), .val (.pointer (some ⟨q, 0, none⟩)), .val (.pointer (some ⟨q, 3, none⟩)), .val (.bool dn), .val (.bool true), .val (.bool true), .val (.bool true)] (by kernel_rfl) (by kernel_rfl) (fun V => by first | (simp only [finS, Step.isLater, Bool.false_eq_true, if_false, Act.put, Step.value, List.setIfInBounds_toArray, List.set_cons_zero, List.set_cons_succ]; rfl) | (simp only [finS, Step.isLater, Bool.false_eq_true, if_false, if_true, Act.put, Step.value, List.setIfInBounds_toArray, List.set_cons_zero, List.set_cons_succ, Nat.zero_add, Nat.reduceAdd]; rfl)) ?_ ?_
  · refine ⟨?_, ?_, ?_, ?_, ?_, ?_, ?_, ?_, ?_, ?_, ?_, trivial⟩ <;> (first | exact trivial | (refine ⟨(by intro v u u1 h g; obtain ⟨b, rfl, h⟩ := h; exact ⟨b, rfl, g.heap h⟩), ?_⟩; intro V u hu hk; refine ⟨by kernel_rfl, ?_⟩; go_simp; exact ⟨⟨_, rfl, heap_alloc_self _ _⟩, (Gr.refl _).alloc _⟩) | (refine ⟨(by intro v u u1 h g; first | exact ownsRow_g h g | exact st_and h g | exact h), ?_⟩; intro V u hu hk; refine ⟨by kernel_rfl, turn_owes (by kernel_rfl) ?_⟩; obtain ⟨hc, hf, hz⟩ := hu.cells; go_simp; skip) | (refine ⟨(by intro v u u1 h g; first | exact ownsRow_g h g | exact st_and h g | exact h), ?_⟩; intro V u hu hk; refine ⟨by kernel_rfl, ?_⟩; obtain ⟨hc, hf, hz⟩ := hu.cells; go_simp; skip) | (intro V u hu hk; refine ⟨by kernel_rfl, ?_⟩; obtain ⟨hc, hf, hz⟩ := hu.cells; go_simp; first | exact ⟨rfl, Gr.refl _⟩ | skip) | (intro V u hu hk; show _ = false; kernel_rfl))
    exact (DW.out _ (hu.heap HDD.out)).mono fun e w' ⟨h, e'⟩ => ⟨h, e' ▸ Gr.refl _⟩
  intro V9 u9 hg9 hs9
  clear hs9 cq fq zq
  go_simp
  go_wp2
  go_ret
  exact ⟨rfl, G3.trans hg9, S2, HFN.out.1, HFN.out.2, du, nw, pv, dv, rv, hHD.out.gr hg9, hHR.out.gr hg9, HbD3.out, HbR3.out⟩
set_option maxRecDepth 100000 in
set_option maxHeartbeats 8000000 in
theorem step4 (W0 w : World) (p q m : Nat) (S : Sp) (K : Int) (k sec n : Int) (data : List UInt8) (keep : List Int) (xd xk : Value) (g0 : Gr W0 w) (HB : Both W0.heap.size w p q m S K) (HF : Fine S m) (hxd : ArgBytes W0 xd data) (hxk : ArgInts W0 xk keep) (hdl : data.length ≤ 200) (hkl : keep.length ≤ 200) (hn : S.pend.length ≤ 1000) (hK0 : 0 ≤ K) (hK : K ≤ 1000000) (hm0 : 0 < m) (hm : m ≤ 1000000) (hnb : n ≤ 9223372036854775807) (hr : k.tmod 5 = 4) :
    Calls Tryz.prog 29 #[.pointer (some ⟨p, 0, none⟩), .pointer (some ⟨q, 0, none⟩), .agg #[.int .u8 k, .int .i64 sec, .int .i64 n, xd, xk]] w fun e w' => e = .returned (.bool true) ∧ Gr W0 w' ∧ ∃ S', Fine S' m ∧ S'.pend.length ≤ S.pend.length + 1 ∧ Both W0.heap.size w' p q m S' (K + 1) := by
  obtain ⟨du, nw, pv, dv, rv, hD, hR, hbD, hbR⟩ := HB
  have HFO := Lib.hid HF
  have bx := heap_alloc_self w (.cells #[.int .u8 k, .int .i64 sec, .int .i64 n, xd, xk] 60)
  have g1 : Gr w (w.alloc (.cells #[.int .u8 k, .int .i64 sec, .int .i64 n, xd, xk] 60)) := (Gr.refl w).alloc _
  have hD1 := hD.gr g1
  have hR1 := hR.gr g1
  have G1 := g0.trans g1
  have e1 : k.tmod 5 = 4 := hr
  have DR := Lib.hid (fun (h : DAt (w.alloc (.cells #[.int .u8 k, .int .i64 sec, .int .i64 n, xd, xk] 60)) p du nw m pv S K) => dCrash_any p du nw m pv S K xk keep _ h HFO.out.ok hm (by omega) (hxk.at G1 hbD) (by omega) hK0)
  have RR := Lib.hid (fun w' (G : Gr W0 w') (h : RAt w' q dv rv S) => rCrash_any q dv rv S m xk keep w' h HFO.out.ok hm hm0 (by omega) (hxk.at G hbR) (by omega))
  have HFN := Lib.hid (HFO.out.crash keep)
  obtain ⟨S2, hEB⟩ : ∃ x, S.crash keep = x := ⟨_, rfl⟩
  rw [hEB] at DR RR HFN
  have hB0 : W0.heap.size ≤ (w.alloc (.cells #[.int .u8 k, .int .i64 sec, .int .i64 n, xd, xk] 60)).heap.size := G1.b.size
  obtain ⟨cx, fx, zx⟩ := blk_cells bx
  obtain ⟨xa, xcap, hxe, -⟩ := hxk
  subst hxe
  clear hR g1 g0 hEB HF hr
  go_enter Tryz.func29, Tryz.ntmps29
  go_wp2_with fail
  refine (DR.out hD1).mono ?_
  rintro e w2 ⟨nw', rfl, hg, hD2, hnw'⟩
  have bx2 := (hg.block _ (heap_lt bx) (fun hm => by have := dlt hD _ hm; omega)).trans bx
  have hR2 := hR1.grl hg (fun b hb hb' => apart_rd hD1 hR1 b hb' hb)
  have G2 : Gr W0 w2 := GrL.gr G1 hg hbD
  have HbD3 := Lib.hid (show ∀ b ∈ dbs p du nw' (.slice none 0 0), W0.heap.size ≤ b from fun b hb => by
    simp only [dbs, List.mem_cons, Option.mem_toList] at hb
    rcases hb with rfl | rfl | rfl | hb
    · exact hbD _ (by simp [dbs])
    · exact hbD _ (by simp [dbs])
    · omega
    · cases hb)
  clear cx fx zx hg bx hD1 hR1 G1 DR
  obtain ⟨cx, fx, zx⟩ := blk_cells bx2
  go_wp2_with fail
  refine (RR.out _ G2 hR2).mono ?_
  rintro e w3 ⟨rfl, hg, hR3⟩
  have hD3 := hD2.grl hg (apart_rd hD2 hR2)
  have G3 : Gr W0 w3 := GrL.gr G2 hg hbR
  have HbR3 := Lib.hid (rbs_ge (pv' := .slice none 0 0) hbR (fun x hx => by cases hx))
  clear cx fx zx hg bx2 hD2 hR2 G2 RR
  replace hD3 := hD3.mono (show K ≤ K + 1 by omega)
  go_upto_region 18 with (fail)
  obtain ⟨k1, k2, ends, c9, hdd, -⟩ := hD3.d
  have hrd := hR3.d
  have DW := Lib.hid (fun w' h => Down_any p (.slice (some ⟨du, 0, none⟩) m k1) (.slice (some ⟨nw', 0, none⟩) m k2) (.slice none 0 0) (.bool ends) (.int .i64 c9) (S2).down w' h)
  have HDD := Lib.hid hdd
  obtain ⟨dn, hdn⟩ : ∃ dn, (S2).down = dn := ⟨_, rfl⟩
  rw [hdn] at DW HDD hrd
  obtain ⟨cq, fq, zq⟩ := blk_cells hrd
  have hHD := Lib.hid hD3
  have hHR := Lib.hid hR3
  clear hdd hD3 hR3
  refine wp_region_steps [.val (.bool true), .val (.bool true), .val (.pointer (some ⟨p, 0, none⟩)), .val (.bool dn), .val (.pointer (some ⟨q, 0, none⟩)), .val (.pointer (some ⟨q, 0, none⟩)), .val (.pointer (some ⟨q, 3, none⟩)), .val (.bool dn), .val (.bool true), .val (.bool true), .val (.bool true)] (by kernel_rfl) (by kernel_rfl) (fun V => by first | (simp only [finS, Step.isLater, Bool.false_eq_true, if_false, Act.put, Step.value, List.setIfInBounds_toArray, List.set_cons_zero, List.set_cons_succ]; rfl) | (simp only [finS, Step.isLater, Bool.false_eq_true, if_false, if_true, Act.put, Step.value, List.setIfInBounds_toArray, List.set_cons_zero, List.set_cons_succ, Nat.zero_add, Nat.reduceAdd]; rfl)) ?_ ?_
  · refine ⟨?_, ?_, ?_, ?_, ?_, ?_, ?_, ?_, ?_, ?_, ?_, trivial⟩ <;> (first | exact trivial | (refine ⟨(by intro v u u1 h g; obtain ⟨b, rfl, h⟩ := h; exact ⟨b, rfl, g.heap h⟩), ?_⟩; intro V u hu hk; refine ⟨by kernel_rfl, ?_⟩; go_simp; exact ⟨⟨_, rfl, heap_alloc_self _ _⟩, (Gr.refl _).alloc _⟩) | (refine ⟨(by intro v u u1 h g; first | exact ownsRow_g h g | exact st_and h g | exact h), ?_⟩; intro V u hu hk; refine ⟨by kernel_rfl, turn_owes (by kernel_rfl) ?_⟩; obtain ⟨hc, hf, hz⟩ := hu.cells; go_simp; skip) | (refine ⟨(by intro v u u1 h g; first | exact ownsRow_g h g | exact st_and h g | exact h), ?_⟩; intro V u hu hk; refine ⟨by kernel_rfl, ?_⟩; obtain ⟨hc, hf, hz⟩ := hu.cells; go_simp; skip) | (intro V u hu hk; refine ⟨by kernel_rfl, ?_⟩; obtain ⟨hc, hf, hz⟩ := hu.cells; go_simp; first | exact ⟨rfl, Gr.refl _⟩ | skip) | (intro V u hu hk; show _ = false; kernel_rfl))
    exact (DW.out _ (hu.heap HDD.out)).mono fun e w' ⟨h, e'⟩ => ⟨h, e' ▸ Gr.refl _⟩
  intro V9 u9 hg9 hs9
  clear hs9 cq fq zq
  go_simp
  go_wp2
  go_ret
  exact ⟨rfl, G3.trans hg9, S2, HFN.out.1, HFN.out.2, du, nw', (.slice none 0 0), dv, (.slice none 0 0), hHD.out.gr hg9, hHR.out.gr hg9, HbD3.out, HbR3.out⟩
end Go.Proofs.YthmimjofdmnakaaGreatDoor
