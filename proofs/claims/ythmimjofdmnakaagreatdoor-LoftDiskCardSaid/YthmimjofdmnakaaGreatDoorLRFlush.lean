/- strickleref09: the definition's disk: Flush. -/
import Derived.Test.YthmimjofdmnakaaGreatDoorLRDisk
namespace Go.Proofs.YthmimjofdmnakaaGreatDoor
open Go.RowKit Go.Shelf
theorem rfl_nil (w : World) : w.ownsRow 0 237 2 (.slice none 0 0) ([] : List (Nat × List UInt8)).length (([] : List (Nat × List UInt8)).flatMap putV) := World.ownsRow_nil _ _ _ _
set_option maxRecDepth 100000 in
set_option maxHeartbeats 4000000 in
theorem rFlush_in (q : Nat) (dv pv : Value) (S : Sp) (m : Nat) (w : World) (h : RAt w q dv pv S) (ok : S.Ok m) (hmx : S.left ≤ 9223372036854775807) (hm : m ≤ 1000000) (hm0 : 0 < m) (hn : S.pend.length ≤ 1000000) (hd0 : S.down = false) (hl0 : S.left ≠ 0) :
    Calls Tryz.prog 80 #[.pointer (some ⟨q, 0, none⟩)] w fun e w' => e = .returned (.int .i64 0) ∧ GrL (rbs q dv pv) w w' ∧ RAt w' q dv (.slice none 0 0) { S.call with dur := S.now, pend := [] } := by
  have a1 := h.du
  have a2 := h.pu
  have a3 := h.dp
  obtain ⟨dur, pend, left, down⟩ := S
  obtain ⟨hd, hu, hp⟩ := h
  dsimp only at *
  subst hd0
  have hml : dur.length = m := ok.n
  have hl1 : -1 ≤ left := ok.l
  have hpm : ∀ x ∈ pend, x.1 < m := fun x hx => (ok.p x hx).1
  obtain ⟨ad, cd, rfl, -, -, hU⟩ := owns_form hu
  obtain ⟨gd, rfl, -⟩ := hU 0 (by omega)
  have fp := owns_form hp
  obtain ⟨ap, cp, rfl, -, -, -⟩ := fp
  rw [hml] at hd hu a1 a3 ⊢
  have CA := Lib.hid (fun w h => call_any q (.slice (some ⟨gd, 0, none⟩) m cd) (.slice ap pend.length cp) left false w h hl1 hmx)
  have e9 : (decide (left = 0)) = false := by simpa using hl0
  rw [e9] at CA
  rw [if_neg hl0, if_neg hl0] at CA
  have eC : (Sp.call ⟨dur, pend, left, false⟩) = ⟨dur, pend, if 0 < left then left - 1 else left, false⟩ := by unfold Sp.call; rw [if_neg hl0]
  have eN : Sp.now ⟨dur, pend, left, false⟩ = setAll dur (pend.take pend.length) := by unfold Sp.now; rw [List.take_length]
  rw [eC, eN]
  dsimp only
  generalize (if 0 < left then left - 1 else left) = left' at *
  have hgq : gd ≠ q := a1 gd rfl
  have hgp : ∀ g, ap = some ⟨g, 0, none⟩ → gd ≠ g := fun g hg => a3 gd rfl g (by rw [hg]; rfl)
  have hgpq : ∀ g, ap = some ⟨g, 0, none⟩ → g ≠ q := fun g hg => a2 g (by rw [hg]; rfl)
  have hown0 : ∀ i, i ∈ [gd] → i ∈ rbs q (.slice (some ⟨gd, 0, none⟩) m cd) (.slice ap pend.length cp) := fun i hi => by
    simp only [List.mem_singleton] at hi
    subst hi
    simp [rbs, Value.ownBlock]
  have HB := Lib.hid hown0
  have HPM := Lib.hid hpm
  have HGP := Lib.hid hgp
  have HGQ := Lib.hid hgpq
  obtain ⟨cx, fx, zx⟩ := blk_cells hd
  clear e9 eC eN ok hl1 hmx hU hpm hgp hgpq hown0
  go_enter Tryz.func80, Tryz.ntmps80
  go_wp2_with fail
  refine (CA.out _ hd).mono ?_
  rintro e w1 ⟨rfl, g1, hd1⟩
  have hu1 := ownsRow_gr hu g1 (fun i hi => by simpa using a1 i hi)
  have hp1 := ownsRow_gr hp g1 (fun i hi => by simpa using a2 i hi)
  have G1 : GrL (rbs q (.slice (some ⟨gd, 0, none⟩) m cd) (.slice ap pend.length cp)) w w1 := g1.mono (by simp [rbs])
  have hql := heap_lt hd1
  clear cx fx zx hd hu hp g1 CA a1 a2 a3
  go_wp2_with fail
  go_loopw [3] (fun p wr => ∃ j : Nat, p = .int .i64 j ∧ j ≤ pend.length ∧ GrL [gd] w1 wr ∧ Hid (wr.ownsRow 0 9 1 (.slice (some ⟨gd, 0, none⟩) m cd) m ((setAll dur (pend.take j)).map sb))) (fun p _ => pend.length - (intOf p).toNat)
  case atStart => exact ⟨0, rfl, by omega, GrL.of_gr (Gr.refl _), Lib.hid (by simpa [setAll] using hu1)⟩
  case round =>
    obtain ⟨j, rfl, hj, gr, HU⟩ := hrel
    have hdr : wr.heap[q]? = some _ := (gr.block q hql (by simpa using Ne.symm hgq)).trans hd1
    obtain ⟨cx, fx, zx⟩ := blk_cells hdr
    by_cases hjl : j < pend.length
    · have hjl' : (j : Int) < pend.length := by omega
      have hpr := ownsRow_gr hp1 gr (fun i hi => by
        cases ap with
        | none => cases hi
        | some a =>
          obtain ⟨_, _, he, -, -, hf⟩ := owns_form hp1
          obtain ⟨g, hg, -⟩ := hf j hjl
          simp only [Value.slice.injEq] at he
          rw [← he.1] at hg
          have := HGP.out g hg
          obtain rfl := Option.some.inj hg
          obtain rfl := Option.some.inj hi
          simpa using Ne.symm this)
      obtain ⟨_, _, he, -, -, hf⟩ := owns_form hpr
      simp only [Value.slice.injEq, true_and] at he
      obtain ⟨rfl, rfl⟩ := he
      obtain ⟨gp, rfl, hpl, -, hPc, -⟩ := hf j hjl
      have hp0 := hPc (j * 2) (by omega)
      have hp1' := hPc (j * 2 + 1) (by omega)
      obtain ⟨q0, q1⟩ := flat2 put_len pend j hjl
      rw [q0] at hp0
      rw [q1] at hp1'
      have hxm := HPM.out pend[j] (List.getElem_mem _)
      have HT := Lib.hid (show setAll dur (pend.take (j + 1)) = (setAll dur (pend.take j)).set pend[j].1 pend[j].2 by rw [List.take_succ_eq_append_getElem hjl, setAll_snoc])
      obtain ⟨x, hx⟩ : ∃ x, pend[j] = x := ⟨_, rfl⟩
      obtain ⟨xa, xb⟩ := x
      rw [hx] at hp0 hp1' hxm HT
      simp only [putV, List.getElem?_cons_zero, List.getElem?_cons_succ] at hp0 hp1'
      dsimp only at hxm HT
      have hxm' : (xa : Int) < m := by omega
      clear hx q0 q1 hPc hf hpr
      go_upto_region 6 with (fail)
      refine wp_region_stepsL [21] [.val (.pointer (some ⟨q, 0, none⟩)), .val (.pointer (some ⟨q, 0, none⟩)), .val (.pointer (some ⟨q, 0, none⟩)), .val (.slice (some ⟨gd, 0, none⟩) m cd), .val (.pointer (some ⟨q, 0, none⟩)), .val (.pointer (some ⟨q, 0, none⟩)), .val (.pointer (some ⟨q, 1, none⟩)), .val (.slice (some ⟨gp, 0, none⟩) pend.length cp), .val (.int .i64 j), .val (.pointer (some ⟨gp, j * 2, none⟩)), .val (.pointer (some ⟨gp, j * 2, none⟩)), .val (.int .i64 xa),
        .val (.pointer (some ⟨q, 0, none⟩)), .val (.pointer (some ⟨q, 0, none⟩)), .val (.pointer (some ⟨q, 1, none⟩)), .val (.slice (some ⟨gp, 0, none⟩) pend.length cp), .val (.int .i64 j), .val (.pointer (some ⟨gp, j * 2, none⟩)), .val (.pointer (some ⟨gp, j * 2 + 1, none⟩)), .val (sb xb), .val (.pointer (some ⟨gd, xa, none⟩)), .later] (by kernel_rfl) (by kernel_rfl) (fun V => by first | (simp only [finS, Step.isLater, Bool.false_eq_true, if_false, if_true, Act.put, Step.value, List.setIfInBounds_toArray, List.set_cons_zero, List.set_cons_succ]; rfl) | (simp only [finS, Step.isLater, Bool.false_eq_true, if_false, if_true, Act.put, Step.value, List.setIfInBounds_toArray, List.set_cons_zero, List.set_cons_succ, Nat.zero_add, Nat.reduceAdd]; rfl)) ?_ ?_
      · refine ⟨?_, ?_, ?_, ?_, ?_, ?_, ?_, ?_, ?_, ?_, ?_, ?_, ?_, ?_, ?_, ?_, ?_, ?_, ?_, ?_, ?_, ?_, trivial⟩ <;> (first | exact trivial | (refine ⟨(by intro v u u1 h g; obtain ⟨b, rfl, h⟩ := h; exact ⟨b, rfl, g.heap h⟩), ?_⟩; intro V u hu hk; refine ⟨by kernel_rfl, ?_⟩; go_simp; exact ⟨⟨_, rfl, heap_alloc_self _ _⟩, (Gr.refl _).alloc _⟩) | (refine ⟨(by intro v u u1 h g; first | exact ownsRow_g h g | exact st_and h g | exact h), ?_⟩; intro V u hu hk; refine ⟨by kernel_rfl, turn_owes (by kernel_rfl) ?_⟩; obtain ⟨hc, hf, hz⟩ := hu.cells; go_simp; skip) | (refine ⟨(by intro v u u1 h g; first | exact ownsRow_g h g | exact st_and h g | exact h), ?_⟩; intro V u hu hk; refine ⟨by kernel_rfl, ?_⟩; obtain ⟨hc, hf, hz⟩ := hu.cells; go_simp; skip) | (intro V u hu hk; refine ⟨by kernel_rfl, ?_⟩; obtain ⟨hc, hf, hz⟩ := hu.cells; go_simp; first | exact ⟨rfl, Gr.refl _⟩ | skip) | (intro V u hu hk; show _ = false; kernel_rfl))
      intro V u hg hs
      clear hs
      have hU := ownsRow_g HU.out hg
      have hUl : (setAll dur (pend.take j)).length = m := by rw [setAll_len]; exact hml
      have cg : u.cell? ⟨gd, xa, none⟩ = some (sb ((setAll dur (pend.take j)).getD xa [])) := by
        rw [World.ownsRow.cellAt hU xa (by omega), List.getElem?_map, List.getD_eq_getElem?_getD, List.getElem?_eq_getElem (by omega)]; rfl
      have fg : u.frozen? ⟨gd, xa, none⟩ = false := World.ownsRow.frozenAt hU xa
      have hU2 := (World.ownsRow.stored hU xa (sb xb)).1
      rw [← List.map_set, ← HT.out] at hU2
      have gW : GrL [gd] u (u.setCell ⟨gd, xa, none⟩ (sb xb)) := (GrL.of_gr (Gr.refl _)).set _ _ (Or.inr (by simp))
      have G2 := (gr.trans (GrL.of_gr hg)).trans gW
      have HU2 := Lib.hid hU2
      clear hU hU2 HT HU hUl
      refine ⟨⟨none, _, _, _, _, _⟩, rfl, rfl, ?_⟩
      go_simp
      refine Lones.fin ?_
      clear cg fg gW
      generalize u.setCell ⟨gd, xa, none⟩ (sb xb) = W5 at *
      go_wp2_with fail
      exact ⟨⟨j+1, by simp, by omega, G2, HU2⟩, by simp [intOf]; omega⟩
    · have hjl' : ¬ (j : Int) < pend.length := by omega
      obtain rfl : j = pend.length := by omega
      have hd9 := put_at hdr 1 (.slice none 0 0)
      have gW : GrL [q] wr (wr.setCell ⟨q, 1, none⟩ (.slice none 0 0)) := (GrL.of_gr (Gr.refl _)).set _ _ (Or.inr (by simp))
      have hU9 := ownsRow_gr HU.out gW (fun i hi => by
        obtain rfl := Option.some.inj hi
        simpa using hgq)
      have G9 := (G1.trans (gr.mono HB.out)).trans (gW.mono (m := rbs q (.slice (some ⟨gd, 0, none⟩) m cd) (.slice ap pend.length cp)) (by simp [rbs]))
      have HU9 := Lib.hid hU9
      clear hU9 HU gW
      go_wp2
      go_ret
      refine ⟨rfl, G9, by simpa using hd9, ?_, rfl_nil _⟩
      dsimp only
      rw [setAll_len, hml]
      have hh := HU9.out
      rw [List.take_length] at hh
      exact hh
set_option maxRecDepth 100000 in
set_option maxHeartbeats 4000000 in
theorem rFlush_any (q : Nat) (dv pv : Value) (S : Sp) (m : Nat) (w : World) (h : RAt w q dv pv S) (ok : S.Ok m) (hmx : S.left ≤ 9223372036854775807) (hm : m ≤ 1000000) (hm0 : 0 < m) (hn : S.pend.length ≤ 1000000) :
    Calls Tryz.prog 80 #[.pointer (some ⟨q, 0, none⟩)] w fun e w' => e = .returned (.int .i64 S.flush.1) ∧ GrL (rbs q dv pv) w w' ∧ ∃ pv', RAt w' q dv pv' S.flush.2 ∧ ∀ x, pv'.ownBlock = some x → pv.ownBlock = some x := by
  by_cases hdn : S.down = true
  · have e1 : S.flush = (90, S) := by unfold Sp.flush; rw [if_pos hdn]
    rw [e1]
    have hd := h.d
    rw [hdn] at hd
    obtain ⟨cx, fx, zx⟩ := blk_cells hd
    have HR := Lib.hid h
    clear e1 h ok hmx hn
    go_enter Tryz.func80, Tryz.ntmps80
    go_wp2
    go_ret
    exact ⟨rfl, GrL.of_gr (Gr.refl _), pv, HR.out, fun _ h => h⟩
  have hdn' : S.down = false := by simpa using hdn
  by_cases hl0 : S.left = 0
  · have e1 : S.flush = (90, S.call) := by unfold Sp.flush; rw [if_neg hdn, if_pos hl0]
    have eC : S.call = { S with down := true } := by unfold Sp.call; rw [if_pos hl0]
    rw [e1, eC]
    have a1 := h.du
    have a2 := h.pu
    have CA := Lib.hid (fun w h => call_any q dv pv S.left S.down w h ok.l hmx)
    have hd := h.d
    have HD := Lib.hid hd
    rw [hdn'] at hd
    have HR := Lib.hid h
    have HL := Lib.hid hl0
    rw [hl0] at CA hd HD
    simp only [decide_true, Bool.not_true, if_true] at CA
    obtain ⟨cx, fx, zx⟩ := blk_cells hd
    clear e1 h ok hmx hn eC hl0
    go_enter Tryz.func80, Tryz.ntmps80
    go_wp2_with fail
    refine (CA.out _ HD.out).mono ?_
    rintro e w1 ⟨rfl, g1, hd1⟩
    go_wp2_with fail
    go_ret
    have H := HR.out
    refine ⟨rfl, g1.mono (by simp [rbs]), pv, ⟨?_, ownsRow_gr H.u g1 (fun i hi => by simpa using a1 i hi), ownsRow_gr H.p g1 (fun i hi => by simpa using a2 i hi)⟩, fun _ h => h⟩
    show w1.heap[q]? = some (.cells #[dv, pv, .int .i64 S.left, .bool true] 135 (0, 0))
    rw [HL.out]
    exact hd1
  · have e1 : S.flush = (0, { S.call with dur := S.now, pend := [] }) := by unfold Sp.flush; rw [if_neg hdn, if_neg hl0]
    rw [e1]
    exact (rFlush_in q dv pv S m w h ok hmx hm hm0 hn hdn' hl0).mono fun e w' ⟨h1, h2, h3⟩ => ⟨h1, h2, _, h3, fun _ h => by cases h⟩
end Go.Proofs.YthmimjofdmnakaaGreatDoor
