/- strickleref09: the definition's disk: Write, Read, Flush, Crash, NewDisk. -/
import Derived.Test.YthmimjofdmnakaaGreatDoorLRAt
namespace Go.Proofs.YthmimjofdmnakaaGreatDoor
open Go.RowKit Go.Shelf
theorem info_put : (Tryz.prog.info? 237).map (fun i => (i.zero, i.size, i.bytes)) = some (some (.agg #[.int .i64 0, .string ⟨#[]⟩]), 2, 24) := by kernel_rfl
theorem info_str' : (Tryz.prog.info? 9).map (fun i => (i.zero, i.size, i.bytes)) = some (some (.string ⟨#[]⟩), 1, 16) := by kernel_rfl
theorem put_len (x : Nat × List UInt8) : (putV x).length = 2 := rfl
theorem GrL.of_grownR {W W' : World} {row : Option Nat} (h : W.grownBy W' row) : GrL row.toList W W' :=
  ⟨h.os, h.tape, h.output, h.size, fun k hk hn => h.block k hk (fun e => hn (by rw [← e]; simp)), trivial⟩
set_option maxRecDepth 100000 in
set_option maxHeartbeats 4000000 in
theorem rWrite_in (q : Nat) (dv pv : Value) (S : Sp) (m i : Nat) (b : List UInt8) (w : World) (h : RAt w q dv pv S) (ok : S.Ok m) (hmx : S.left ≤ 9223372036854775807) (hm : m ≤ 1000000) (hi : i < m) (hb : b.length ≤ 64) (hn : S.pend.length ≤ 1000000) (hd0 : S.down = false) (hl0 : S.left ≠ 0) (B0 : Nat) (hBw : B0 ≤ w.heap.size) (hB : ∀ x, pv.ownBlock = some x → B0 ≤ x) :
    Calls Tryz.prog 79 #[.pointer (some ⟨q, 0, none⟩), .int .i64 i, sb b] w fun e w' => e = .returned (.int .i64 0) ∧ GrL (rbs q dv pv) w w' ∧ ∃ pv', RAt w' q dv pv' { S.call with pend := S.pend ++ [(i, padB b)] } ∧ ∀ x, pv'.ownBlock = some x → B0 ≤ x := by
  have a1 := h.du
  have a2 := h.pu
  have a3 := h.dp
  obtain ⟨dur, pend, left, down⟩ := S
  obtain ⟨hd, hu, hp⟩ := h
  dsimp only at *
  subst hd0
  have hml : dur.length = m := ok.n
  have hl1 : -1 ≤ left := ok.l
  obtain ⟨ad, cd, hdv, _⟩ := owns_form hu
  have CA := Lib.hid (fun w h => call_any q dv pv left false w h hl1 hmx)
  have PA := Lib.hid (fun w => padded_any b w hb)
  have PL := padB_len hb
  generalize padB b = B at *
  obtain ⟨i0, hi0, hz0, hz1, hz2⟩ := info_parts info_put
  have e9 : (decide (left = 0)) = false := by simpa using hl0
  rw [e9] at CA
  rw [if_neg hl0, if_neg hl0] at CA
  have eC : (Sp.call ⟨dur, pend, left, false⟩) = ⟨dur, pend, if 0 < left then left - 1 else left, false⟩ := by unfold Sp.call; rw [if_neg hl0]
  rw [eC]
  generalize (if 0 < left then left - 1 else left) = left' at *
  have hbl : ¬ (64 : Int) < b.length := by omega
  have hil : ¬ (i : Int) < 0 := by omega
  have hig : ¬ ((dur.length : Int) ≤ i) := by omega
  rw [hdv] at hd hu a1 a3 CA ⊢
  obtain ⟨cx, fx, zx⟩ := blk_cells hd
  clear e9 eC hb hm hml hmx ok hl1
  have hbs : (⟨b.toArray⟩ : ByteArray).size = b.length := rfl
  go_enter Tryz.func79, Tryz.ntmps79
  go_wp2_with fail
  refine (CA.out _ hd).mono ?_
  rintro e w1 ⟨rfl, g1, hd1⟩
  have hu1 := ownsRow_gr hu g1 (fun i hi => by simpa using a1 i hi)
  have hp1 := ownsRow_gr hp g1 (fun i hi => by simpa using a2 i hi)
  have G1 : GrL (rbs q (.slice ad dur.length cd) pv) w w1 := g1.mono (by simp [rbs])
  have hzw1 := g1.size
  clear cx fx zx hd hu hp g1 CA
  go_upto_region 9 with (fail)
  refine wp_region_stepsJL [13] (fun u => GrL pv.ownBlock.toList w1 u ∧ u.heap[q]? = some (.cells #[.slice ad dur.length cd, pv, .int .i64 left', .bool false] 135 (0, 0))) (fun u => u.ownsRow 0 237 2 pv pend.length (pend.flatMap putV)) [10]
    (fun u u' h g => ⟨h.1.trans (GrL.of_gr g), g.heap h.2⟩) (fun u u' h g => ownsRow_g h g) ⟨GrL.of_gr (Gr.refl _), hd1⟩ hp1 (by kernel_rfl)
    [.val (.pointer (some ⟨q, 0, none⟩)), .val (.pointer (some ⟨q, 0, none⟩)), .val (.pointer (some ⟨q, 0, none⟩)), .val (.pointer (some ⟨q, 1, none⟩)), .val pv, .val (.int .i64 i), .val (sb b), .val (sb B), .val (.agg #[.int .i64 i, sb B]),
     .sat (fun v u => ∃ g, v = .slice (some ⟨g, 0, none⟩) 1 1 ∧ u.heap[g]? = some (.cells #[.int .i64 i, sb B] 237 (0, 0))),
     .turn (fun v u => u.ownsRow B0 237 2 v (pend.length + 1) (pend.flatMap putV ++ [.int .i64 i, sb B])) [9], .val (.pointer (some ⟨q, 0, none⟩)), .val (.pointer (some ⟨q, 1, none⟩)), .later] (by kernel_rfl) (by kernel_rfl) (fun V => by first | (simp only [finS, Step.isLater, Bool.false_eq_true, if_false, if_true, Act.put, Step.value, List.setIfInBounds_toArray, List.set_cons_zero, List.set_cons_succ]; rfl) | (simp only [finS, Step.isLater, Bool.false_eq_true, if_false, if_true, Act.put, Step.value, List.setIfInBounds_toArray, List.set_cons_zero, List.set_cons_succ, Nat.zero_add, Nat.reduceAdd]; rfl)) ?_ ?_
  · refine ⟨?_, ?_, ?_, ?_, ?_, ?_, ?_, ?_, ?_, ?_, ?_, ?_, ?_, ?_, trivial⟩
    · (first | exact trivial | (refine ⟨(by intro v u u1 h g; obtain ⟨b, rfl, h⟩ := h; exact ⟨b, rfl, g.heap h⟩), ?_⟩; intro V u hu hj hk; refine ⟨by kernel_rfl, ?_⟩; go_simp; exact ⟨⟨_, rfl, heap_alloc_self _ _⟩, (Gr.refl _).alloc _⟩) | (intro V u hu hj hk; refine ⟨by kernel_rfl, ?_⟩; obtain ⟨hc, hf, hz⟩ := blk_cells hu.2; go_simp; first | exact ⟨rfl, Gr.refl _⟩ | skip))
    · (first | exact trivial | (refine ⟨(by intro v u u1 h g; obtain ⟨b, rfl, h⟩ := h; exact ⟨b, rfl, g.heap h⟩), ?_⟩; intro V u hu hj hk; refine ⟨by kernel_rfl, ?_⟩; go_simp; exact ⟨⟨_, rfl, heap_alloc_self _ _⟩, (Gr.refl _).alloc _⟩) | (intro V u hu hj hk; refine ⟨by kernel_rfl, ?_⟩; obtain ⟨hc, hf, hz⟩ := blk_cells hu.2; go_simp; first | exact ⟨rfl, Gr.refl _⟩ | skip))
    · (first | exact trivial | (refine ⟨(by intro v u u1 h g; obtain ⟨b, rfl, h⟩ := h; exact ⟨b, rfl, g.heap h⟩), ?_⟩; intro V u hu hj hk; refine ⟨by kernel_rfl, ?_⟩; go_simp; exact ⟨⟨_, rfl, heap_alloc_self _ _⟩, (Gr.refl _).alloc _⟩) | (intro V u hu hj hk; refine ⟨by kernel_rfl, ?_⟩; obtain ⟨hc, hf, hz⟩ := blk_cells hu.2; go_simp; first | exact ⟨rfl, Gr.refl _⟩ | skip))
    · (first | exact trivial | (refine ⟨(by intro v u u1 h g; obtain ⟨b, rfl, h⟩ := h; exact ⟨b, rfl, g.heap h⟩), ?_⟩; intro V u hu hj hk; refine ⟨by kernel_rfl, ?_⟩; go_simp; exact ⟨⟨_, rfl, heap_alloc_self _ _⟩, (Gr.refl _).alloc _⟩) | (intro V u hu hj hk; refine ⟨by kernel_rfl, ?_⟩; obtain ⟨hc, hf, hz⟩ := blk_cells hu.2; go_simp; first | exact ⟨rfl, Gr.refl _⟩ | skip))
    · (first | exact trivial | (refine ⟨(by intro v u u1 h g; obtain ⟨b, rfl, h⟩ := h; exact ⟨b, rfl, g.heap h⟩), ?_⟩; intro V u hu hj hk; refine ⟨by kernel_rfl, ?_⟩; go_simp; exact ⟨⟨_, rfl, heap_alloc_self _ _⟩, (Gr.refl _).alloc _⟩) | (intro V u hu hj hk; refine ⟨by kernel_rfl, ?_⟩; obtain ⟨hc, hf, hz⟩ := blk_cells hu.2; go_simp; first | exact ⟨rfl, Gr.refl _⟩ | skip))
    · (first | exact trivial | (refine ⟨(by intro v u u1 h g; obtain ⟨b, rfl, h⟩ := h; exact ⟨b, rfl, g.heap h⟩), ?_⟩; intro V u hu hj hk; refine ⟨by kernel_rfl, ?_⟩; go_simp; exact ⟨⟨_, rfl, heap_alloc_self _ _⟩, (Gr.refl _).alloc _⟩) | (intro V u hu hj hk; refine ⟨by kernel_rfl, ?_⟩; obtain ⟨hc, hf, hz⟩ := blk_cells hu.2; go_simp; first | exact ⟨rfl, Gr.refl _⟩ | skip))
    · (first | exact trivial | (refine ⟨(by intro v u u1 h g; obtain ⟨b, rfl, h⟩ := h; exact ⟨b, rfl, g.heap h⟩), ?_⟩; intro V u hu hj hk; refine ⟨by kernel_rfl, ?_⟩; go_simp; exact ⟨⟨_, rfl, heap_alloc_self _ _⟩, (Gr.refl _).alloc _⟩) | (intro V u hu hj hk; refine ⟨by kernel_rfl, ?_⟩; obtain ⟨hc, hf, hz⟩ := blk_cells hu.2; go_simp; first | exact ⟨rfl, Gr.refl _⟩ | skip))
    · (first | exact trivial | (refine ⟨(by intro v u u1 h g; obtain ⟨b, rfl, h⟩ := h; exact ⟨b, rfl, g.heap h⟩), ?_⟩; intro V u hu hj hk; refine ⟨by kernel_rfl, ?_⟩; go_simp; exact ⟨⟨_, rfl, heap_alloc_self _ _⟩, (Gr.refl _).alloc _⟩) | (intro V u hu hj hk; refine ⟨by kernel_rfl, ?_⟩; obtain ⟨hc, hf, hz⟩ := blk_cells hu.2; go_simp; first | exact ⟨rfl, Gr.refl _⟩ | skip))
      exact (PA.out _).mono fun e w' ⟨h, e'⟩ => ⟨h, e' ▸ Gr.refl _⟩
    · (first | exact trivial | (refine ⟨(by intro v u u1 h g; obtain ⟨b, rfl, h⟩ := h; exact ⟨b, rfl, g.heap h⟩), ?_⟩; intro V u hu hj hk; refine ⟨by kernel_rfl, ?_⟩; go_simp; exact ⟨⟨_, rfl, heap_alloc_self _ _⟩, (Gr.refl _).alloc _⟩) | (intro V u hu hj hk; refine ⟨by kernel_rfl, ?_⟩; obtain ⟨hc, hf, hz⟩ := blk_cells hu.2; go_simp; first | exact ⟨rfl, Gr.refl _⟩ | skip))
    · (first | exact trivial | (refine ⟨(by intro v u u1 h g; obtain ⟨b, rfl, h⟩ := h; exact ⟨b, rfl, g.heap h⟩), ?_⟩; intro V u hu hj hk; refine ⟨by kernel_rfl, ?_⟩; go_simp; exact ⟨⟨_, rfl, heap_alloc_self _ _⟩, (Gr.refl _).alloc _⟩) | (intro V u hu hj hk; refine ⟨by kernel_rfl, ?_⟩; obtain ⟨hc, hf, hz⟩ := blk_cells hu.2; go_simp; first | exact ⟨rfl, Gr.refl _⟩ | skip))
    · refine ⟨fun v u u1 h g => ownsRow_g h g, fun V u hu hj hk => ⟨by kernel_rfl, turnJ (R := fun u => GrL pv.ownBlock.toList w1 u ∧ u.heap[q]? = some (.cells #[.slice ad dur.length cd, pv, .int .i64 left', .bool false] 135 (0, 0))) (J := fun u => u.ownsRow 0 237 2 pv pend.length (pend.flatMap putV)) (dj := [10]) (k := 10) (drop := [9]) (V := V) (u := u) (by kernel_rfl) (by kernel_rfl) ?_⟩⟩
      obtain ⟨g, hv, hb⟩ := hk 9 _ rfl (by kernel_rfl)
      have hz1' := hu.1.size
      refine cameS_append _ _ 133 rfl B0 237 i0 _ 2 24 Tryz.underlying133 hi0 hz0 hz1 hz2 (by simp [Value.cells]) (by decide) pv pend.length _ rfl (owns_up (hj (by kernel_rfl)) hB) ⟨g, 0, none⟩ 1 1 [.int .i64 i, sb B] hv rfl (fun j v hv => by
        rw [Addr.add_mid, (blk_cells hb).1]
        simpa using hv) (fun u hu => by
        simp only [List.mem_cons, List.not_mem_nil, or_false] at hu
        rcases hu with rfl | rfl <;> rfl) (by unfold maxLen; omega) (by omega) (by omega) (fun v' w' h1 h2 => ⟨h1, hu.1.trans (GrL.of_grownR h2), ?_⟩)
      exact (GrL.of_grownR h2).block q (heap_lt hu.2) (fun hq => a2 q (by simpa using hq) rfl) |>.trans hu.2
    · (first | exact trivial | (refine ⟨(by intro v u u1 h g; obtain ⟨b, rfl, h⟩ := h; exact ⟨b, rfl, g.heap h⟩), ?_⟩; intro V u hu hj hk; refine ⟨by kernel_rfl, ?_⟩; go_simp; exact ⟨⟨_, rfl, heap_alloc_self _ _⟩, (Gr.refl _).alloc _⟩) | (intro V u hu hj hk; refine ⟨by kernel_rfl, ?_⟩; obtain ⟨hc, hf, hz⟩ := blk_cells hu.2; go_simp; first | exact ⟨rfl, Gr.refl _⟩ | skip))
    · (first | exact trivial | (refine ⟨(by intro v u u1 h g; obtain ⟨b, rfl, h⟩ := h; exact ⟨b, rfl, g.heap h⟩), ?_⟩; intro V u hu hj hk; refine ⟨by kernel_rfl, ?_⟩; go_simp; exact ⟨⟨_, rfl, heap_alloc_self _ _⟩, (Gr.refl _).alloc _⟩) | (intro V u hu hj hk; refine ⟨by kernel_rfl, ?_⟩; obtain ⟨hc, hf, hz⟩ := blk_cells hu.2; go_simp; first | exact ⟨rfl, Gr.refl _⟩ | skip))
    · exact trivial
  intro V u hg hs
  have hv := hs 10 _ rfl
  obtain ⟨g2, hd2⟩ := hg
  have hu2 := ownsRow_gr hu1 g2 (fun i hi hm => a3 i hi i (by simpa using hm) rfl)
  obtain ⟨a', c', hv', -⟩ := owns_form hv
  rw [hv'] at hv
  rw [hv']
  obtain ⟨v', hvv⟩ : ∃ v', Value.slice a' (pend.length + 1) c' = v' := ⟨_, rfl⟩
  rw [hvv] at hv
  have g3 : GrL [q] u (u.setCell ⟨q, 1, none⟩ v') := (GrL.of_gr (Gr.refl _)).set _ _ (Or.inr (by simp))
  have hd3 := put_at hd2 1 v'
  have hu3 := ownsRow_gr hu2 g3 (fun i hi => by simpa using a1 i hi)
  have hv3 := ownsRow_gr hv g3 (fun i hi => by
    obtain ⟨c, hc⟩ := own_ty hv i hi
    simpa using ty_ne hc hd2 (by decide))
  subst hvv
  obtain ⟨cx, fx, zx⟩ := blk_cells hd2
  refine ⟨⟨none, _, _, _, _, _⟩, rfl, rfl, ?_⟩
  go_simp
  refine Lones.fin ?_
  go_simp
  go_wp2_with fail
  go_ret
  refine ⟨rfl, (G1.trans (g2.mono (fun i hi => by unfold rbs; exact List.mem_cons_of_mem _ (List.mem_append_right _ hi)))).trans (g3.mono (by simp [rbs])), _, ⟨by simpa using hd3, hu3, ?_⟩, owns_base hv3⟩
  simpa using owns_zero hv3
set_option maxRecDepth 100000 in
set_option maxHeartbeats 4000000 in
theorem rWrite_any (q : Nat) (dv pv : Value) (S : Sp) (m : Nat) (i : Int) (b : List UInt8) (w : World) (h : RAt w q dv pv S) (ok : S.Ok m) (hmx : S.left ≤ 9223372036854775807) (hm : m ≤ 1000000) (hb : b.length ≤ 1000000) (hn : S.pend.length ≤ 1000000) (B0 : Nat) (hBw : B0 ≤ w.heap.size) (hB : ∀ x, pv.ownBlock = some x → B0 ≤ x) :
    Calls Tryz.prog 79 #[.pointer (some ⟨q, 0, none⟩), .int .i64 i, sb b] w fun e w' => e = .returned (.int .i64 (S.write m i b).1) ∧ GrL (rbs q dv pv) w w' ∧ ∃ pv', RAt w' q dv pv' (S.write m i b).2 ∧ ∀ x, pv'.ownBlock = some x → B0 ≤ x := by
  have hml : S.dur.length = m := ok.n
  obtain ⟨ad, cd, hdv, -⟩ := owns_form h.u
  rw [hml] at hdv
  subst hdv
  have hbs : (⟨b.toArray⟩ : ByteArray).size = b.length := rfl
  by_cases hdn : S.down = true
  · have e1 : S.write m i b = (90, S) := by unfold Sp.write upV; rw [hdn]; simp
    rw [e1]
    have hd := h.d
    rw [hdn] at hd
    obtain ⟨cx, fx, zx⟩ := blk_cells hd
    have HR := Lib.hid h
    clear e1 h ok hmx hn hml
    go_enter Tryz.func79, Tryz.ntmps79
    go_wp2
    go_ret
    exact ⟨rfl, GrL.of_gr (Gr.refl _), pv, HR.out, hB⟩
  have hdn' : S.down = false := by simpa using hdn
  by_cases hi : ¬ (0 ≤ i ∧ i < m)
  · have e1 : S.write m i b = (1, S) := by unfold Sp.write upV; rw [hdn', if_neg (show ¬ (false = true) by simp), if_neg (show ¬ (0 ≤ i ∧ i ≤ (m : Int) - 1) by omega)]; simp
    rw [e1]
    have hd := h.d
    rw [hdn'] at hd
    have HR := Lib.hid h
    obtain ⟨cx, fx, zx⟩ := blk_cells hd
    clear e1 h ok hmx hn
    by_cases h0 : i < 0
    · go_enter Tryz.func79, Tryz.ntmps79
      go_wp2
      go_ret
      exact ⟨rfl, GrL.of_gr (Gr.refl _), pv, HR.out, hB⟩
    · have h1 : (m : Int) ≤ i := by omega
      go_enter Tryz.func79, Tryz.ntmps79
      go_wp2
      go_ret
      exact ⟨rfl, GrL.of_gr (Gr.refl _), pv, HR.out, hB⟩
  replace hi := Classical.not_not.1 hi
  have hup : upV S.down i m = 0 := by unfold upV; rw [hdn', if_neg (show ¬ (false = true) by simp), if_pos ⟨hi.1, by omega⟩]
  obtain ⟨k, rfl⟩ : ∃ k : Nat, i = k := ⟨i.toNat, by omega⟩
  have hk : k < m := by omega
  have hil : ¬ (k : Int) < 0 := by omega
  have hig : ¬ ((m : Int) ≤ k) := by omega
  by_cases hbl : 64 < b.length
  · have e1 : S.write m k b = (2, S) := by unfold Sp.write; rw [if_neg (by simp [hup]), if_pos hbl]
    rw [e1]
    have hd := h.d
    rw [hdn'] at hd
    have HR := Lib.hid h
    obtain ⟨cx, fx, zx⟩ := blk_cells hd
    have hbl' : (64 : Int) < b.length := by omega
    clear e1 h ok hmx hn hup hbl
    go_enter Tryz.func79, Tryz.ntmps79
    go_wp2
    go_ret
    exact ⟨rfl, GrL.of_gr (Gr.refl _), pv, HR.out, hB⟩
  by_cases hl0 : S.left = 0
  · have e1 : S.write m k b = (90, S.call) := by unfold Sp.write; rw [if_neg (by simp [hup]), if_neg hbl, if_pos hl0]
    have eC : S.call = { S with down := true } := by unfold Sp.call; rw [if_pos hl0]
    rw [e1, eC]
    have a1 := h.du
    have a2 := h.pu
    have CA := Lib.hid (fun w h => call_any q (.slice ad m cd) pv S.left S.down w h ok.l hmx)
    have hd := h.d
    have HD := Lib.hid hd
    rw [hdn'] at hd
    have HR := Lib.hid h
    have HL := Lib.hid hl0
    rw [hl0] at CA hd HD
    simp only [decide_true, Bool.not_true, if_true] at CA
    obtain ⟨cx, fx, zx⟩ := blk_cells hd
    have hbl' : ¬ (64 : Int) < b.length := by omega
    clear e1 h ok hmx hn hup hbl eC hl0
    go_enter Tryz.func79, Tryz.ntmps79
    go_wp2_with fail
    refine (CA.out _ HD.out).mono ?_
    rintro e w1 ⟨rfl, g1, hd1⟩
    go_wp2_with fail
    go_ret
    have H := HR.out
    refine ⟨rfl, g1.mono (by simp [rbs]), pv, ⟨?_, ownsRow_gr H.u g1 (fun i hi => by simpa using a1 i hi), ownsRow_gr H.p g1 (fun i hi => by simpa using a2 i hi)⟩, hB⟩
    show w1.heap[q]? = some (.cells #[.slice ad m cd, pv, .int .i64 S.left, .bool true] 135 (0, 0))
    rw [HL.out]
    exact hd1
  · have e1 : S.write m k b = (0, { S.call with pend := S.pend ++ [(k, padB b)] }) := by unfold Sp.write; rw [if_neg (by simp [hup]), if_neg hbl, if_neg hl0]; rfl
    rw [e1]
    exact rWrite_in q _ pv S m k b w h ok hmx hm hk (by omega) hn hdn' hl0 B0 hBw hB
theorem setAll_step {d : List (List UInt8)} {l : List (Nat × List UInt8)} {j k : Nat} (hj : j < l.length) (hk : k < d.length) :
    (setAll d (l.take (j + 1))).getD k [] = if l[j].1 = k then l[j].2 else (setAll d (l.take j)).getD k [] := by
  rw [List.take_succ_eq_append_getElem hj, setAll_snoc]
  have hl : k < (setAll d (l.take j)).length := by rw [setAll_len]; exact hk
  simp only [List.getD_eq_getElem?_getD, List.getElem?_set]
  split
  · rename_i e
    subst e
    rw [if_pos hl]; rfl
  · rfl
set_option maxRecDepth 100000 in
set_option maxHeartbeats 4000000 in
theorem rRead_any (q : Nat) (dv pv : Value) (S : Sp) (m : Nat) (i : Int) (w : World) (h : RAt w q dv pv S) (ok : S.Ok m) (hm : m ≤ 1000000) (hn : S.pend.length ≤ 1000000) :
    Calls Tryz.prog 78 #[.pointer (some ⟨q, 0, none⟩), .int .i64 i] w fun e w' => e = .returned (.tuple #[sb (S.read m i).2, .int .i64 (S.read m i).1]) ∧ w' = w := by
  have hml : S.dur.length = m := ok.n
  have fu := owns_form h.u
  have fp := owns_form h.p
  have hd := h.d
  clear h
  obtain ⟨dur, pend, left, down⟩ := S
  dsimp only at *
  obtain ⟨ad, cd, rfl, -, -, hU⟩ := fu
  obtain ⟨ap, cp, rfl, -, -, hP⟩ := fp
  rw [hml] at hd hU
  cases down with
  | true =>
    have e1 : Sp.read ⟨dur, pend, left, true⟩ m i = (90, []) := by unfold Sp.read upV; simp
    rw [e1]
    obtain ⟨cx, fx, zx⟩ := blk_cells hd
    clear e1 ok hn hml hU hP
    go_enter Tryz.func78, Tryz.ntmps78
    go_wp2
    exact bodyPost_ret (v := .tuple #[.string ⟨#[]⟩, .int .i64 90]) (by simp [results, Tryz.results78, go_sem]) rfl ⟨rfl, rfl⟩
  | false =>
  by_cases hi : ¬ (0 ≤ i ∧ i < m)
  · have e1 : Sp.read ⟨dur, pend, left, false⟩ m i = (1, []) := by unfold Sp.read upV; rw [if_neg (show ¬ (false = true) by simp), if_neg (show ¬ (0 ≤ i ∧ i ≤ (m : Int) - 1) by omega)]; simp
    rw [e1]
    obtain ⟨cx, fx, zx⟩ := blk_cells hd
    clear e1 ok hn hml hU hP
    by_cases h0 : i < 0
    · go_enter Tryz.func78, Tryz.ntmps78
      go_wp2
      exact bodyPost_ret (v := .tuple #[.string ⟨#[]⟩, .int .i64 1]) (by simp [results, Tryz.results78, go_sem]) rfl ⟨rfl, rfl⟩
    · have h1 : (m : Int) ≤ i := by omega
      go_enter Tryz.func78, Tryz.ntmps78
      go_wp2
      exact bodyPost_ret (v := .tuple #[.string ⟨#[]⟩, .int .i64 1]) (by simp [results, Tryz.results78, go_sem]) rfl ⟨rfl, rfl⟩
  replace hi := Classical.not_not.1 hi
  obtain ⟨k, rfl⟩ : ∃ k : Nat, i = k := ⟨i.toNat, by omega⟩
  have hk : k < m := by omega
  have e1 : Sp.read ⟨dur, pend, left, false⟩ m k = (0, (setAll dur pend).getD k []) := by unfold Sp.read upV; rw [if_neg (show ¬ (false = true) by simp), if_pos (show 0 ≤ (k : Int) ∧ (k : Int) ≤ (m : Int) - 1 by omega)]; simp [Sp.now]
  rw [e1]
  have hil : ¬ (k : Int) < 0 := by omega
  have hig : ¬ ((m : Int) ≤ k) := by omega
  have hig2 : (k : Int) < m := by omega
  obtain ⟨gd, rfl, hgl, -, hUc, hUf⟩ := hU k (by omega)
  have hu0 := hUc k (by omega)
  have hx0 : (dur.map sb)[k]? = some (sb (dur.getD k [])) := by
    rw [List.getElem?_map, List.getD_eq_getElem?_getD, List.getElem?_eq_getElem (by omega)]; rfl
  rw [hx0] at hu0
  have HSt := Lib.hid (fun (j : Nat) (hj : j < pend.length) => setAll_step (d := dur) hj (show k < dur.length by omega))
  have HP := Lib.hid hP
  have H0 := Lib.hid (show dur.getD k [] = (setAll dur (pend.take 0)).getD k [] by simp [setAll])
  have HE := Lib.hid (show (setAll dur pend).getD k [] = (setAll dur (pend.take pend.length)).getD k [] by rw [List.take_length])
  rw [HE.out]
  rw [H0.out] at hu0
  obtain ⟨cur, hcur⟩ : ∃ cur : Nat → List UInt8, (fun j => (setAll dur (pend.take j)).getD k []) = cur := ⟨_, rfl⟩
  have HC := Lib.hid hcur
  have c0 : (setAll dur (pend.take 0)).getD k [] = cur 0 := by rw [← hcur]
  have cN : (setAll dur (pend.take pend.length)).getD k [] = cur pend.length := by rw [← hcur]
  rw [c0] at hu0
  rw [cN]
  have HS2 : Hid (∀ j (hj : j < pend.length), cur (j + 1) = if pend[j].1 = k then pend[j].2 else cur j) := Lib.hid (fun j hj => by rw [← hcur]; exact HSt.out j hj)
  obtain ⟨cx, fx, zx⟩ := blk_cells hd
  clear e1 ok hP hU hUc hUf hx0 HSt H0 HE HC c0 cN hcur hml
  go_enter Tryz.func78, Tryz.ntmps78
  go_wp2
  go_loopw [6, 7] (fun p r wr => ∃ j : Nat, r = .int .i64 j ∧ j ≤ pend.length ∧ p = sb (cur j) ∧ wr = w) (fun _ r _ => pend.length - (intOf r).toNat)
  case atStart => exact ⟨0, rfl, by omega, rfl, rfl⟩
  case round =>
    obtain ⟨j, rfl, hj, rfl, rfl⟩ := hrel
    by_cases hjl : j < pend.length
    · have hjl' : (j : Int) < pend.length := by omega
      obtain ⟨gp, rfl, hpl, -, hPc, -⟩ := HP.out j hjl
      have hp0 := hPc (j * 2) (by omega)
      have hp1 := hPc (j * 2 + 1) (by omega)
      obtain ⟨q0, q1⟩ := flat2 put_len pend j hjl
      rw [q0] at hp0
      rw [q1] at hp1
      have hs := HS2.out j hjl
      obtain ⟨x, hx⟩ : ∃ x, pend[j] = x := ⟨_, rfl⟩
      obtain ⟨xa, xb⟩ := x
      rw [hx] at hp0 hp1 hs
      simp only [putV, List.getElem?_cons_zero, List.getElem?_cons_succ] at hp0 hp1
      dsimp only at hs
      clear hx q0 q1 hPc
      by_cases he : xa = k
      · subst he
        rw [if_pos rfl] at hs
        go_wp2
        exact ⟨⟨j+1, by simp, by omega, by rw [hs], trivial⟩, by simp [intOf]; omega⟩
      · have he' : ¬ ((xa : Int) = k) := by omega
        rw [if_neg he] at hs
        go_wp2
        exact ⟨⟨j+1, by simp, by omega, by rw [hs], trivial⟩, by simp [intOf]; omega⟩
    · have hjl' : ¬ (j : Int) < pend.length := by omega
      obtain rfl : j = pend.length := by omega
      go_wp2
      exact bodyPost_ret (v := .tuple #[sb (cur pend.length), .int .i64 0]) (by simp [results, Tryz.results78, go_sem]) rfl ⟨rfl, rfl⟩
end Go.Proofs.YthmimjofdmnakaaGreatDoor
