/- loft/disk.go: Write. -/
import Derived.Test.YthmimjofdmnakaaGreatDoorLDRead
namespace Go.Proofs.YthmimjofdmnakaaGreatDoor
open Go.RowKit Go.Shelf
theorem owns_lt' {w : World} {base : Nat} {e : TypeId} {size : Nat} {v : Value} {n : Nat} {xs : List Value} (h : w.ownsRow base e size v n xs) : ∀ b, v.ownBlock = some b → b < w.heap.size := fun b hb => by
  obtain ⟨c, hc⟩ := own_ty h b hb
  exact heap_lt hc
section
variable {P : Program} {ops : Array Oper} {pl : List Step} {R J : World → Prop} {dj : List Nat} {F : (Nat → Value) → Act} {k : Nat} {o : Oper}
theorem owesJ_load (T : TypeId) (x : Operand) (ho : o.op = .load T x) (hw : ∀ V, Region.wanted o (yielded ops (F V).tmps) = true) (b off : Nat)
    (hx : ∀ V, (F V).eval x = .pointer (some ⟨b, off, none⟩)) (Z : Array Value) (d : TypeDesc) (hu : P.underlying T = some d) (hd : d.isRow = true) (hi : (P.info? T).map (·.size) = some Z.size) (hr : ∀ u, R u → u.rangeAt b off Z.toList) :
    OwesJ P ops pl R J dj F k o (.val (.agg Z)) := by
  intro V u hg _ _
  refine ⟨hw V, ?_⟩
  have := run_loadVar_mid u b off T Z.toList d (hr u hg) hu hd hi
  rw [Array.toArray_toList] at this
  unfold execOp
  simp only [ho, hx, Instr.loadAt, Instr.sureAddr, Sem.run_bind, Sem.run_pure, Result.andThen_ok, this]
  exact ⟨rfl, Gr.refl _⟩
theorem owesJ_build (T : TypeId) (parts : Array (Nat × Operand)) (ho : o.op = .build T parts) (hw : ∀ V, Region.wanted o (yielded ops (F V).tmps) = true)
    (ps : List (Nat × Value)) (hp : ∀ V, (parts.map fun (i, x) => (i, (F V).eval x)).toList = ps) (X : Array Value) (hX : P.built T ps = some X) : OwesJ P ops pl R J dj F k o (.val (.agg X)) := by
  intro V u hg _ _
  refine ⟨hw V, ?_⟩
  have := run_build u T (parts.map fun (i, x) => (i, (F V).eval x)) X (by rw [hp V]; exact hX)
  unfold execOp
  simp only [ho, Sem.run_bind, this, Result.andThen_ok]
  exact ⟨rfl, Gr.refl _⟩
theorem owesJ_bslice (T e : TypeId) (len : Nat) (parts : Array (Nat × Operand)) (ho : o.op = .buildSlice T len parts) (hw : ∀ V, Region.wanted o (yielded ops (F V).tmps) = true)
    (ps : List (Nat × Value)) (hp : ∀ V, (parts.map fun (i, x) => (i, (F V).eval x)).toList = ps) (X : Array Value) (ie : TypeInfo) (z : Value)
    (hu : P.underlying T = some (.slice e)) (hie : P.info? e = some ie) (hz : ie.zero = some z) (hsmall : ¬ len * ie.size > 2 ^ 24) (hpos : ¬ len * ie.size = 0)
    (hX : Instr.fill (fun i => some (i * ie.size, ie.size)) ((Array.range (len * ie.size)).map (z.cells[· % z.cells.size]!)) ps = some X) :
    OwesJ P ops pl R J dj F k o (.sat (fun v u => ∃ b, v = .slice (some ⟨b, 0, none⟩) len len ∧ u.heap[b]? = some (.cells X e (0, 0)))) := by
  refine ⟨fun v u u1 h g => by obtain ⟨b, h1, h3⟩ := h; exact ⟨b, h1, g.heap h3⟩, ?_⟩
  intro V u hg _ _
  refine ⟨hw V, ?_⟩
  have := run_buildSlice (P := P) u T e len (parts.map fun (i, x) => (i, (F V).eval x)) X ie z hu hie hz hsmall hpos (by rw [hp V]; exact hX)
  unfold execOp
  simp only [ho, Sem.run_bind, this, Result.andThen_ok]
  exact ⟨⟨_, rfl, heap_alloc_self _ _⟩, (Gr.refl _).alloc _⟩
end
/-- bytes among the arguments, in blocks that are not these -/
structure BytesAt (w : World) (v : Value) (b : List UInt8) (no : List Nat) : Prop where
  s : ∃ a cap, v = .slice a b.length cap ∧ (0 < b.length → ∃ g o, a = some ⟨g, o, none⟩ ∧ g ∉ no ∧ w.rangeAt g o (b.map byV))
theorem pad_map (b : List UInt8) (h : b.length ≤ 64) : (padB b).map byV = b.map byV ++ List.replicate (64 - b.length) (byV 0) := by unfold padB; rw [List.map_append, List.map_replicate]
set_option maxRecDepth 100000 in
set_option maxHeartbeats 16000000 in
theorem dWrite_in (p du nw m k : Nat) (pv : Value) (S : Sp) (K : Int) (bv : Value) (b : List UInt8) (w : World) (h : DAt w p du nw m pv S K) (ok : S.Ok m) (hm : m ≤ 1000000) (hK : K ≤ 1000000) (hmx : S.left ≤ 9223372036854775807) (hk : k < m) (hb : b.length ≤ 64) (hn : S.pend.length ≤ 1000000) (hd0 : S.down = false) (hl0 : S.left ≠ 0) (hx : BytesAt w bv b (dbs p du nw pv)) (B0 : Nat) (hBw : B0 ≤ w.heap.size) (hB : ∀ x, pv.ownBlock = some x → B0 ≤ x) :
    Calls Tryz.prog 31 #[.pointer (some ⟨p, 0, none⟩), .int .i64 k, bv] w fun e w' => e = .returned (.int .i64 0) ∧ GrL (dbs p du nw pv) w w' ∧ ∃ pv', DAt w' p du nw m pv' { S.call with pend := S.pend ++ [(k, padB b)] } (K + 1) ∧ ∀ x, pv'.ownBlock = some x → B0 ≤ x := by
  have pu := h.pu
  have pn := h.pn
  have un := h.un
  have hpo := h.po
  have hN := Sp.now_ok ok
  obtain ⟨dur, pend, left, down⟩ := S
  dsimp only at *
  subst hd0
  obtain ⟨k1, k2, ends, c, hd, hc⟩ := h.d
  have hu := h.u
  obtain ⟨X0, hn0⟩ := h.n
  have hq := h.q
  dsimp only [Sp.now] at hd hc hu hn0 hq hN
  obtain ⟨a, cap, rfl, hx'⟩ := hx.s
  clear hx
  have hup : upE false k m = 0 := by unfold upE; rw [if_neg (by simp), if_pos (by omega)]
  have HUP := Lib.hid (fun w h => up_any p (.slice (some ⟨du, 0, none⟩) m k1) pv (.bool ends) (.int .i64 c) (some ⟨nw, 0, none⟩) m k2 false k w h hm)
  rw [hup] at HUP
  have ec : (ends && decide (c = 0)) = false := by
    rcases hc with ⟨rfl, rfl, _⟩ | ⟨rfl, _⟩
    · simpa using hl0
    · rfl
  have hcb : -1000000 ≤ c ∧ c ≤ 9223372036854775807 := by
    rcases hc with ⟨_, rfl, h2⟩ | ⟨_, _, h3, h4⟩ <;> omega
  have PW := Lib.hid (fun w h => power_any p (.slice (some ⟨du, 0, none⟩) m k1) (.slice (some ⟨nw, 0, none⟩) m k2) pv ends false c w h (by omega) (by omega))
  rw [ec] at PW
  simp only [Bool.false_eq_true, if_false, Bool.not_false] at PW
  obtain ⟨c', hc'⟩ : ∃ c', c - 1 = c' := ⟨_, rfl⟩
  rw [hc'] at PW
  have eC : (Sp.call ⟨dur, pend, left, false⟩) = ⟨dur, pend, if 0 < left then left - 1 else left, false⟩ := by unfold Sp.call; rw [if_neg hl0]
  rw [eC]
  have HCC : Hid (ends = true ∧ c' = (if 0 < left then left - 1 else left) ∧ 0 ≤ (if 0 < left then left - 1 else left) ∨ ends = false ∧ (if 0 < left then left - 1 else left) = -1 ∧ -(K + 1) ≤ c' ∧ c' ≤ 0) := Lib.hid (by
    rcases hc with ⟨h1, h2, h3⟩ | ⟨h1, h2, h3, h4⟩
    · left
      rw [if_pos (show 0 < left by omega)]
      exact ⟨h1, by omega, by omega⟩
    · right
      rw [if_neg (show ¬ 0 < left by omega)]
      exact ⟨h1, h2, by omega, by omega⟩)
  generalize (if 0 < left then left - 1 else left) = left' at *
  obtain ⟨C, hCd⟩ : ∃ C, ((padB b).map byV).toArray = C := ⟨_, rfl⟩
  have HCd := Lib.hid hCd
  have hpl64 := padB_len hb
  have hCs : C.size = 64 := by rw [← hCd]; simp [hpl64]
  have hC1 : C.all (·.oneCell') = true := by rw [← hCd]; exact all_oneCell_toArray (by_one _)
  obtain ⟨XX, hXX⟩ : ∃ XX, (#[Value.int IntKind.i64 k] ++ C) = XX := ⟨_, rfl⟩
  have HXX := Lib.hid hXX
  have HFIT := Lib.hid (show k * 64 + C.toList.length ≤ (secs (setAll dur pend) ++ X0).toArray.size by
    have e9 : C.toList.length = 64 := hCs
    rw [List.size_toArray, List.length_append, secs_len hN.2, hN.1, e9]
    omega)
  have HSS := Lib.hid (show ((secs (setAll dur pend) ++ X0).take (k * 64) ++ C.toList ++ (secs (setAll dur pend) ++ X0).drop (k * 64 + 64)).toArray = (secs ((setAll dur pend).set k (padB b)) ++ X0).toArray by rw [← hCd, List.toList_toArray, secs_setX hN.2 k (padB b) (by rw [hN.1]; exact hk) hpl64])
  have hcp : (b.map byV ++ List.replicate (64 - b.length) (byV 0)).toArray = C := by rw [← hCd, pad_map b hb]
  have HCP := Lib.hid hcp
  have HQ0 := Lib.hid hq
  have hpl := heap_lt hd
  have hul := heap_lt hu
  have hnl := heap_lt hn0
  have hbl : ¬ (64 : Int) < b.length := by omega
  clear h ok hN hup hc ec hc' eC hCd hXX hcb hcp hmx
  go_enter Tryz.func31, Tryz.ntmps31
  go_wp2_with fail
  refine (HUP.out _ hd).mono ?_
  rintro e w1 ⟨rfl, g1⟩
  go_wp2_with fail
  refine (PW.out w1 (g1.heap hd)).mono ?_
  rintro e w2 ⟨rfl, g2, hd2⟩
  go_upto_region 9 with (fail)
  generalize hX : Obj.cells _ 140 (0, 0) = X
  have hX2 : X = .cells (List.replicate 64 (byV 0)).toArray 140 (0, 0) := hX.symm
  clear hX
  have G2 : GrL (dbs p du nw pv) w w2 := (GrL.of_gr g1).trans (g2.mono (by simp [dbs]))
  have h8 : (w2.alloc X).heap[w2.heap.size]? = some (.cells (List.replicate 64 (byV 0)).toArray 140 (0, 0)) := by
    rw [hX2]
    exact heap_alloc_self _ _
  have gA : Gr w2 (w2.alloc X) := (Gr.refl _).alloc _
  have hz2 : w.heap.size ≤ w2.heap.size := G2.size
  replace hd2 := gA.heap hd2
  replace hu := gA.heap ((g2.block du (Nat.lt_of_lt_of_le hul g1.b.size) (by simp; omega)).trans (g1.heap hu))
  have hn := gA.heap ((g2.block nw (Nat.lt_of_lt_of_le hnl g1.b.size) (by simp; omega)).trans (g1.heap hn0))
  replace hq := ownsRow_g (ownsRow_gr (ownsRow_g hq g1) g2 (fun i hi => by simpa using (hpo i hi).1)) gA
  have hx : 0 < b.length → ∃ g o, a = some ⟨g, o, none⟩ ∧ (w2.alloc X).rangeAt g o (b.map byV) := fun hp => by
    obtain ⟨g, o, h1, h2, h3⟩ := hx' hp
    exact ⟨g, o, h1, rangeAt_gr (rangeAt_grl h3 G2 h2) gA⟩
  replace G2 := G2.trans (GrL.of_gr gA)
  clear gA g1 g2 hd hn0 hX2 hx'
  generalize w2.alloc X = W3 at *
  obtain ⟨b8, hb8⟩ : ∃ b8, w2.heap.size = b8 := ⟨_, rfl⟩
  rw [hb8] at h8 hz2
  rw [hb8]
  clear hb8
  by_cases hb0 : b.length = 0
  · have e0 : (List.replicate 64 (byV 0)).toArray = C := by rw [← HCP.out, List.eq_nil_of_length_eq_zero hb0]; rfl
    rw [e0] at h8
    apply wp_region_lit
    (refine wpList_plain rfl fun K hK => ?_; go_simp; refine hK _ _ ?_; clear hK K)
    (refine wpList_plain rfl fun K hK => ?_; go_simp; refine hK _ _ ?_; clear hK K)
    refine wpList_copy_nothing rfl _ _ 57 57 rfl 5 Tryz.underlying57 (by kernel_rfl) (some ⟨b8, 0, none⟩) a 64 64 0 cap rfl rfl rfl ?_
    clear hx e0 hb0
    generalize W3 = W4 at *
    have hz8 : w.heap.size ≤ b8 := by omega
    go_upto_region 10 with (fail)
    have hr8 : W4.rangeAt b8 0 C.toList := rangeAt_of h8 0 _ (fun j v hv => by simpa using hv)
    obtain ⟨cd, fd, zd⟩ := blk_cells hd2
    have cd1 := cd 1
    simp only [List.getElem?_toArray, List.getElem?_cons_zero, List.getElem?_cons_succ] at cd1
    clear cd fd
    have hil : (k : Int) < (m : Int) := by omega
    refine wp_region_stepsL [7] [.val (.pointer (some ⟨p, 0, none⟩)), .val (.pointer (some ⟨p, 0, none⟩)), .val (.pointer (some ⟨p, 1, none⟩)), .val (.slice (some ⟨nw, 0, none⟩) m k2), .val (.int .i64 k), .val (.agg C), .val (.pointer (some ⟨nw, k * 64, none⟩)), .later] (by kernel_rfl) (by kernel_rfl) (fun V => by first | (simp only [finS, Step.isLater, Bool.false_eq_true, if_false, if_true, Act.put, Step.value, List.setIfInBounds_toArray, List.set_cons_zero, List.set_cons_succ]; rfl) | (simp only [finS, Step.isLater, Bool.false_eq_true, if_false, if_true, Act.put, Step.value, List.setIfInBounds_toArray, List.set_cons_zero, List.set_cons_succ, Nat.zero_add, Nat.reduceAdd]; rfl)) ?_ ?_
    · refine ⟨?_, ?_, ?_, ?_, ?_, ?_, ?_, ?_, trivial⟩
      · (first | exact trivial | (refine ⟨(by intro v u u1 h g; obtain ⟨b, rfl, h⟩ := h; exact ⟨b, rfl, g.heap h⟩), ?_⟩; intro V u hu hk; refine ⟨by kernel_rfl, ?_⟩; go_simp; exact ⟨⟨_, rfl, heap_alloc_self _ _⟩, (Gr.refl _).alloc _⟩) | (refine ⟨(by intro v u u1 h g; first | exact ownsRow_g h g | exact st_and h g | exact h), ?_⟩; intro V u hu hk; refine ⟨by kernel_rfl, turn_owes (by kernel_rfl) ?_⟩; obtain ⟨hc, hf, hz⟩ := hu.cells; go_simp; skip) | (refine ⟨(by intro v u u1 h g; first | exact ownsRow_g h g | exact st_and h g | exact h), ?_⟩; intro V u hu hk; refine ⟨by kernel_rfl, ?_⟩; obtain ⟨hc, hf, hz⟩ := hu.cells; go_simp; skip) | (intro V u hu hk; refine ⟨by kernel_rfl, ?_⟩; obtain ⟨hc, hf, hz⟩ := hu.cells; go_simp; first | exact ⟨rfl, Gr.refl _⟩ | skip) | (intro V u hu hk; show _ = false; kernel_rfl))
      · (first | exact trivial | (refine ⟨(by intro v u u1 h g; obtain ⟨b, rfl, h⟩ := h; exact ⟨b, rfl, g.heap h⟩), ?_⟩; intro V u hu hk; refine ⟨by kernel_rfl, ?_⟩; go_simp; exact ⟨⟨_, rfl, heap_alloc_self _ _⟩, (Gr.refl _).alloc _⟩) | (refine ⟨(by intro v u u1 h g; first | exact ownsRow_g h g | exact st_and h g | exact h), ?_⟩; intro V u hu hk; refine ⟨by kernel_rfl, turn_owes (by kernel_rfl) ?_⟩; obtain ⟨hc, hf, hz⟩ := hu.cells; go_simp; skip) | (refine ⟨(by intro v u u1 h g; first | exact ownsRow_g h g | exact st_and h g | exact h), ?_⟩; intro V u hu hk; refine ⟨by kernel_rfl, ?_⟩; obtain ⟨hc, hf, hz⟩ := hu.cells; go_simp; skip) | (intro V u hu hk; refine ⟨by kernel_rfl, ?_⟩; obtain ⟨hc, hf, hz⟩ := hu.cells; go_simp; first | exact ⟨rfl, Gr.refl _⟩ | skip) | (intro V u hu hk; show _ = false; kernel_rfl))
      · (first | exact trivial | (refine ⟨(by intro v u u1 h g; obtain ⟨b, rfl, h⟩ := h; exact ⟨b, rfl, g.heap h⟩), ?_⟩; intro V u hu hk; refine ⟨by kernel_rfl, ?_⟩; go_simp; exact ⟨⟨_, rfl, heap_alloc_self _ _⟩, (Gr.refl _).alloc _⟩) | (refine ⟨(by intro v u u1 h g; first | exact ownsRow_g h g | exact st_and h g | exact h), ?_⟩; intro V u hu hk; refine ⟨by kernel_rfl, turn_owes (by kernel_rfl) ?_⟩; obtain ⟨hc, hf, hz⟩ := hu.cells; go_simp; skip) | (refine ⟨(by intro v u u1 h g; first | exact ownsRow_g h g | exact st_and h g | exact h), ?_⟩; intro V u hu hk; refine ⟨by kernel_rfl, ?_⟩; obtain ⟨hc, hf, hz⟩ := hu.cells; go_simp; skip) | (intro V u hu hk; refine ⟨by kernel_rfl, ?_⟩; obtain ⟨hc, hf, hz⟩ := hu.cells; go_simp; first | exact ⟨rfl, Gr.refl _⟩ | skip) | (intro V u hu hk; show _ = false; kernel_rfl))
      · (first | exact trivial | (refine ⟨(by intro v u u1 h g; obtain ⟨b, rfl, h⟩ := h; exact ⟨b, rfl, g.heap h⟩), ?_⟩; intro V u hu hk; refine ⟨by kernel_rfl, ?_⟩; go_simp; exact ⟨⟨_, rfl, heap_alloc_self _ _⟩, (Gr.refl _).alloc _⟩) | (refine ⟨(by intro v u u1 h g; first | exact ownsRow_g h g | exact st_and h g | exact h), ?_⟩; intro V u hu hk; refine ⟨by kernel_rfl, turn_owes (by kernel_rfl) ?_⟩; obtain ⟨hc, hf, hz⟩ := hu.cells; go_simp; skip) | (refine ⟨(by intro v u u1 h g; first | exact ownsRow_g h g | exact st_and h g | exact h), ?_⟩; intro V u hu hk; refine ⟨by kernel_rfl, ?_⟩; obtain ⟨hc, hf, hz⟩ := hu.cells; go_simp; skip) | (intro V u hu hk; refine ⟨by kernel_rfl, ?_⟩; obtain ⟨hc, hf, hz⟩ := hu.cells; go_simp; first | exact ⟨rfl, Gr.refl _⟩ | skip) | (intro V u hu hk; show _ = false; kernel_rfl))
      · (first | exact trivial | (refine ⟨(by intro v u u1 h g; obtain ⟨b, rfl, h⟩ := h; exact ⟨b, rfl, g.heap h⟩), ?_⟩; intro V u hu hk; refine ⟨by kernel_rfl, ?_⟩; go_simp; exact ⟨⟨_, rfl, heap_alloc_self _ _⟩, (Gr.refl _).alloc _⟩) | (refine ⟨(by intro v u u1 h g; first | exact ownsRow_g h g | exact st_and h g | exact h), ?_⟩; intro V u hu hk; refine ⟨by kernel_rfl, turn_owes (by kernel_rfl) ?_⟩; obtain ⟨hc, hf, hz⟩ := hu.cells; go_simp; skip) | (refine ⟨(by intro v u u1 h g; first | exact ownsRow_g h g | exact st_and h g | exact h), ?_⟩; intro V u hu hk; refine ⟨by kernel_rfl, ?_⟩; obtain ⟨hc, hf, hz⟩ := hu.cells; go_simp; skip) | (intro V u hu hk; refine ⟨by kernel_rfl, ?_⟩; obtain ⟨hc, hf, hz⟩ := hu.cells; go_simp; first | exact ⟨rfl, Gr.refl _⟩ | skip) | (intro V u hu hk; show _ = false; kernel_rfl))
      · exact owes_load _ _ rfl (fun V => by kernel_rfl) b8 0 (fun V => by kernel_rfl) C _ Tryz.underlying140 rfl (by rw [hCs]; kernel_rfl) hr8
      · (first | exact trivial | (refine ⟨(by intro v u u1 h g; obtain ⟨b, rfl, h⟩ := h; exact ⟨b, rfl, g.heap h⟩), ?_⟩; intro V u hu hk; refine ⟨by kernel_rfl, ?_⟩; go_simp; exact ⟨⟨_, rfl, heap_alloc_self _ _⟩, (Gr.refl _).alloc _⟩) | (refine ⟨(by intro v u u1 h g; first | exact ownsRow_g h g | exact st_and h g | exact h), ?_⟩; intro V u hu hk; refine ⟨by kernel_rfl, turn_owes (by kernel_rfl) ?_⟩; obtain ⟨hc, hf, hz⟩ := hu.cells; go_simp; skip) | (refine ⟨(by intro v u u1 h g; first | exact ownsRow_g h g | exact st_and h g | exact h), ?_⟩; intro V u hu hk; refine ⟨by kernel_rfl, ?_⟩; obtain ⟨hc, hf, hz⟩ := hu.cells; go_simp; skip) | (intro V u hu hk; refine ⟨by kernel_rfl, ?_⟩; obtain ⟨hc, hf, hz⟩ := hu.cells; go_simp; first | exact ⟨rfl, Gr.refl _⟩ | skip) | (intro V u hu hk; show _ = false; kernel_rfl))
      · exact trivial
    intro V u hg hs
    clear hs cd1 hr8
    replace hd2 := hg.heap hd2
    replace hu := hg.heap hu
    replace hn := hg.heap hn
    replace hq := ownsRow_g hq hg
    replace h8 := hg.heap h8
    replace G2 := G2.trans (GrL.of_gr hg)
    have hst := run_store_at u nw (k * 64) C (there_of hn (k * 64) C.size HFIT.out) hC1
    have gW : GrL [nw] u (u.setCells nw (k * 64) C.toList) := GrL.setCells nw _ _ u (GrL.of_gr (Gr.refl _)) (Or.inr (by simp))
    have hn' := heap_setCells nw _ C.toList (k * 64) u _ hn HFIT.out
    rw [show C.toList.length = 64 from hCs, List.toList_toArray, HSS.out] at hn'
    refine ⟨⟨none, _, _, _, _, _⟩, rfl, rfl, ?_⟩
    generalize u.setCells nw (k * 64) C.toList = W5 at *
    go_simp
    refine Lones.fin ?_
    clear hst hn
    replace hd2 := (gW.block p (heap_lt hd2) (by simp; omega)).trans hd2
    replace hu := (gW.block du (heap_lt hu) (by simp; omega)).trans hu
    replace h8 := (gW.block b8 (heap_lt h8) (by simp; omega)).trans h8
    replace hq := ownsRow_gr hq gW (fun i hi => by simpa using (hpo i hi).2.2)
    replace G2 := G2.trans (gW.mono (m := dbs p du nw pv) (by simp [dbs]))
    clear gW hg
    go_upto_region 11 with (fail)
    have hX1 : XX.all (·.oneCell') = true := by
      rw [← HXX.out, Array.all_append, hC1]
      simp [Value.oneCell']
    have hXs : XX.size = 65 := by rw [← HXX.out]; simp [hCs]
    have hXb := built_change k C hCs
    rw [HXX.out] at hXb
    have HX1 := Lib.hid hX1
    have HXs := Lib.hid hXs
    obtain ⟨i0, hi0, hz0, hz1, hz2⟩ := info_parts info_change
    have hr8 : W5.rangeAt b8 0 C.toList := rangeAt_of h8 0 _ (fun j v hv => by simpa using hv)
    have hz5 := G2.size
    have hb8o : b8 ∉ pv.ownBlock.toList := fun hb => by
      have hlt := owns_lt' HQ0.out b8 (by simpa using hb)
      omega
    clear hX1 hXs
    refine wp_region_stepsJL [12] (fun u => (GrL pv.ownBlock.toList W5 u ∧ u.rangeAt b8 0 C.toList) ∧ u.heap[p]? = some (.cells #[.slice (some ⟨du, 0, none⟩) m k1, .slice (some ⟨nw, 0, none⟩) m k2, pv, .bool ends, .bool false, .int .i64 c'] 132 (0, 0))) (fun u => u.ownsRow 0 143 65 pv pend.length (pend.flatMap chgV)) [9]
      (fun u u' h g => ⟨⟨h.1.1.trans (GrL.of_gr g), rangeAt_gr h.1.2 g⟩, g.heap h.2⟩) (fun u u' h g => ownsRow_g h g) ⟨⟨GrL.of_gr (Gr.refl _), hr8⟩, hd2⟩ hq (by kernel_rfl)
      [.val (.pointer (some ⟨p, 0, none⟩)), .val (.pointer (some ⟨p, 0, none⟩)), .val (.pointer (some ⟨p, 0, none⟩)), .val (.pointer (some ⟨p, 2, none⟩)), .val pv, .val (.int .i64 k), .val (.agg C), .val (.agg XX), .sat (fun v u => ∃ b, v = .slice (some ⟨b, 0, none⟩) 1 1 ∧ u.heap[b]? = some (.cells XX 143 (0, 0))),
       .turn (fun v u => u.ownsRow B0 143 65 v (pend.length + 1) (pend.flatMap chgV ++ XX.toList)) [8], .val (.pointer (some ⟨p, 0, none⟩)), .val (.pointer (some ⟨p, 2, none⟩)), .later] (by kernel_rfl) (by kernel_rfl) (fun V => by first | (simp only [finS, Step.isLater, Bool.false_eq_true, if_false, if_true, Act.put, Step.value, List.setIfInBounds_toArray, List.set_cons_zero, List.set_cons_succ]; rfl) | (simp only [finS, Step.isLater, Bool.false_eq_true, if_false, if_true, Act.put, Step.value, List.setIfInBounds_toArray, List.set_cons_zero, List.set_cons_succ, Nat.zero_add, Nat.reduceAdd]; rfl)) ?_ ?_
    · refine ⟨?_, ?_, ?_, ?_, ?_, ?_, ?_, ?_, ?_, ?_, ?_, ?_, ?_, trivial⟩
      · (first | exact trivial | (refine ⟨(by intro v u u1 h g; obtain ⟨b, rfl, h⟩ := h; exact ⟨b, rfl, g.heap h⟩), ?_⟩; intro V u hu hj hk; refine ⟨by kernel_rfl, ?_⟩; go_simp; exact ⟨⟨_, rfl, heap_alloc_self _ _⟩, (Gr.refl _).alloc _⟩) | (intro V u hu hj hk; refine ⟨by kernel_rfl, ?_⟩; obtain ⟨hc, hf, hz⟩ := blk_cells hu.2; go_simp; first | exact ⟨rfl, Gr.refl _⟩ | skip))
      · (first | exact trivial | (refine ⟨(by intro v u u1 h g; obtain ⟨b, rfl, h⟩ := h; exact ⟨b, rfl, g.heap h⟩), ?_⟩; intro V u hu hj hk; refine ⟨by kernel_rfl, ?_⟩; go_simp; exact ⟨⟨_, rfl, heap_alloc_self _ _⟩, (Gr.refl _).alloc _⟩) | (intro V u hu hj hk; refine ⟨by kernel_rfl, ?_⟩; obtain ⟨hc, hf, hz⟩ := blk_cells hu.2; go_simp; first | exact ⟨rfl, Gr.refl _⟩ | skip))
      · (first | exact trivial | (refine ⟨(by intro v u u1 h g; obtain ⟨b, rfl, h⟩ := h; exact ⟨b, rfl, g.heap h⟩), ?_⟩; intro V u hu hj hk; refine ⟨by kernel_rfl, ?_⟩; go_simp; exact ⟨⟨_, rfl, heap_alloc_self _ _⟩, (Gr.refl _).alloc _⟩) | (intro V u hu hj hk; refine ⟨by kernel_rfl, ?_⟩; obtain ⟨hc, hf, hz⟩ := blk_cells hu.2; go_simp; first | exact ⟨rfl, Gr.refl _⟩ | skip))
      · (first | exact trivial | (refine ⟨(by intro v u u1 h g; obtain ⟨b, rfl, h⟩ := h; exact ⟨b, rfl, g.heap h⟩), ?_⟩; intro V u hu hj hk; refine ⟨by kernel_rfl, ?_⟩; go_simp; exact ⟨⟨_, rfl, heap_alloc_self _ _⟩, (Gr.refl _).alloc _⟩) | (intro V u hu hj hk; refine ⟨by kernel_rfl, ?_⟩; obtain ⟨hc, hf, hz⟩ := blk_cells hu.2; go_simp; first | exact ⟨rfl, Gr.refl _⟩ | skip))
      · (first | exact trivial | (refine ⟨(by intro v u u1 h g; obtain ⟨b, rfl, h⟩ := h; exact ⟨b, rfl, g.heap h⟩), ?_⟩; intro V u hu hj hk; refine ⟨by kernel_rfl, ?_⟩; go_simp; exact ⟨⟨_, rfl, heap_alloc_self _ _⟩, (Gr.refl _).alloc _⟩) | (intro V u hu hj hk; refine ⟨by kernel_rfl, ?_⟩; obtain ⟨hc, hf, hz⟩ := blk_cells hu.2; go_simp; first | exact ⟨rfl, Gr.refl _⟩ | skip))
      · (first | exact trivial | (refine ⟨(by intro v u u1 h g; obtain ⟨b, rfl, h⟩ := h; exact ⟨b, rfl, g.heap h⟩), ?_⟩; intro V u hu hj hk; refine ⟨by kernel_rfl, ?_⟩; go_simp; exact ⟨⟨_, rfl, heap_alloc_self _ _⟩, (Gr.refl _).alloc _⟩) | (intro V u hu hj hk; refine ⟨by kernel_rfl, ?_⟩; obtain ⟨hc, hf, hz⟩ := blk_cells hu.2; go_simp; first | exact ⟨rfl, Gr.refl _⟩ | skip))
      · exact owesJ_load _ _ rfl (fun V => by kernel_rfl) b8 0 (fun V => by kernel_rfl) C _ Tryz.underlying140 rfl (by rw [hCs]; kernel_rfl) (fun u hu => hu.1.2)
      · exact owesJ_build _ _ rfl (fun V => by kernel_rfl) [(0, .int .i64 k), (1, .agg C)] (fun V => by kernel_rfl) XX hXb
      · refine owesJ_bslice _ 143 1 _ rfl (fun V => by kernel_rfl) [(0, .agg XX)] (fun V => by kernel_rfl) XX i0 _ Tryz.underlying130 hi0 hz0 (by rw [hz1]; decide) (by rw [hz1]; decide) ?_
        rw [hz1]
        exact bslice_change XX _ HXs.out (by simp)
      · refine ⟨fun v u u1 h g => ownsRow_g h g, fun V u hu hj hk => ⟨by kernel_rfl, turnJ (R := fun u => (GrL pv.ownBlock.toList W5 u ∧ u.rangeAt b8 0 C.toList) ∧ u.heap[p]? = some (.cells #[.slice (some ⟨du, 0, none⟩) m k1, .slice (some ⟨nw, 0, none⟩) m k2, pv, .bool ends, .bool false, .int .i64 c'] 132 (0, 0))) (J := fun u => u.ownsRow 0 143 65 pv pend.length (pend.flatMap chgV)) (dj := [9]) (k := 9) (drop := [8]) (V := V) (u := u) (by kernel_rfl) (by kernel_rfl) ?_⟩⟩
        obtain ⟨g, hv, hb⟩ := hk 8 _ rfl (by kernel_rfl)
        have hJ := hj (by kernel_rfl)
        have hz1' := hu.1.1.size
        refine cameS_append _ _ 130 rfl B0 143 i0 _ 65 72 Tryz.underlying130 hi0 hz0 hz1 hz2 (by simp [Value.cells]) (by decide) pv pend.length _ rfl (owns_up hJ hB) ⟨g, 0, none⟩ 1 1 XX.toList hv (by rw [show XX.toList.length = XX.size from rfl, HXs.out]) (fun j v hv => by
          rw [Addr.add_mid, (blk_cells hb).1]
          simpa using hv) (fun u hu => (Array.all_eq_true_iff_forall_mem.1 HX1.out) u (by simpa using hu)) (by unfold maxLen; omega) (by omega) (by omega) (fun v' w' h1 h2 => ⟨h1, ⟨hu.1.1.trans (GrL.of_grownR h2), rangeAt_grl hu.1.2 (GrL.of_grownR h2) hb8o⟩, ?_⟩)
        exact (GrL.of_grownR h2).block p (heap_lt hu.2) (fun hq => (hpo p (by simpa using hq)).1 rfl) |>.trans hu.2
      · (first | exact trivial | (refine ⟨(by intro v u u1 h g; obtain ⟨b, rfl, h⟩ := h; exact ⟨b, rfl, g.heap h⟩), ?_⟩; intro V u hu hj hk; refine ⟨by kernel_rfl, ?_⟩; go_simp; exact ⟨⟨_, rfl, heap_alloc_self _ _⟩, (Gr.refl _).alloc _⟩) | (intro V u hu hj hk; refine ⟨by kernel_rfl, ?_⟩; obtain ⟨hc, hf, hz⟩ := blk_cells hu.2; go_simp; first | exact ⟨rfl, Gr.refl _⟩ | skip))
      · (first | exact trivial | (refine ⟨(by intro v u u1 h g; obtain ⟨b, rfl, h⟩ := h; exact ⟨b, rfl, g.heap h⟩), ?_⟩; intro V u hu hj hk; refine ⟨by kernel_rfl, ?_⟩; go_simp; exact ⟨⟨_, rfl, heap_alloc_self _ _⟩, (Gr.refl _).alloc _⟩) | (intro V u hu hj hk; refine ⟨by kernel_rfl, ?_⟩; obtain ⟨hc, hf, hz⟩ := blk_cells hu.2; go_simp; first | exact ⟨rfl, Gr.refl _⟩ | skip))
      · exact trivial
    intro V1 u1 hg1 hs1
    have hv := hs1 9 _ rfl
    obtain ⟨⟨g2, -⟩, hd3⟩ := hg1
    have hu3 := (g2.block du (heap_lt hu) (fun hq => (hpo du (by simpa using hq)).2.1 rfl)).trans hu
    have hn3 := (g2.block nw (heap_lt hn') (fun hq => (hpo nw (by simpa using hq)).2.2 rfl)).trans hn'
    replace G2 := G2.trans (g2.mono (m := dbs p du nw pv) (fun i hi => by unfold dbs; exact List.mem_cons_of_mem _ (List.mem_cons_of_mem _ (List.mem_cons_of_mem _ hi))))
    obtain ⟨a', c9, hv', -⟩ := owns_form hv
    rw [hv'] at hv
    rw [hv']
    have g3 : GrL [p] u1 (u1.setCell ⟨p, 2, none⟩ (.slice a' (pend.length + 1) c9)) := (GrL.of_gr (Gr.refl _)).set _ _ (Or.inr (by simp))
    have hd4 := put_at hd3 2 (.slice a' (pend.length + 1) c9)
    have hv4 := ownsRow_gr hv g3 (fun i hi => by
      obtain ⟨c, hc⟩ := own_ty hv i hi
      simpa using ty_ne hc hd3 (by decide))
    have hu4 := (g3.block du (heap_lt hu3) (by simp; omega)).trans hu3
    have hn4 := (g3.block nw (heap_lt hn3) (by simp; omega)).trans hn3
    have HV := Lib.hid hv4
    have HD := Lib.hid hd4
    have HN := Lib.hid hn4
    have HU := Lib.hid hu4
    have GG := G2.trans (g3.mono (m := dbs p du nw pv) (by simp [dbs]))
    obtain ⟨cx, fx, zx⟩ := blk_cells hd3
    clear hv hv4 hs1 g3 hd4 hn4 hu4 hu3 hn3 hu hn' hd2 hq h8 hr8 hXb hi0 hz0 hz1 hz2
    refine ⟨⟨none, _, _, _, _, _⟩, rfl, rfl, ?_⟩
    go_simp
    refine Lones.fin ?_
    clear cx fx zx
    generalize u1.setCell ⟨p, 2, none⟩ (.slice a' (pend.length + 1) c9) = W6 at *
    go_wp2_with fail
    go_ret
    refine ⟨rfl, GG, _, ⟨⟨k1, k2, ends, c', by simpa using HD.out, (by
      have := HCC.out
      simpa using this)⟩, HU.out, ?_, ?_, un⟩, owns_base HV.out⟩
    · refine ⟨X0, ?_⟩
      show W6.heap[nw]? = some (.cells (secs (setAll dur (pend ++ [(k, padB b)])) ++ X0).toArray 140 (0, 0))
      rw [setAll_snoc]
      exact HN.out
    · show W6.ownsRow 0 143 65 _ (pend ++ [(k, padB b)]).length ((pend ++ [(k, padB b)]).flatMap chgV)
      have := owns_zero HV.out
      rw [List.length_append, List.flatMap_append]
      have e : XX.toList = [(k, padB b)].flatMap chgV := by rw [← HXX.out, ← HCd.out]; simp
      rw [← e]
      exact this
  · obtain ⟨gb, ob, rfl, hbr⟩ := hx (by omega)
    apply wp_region_lit
    (refine wpList_plain rfl fun K hK => ?_; go_simp; refine hK _ _ ?_; clear hK K)
    (refine wpList_plain rfl fun K hK => ?_; go_simp; refine hK _ _ ?_; clear hK K)
    refine wpList_copy_own rfl _ _ 57 57 rfl 5 Tryz.underlying57 (by kernel_rfl) b8 0 64 64 ⟨gb, ob, none⟩ b.length cap rfl rfl _ _ h8 (b.map byV) (by rw [List.length_map]; exact (Nat.min_eq_left hb).symm) (fun j v hv => by rw [Addr.add_mid]; exact hbr j v hv) (by simp [hb]) (by_one b) ?_
    have hb8' := setRow_heap W3 b8 _ ((List.replicate 64 (byV 0)).toArray.toList.take 0 ++ (b.map byV ++ (List.replicate 64 (byV 0)).toArray.toList.drop (0 + (b.map byV).length))).toArray _ _ h8
    have e8 : ((List.replicate 64 (byV 0)).toArray.toList.take 0 ++ (b.map byV ++ (List.replicate 64 (byV 0)).toArray.toList.drop (0 + (b.map byV).length))).toArray = C := by
      rw [← HCP.out, List.length_map, Nat.zero_add, List.take_zero, List.nil_append, List.toList_toArray, List.drop_replicate]
    rw [e8] at hb8' ⊢
    have gW := (GrL.of_gr (Gr.refl W3)).setRow (l := [b8]) b8 C (Or.inr (by simp))
    generalize W3.setRow b8 C = W4 at *
    clear h8 hbr hx e8 hb0
    have h8 := hb8'
    replace hd2 := (gW.block p (heap_lt hd2) (by simp; omega)).trans hd2
    replace hu := (gW.block du (heap_lt hu) (by simp; omega)).trans hu
    replace hn := (gW.block nw (heap_lt hn) (by simp; omega)).trans hn
    replace hq := ownsRow_gr hq gW (fun i hi => by
      have := owns_lt' HQ0.out i hi
      simp
      omega)
    replace G2 : GrL (dbs p du nw pv) w W4 := ⟨gW.os.trans G2.os, gW.tape.trans G2.tape, gW.output.trans G2.output, Nat.le_trans G2.size gW.size, fun k hk hm => (gW.block k (Nat.lt_of_lt_of_le hk G2.size) (by simp; omega)).trans (G2.block k hk hm), trivial⟩
    clear gW hb8'
    have hz8 : w.heap.size ≤ b8 := by omega
    go_upto_region 10 with (fail)
    have hr8 : W4.rangeAt b8 0 C.toList := rangeAt_of h8 0 _ (fun j v hv => by simpa using hv)
    obtain ⟨cd, fd, zd⟩ := blk_cells hd2
    have cd1 := cd 1
    simp only [List.getElem?_toArray, List.getElem?_cons_zero, List.getElem?_cons_succ] at cd1
    clear cd fd
    have hil : (k : Int) < (m : Int) := by omega
    refine wp_region_stepsL [7] [.val (.pointer (some ⟨p, 0, none⟩)), .val (.pointer (some ⟨p, 0, none⟩)), .val (.pointer (some ⟨p, 1, none⟩)), .val (.slice (some ⟨nw, 0, none⟩) m k2), .val (.int .i64 k), .val (.agg C), .val (.pointer (some ⟨nw, k * 64, none⟩)), .later] (by kernel_rfl) (by kernel_rfl) (fun V => by first | (simp only [finS, Step.isLater, Bool.false_eq_true, if_false, if_true, Act.put, Step.value, List.setIfInBounds_toArray, List.set_cons_zero, List.set_cons_succ]; rfl) | (simp only [finS, Step.isLater, Bool.false_eq_true, if_false, if_true, Act.put, Step.value, List.setIfInBounds_toArray, List.set_cons_zero, List.set_cons_succ, Nat.zero_add, Nat.reduceAdd]; rfl)) ?_ ?_
    · refine ⟨?_, ?_, ?_, ?_, ?_, ?_, ?_, ?_, trivial⟩
      · (first | exact trivial | (refine ⟨(by intro v u u1 h g; obtain ⟨b, rfl, h⟩ := h; exact ⟨b, rfl, g.heap h⟩), ?_⟩; intro V u hu hk; refine ⟨by kernel_rfl, ?_⟩; go_simp; exact ⟨⟨_, rfl, heap_alloc_self _ _⟩, (Gr.refl _).alloc _⟩) | (refine ⟨(by intro v u u1 h g; first | exact ownsRow_g h g | exact st_and h g | exact h), ?_⟩; intro V u hu hk; refine ⟨by kernel_rfl, turn_owes (by kernel_rfl) ?_⟩; obtain ⟨hc, hf, hz⟩ := hu.cells; go_simp; skip) | (refine ⟨(by intro v u u1 h g; first | exact ownsRow_g h g | exact st_and h g | exact h), ?_⟩; intro V u hu hk; refine ⟨by kernel_rfl, ?_⟩; obtain ⟨hc, hf, hz⟩ := hu.cells; go_simp; skip) | (intro V u hu hk; refine ⟨by kernel_rfl, ?_⟩; obtain ⟨hc, hf, hz⟩ := hu.cells; go_simp; first | exact ⟨rfl, Gr.refl _⟩ | skip) | (intro V u hu hk; show _ = false; kernel_rfl))
      · (first | exact trivial | (refine ⟨(by intro v u u1 h g; obtain ⟨b, rfl, h⟩ := h; exact ⟨b, rfl, g.heap h⟩), ?_⟩; intro V u hu hk; refine ⟨by kernel_rfl, ?_⟩; go_simp; exact ⟨⟨_, rfl, heap_alloc_self _ _⟩, (Gr.refl _).alloc _⟩) | (refine ⟨(by intro v u u1 h g; first | exact ownsRow_g h g | exact st_and h g | exact h), ?_⟩; intro V u hu hk; refine ⟨by kernel_rfl, turn_owes (by kernel_rfl) ?_⟩; obtain ⟨hc, hf, hz⟩ := hu.cells; go_simp; skip) | (refine ⟨(by intro v u u1 h g; first | exact ownsRow_g h g | exact st_and h g | exact h), ?_⟩; intro V u hu hk; refine ⟨by kernel_rfl, ?_⟩; obtain ⟨hc, hf, hz⟩ := hu.cells; go_simp; skip) | (intro V u hu hk; refine ⟨by kernel_rfl, ?_⟩; obtain ⟨hc, hf, hz⟩ := hu.cells; go_simp; first | exact ⟨rfl, Gr.refl _⟩ | skip) | (intro V u hu hk; show _ = false; kernel_rfl))
      · (first | exact trivial | (refine ⟨(by intro v u u1 h g; obtain ⟨b, rfl, h⟩ := h; exact ⟨b, rfl, g.heap h⟩), ?_⟩; intro V u hu hk; refine ⟨by kernel_rfl, ?_⟩; go_simp; exact ⟨⟨_, rfl, heap_alloc_self _ _⟩, (Gr.refl _).alloc _⟩) | (refine ⟨(by intro v u u1 h g; first | exact ownsRow_g h g | exact st_and h g | exact h), ?_⟩; intro V u hu hk; refine ⟨by kernel_rfl, turn_owes (by kernel_rfl) ?_⟩; obtain ⟨hc, hf, hz⟩ := hu.cells; go_simp; skip) | (refine ⟨(by intro v u u1 h g; first | exact ownsRow_g h g | exact st_and h g | exact h), ?_⟩; intro V u hu hk; refine ⟨by kernel_rfl, ?_⟩; obtain ⟨hc, hf, hz⟩ := hu.cells; go_simp; skip) | (intro V u hu hk; refine ⟨by kernel_rfl, ?_⟩; obtain ⟨hc, hf, hz⟩ := hu.cells; go_simp; first | exact ⟨rfl, Gr.refl _⟩ | skip) | (intro V u hu hk; show _ = false; kernel_rfl))
      · (first | exact trivial | (refine ⟨(by intro v u u1 h g; obtain ⟨b, rfl, h⟩ := h; exact ⟨b, rfl, g.heap h⟩), ?_⟩; intro V u hu hk; refine ⟨by kernel_rfl, ?_⟩; go_simp; exact ⟨⟨_, rfl, heap_alloc_self _ _⟩, (Gr.refl _).alloc _⟩) | (refine ⟨(by intro v u u1 h g; first | exact ownsRow_g h g | exact st_and h g | exact h), ?_⟩; intro V u hu hk; refine ⟨by kernel_rfl, turn_owes (by kernel_rfl) ?_⟩; obtain ⟨hc, hf, hz⟩ := hu.cells; go_simp; skip) | (refine ⟨(by intro v u u1 h g; first | exact ownsRow_g h g | exact st_and h g | exact h), ?_⟩; intro V u hu hk; refine ⟨by kernel_rfl, ?_⟩; obtain ⟨hc, hf, hz⟩ := hu.cells; go_simp; skip) | (intro V u hu hk; refine ⟨by kernel_rfl, ?_⟩; obtain ⟨hc, hf, hz⟩ := hu.cells; go_simp; first | exact ⟨rfl, Gr.refl _⟩ | skip) | (intro V u hu hk; show _ = false; kernel_rfl))
      · (first | exact trivial | (refine ⟨(by intro v u u1 h g; obtain ⟨b, rfl, h⟩ := h; exact ⟨b, rfl, g.heap h⟩), ?_⟩; intro V u hu hk; refine ⟨by kernel_rfl, ?_⟩; go_simp; exact ⟨⟨_, rfl, heap_alloc_self _ _⟩, (Gr.refl _).alloc _⟩) | (refine ⟨(by intro v u u1 h g; first | exact ownsRow_g h g | exact st_and h g | exact h), ?_⟩; intro V u hu hk; refine ⟨by kernel_rfl, turn_owes (by kernel_rfl) ?_⟩; obtain ⟨hc, hf, hz⟩ := hu.cells; go_simp; skip) | (refine ⟨(by intro v u u1 h g; first | exact ownsRow_g h g | exact st_and h g | exact h), ?_⟩; intro V u hu hk; refine ⟨by kernel_rfl, ?_⟩; obtain ⟨hc, hf, hz⟩ := hu.cells; go_simp; skip) | (intro V u hu hk; refine ⟨by kernel_rfl, ?_⟩; obtain ⟨hc, hf, hz⟩ := hu.cells; go_simp; first | exact ⟨rfl, Gr.refl _⟩ | skip) | (intro V u hu hk; show _ = false; kernel_rfl))
      · exact owes_load _ _ rfl (fun V => by kernel_rfl) b8 0 (fun V => by kernel_rfl) C _ Tryz.underlying140 rfl (by rw [hCs]; kernel_rfl) hr8
      · (first | exact trivial | (refine ⟨(by intro v u u1 h g; obtain ⟨b, rfl, h⟩ := h; exact ⟨b, rfl, g.heap h⟩), ?_⟩; intro V u hu hk; refine ⟨by kernel_rfl, ?_⟩; go_simp; exact ⟨⟨_, rfl, heap_alloc_self _ _⟩, (Gr.refl _).alloc _⟩) | (refine ⟨(by intro v u u1 h g; first | exact ownsRow_g h g | exact st_and h g | exact h), ?_⟩; intro V u hu hk; refine ⟨by kernel_rfl, turn_owes (by kernel_rfl) ?_⟩; obtain ⟨hc, hf, hz⟩ := hu.cells; go_simp; skip) | (refine ⟨(by intro v u u1 h g; first | exact ownsRow_g h g | exact st_and h g | exact h), ?_⟩; intro V u hu hk; refine ⟨by kernel_rfl, ?_⟩; obtain ⟨hc, hf, hz⟩ := hu.cells; go_simp; skip) | (intro V u hu hk; refine ⟨by kernel_rfl, ?_⟩; obtain ⟨hc, hf, hz⟩ := hu.cells; go_simp; first | exact ⟨rfl, Gr.refl _⟩ | skip) | (intro V u hu hk; show _ = false; kernel_rfl))
      · exact trivial
    intro V u hg hs
    clear hs cd1 hr8
    replace hd2 := hg.heap hd2
    replace hu := hg.heap hu
    replace hn := hg.heap hn
    replace hq := ownsRow_g hq hg
    replace h8 := hg.heap h8
    replace G2 := G2.trans (GrL.of_gr hg)
    have hst := run_store_at u nw (k * 64) C (there_of hn (k * 64) C.size HFIT.out) hC1
    have gW : GrL [nw] u (u.setCells nw (k * 64) C.toList) := GrL.setCells nw _ _ u (GrL.of_gr (Gr.refl _)) (Or.inr (by simp))
    have hn' := heap_setCells nw _ C.toList (k * 64) u _ hn HFIT.out
    rw [show C.toList.length = 64 from hCs, List.toList_toArray, HSS.out] at hn'
    refine ⟨⟨none, _, _, _, _, _⟩, rfl, rfl, ?_⟩
    generalize u.setCells nw (k * 64) C.toList = W5 at *
    go_simp
    refine Lones.fin ?_
    clear hst hn
    replace hd2 := (gW.block p (heap_lt hd2) (by simp; omega)).trans hd2
    replace hu := (gW.block du (heap_lt hu) (by simp; omega)).trans hu
    replace h8 := (gW.block b8 (heap_lt h8) (by simp; omega)).trans h8
    replace hq := ownsRow_gr hq gW (fun i hi => by simpa using (hpo i hi).2.2)
    replace G2 := G2.trans (gW.mono (m := dbs p du nw pv) (by simp [dbs]))
    clear gW hg
    go_upto_region 11 with (fail)
    have hX1 : XX.all (·.oneCell') = true := by
      rw [← HXX.out, Array.all_append, hC1]
      simp [Value.oneCell']
    have hXs : XX.size = 65 := by rw [← HXX.out]; simp [hCs]
    have hXb := built_change k C hCs
    rw [HXX.out] at hXb
    have HX1 := Lib.hid hX1
    have HXs := Lib.hid hXs
    obtain ⟨i0, hi0, hz0, hz1, hz2⟩ := info_parts info_change
    have hr8 : W5.rangeAt b8 0 C.toList := rangeAt_of h8 0 _ (fun j v hv => by simpa using hv)
    have hz5 := G2.size
    have hb8o : b8 ∉ pv.ownBlock.toList := fun hb => by
      have hlt := owns_lt' HQ0.out b8 (by simpa using hb)
      omega
    clear hX1 hXs
    refine wp_region_stepsJL [12] (fun u => (GrL pv.ownBlock.toList W5 u ∧ u.rangeAt b8 0 C.toList) ∧ u.heap[p]? = some (.cells #[.slice (some ⟨du, 0, none⟩) m k1, .slice (some ⟨nw, 0, none⟩) m k2, pv, .bool ends, .bool false, .int .i64 c'] 132 (0, 0))) (fun u => u.ownsRow 0 143 65 pv pend.length (pend.flatMap chgV)) [9]
      (fun u u' h g => ⟨⟨h.1.1.trans (GrL.of_gr g), rangeAt_gr h.1.2 g⟩, g.heap h.2⟩) (fun u u' h g => ownsRow_g h g) ⟨⟨GrL.of_gr (Gr.refl _), hr8⟩, hd2⟩ hq (by kernel_rfl)
      [.val (.pointer (some ⟨p, 0, none⟩)), .val (.pointer (some ⟨p, 0, none⟩)), .val (.pointer (some ⟨p, 0, none⟩)), .val (.pointer (some ⟨p, 2, none⟩)), .val pv, .val (.int .i64 k), .val (.agg C), .val (.agg XX), .sat (fun v u => ∃ b, v = .slice (some ⟨b, 0, none⟩) 1 1 ∧ u.heap[b]? = some (.cells XX 143 (0, 0))),
       .turn (fun v u => u.ownsRow B0 143 65 v (pend.length + 1) (pend.flatMap chgV ++ XX.toList)) [8], .val (.pointer (some ⟨p, 0, none⟩)), .val (.pointer (some ⟨p, 2, none⟩)), .later] (by kernel_rfl) (by kernel_rfl) (fun V => by first | (simp only [finS, Step.isLater, Bool.false_eq_true, if_false, if_true, Act.put, Step.value, List.setIfInBounds_toArray, List.set_cons_zero, List.set_cons_succ]; rfl) | (simp only [finS, Step.isLater, Bool.false_eq_true, if_false, if_true, Act.put, Step.value, List.setIfInBounds_toArray, List.set_cons_zero, List.set_cons_succ, Nat.zero_add, Nat.reduceAdd]; rfl)) ?_ ?_
    · refine ⟨?_, ?_, ?_, ?_, ?_, ?_, ?_, ?_, ?_, ?_, ?_, ?_, ?_, trivial⟩
      · (first | exact trivial | (refine ⟨(by intro v u u1 h g; obtain ⟨b, rfl, h⟩ := h; exact ⟨b, rfl, g.heap h⟩), ?_⟩; intro V u hu hj hk; refine ⟨by kernel_rfl, ?_⟩; go_simp; exact ⟨⟨_, rfl, heap_alloc_self _ _⟩, (Gr.refl _).alloc _⟩) | (intro V u hu hj hk; refine ⟨by kernel_rfl, ?_⟩; obtain ⟨hc, hf, hz⟩ := blk_cells hu.2; go_simp; first | exact ⟨rfl, Gr.refl _⟩ | skip))
      · (first | exact trivial | (refine ⟨(by intro v u u1 h g; obtain ⟨b, rfl, h⟩ := h; exact ⟨b, rfl, g.heap h⟩), ?_⟩; intro V u hu hj hk; refine ⟨by kernel_rfl, ?_⟩; go_simp; exact ⟨⟨_, rfl, heap_alloc_self _ _⟩, (Gr.refl _).alloc _⟩) | (intro V u hu hj hk; refine ⟨by kernel_rfl, ?_⟩; obtain ⟨hc, hf, hz⟩ := blk_cells hu.2; go_simp; first | exact ⟨rfl, Gr.refl _⟩ | skip))
      · (first | exact trivial | (refine ⟨(by intro v u u1 h g; obtain ⟨b, rfl, h⟩ := h; exact ⟨b, rfl, g.heap h⟩), ?_⟩; intro V u hu hj hk; refine ⟨by kernel_rfl, ?_⟩; go_simp; exact ⟨⟨_, rfl, heap_alloc_self _ _⟩, (Gr.refl _).alloc _⟩) | (intro V u hu hj hk; refine ⟨by kernel_rfl, ?_⟩; obtain ⟨hc, hf, hz⟩ := blk_cells hu.2; go_simp; first | exact ⟨rfl, Gr.refl _⟩ | skip))
      · (first | exact trivial | (refine ⟨(by intro v u u1 h g; obtain ⟨b, rfl, h⟩ := h; exact ⟨b, rfl, g.heap h⟩), ?_⟩; intro V u hu hj hk; refine ⟨by kernel_rfl, ?_⟩; go_simp; exact ⟨⟨_, rfl, heap_alloc_self _ _⟩, (Gr.refl _).alloc _⟩) | (intro V u hu hj hk; refine ⟨by kernel_rfl, ?_⟩; obtain ⟨hc, hf, hz⟩ := blk_cells hu.2; go_simp; first | exact ⟨rfl, Gr.refl _⟩ | skip))
      · (first | exact trivial | (refine ⟨(by intro v u u1 h g; obtain ⟨b, rfl, h⟩ := h; exact ⟨b, rfl, g.heap h⟩), ?_⟩; intro V u hu hj hk; refine ⟨by kernel_rfl, ?_⟩; go_simp; exact ⟨⟨_, rfl, heap_alloc_self _ _⟩, (Gr.refl _).alloc _⟩) | (intro V u hu hj hk; refine ⟨by kernel_rfl, ?_⟩; obtain ⟨hc, hf, hz⟩ := blk_cells hu.2; go_simp; first | exact ⟨rfl, Gr.refl _⟩ | skip))
      · (first | exact trivial | (refine ⟨(by intro v u u1 h g; obtain ⟨b, rfl, h⟩ := h; exact ⟨b, rfl, g.heap h⟩), ?_⟩; intro V u hu hj hk; refine ⟨by kernel_rfl, ?_⟩; go_simp; exact ⟨⟨_, rfl, heap_alloc_self _ _⟩, (Gr.refl _).alloc _⟩) | (intro V u hu hj hk; refine ⟨by kernel_rfl, ?_⟩; obtain ⟨hc, hf, hz⟩ := blk_cells hu.2; go_simp; first | exact ⟨rfl, Gr.refl _⟩ | skip))
      · exact owesJ_load _ _ rfl (fun V => by kernel_rfl) b8 0 (fun V => by kernel_rfl) C _ Tryz.underlying140 rfl (by rw [hCs]; kernel_rfl) (fun u hu => hu.1.2)
      · exact owesJ_build _ _ rfl (fun V => by kernel_rfl) [(0, .int .i64 k), (1, .agg C)] (fun V => by kernel_rfl) XX hXb
      · refine owesJ_bslice _ 143 1 _ rfl (fun V => by kernel_rfl) [(0, .agg XX)] (fun V => by kernel_rfl) XX i0 _ Tryz.underlying130 hi0 hz0 (by rw [hz1]; decide) (by rw [hz1]; decide) ?_
        rw [hz1]
        exact bslice_change XX _ HXs.out (by simp)
      · refine ⟨fun v u u1 h g => ownsRow_g h g, fun V u hu hj hk => ⟨by kernel_rfl, turnJ (R := fun u => (GrL pv.ownBlock.toList W5 u ∧ u.rangeAt b8 0 C.toList) ∧ u.heap[p]? = some (.cells #[.slice (some ⟨du, 0, none⟩) m k1, .slice (some ⟨nw, 0, none⟩) m k2, pv, .bool ends, .bool false, .int .i64 c'] 132 (0, 0))) (J := fun u => u.ownsRow 0 143 65 pv pend.length (pend.flatMap chgV)) (dj := [9]) (k := 9) (drop := [8]) (V := V) (u := u) (by kernel_rfl) (by kernel_rfl) ?_⟩⟩
        obtain ⟨g, hv, hb⟩ := hk 8 _ rfl (by kernel_rfl)
        have hJ := hj (by kernel_rfl)
        have hz1' := hu.1.1.size
        refine cameS_append _ _ 130 rfl B0 143 i0 _ 65 72 Tryz.underlying130 hi0 hz0 hz1 hz2 (by simp [Value.cells]) (by decide) pv pend.length _ rfl (owns_up hJ hB) ⟨g, 0, none⟩ 1 1 XX.toList hv (by rw [show XX.toList.length = XX.size from rfl, HXs.out]) (fun j v hv => by
          rw [Addr.add_mid, (blk_cells hb).1]
          simpa using hv) (fun u hu => (Array.all_eq_true_iff_forall_mem.1 HX1.out) u (by simpa using hu)) (by unfold maxLen; omega) (by omega) (by omega) (fun v' w' h1 h2 => ⟨h1, ⟨hu.1.1.trans (GrL.of_grownR h2), rangeAt_grl hu.1.2 (GrL.of_grownR h2) hb8o⟩, ?_⟩)
        exact (GrL.of_grownR h2).block p (heap_lt hu.2) (fun hq => (hpo p (by simpa using hq)).1 rfl) |>.trans hu.2
      · (first | exact trivial | (refine ⟨(by intro v u u1 h g; obtain ⟨b, rfl, h⟩ := h; exact ⟨b, rfl, g.heap h⟩), ?_⟩; intro V u hu hj hk; refine ⟨by kernel_rfl, ?_⟩; go_simp; exact ⟨⟨_, rfl, heap_alloc_self _ _⟩, (Gr.refl _).alloc _⟩) | (intro V u hu hj hk; refine ⟨by kernel_rfl, ?_⟩; obtain ⟨hc, hf, hz⟩ := blk_cells hu.2; go_simp; first | exact ⟨rfl, Gr.refl _⟩ | skip))
      · (first | exact trivial | (refine ⟨(by intro v u u1 h g; obtain ⟨b, rfl, h⟩ := h; exact ⟨b, rfl, g.heap h⟩), ?_⟩; intro V u hu hj hk; refine ⟨by kernel_rfl, ?_⟩; go_simp; exact ⟨⟨_, rfl, heap_alloc_self _ _⟩, (Gr.refl _).alloc _⟩) | (intro V u hu hj hk; refine ⟨by kernel_rfl, ?_⟩; obtain ⟨hc, hf, hz⟩ := blk_cells hu.2; go_simp; first | exact ⟨rfl, Gr.refl _⟩ | skip))
      · exact trivial
    intro V1 u1 hg1 hs1
    have hv := hs1 9 _ rfl
    obtain ⟨⟨g2, -⟩, hd3⟩ := hg1
    have hu3 := (g2.block du (heap_lt hu) (fun hq => (hpo du (by simpa using hq)).2.1 rfl)).trans hu
    have hn3 := (g2.block nw (heap_lt hn') (fun hq => (hpo nw (by simpa using hq)).2.2 rfl)).trans hn'
    replace G2 := G2.trans (g2.mono (m := dbs p du nw pv) (fun i hi => by unfold dbs; exact List.mem_cons_of_mem _ (List.mem_cons_of_mem _ (List.mem_cons_of_mem _ hi))))
    obtain ⟨a', c9, hv', -⟩ := owns_form hv
    rw [hv'] at hv
    rw [hv']
    have g3 : GrL [p] u1 (u1.setCell ⟨p, 2, none⟩ (.slice a' (pend.length + 1) c9)) := (GrL.of_gr (Gr.refl _)).set _ _ (Or.inr (by simp))
    have hd4 := put_at hd3 2 (.slice a' (pend.length + 1) c9)
    have hv4 := ownsRow_gr hv g3 (fun i hi => by
      obtain ⟨c, hc⟩ := own_ty hv i hi
      simpa using ty_ne hc hd3 (by decide))
    have hu4 := (g3.block du (heap_lt hu3) (by simp; omega)).trans hu3
    have hn4 := (g3.block nw (heap_lt hn3) (by simp; omega)).trans hn3
    have HV := Lib.hid hv4
    have HD := Lib.hid hd4
    have HN := Lib.hid hn4
    have HU := Lib.hid hu4
    have GG := G2.trans (g3.mono (m := dbs p du nw pv) (by simp [dbs]))
    obtain ⟨cx, fx, zx⟩ := blk_cells hd3
    clear hv hv4 hs1 g3 hd4 hn4 hu4 hu3 hn3 hu hn' hd2 hq h8 hr8 hXb hi0 hz0 hz1 hz2
    refine ⟨⟨none, _, _, _, _, _⟩, rfl, rfl, ?_⟩
    go_simp
    refine Lones.fin ?_
    clear cx fx zx
    generalize u1.setCell ⟨p, 2, none⟩ (.slice a' (pend.length + 1) c9) = W6 at *
    go_wp2_with fail
    go_ret
    refine ⟨rfl, GG, _, ⟨⟨k1, k2, ends, c', by simpa using HD.out, (by
      have := HCC.out
      simpa using this)⟩, HU.out, ?_, ?_, un⟩, owns_base HV.out⟩
    · refine ⟨X0, ?_⟩
      show W6.heap[nw]? = some (.cells (secs (setAll dur (pend ++ [(k, padB b)])) ++ X0).toArray 140 (0, 0))
      rw [setAll_snoc]
      exact HN.out
    · show W6.ownsRow 0 143 65 _ (pend ++ [(k, padB b)]).length ((pend ++ [(k, padB b)]).flatMap chgV)
      have := owns_zero HV.out
      rw [List.length_append, List.flatMap_append]
      have e : XX.toList = [(k, padB b)].flatMap chgV := by rw [← HXX.out, ← HCd.out]; simp
      rw [← e]
      exact this
end Go.Proofs.YthmimjofdmnakaaGreatDoor
