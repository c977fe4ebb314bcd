/- stricklelaw09: step: an operation on a disk and its definition. -/
import Derived.Test.YthmimjofdmnakaaGreatDoorLDNew
import Derived.Laws.BytesArg
namespace Go.Proofs.YthmimjofdmnakaaGreatDoor
open Go.RowKit Go.Shelf
/-- the disk and its definition stand in the same state, in blocks from B on -/
def Both (B : Nat) (w : World) (p q m : Nat) (S : Sp) (K : Int) : Prop := ∃ du nw pv dv rv, DAt w p du nw m pv S K ∧ RAt w q dv rv S ∧ (∀ b ∈ dbs p du nw pv, B ≤ b) ∧ (∀ b ∈ rbs q dv rv, B ≤ b)
structure Fine (S : Sp) (m : Nat) : Prop where
  ok : S.Ok m
  mx : S.left ≤ 9223372036854775807
theorem call_mx {S : Sp} (h : S.left ≤ 9223372036854775807) : S.call.left ≤ 9223372036854775807 := by
  unfold Sp.call
  split
  · exact h
  · show (if 0 < S.left then S.left - 1 else S.left) ≤ _
    split <;> omega
theorem Fine.write {S : Sp} {m : Nat} (h : Fine S m) (i : Int) (b : List UInt8) : Fine (S.write m i b).2 m ∧ (S.write m i b).2.pend.length ≤ S.pend.length + 1 := by
  refine ⟨⟨Sp.write_ok h.ok i b, ?_⟩, ?_⟩
  · unfold Sp.write
    split
    · exact h.mx
    · split
      · exact h.mx
      · split
        · exact call_mx h.mx
        · exact call_mx h.mx
  · unfold Sp.write
    split
    · simp
    · split
      · simp
      · split
        · rw [Sp.call_pend]; simp
        · simp
theorem Fine.flush {S : Sp} {m : Nat} (h : Fine S m) : Fine S.flush.2 m ∧ S.flush.2.pend.length ≤ S.pend.length + 1 := by
  refine ⟨⟨Sp.flush_ok h.ok, ?_⟩, ?_⟩
  · unfold Sp.flush
    split
    · exact h.mx
    · split <;> exact call_mx h.mx
  · unfold Sp.flush
    split
    · simp
    · split
      · rw [Sp.call_pend]; simp
      · simp
theorem Fine.stop {S : Sp} {m : Nat} (h : Fine S m) {n : Int} (hn : n ≤ 9223372036854775807) : Fine (S.stop n).2 m ∧ (S.stop n).2.pend.length ≤ S.pend.length + 1 := by
  refine ⟨⟨Sp.stop_ok h.ok n, ?_⟩, ?_⟩
  · unfold Sp.stop
    split
    · exact h.mx
    · split
      · exact h.mx
      · exact hn
  · unfold Sp.stop
    split
    · simp
    · split <;> simp
theorem Fine.crash {S : Sp} {m : Nat} (h : Fine S m) (ks : List Int) : Fine (S.crash ks) m ∧ (S.crash ks).pend.length ≤ S.pend.length + 1 :=
  ⟨⟨Sp.crash_ok h.ok ks, by show (-1 : Int) ≤ _; omega⟩, by simp [Sp.crash]⟩
/-- bytes, and numbers, among the arguments -/
def ArgBytes (w : World) (v : Value) (b : List UInt8) : Prop := ∃ a cap, v = .slice a b.length cap ∧ (0 < b.length → ∃ g o, a = some ⟨g, o, none⟩ ∧ g < w.heap.size ∧ w.rangeAt g o (b.map byV))
def ArgInts (w : World) (v : Value) (ks : List Int) : Prop := ∃ a cap, v = .slice a ks.length cap ∧ ∀ j (hj : j < ks.length), ∃ g o, a = some ⟨g, o, none⟩ ∧ g < w.heap.size ∧ w.cell? ⟨g, o + j, none⟩ = some (.int .i64 ks[j])
structure DOp where
  k : Int
  sec : Int
  n : Int
  data : List UInt8
  keep : List Int
structure OpAt (w : World) (v : Value) (o : DOp) : Prop where
  s : ∃ xd xk, v = .agg #[.int .u8 o.k, .int .i64 o.sec, .int .i64 o.n, xd, xk] ∧ ArgBytes w xd o.data ∧ ArgInts w xk o.keep
  kb : 0 ≤ o.k ∧ o.k ≤ 255
  nb : o.n ≤ 9223372036854775807
theorem ArgBytes.at {W0 w : World} {v : Value} {b : List UInt8} (h : ArgBytes W0 v b) (g : Gr W0 w) {no : List Nat} (hn : ∀ x ∈ no, W0.heap.size ≤ x) : BytesAt w v b no := by
  obtain ⟨a, cap, rfl, h⟩ := h
  refine ⟨a, cap, rfl, fun hp => ?_⟩
  obtain ⟨g', o, rfl, hl, hr⟩ := h hp
  exact ⟨g', o, rfl, fun hm => by have := hn _ hm; omega, rangeAt_gr hr g⟩
theorem ArgInts.at {W0 w : World} {v : Value} {ks : List Int} (h : ArgInts W0 v ks) (g : Gr W0 w) {no : List Nat} (hn : ∀ x ∈ no, W0.heap.size ≤ x) : KeepAt w v ks no := by
  obtain ⟨a, cap, rfl, h⟩ := h
  refine ⟨a, cap, rfl, fun j hj => ?_⟩
  obtain ⟨g', o, rfl, hl, hr⟩ := h j hj
  exact ⟨g', o, rfl, fun hm => by have := hn _ hm; omega, Nat.lt_of_lt_of_le hl g.b.size, (g.cells.1 g' _ hl).trans hr⟩
theorem strs (b : List UInt8) : strOfNums (ints b) = ⟨b.toArray⟩ := by
  unfold strOfNums ints
  rw [List.map_map]
  congr 2
  have : ((fun n : Int => UInt8.ofNat n.toNat) ∘ fun b : UInt8 => (b.toNat : Int)) = id := by
    funext x
    simp
  rw [this, List.map_id]
theorem conv_slice (w : World) (a : Option Addr) (n cap : Nat) (b : List UInt8) (hn : n = b.length) (h : 0 < b.length → ∃ g o, a = some ⟨g, o, none⟩ ∧ ∀ j (hj : j < b.length), w.cell? ⟨g, o + j, none⟩ = some (byV b[j])) :
    (convert 57 9 (.slice a n cap)).run Tryz.prog w = .ok (.string ⟨b.toArray⟩) w := by
  subst hn
  by_cases hb : b.length = 0
  · obtain rfl : b = [] := List.eq_nil_of_length_eq_zero hb
    cases a with
    | none => exact run_convert_bytes_nil w 57 5 Tryz.underlying57 Tryz.underlying5 _ _ 9 Tryz.underlying9
    | some ad =>
      have hl : (loadCells ad 0).run Tryz.prog w = .ok (([] : List Int).map (Value.int .u8)).toArray w := by
        have := run_loadCells_list (P := Tryz.prog) w ad [] (fun j v h => by simp at h)
        simpa using this
      have h1 := run_convert_bytes_string (P := Tryz.prog) w 57 9 5 (some ad) 0 cap Tryz.underlying57 Tryz.underlying5 Tryz.underlying9
      rw [run_bytesToString w ad 0 cap [] hl] at h1
      exact h1
  · obtain ⟨g, o, rfl, hc⟩ := h (by omega)
    rw [← strs]
    refine run_convert_bytes_arg w 57 5 Tryz.underlying57 Tryz.underlying5 g o b.length cap (ints b) (ints_len b) (fun i hi => ?_) 9 Tryz.underlying9
    rw [hc i hi, List.getD_eq_getElem?_getD, List.getElem?_eq_getElem (by rw [ints_len]; exact hi)]
    simp [ints]
set_option maxRecDepth 100000 in
set_option maxHeartbeats 8000000 in
theorem step0 (W0 w : World) (p q m : Nat) (S : Sp) (K : Int) (k sec n : Int) (data : List UInt8) (keep : List Int) (xd xk : Value) (g0 : Gr W0 w) (HB : Both W0.heap.size w p q m S K) (HF : Fine S m) (hxd : ArgBytes W0 xd data) (hxk : ArgInts W0 xk keep) (hdl : data.length ≤ 200) (hkl : keep.length ≤ 200) (hn : S.pend.length ≤ 1000) (hK0 : 0 ≤ K) (hK : K ≤ 1000000) (hm0 : 0 < m) (hm : m ≤ 1000000) (hnb : n ≤ 9223372036854775807) (hr : k.tmod 5 = 0) :
    Calls Tryz.prog 29 #[.pointer (some ⟨p, 0, none⟩), .pointer (some ⟨q, 0, none⟩), .agg #[.int .u8 k, .int .i64 sec, .int .i64 n, xd, xk]] w fun e w' => e = .returned (.bool true) ∧ Gr W0 w' ∧ ∃ S', Fine S' m ∧ S'.pend.length ≤ S.pend.length + 1 ∧ Both W0.heap.size w' p q m S' (K + 1) := by
  obtain ⟨du, nw, pv, dv, rv, hD, hR, hbD, hbR⟩ := HB
  have HFO := Lib.hid HF
  have bx := heap_alloc_self w (.cells #[.int .u8 k, .int .i64 sec, .int .i64 n, xd, xk] 60)
  have g1 : Gr w (w.alloc (.cells #[.int .u8 k, .int .i64 sec, .int .i64 n, xd, xk] 60)) := (Gr.refl w).alloc _
  have hD1 := hD.gr g1
  have hR1 := hR.gr g1
  have G1 := g0.trans g1
  have e1 : k.tmod 5 = 0 := hr
  have DR := Lib.hid (fun w' (h : DAt w' p du nw m pv S K) => dRead_any p du nw m pv S K sec w' h HFO.out.ok hm)
  have RR := Lib.hid (fun w' (h : RAt w' q dv rv S) => rRead_any q dv rv S m sec w' h HFO.out.ok hm (by omega))
  obtain ⟨⟨E, B⟩, hEB⟩ : ∃ x, S.read m sec = x := ⟨_, rfl⟩
  rw [hEB] at DR RR
  dsimp only at DR RR
  obtain ⟨cx, fx, zx⟩ := blk_cells bx
  clear hD hR g1 g0 hEB HF hr
  go_enter Tryz.func29, Tryz.ntmps29
  go_wp2_with fail
  refine (DR.out _ hD1).mono ?_
  rintro e w2 ⟨v, rfl, hrow, hg⟩
  have bx2 := hg.heap bx
  have hD2 := hD1.gr hg
  have hR2 := hR1.gr hg
  have G2 := G1.trans hg
  clear cx fx zx hg bx hD1 hR1 G1 DR
  obtain ⟨cx, fx, zx⟩ := blk_cells bx2
  go_wp2_with fail
  refine (RR.out _ hR2).mono ?_
  rintro e w3 ⟨rfl, rfl⟩
  obtain ⟨a', cap', rfl, -, -, hcl⟩ := owns_form hrow
  have hcv := conv_slice w3 a' (ints B).length cap' B (ints_len B) (fun hp => by
    obtain ⟨g, rfl, -⟩ := hcl 0 (by rw [ints_len]; exact hp)
    refine ⟨g, 0, rfl, fun j hj => ?_⟩
    obtain ⟨g', he, -, -, hc, -⟩ := hcl j (by rw [ints_len]; exact hj)
    obtain rfl : g = g' := by simpa using he
    rw [Nat.zero_add, hc j (by rw [ints_len]; omega)]
    simp [ints, hj])
  clear hcl hrow RR
  go_upto_region 18 with (fail)
  obtain ⟨k1, k2, ends, c9, hdd, -⟩ := hD2.d
  have hrd := hR2.d
  have DW := Lib.hid (fun w' h => Down_any p (.slice (some ⟨du, 0, none⟩) m k1) (.slice (some ⟨nw, 0, none⟩) m k2) pv (.bool ends) (.int .i64 c9) (S).down w' h)
  have HDD := Lib.hid hdd
  obtain ⟨dn, hdn⟩ : ∃ dn, (S).down = dn := ⟨_, rfl⟩
  rw [hdn] at DW HDD hrd
  obtain ⟨cq, fq, zq⟩ := blk_cells hrd
  have hHD := Lib.hid (show DAt w3 p du nw m pv (S) (K + 1) from hD2.mono (by omega))
  have hHR := Lib.hid hR2
  clear hdd
  refine wp_region_steps [.val (.bool true), .val (.bool true), .val (.pointer (some ⟨p, 0, none⟩)), .val (.bool dn), .val (.pointer (some ⟨q, 0, none⟩)), .val (.pointer (some ⟨q, 0, none⟩)), .val (.pointer (some ⟨q, 3, none⟩)), .val (.bool dn), .val (.bool true), .val (.bool true), .val (.bool true)] (by kernel_rfl) (by kernel_rfl) (fun V => by first | (simp only [finS, Step.isLater, Bool.false_eq_true, if_false, Act.put, Step.value, List.setIfInBounds_toArray, List.set_cons_zero, List.set_cons_succ]; rfl) | (simp only [finS, Step.isLater, Bool.false_eq_true, if_false, if_true, Act.put, Step.value, List.setIfInBounds_toArray, List.set_cons_zero, List.set_cons_succ, Nat.zero_add, Nat.reduceAdd]; rfl)) ?_ ?_
  · refine ⟨?_, ?_, ?_, ?_, ?_, ?_, ?_, ?_, ?_, ?_, ?_, trivial⟩ <;> (first | exact trivial | (refine ⟨(by intro v u u1 h g; obtain ⟨b, rfl, h⟩ := h; exact ⟨b, rfl, g.heap h⟩), ?_⟩; intro V u hu hk; refine ⟨by kernel_rfl, ?_⟩; go_simp; exact ⟨⟨_, rfl, heap_alloc_self _ _⟩, (Gr.refl _).alloc _⟩) | (refine ⟨(by intro v u u1 h g; first | exact ownsRow_g h g | exact st_and h g | exact h), ?_⟩; intro V u hu hk; refine ⟨by kernel_rfl, turn_owes (by kernel_rfl) ?_⟩; obtain ⟨hc, hf, hz⟩ := hu.cells; go_simp; skip) | (refine ⟨(by intro v u u1 h g; first | exact ownsRow_g h g | exact st_and h g | exact h), ?_⟩; intro V u hu hk; refine ⟨by kernel_rfl, ?_⟩; obtain ⟨hc, hf, hz⟩ := hu.cells; go_simp; skip) | (intro V u hu hk; refine ⟨by kernel_rfl, ?_⟩; obtain ⟨hc, hf, hz⟩ := hu.cells; go_simp; first | exact ⟨rfl, Gr.refl _⟩ | skip) | (intro V u hu hk; show _ = false; kernel_rfl))
    exact (DW.out _ (hu.heap HDD.out)).mono fun e w' ⟨h, e'⟩ => ⟨h, e' ▸ Gr.refl _⟩
  intro V9 u9 hg9 hs9
  clear hs9 cq fq zq
  go_simp
  go_wp2
  go_ret
  exact ⟨rfl, G2.trans hg9, S, (⟨HFO.out, by omega⟩ : Fine S m ∧ S.pend.length ≤ S.pend.length + 1).1, (⟨HFO.out, by omega⟩ : Fine S m ∧ S.pend.length ≤ S.pend.length + 1).2, du, nw, pv, dv, rv, hHD.out.gr hg9, hHR.out.gr hg9, hbD, hbR⟩
end Go.Proofs.YthmimjofdmnakaaGreatDoor
