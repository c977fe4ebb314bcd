/- A script of operations among a law's arguments. -/
import Derived.Test.YthmimjofdmnakaaGreatDoorFrameL
import Derived.Test.YthmimjofdmnakaaGreatDoorLDLaw
import Derived.Deep.Slices
import Derived.ReadAgain
namespace Go.Proofs.YthmimjofdmnakaaGreatDoor
open Go.ChangeShapes Go.WideShapes Go.ChangeAt Go.RowKit Go.Joins Go.Deep
theorem slicesFull : ∀ t e, t < Tryz.prog.types.size → Tryz.prog.underlying t = some (.slice e) → 0 < Tryz.prog.cellsOf e := slices_full_of _ (by kernel_rfl)
/-- what an argument read as, it reads as in a grown world -/
theorem again_arg {H : Type} {enc : TypeId × Value → H} {W W' : World} {t : TypeId} {v : Value} {d : DataW H} {p : List MemPlace} (h : DataW.Trod enc Tryz.prog W 0 (fun _ => true) true t v d p) (g : Gr W W') (ht : t < Tryz.prog.types.size) :
    DataW.Trod enc Tryz.prog W' 0 (fun b => decide (b < W.heap.size)) true t v d p := by
  obtain ⟨n, hn⟩ := h
  have hl := DataW.trod_lt n _ _ _ hn
  have h2 := DataW.trod_carry n _ _ _ hn (fun q hq => g.b.same (hl q hq))
  have h3 : DataW.Trod enc Tryz.prog W' 0 (fun _ => true) true t v d p := ⟨n, h2⟩
  exact h3.respare (kids_rows laidOut mapsRow) slicesFull ht (fun q hq => decide_eq_true (hl q hq))
section
variable {H : Type} {enc : TypeId × Value → H} {W : World}
theorem ints_of {e : TypeId} {k : IntKind} {t : TypeId} {n : Nat} {cs : List Value} {x : DataW H × List MemPlace} (ht : Tryz.prog.underlying t = some (.slice e)) (he : Tryz.prog.underlying e = some (.int k)) (hc : Tryz.prog.cellsOf e = 1)
    (h : DataW.trod enc Tryz.prog W 0 (fun _ => true) true n t cs = some x) :
    ∃ (a : Option Addr) (zs : List Int) (cap : Nat), cs = [.slice a zs.length cap] ∧ (∀ z ∈ zs, (Lit.int k z).wf = true) ∧ (0 < zs.length → ∃ g o, a = some ⟨g, o, none⟩ ∧ g < W.heap.size ∧ ∀ j (hj : j < zs.length), W.cell? ⟨g, o + j, none⟩ = some (.int k zs[j])) := by
  rcases open_ints ht he hc h with ⟨rfl, -⟩ | ⟨a, len, cap, zs, rfl, hb, hl, hm, hz, hx, hcell, hwz⟩
  · exact ⟨none, [], 0, rfl, (fun z hz => by cases hz), fun h => absurd h (Nat.lt_irrefl _)⟩
  · simp only [if_true] at hz
    have hlen : (zs.take len).length = len := by simp; omega
    refine ⟨some a, zs.take len, cap, by rw [hlen], fun z hz => hwz z (List.mem_of_mem_take hz), fun hp => ?_⟩
    rw [hlen] at hp
    obtain ⟨b, off, spot⟩ := a
    have hspot : spot = none := by simpa [Addr.add] using World.cell?_spot (hcell 0 (by omega))
    subst hspot
    refine ⟨b, off, rfl, ?_, fun j hj => ?_⟩
    · have := World.block_lt_of_cell? _ _ (hcell 0 (by omega))
      simpa [Addr.add] using this
    · rw [hlen] at hj
      have := hcell j (by omega)
      rw [add_plain] at this
      rw [this]
      have e : (zs.take len)[j] = zs.getD j 0 := by
        have h1 : j < zs.length := by omega
        simp [List.getD, List.getElem?_eq_getElem h1]
      rw [e]
theorem u8_of {z : Int} (h : (Lit.int .u8 z).wf = true) : 0 ≤ z ∧ z ≤ 255 := by
  simp only [Lit.wf, Bool.and_eq_true, decide_eq_true_eq] at h
  exact ⟨h.1, h.2⟩
theorem i64_lo {z : Int} (h : (Lit.int .i64 z).wf = true) : -9223372036854775808 ≤ z := by
  simp only [Lit.wf, Bool.and_eq_true, decide_eq_true_eq] at h
  exact h.1
theorem i64_of {z : Int} (h : (Lit.int .i64 z).wf = true) : z ≤ 9223372036854775807 := by
  simp only [Lit.wf, Bool.and_eq_true, decide_eq_true_eq] at h
  exact h.2
theorem argBytes_of {n : Nat} {cs : List Value} {x : DataW H × List MemPlace} (h : DataW.trod enc Tryz.prog W 0 (fun _ => true) true n 57 cs = some x) :
    ∃ v b, cs = [v] ∧ ArgBytes W v b := by
  obtain ⟨a, zs, cap, rfl, hw, hp⟩ := ints_of Tryz.underlying57 Tryz.underlying5 (by kernel_rfl) h
  refine ⟨_, zs.map (fun z => UInt8.ofNat z.toNat), rfl, a, cap, by rw [List.length_map], fun hp0 => ?_⟩
  rw [List.length_map] at hp0
  obtain ⟨g, o, rfl, hl, hc⟩ := hp hp0
  refine ⟨g, o, rfl, hl, fun j v hj => ?_⟩
  rw [List.map_map] at hj
  obtain ⟨hj1, hj2⟩ := List.getElem?_eq_some_iff.1 hj
  rw [List.length_map] at hj1
  rw [hc j hj1, ← hj2, List.getElem_map]
  have hz := u8_of (hw _ (List.getElem_mem hj1))
  simp only [Function.comp_apply, byV, Option.some.injEq, Value.int.injEq, true_and]
  rw [UInt8.toNat_ofNat']
  omega
theorem argInts_of {n : Nat} {cs : List Value} {x : DataW H × List MemPlace} (h : DataW.trod enc Tryz.prog W 0 (fun _ => true) true n 58 cs = some x) :
    ∃ v b, cs = [v] ∧ ArgInts W v b := by
  obtain ⟨a, zs, cap, rfl, hw, hp⟩ := ints_of Tryz.underlying58 Tryz.underlying3 (by kernel_rfl) h
  refine ⟨_, zs, rfl, a, cap, rfl, fun j hj => ?_⟩
  obtain ⟨g, o, rfl, hl, hc⟩ := hp (by omega)
  exact ⟨g, o, rfl, hl, hc j hj⟩
theorem list5 {α : Type} {l : List α} (h : l.length = 5) : ∃ a b c d e, l = [a, b, c, d, e] := by
  match l, h with
  | [a, b, c, d, e], _ => exact ⟨a, b, c, d, e, rfl⟩
theorem cells5 : Tryz.prog.cellsOf 60 = 5 := by kernel_rfl
theorem c1u : Tryz.prog.cellsOf 5 = 1 := by kernel_rfl
theorem c1i : Tryz.prog.cellsOf 3 = 1 := by kernel_rfl
theorem c1b : Tryz.prog.cellsOf 57 = 1 := by kernel_rfl
theorem c1s : Tryz.prog.cellsOf 58 = 1 := by kernel_rfl
set_option maxRecDepth 100000 in
theorem op_of {n : Nat} {cs : List Value} {x : DataW H × List MemPlace} (h : DataW.trod enc Tryz.prog W 0 (fun _ => true) true n 60 cs = some x) :
    ∃ (o : DOp) (xd xk : Value), cs = [.int .u8 o.k, .int .i64 o.sec, .int .i64 o.n, xd, xk] ∧ ArgBytes W xd o.data ∧ ArgInts W xk o.keep ∧ 0 ≤ o.k ∧ o.k ≤ 255 ∧ o.n ≤ 9223372036854775807 := by
  obtain ⟨xs, m, -, -, hl, hlen, hf⟩ := DataW.trod_struct Tryz.underlying60 h
  rw [cells5] at hl
  obtain ⟨c0, c1, c2, c3, c4, rfl⟩ := list5 hl
  obtain ⟨y0, y1, y2, y3, y4, rfl⟩ := list5 (show xs.length = 5 from hlen)
  have f0 := hf 0 _ rfl
  have f1 := hf 1 _ rfl
  have f2 := hf 2 _ rfl
  have f3 := hf 3 _ rfl
  have f4 := hf 4 _ rfl
  have q0 : DataW.trod enc Tryz.prog W 0 (fun _ => true) true m 5 (([c0, c1, c2, c3, c4].drop 0).take (Tryz.prog.cellsOf 5)) = some y0 := f0
  rw [c1u] at q0
  have q1 : DataW.trod enc Tryz.prog W 0 (fun _ => true) true m 3 (([c0, c1, c2, c3, c4].drop 1).take (Tryz.prog.cellsOf 3)) = some y1 := f1
  rw [c1i] at q1
  have q2 : DataW.trod enc Tryz.prog W 0 (fun _ => true) true m 3 (([c0, c1, c2, c3, c4].drop 2).take (Tryz.prog.cellsOf 3)) = some y2 := f2
  rw [c1i] at q2
  have q3 : DataW.trod enc Tryz.prog W 0 (fun _ => true) true m 57 (([c0, c1, c2, c3, c4].drop 3).take (Tryz.prog.cellsOf 57)) = some y3 := f3
  rw [c1b] at q3
  have q4 : DataW.trod enc Tryz.prog W 0 (fun _ => true) true m 58 (([c0, c1, c2, c3, c4].drop 4).take (Tryz.prog.cellsOf 58)) = some y4 := f4
  rw [c1s] at q4
  obtain ⟨k, e0, -, w0⟩ := DataW.trod_int Tryz.underlying5 q0
  obtain ⟨sec, e1, -, -⟩ := DataW.trod_int Tryz.underlying3 q1
  obtain ⟨nn, e2, -, w2⟩ := DataW.trod_int Tryz.underlying3 q2
  obtain ⟨v3, b, e3, hb⟩ := argBytes_of q3
  obtain ⟨v4, ks, e4, hk⟩ := argInts_of q4
  replace e0 : [c0] = _ := e0
  replace e1 : [c1] = _ := e1
  replace e2 : [c2] = _ := e2
  replace e3 : [c3] = _ := e3
  replace e4 : [c4] = _ := e4
  simp only [List.cons.injEq, and_true] at e0 e1 e2 e3 e4
  subst e0; subst e1; subst e2; subst e3; subst e4
  have h0 := u8_of w0
  have h2 : nn ≤ 9223372036854775807 := i64_of w2
  exact ⟨⟨k, sec, nn, b, ks⟩, _, _, rfl, hb, hk, h0.1, h0.2, h2⟩
set_option maxRecDepth 100000 in
theorem open_ops {b0 : Nat} {r : Reach} {v : Value} {d : DataW H} {p : List MemPlace} (hv : Value.okWide Tryz.prog W r b0 47 v) (h : DataW.Trod enc Tryz.prog W 0 (fun _ => true) true 47 v d p) :
    ∃ l : List DOp, OpsAt W v l := by
  obtain ⟨a0, len, cap, rfl⟩ := okWide_slice Tryz.underlying47 hv
  obtain ⟨fuel, hf⟩ := h
  rcases open_slice Tryz.underlying47 hf with ⟨hcs, -⟩ | ⟨a, len', cap', m, n, D, Pl, hcs, hb, hl, hm, hmm, -, hx⟩
  · simp [Value.cells] at hcs
    obtain ⟨rfl, rfl, rfl⟩ := hcs
    exact ⟨[], none, 0, rfl, fun j hj => absurd hj (Nat.not_lt_zero _)⟩
  · simp [Value.cells] at hcs
    obtain ⟨rfl, rfl, rfl⟩ := hcs
    simp only [if_true] at hmm
    subst hmm
    have each : ∀ i, i < len → ∃ o : DOp, ∃ xd xk, ∃ g off, a = ⟨g, off, none⟩ ∧ g < W.heap.size ∧ W.cell? ⟨g, off + i * 5, none⟩ = some (.int .u8 o.k) ∧ W.cell? ⟨g, off + i * 5 + 1, none⟩ = some (.int .i64 o.sec) ∧ W.cell? ⟨g, off + i * 5 + 2, none⟩ = some (.int .i64 o.n) ∧
        W.cell? ⟨g, off + i * 5 + 3, none⟩ = some xd ∧ W.cell? ⟨g, off + i * 5 + 4, none⟩ = some xk ∧ ArgBytes W xd o.data ∧ ArgInts W xk o.keep ∧ 0 ≤ o.k ∧ o.k ≤ 255 ∧ o.n ≤ 9223372036854775807 := fun i hi => by
      obtain ⟨cs', h1, h2⟩ := hx i (by omega)
      rw [cells5] at h1
      obtain ⟨-, -, hc⟩ := World.cells?_some h1
      obtain ⟨o, xd, xk, rfl, hd, hk, k0, k1, n1⟩ := op_of h2
      have c0 := hc 0 (by omega)
      have c1 := hc 1 (by omega)
      have c2 := hc 2 (by omega)
      have c3 := hc 3 (by omega)
      have c4 := hc 4 (by omega)
      obtain ⟨b, off, spot⟩ := a
      have hspot : spot = none := by
        obtain ⟨cs0, h0, -⟩ := hx 0 (by omega)
        rw [cells5] at h0
        have := World.cell?_spot (((World.cells?_some h0).2.2 0 (by omega)).trans (List.getElem?_eq_getElem (by rw [(World.cells?_some h0).2.1]; omega)))
        simpa [Addr.add] using this
      subst hspot
      rw [add_plain, add_plain] at c0 c1 c2 c3 c4
      refine ⟨o, xd, xk, b, off, rfl, ?_, c0, c1, c2, c3, c4, hd, hk, k0, k1, n1⟩
      exact World.block_lt_of_cell? _ _ c0
    have : Inhabited DOp := ⟨⟨0, 0, 0, [], []⟩⟩
    obtain ⟨F, hF⟩ := choose_lt each
    have hlen : ((List.range len).map F).length = len := by simp
    refine ⟨(List.range len).map F, some a, _, by rw [hlen], fun j hj => ?_⟩
    rw [hlen] at hj
    have ej : ((List.range len).map F)[j] = F j := by simp
    rw [ej]
    obtain ⟨xd, xk, g, off, rfl, hg, c0, c1, c2, c3, c4, hd, hk, k0, k1, n1⟩ := hF j hj
    exact ⟨g, off, xd, xk, rfl, hg, c0, c1, c2, c3, c4, ⟨⟨_, _, rfl, hd, hk⟩, ⟨k0, k1⟩, n1⟩, hd, hk⟩
end
end Go.Proofs.YthmimjofdmnakaaGreatDoor
