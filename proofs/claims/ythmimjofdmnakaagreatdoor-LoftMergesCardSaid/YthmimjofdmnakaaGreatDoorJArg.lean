/- Journals, and how many records somebody has, among a law's arguments. -/
import Derived.Test.YthmimjofdmnakaaGreatDoorFrameL
import Derived.Test.YthmimjofdmnakaaGreatDoorJOf
import Derived.Deep.Slices
import Derived.ReadAgain
namespace Go.Proofs.YthmimjofdmnakaaGreatDoor
open Go.ChangeShapes Go.WideShapes Go.ChangeAt Go.RowKit Go.Joins Go.Deep
theorem slicesFullJ : ∀ t e, t < Tryz.prog.types.size → Tryz.prog.underlying t = some (.slice e) → 0 < Tryz.prog.cellsOf e := slices_full_of _ (by kernel_rfl)
/-- what an argument read as, it reads as in a grown world -/
theorem againJ {H : Type} {enc : TypeId × Value → H} {W W' : World} {t : TypeId} {v : Value} {d : DataW H} {p : List MemPlace} (h : DataW.Trod enc Tryz.prog W 0 (fun _ => true) true t v d p) (g : Gr W W') (ht : t < Tryz.prog.types.size) :
    DataW.Trod enc Tryz.prog W' 0 (fun b => decide (b < W.heap.size)) true t v d p := by
  obtain ⟨n, hn⟩ := h
  have hl := DataW.trod_lt n _ _ _ hn
  have h2 := DataW.trod_carry n _ _ _ hn (fun q hq => g.b.same (hl q hq))
  have h3 : DataW.Trod enc Tryz.prog W' 0 (fun _ => true) true t v d p := ⟨n, h2⟩
  exact h3.respare (kids_rows laidOut mapsRow) slicesFullJ ht (fun q hq => decide_eq_true (hl q hq))
section
variable {H : Type} {enc : TypeId × Value → H} {W : World}
theorem cells4 : Tryz.prog.cellsOf 23 = 4 := by kernel_rfl
theorem cellsStr : Tryz.prog.cellsOf 9 = 1 := by kernel_rfl
theorem cellsInt : Tryz.prog.cellsOf 3 = 1 := by kernel_rfl
theorem list4 {α : Type} {l : List α} (h : l.length = 4) : ∃ a b c d, l = [a, b, c, d] := by
  match l, h with
  | [a, b, c, d], _ => exact ⟨a, b, c, d, rfl⟩
set_option maxRecDepth 100000 in
theorem rec_of {n : Nat} {cs : List Value} {x : DataW H × List MemPlace} (h : DataW.trod enc Tryz.prog W 0 (fun _ => true) true n 23 cs = some x) : ∃ r : Rc, cs = r.cells := by
  obtain ⟨xs, m, -, -, hl, hlen, hf⟩ := DataW.trod_struct Tryz.underlying23 h
  rw [cells4] at hl
  obtain ⟨c0, c1, c2, c3, rfl⟩ := list4 hl
  obtain ⟨y0, y1, y2, y3, rfl⟩ := list4 (show xs.length = 4 from hlen)
  have q0 : DataW.trod enc Tryz.prog W 0 (fun _ => true) true m 3 (([c0, c1, c2, c3].drop 0).take (Tryz.prog.cellsOf 3)) = some y0 := hf 0 _ rfl
  rw [cellsInt] at q0
  have q1 : DataW.trod enc Tryz.prog W 0 (fun _ => true) true m 3 (([c0, c1, c2, c3].drop 1).take (Tryz.prog.cellsOf 3)) = some y1 := hf 1 _ rfl
  rw [cellsInt] at q1
  have q2 : DataW.trod enc Tryz.prog W 0 (fun _ => true) true m 3 (([c0, c1, c2, c3].drop 2).take (Tryz.prog.cellsOf 3)) = some y2 := hf 2 _ rfl
  rw [cellsInt] at q2
  have q3 : DataW.trod enc Tryz.prog W 0 (fun _ => true) true m 9 (([c0, c1, c2, c3].drop 3).take (Tryz.prog.cellsOf 9)) = some y3 := hf 3 _ rfl
  rw [cellsStr] at q3
  obtain ⟨s, e0, -, -⟩ := DataW.trod_int Tryz.underlying3 q0
  obtain ⟨k, e1, -, -⟩ := DataW.trod_int Tryz.underlying3 q1
  obtain ⟨d, e2, -, -⟩ := DataW.trod_int Tryz.underlying3 q2
  obtain ⟨t, e3, -, -⟩ := DataW.trod_string Tryz.underlying9 q3
  replace e0 : [c0] = _ := e0
  replace e1 : [c1] = _ := e1
  replace e2 : [c2] = _ := e2
  replace e3 : [c3] = _ := e3
  simp only [List.cons.injEq, and_true] at e0 e1 e2 e3
  subst e0; subst e1; subst e2; subst e3
  exact ⟨⟨s, k, d, t⟩, rfl⟩
set_option maxRecDepth 100000 in
theorem open_recs {b0 : Nat} {r : Reach} {v : Value} {d : DataW H} {p : List MemPlace} (hv : Value.okWide Tryz.prog W r b0 32 v) (h : DataW.Trod enc Tryz.prog W 0 (fun _ => true) true 32 v d p) :
    ∃ l : List Rc, RecsAt W v l := by
  obtain ⟨a0, len, cap, rfl⟩ := okWide_slice Tryz.underlying32 hv
  obtain ⟨fuel, hf⟩ := h
  rcases open_slice Tryz.underlying32 hf with ⟨hcs, -⟩ | ⟨a, len', cap', m, n, D, Pl, hcs, hb, hl, hm, hmm, -, hx⟩
  · simp [Value.cells] at hcs
    obtain ⟨rfl, rfl, rfl⟩ := hcs
    exact ⟨[], RecsAt.nil _ _ _⟩
  · simp [Value.cells] at hcs
    obtain ⟨rfl, rfl, rfl⟩ := hcs
    simp only [if_true] at hmm
    subst hmm
    have each : ∀ i, i < len → ∃ r : Rc, ∃ g off, a = ⟨g, off, none⟩ ∧ g < W.heap.size ∧ W.cell? ⟨g, off + i * 4, none⟩ = some (.int .i64 r.s) ∧ W.cell? ⟨g, off + i * 4 + 1, none⟩ = some (.int .i64 r.k) ∧ W.cell? ⟨g, off + i * 4 + 2, none⟩ = some (.int .i64 r.d) ∧
        W.cell? ⟨g, off + i * 4 + 3, none⟩ = some (.string r.t) := fun i hi => by
      obtain ⟨cs', h1, h2⟩ := hx i (by omega)
      rw [cells4] at h1
      obtain ⟨-, -, hc⟩ := World.cells?_some h1
      obtain ⟨r, rfl⟩ := rec_of h2
      have c0 := hc 0 (by omega)
      have c1 := hc 1 (by omega)
      have c2 := hc 2 (by omega)
      have c3 := hc 3 (by omega)
      obtain ⟨b, off, spot⟩ := a
      have hspot : spot = none := by
        obtain ⟨cs0, h0, -⟩ := hx 0 (by omega)
        rw [cells4] at h0
        have := World.cell?_spot (((World.cells?_some h0).2.2 0 (by omega)).trans (List.getElem?_eq_getElem (by rw [(World.cells?_some h0).2.1]; omega)))
        simpa [Addr.add] using this
      subst hspot
      rw [add_plain, add_plain] at c0 c1 c2 c3
      refine ⟨r, b, off, rfl, ?_, c0, c1, c2, c3⟩
      exact World.block_lt_of_cell? _ _ c0
    have : Inhabited Rc := ⟨⟨0, 0, 0, ByteArray.empty⟩⟩
    obtain ⟨F, hF⟩ := choose_lt each
    have hlen : ((List.range len).map F).length = len := by simp
    refine ⟨(List.range len).map F, some a, _, by rw [hlen], by rw [hlen]; omega, fun j hj => ?_⟩
    rw [hlen] at hj
    have ej : ((List.range len).map F)[j] = F j := by simp
    rw [ej]
    obtain ⟨g, off, rfl, hg, c0, c1, c2, c3⟩ := hF j hj
    exact ⟨g, off, rfl, hg, c0, c1, c2, c3⟩
end
end Go.Proofs.YthmimjofdmnakaaGreatDoor
