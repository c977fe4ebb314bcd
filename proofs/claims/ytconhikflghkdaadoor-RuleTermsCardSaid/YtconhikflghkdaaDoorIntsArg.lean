/- A slice of ints among a law's arguments. -/
import Derived.Test.YtconhikflghkdaaDoorFrame
import Derived.Test.YtconhikflghkdaaDoorFromT
import Derived.ChangeSlices
namespace Go.Proofs.YtconhikflghkdaaDoor
open Go.ChangeShapes Go.WideShapes Go.ChangeAt Go.RowKit Go.Joins
theorem ints_cells : Tryd.prog.cellsOf 3 = 1 := by kernel_rfl
set_option maxRecDepth 100000 in
theorem open_ints_arg {H : Type} {enc : TypeId × Value → H} {W : World} {b0 : Nat} {r : Reach} {v : Value} {d : DataW H} {p : List MemPlace} (hv : Value.okWide Tryd.prog W r b0 61 v) (h : DataW.Trod enc Tryd.prog W 0 (fun _ => true) true 61 v d p) :
    ∃ l : List Int, IRow W v l ∧ ∀ W', Gr W W' → ∃ p', DataW.Trod enc Tryd.prog W' 0 (fun b => decide (b < W.heap.size)) true 61 v d p' := by
  obtain ⟨a0, len, cap, rfl⟩ := okWide_slice Tryd.underlying61 hv
  obtain ⟨fuel, hf⟩ := h
  rcases open_ints Tryd.underlying61 Tryd.underlying3 ints_cells hf with ⟨hcs, hx⟩ | ⟨a, len', cap', zs, hcs, hb, hl, hm, hz, hx, hcell, hwz⟩
  · simp [Value.cells] at hcs
    obtain ⟨rfl, rfl, rfl⟩ := hcs
    simp only [Prod.mk.injEq] at hx
    obtain ⟨rfl, rfl⟩ := hx
    refine ⟨[], .inl ⟨rfl, none, 0, rfl⟩, fun W' _ => ⟨[], 1, ?_⟩⟩
    simp [DataW.trod, Value.cells, Tryd.underlying61]
  · simp [Value.cells] at hcs
    obtain ⟨rfl, rfl, rfl⟩ := hcs
    simp only [Prod.mk.injEq] at hx
    obtain ⟨rfl, rfl⟩ := hx
    simp only [if_true] at hz
    have hsh : ∀ W', Gr W W' → ∃ p', DataW.Trod enc Tryd.prog W' 0 (fun b => decide (b < W.heap.size)) true 61 (.slice (some a) len cap) (.slice (lits .i64 (zs.take len)) (lits .i64 (zs.drop len))) p' := fun W' g => by
      refine ⟨_, 2, shut_ints 0 Tryd.underlying61 Tryd.underlying3 ints_cells hb hl hm ?_ (fun i hi => ?_) hwz⟩
      · by_cases hs : a.block < W.heap.size
        · simpa [hs] using hz
        · have : zs.length = 0 := by
            by_cases hz0 : zs.length = 0
            · exact hz0
            · have := World.block_lt_of_cell? _ _ (hcell 0 (by omega))
              simp [Addr.add] at this
              exact absurd this hs
          simp [hs]
          omega
      · have hlt := World.block_lt_of_cell? _ _ (hcell i hi)
        exact (World.cell?_of_block (g.b.block _ hlt)).trans (hcell i hi)
    refine ⟨zs.take len, ?_, hsh⟩
    have hlt : (zs.take len).length = len := by simp; omega
    by_cases hl0 : len = 0
    · subst hl0
      exact .inl ⟨by simp, some a, cap, rfl⟩
    · obtain ⟨b, off, spot⟩ := a
      have hspot : spot = none := by simpa [Addr.add] using World.cell?_spot (hcell 0 (by omega))
      subst hspot
      refine .inr ⟨b, off, cap, by rw [hlt], by omega, ?_, fun j hj => ?_⟩
      · have := World.block_lt_of_cell? _ _ (hcell 0 (by omega))
        simpa [Addr.add] using this
      · have := hcell j (by omega)
        rw [add_plain] at this
        rw [this]
        have e : (zs.take len).getD j 0 = zs.getD j 0 := by
          rw [hlt] at hj
          simp [List.getD, hj]
        rw [e]
end Go.Proofs.YtconhikflghkdaaDoor
