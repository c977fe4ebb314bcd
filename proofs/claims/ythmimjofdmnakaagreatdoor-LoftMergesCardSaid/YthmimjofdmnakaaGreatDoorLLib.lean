/- Library functions at records: Clone, SortFunc; Order. -/
import Derived.Test.YthmimjofdmnakaaGreatDoorShelg
import Derived.Test.YthmimjofdmnakaaGreatDoorLCheck
import Derived.Deep.Onto
namespace Go.Proofs.YthmimjofdmnakaaGreatDoor
open Go.RowKit Go.Shelf
theorem info_rec : (Tryz.prog.info? 23).map (fun i => (i.zero, i.size, i.bytes)) = some (some (.agg #[.int .i64 0, .int .i64 0, .int .i64 0, .string ⟨#[]⟩]), 4, 40) := by kernel_rfl
theorem rcs_one (l : List Rc) : ∀ u ∈ rcs l, u.oneCell' = true := by
  intro u hu
  obtain ⟨r, _, hr⟩ := List.mem_flatMap.1 hu
  simp only [Rc.cells, List.mem_cons, List.not_mem_nil, or_false] at hr
  rcases hr with rfl | rfl | rfl | rfl <;> rfl
theorem RowR.cells {w : World} {v : Value} {l : List Rc} {g cap : Nat} (h : RowR w v l) (hv : v = .slice (some ⟨g, 0, none⟩) l.length cap) : ∀ j u, (rcs l)[j]? = some u → w.cell? ⟨g, 0 + j, none⟩ = some u := by
  subst hv
  intro j u hu
  have hj : j < l.length * 4 := by
    have := (List.getElem?_eq_some_iff.1 hu).1
    rwa [rcs_len] at this
  rw [Nat.zero_add, World.ownsRow.cellAt h j hj, hu]
end Go.Proofs.YthmimjofdmnakaaGreatDoor
