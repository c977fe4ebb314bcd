/- strickleref09: Merge. -/
import Derived.Test.YthmimjofdmnakaaGreatDoorJMiss
import Derived.Test.YthmimjofdmnakaaGreatDoorJMrgF
namespace Go.Proofs.YthmimjofdmnakaaGreatDoor
open Go.RowKit Go.Shelf Go.Lib
theorem RecsAt.cells {w : World} {a : Option Addr} {n cap : Nat} {l : List Rc} (h : RecsAt w (.slice a n cap) l) : n = l.length ∧ ∀ j (hj : j < l.length), ∃ g o, a = some ⟨g, o, none⟩ ∧ g < w.heap.size ∧
    w.cell? ⟨g, o + j * 4, none⟩ = some (.int .i64 l[j].s) ∧ w.cell? ⟨g, o + j * 4 + 1, none⟩ = some (.int .i64 l[j].k) ∧ w.cell? ⟨g, o + j * 4 + 2, none⟩ = some (.int .i64 l[j].d) ∧ w.cell? ⟨g, o + j * 4 + 3, none⟩ = some (.string l[j].t) := by
  obtain ⟨a', cap', hv, hc, hr⟩ := h
  injection hv with h1 h2 h3
  subst h1
  exact ⟨h2, hr⟩
end Go.Proofs.YthmimjofdmnakaaGreatDoor
