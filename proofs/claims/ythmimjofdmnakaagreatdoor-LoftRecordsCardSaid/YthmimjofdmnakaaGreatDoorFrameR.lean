/- What the rows of records need: the library's errors and table out of the listed variables; a record among the arguments. -/
import Derived.Test.YthmimjofdmnakaaGreatDoorFrameL
import Derived.Test.YthmimjofdmnakaaGreatDoorLNum
namespace Go.Proofs.YthmimjofdmnakaaGreatDoor
open Go.ChangeShapes Go.WideShapes Go.ChangeAt Go.RowKit Go.Joins
theorem star : "*" ++ "errors.errorString" = "*errors.errorString" := by decide
theorem rowE (u : TypeId) (h : Tryz.prog.typeName? 3 u = some "*errors.errorString") : u = 424 :=
  typeName_ptr_named (nm := "errors.errorString") (by rw [star]; kernel_rfl) (by kernel_rfl) (by decide) u (by rw [star]; exact h)
theorem cellsE : Tryz.prog.cellsOf 426 = 1 := by kernel_rfl
theorem cellsS : Tryz.prog.cellsOf 9 = 1 := by kernel_rfl
theorem gES : Tryz.prog.globalNamed "strconv.ErrSyntax" = some 1 := by kernel_rfl
theorem gEST : (Tryz.prog.globals[1]?).map (·.type) = some 228 := by kernel_rfl
theorem gER : Tryz.prog.globalNamed "strconv.ErrRange" = some 2 := by kernel_rfl
theorem gERT : (Tryz.prog.globals[2]?).map (·.type) = some 228 := by kernel_rfl
theorem tw_of_laid {W : World} (h : laidMetH Tryz.prog laid7 W) (hs : W.ShapedOpen Tryz.prog) : TW W := by
  rw [MakeChecks.laidMetH_plain _ _ _ (by kernel_rfl)] at h
  have h3 := h.tail.tail.tail.tail
  obtain ⟨a1, s1, v1, -, -, -⟩ := laid_sentinel h3 gER gERT Tryz.underlying228 rowE Tryz.underlying424 Tryz.underlying426 rfl rfl Tryz.underlying9 cellsE cellsS
  obtain ⟨a2, s2, v2, -, -, -⟩ := laid_sentinel h3.tail gES gEST Tryz.underlying228 rowE Tryz.underlying424 Tryz.underlying426 rfl rfl Tryz.underlying9 cellsE cellsS
  refine ⟨?_, ⟨_, _, by have h0 := World.var?_cell gES v2 0; simpa using h0⟩, ⟨_, _, by have h0 := World.var?_cell gER v1 0; simpa using h0⟩, maxCell W hs⟩
  obtain ⟨ps, ⟨g0, t0, cs0, f0, p0, q0, hg0, ht0, hv0, hd0, ⟨g1, t1, cs1, f1, p1, q1, hg1, ht1, hv1, hd1, ⟨g2, t2, cs2, f2, p2, q2, hg2, ht2, hv2, hd2, _, _⟩, _⟩, _⟩, _, _⟩ := h
  obtain rfl := Option.some.inj ((show Tryz.prog.globalNamed "internal/strconv.uint64pow10" = some 5 by kernel_rfl).symm.trans hg2)
  obtain rfl := Option.some.inj ((show (Tryz.prog.globals[5]?).map (·.type) = some 419 by kernel_rfl).symm.trans ht2)
  have hd : DataW.trod _ Tryz.prog W 0 _ _ f2 419 cs2.toList = some (Lib.tabData .u64 Lib.pow10Tab, p2) := hd2
  have := Lib.cells_of_tab (n := 20) (e := 96) Tryz.underlying419 Tryz.underlying96 (by kernel_rfl) (by kernel_rfl) hd
  show W.var? Tryz.prog _ = _
  rw [hv2, ← this]
set_option maxRecDepth 100000 in
theorem open_rec {H : Type} {enc : TypeId × Value → H} {w : World} {base b0 : Nat} {spare : Nat → Bool} {held : Bool} {r : Reach} {v : Value} {d : DataW H} {p : List MemPlace} (hv : Value.okWide Tryz.prog w r b0 23 v) (h : DataW.Trod enc Tryz.prog w base spare held 23 v d p) :
    ∃ (a b c : Int) (t : ByteArray), v = .agg #[.int .i64 a, .int .i64 b, .int .i64 c, .string t] ∧ p = [] ∧ ∀ w' base' spare' held', DataW.Trod enc Tryz.prog w' base' spare' held' 23 v d [] := by
  obtain ⟨v0, v1, v2, v3, y0, y1, y2, y3, n, rfl, rfl, rfl, h0, h1, h2, h3⟩ := open_agg4 Tryz.underlying23 (by kernel_rfl) (by kernel_rfl) hv h
  obtain ⟨a, e0, rfl, w0⟩ := DataW.trod_int Tryz.underlying3 h0
  obtain ⟨b, e1, rfl, w1⟩ := DataW.trod_int Tryz.underlying3 h1
  obtain ⟨c, e2, rfl, w2⟩ := DataW.trod_int Tryz.underlying3 h2
  obtain ⟨s, e3, rfl, w3⟩ := DataW.trod_string Tryz.underlying9 h3
  simp only [List.cons.injEq, and_true] at e0 e1 e2 e3
  subst e0; subst e1; subst e2; subst e3
  refine ⟨a, b, c, s, rfl, rfl, fun w' base' spare' held' => ?_⟩
  exact shut_agg4 (y0 := (.lit (.int .i64 a), [])) (y1 := (.lit (.int .i64 b), [])) (y2 := (.lit (.int .i64 c), [])) (y3 := (.lit (.string s.data.toList), [])) Tryz.underlying23 (by kernel_rfl) (by kernel_rfl)
    ⟨1, by simp [DataW.trod, Tryz.underlying3, w0]⟩ ⟨1, by simp [DataW.trod, Tryz.underlying3, w1]⟩ ⟨1, by simp [DataW.trod, Tryz.underlying3, w2]⟩ ⟨1, by simp [DataW.trod, Tryz.underlying9, w3]⟩
end Go.Proofs.YthmimjofdmnakaaGreatDoor
