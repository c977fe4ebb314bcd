/- Rules among a law's arguments: a struct of two structs of two numbers. -/
import Derived.Test.YtconhikflghkdaaDoorFrame
import Derived.Test.YtconhikflghkdaaDoorRule
namespace Go.Proofs.YtconhikflghkdaaDoor
open Go.ChangeShapes Go.WideShapes Go.ChangeAt Go.RowKit Go.Joins
theorem four_of {α : Type} {l : List α} (h : l.length = 4) : ∃ a b c d, l = [a, b, c, d] := by
  match l, h with
  | [a, b, c, d], _ => exact ⟨a, b, c, d, rfl⟩
theorem rule_cells : Tryd.prog.cellsOf 34 = 4 := by kernel_rfl
theorem frac_cells : Tryd.prog.cellsOf 23 = 2 := by kernel_rfl
theorem int_cells : Tryd.prog.cellsOf 3 = 1 := by kernel_rfl
set_option maxRecDepth 100000 in
theorem open_two {H : Type} {enc : TypeId × Value → H} {w : World} {base n : Nat} {spare : Nat → Bool} {held : Bool} {c0 c1 : Value} {y : DataW H × List MemPlace} (h : DataW.trod enc Tryd.prog w base spare held n 23 [c0, c1] = some y) :
    ∃ a b : Int, c0 = .int .i64 a ∧ c1 = .int .i64 b ∧ y = (.agg [.lit (.int .i64 a), .lit (.int .i64 b)], []) ∧ (Lit.int .i64 a).wf = true ∧ (Lit.int .i64 b).wf = true := by
  obtain ⟨y0, y1, m, rfl, _, h0, h1⟩ := trod_struct2 Tryd.underlying23 h
  have h0 : DataW.trod enc Tryd.prog w base spare held m 3 [c0] = some y0 := by simpa [int_cells] using h0
  have h1 : DataW.trod enc Tryd.prog w base spare held m 3 [c1] = some y1 := by simpa [int_cells] using h1
  obtain ⟨a, e0, rfl, w0⟩ := DataW.trod_int Tryd.underlying3 h0
  obtain ⟨b, e1, rfl, w1⟩ := DataW.trod_int Tryd.underlying3 h1
  simp only [List.cons.injEq, and_true] at e0 e1
  exact ⟨a, b, e0, e1, rfl, w0, w1⟩
set_option maxRecDepth 100000 in
theorem open_rule {H : Type} {enc : TypeId × Value → H} {w : World} {base b0 : Nat} {spare : Nat → Bool} {held : Bool} {r : Reach} {v : Value} {d : DataW H} {p : List MemPlace} (hv : Value.okWide Tryd.prog w r b0 34 v) (h : DataW.Trod enc Tryd.prog w base spare held 34 v d p) :
    ∃ a b c e : Int, v = ru a b c e ∧ d = .agg [.agg [.lit (.int .i64 a), .lit (.int .i64 b)], .agg [.lit (.int .i64 c), .lit (.int .i64 e)]] ∧ p = [] ∧ (Lit.int .i64 a).wf = true ∧ (Lit.int .i64 b).wf = true ∧ (Lit.int .i64 c).wf = true ∧ (Lit.int .i64 e).wf = true := by
  obtain ⟨cs, rfl, hsz⟩ := okWide_struct Tryd.underlying34 hv
  obtain ⟨l⟩ := cs
  obtain ⟨c0, c1, c2, c3, rfl⟩ := four_of (l := l) (hsz.trans rule_cells)
  obtain ⟨fuel, hf⟩ := h
  obtain ⟨y0, y1, m, hx, _, h0, h1⟩ := trod_struct2 Tryd.underlying34 hf
  have h0 : DataW.trod enc Tryd.prog w base spare held m 23 [c0, c1] = some y0 := by simpa [Value.cells, frac_cells] using h0
  have h1 : DataW.trod enc Tryd.prog w base spare held m 23 [c2, c3] = some y1 := by simpa [Value.cells, frac_cells] using h1
  obtain ⟨a, b, rfl, rfl, rfl, w0, w1⟩ := open_two h0
  obtain ⟨c, e, rfl, rfl, rfl, w2, w3⟩ := open_two h1
  simp only [Prod.mk.injEq, List.append_nil] at hx
  exact ⟨a, b, c, e, rfl, hx.1, hx.2, w0, w1, w2, w3⟩
set_option maxRecDepth 100000 in
theorem shut_two {H : Type} {enc : TypeId × Value → H} {w : World} {base : Nat} {spare : Nat → Bool} {held : Bool} {a b : Int} (wa : (Lit.int .i64 a).wf = true) (wb : (Lit.int .i64 b).wf = true) :
    DataW.trod enc Tryd.prog w base spare held 2 23 [.int .i64 a, .int .i64 b] = some (.agg [.lit (.int .i64 a), .lit (.int .i64 b)], []) := by
  have := trod_struct2_mk (enc := enc) (w := w) (base := base) (spare := spare) (held := held) (n := 1) (cs := [.int .i64 a, .int .i64 b]) (y0 := (.lit (.int .i64 a), [])) (y1 := (.lit (.int .i64 b), [])) Tryd.underlying23 (by rw [frac_cells]; rfl)
    (by simpa [int_cells] using trod_int_mk 0 Tryd.underlying3 wa) (by simpa [int_cells] using trod_int_mk 0 Tryd.underlying3 wb)
  simpa using this
set_option maxRecDepth 100000 in
theorem shut_rule {H : Type} {enc : TypeId × Value → H} {w : World} {base : Nat} {spare : Nat → Bool} {held : Bool} {a b c e : Int} (wa : (Lit.int .i64 a).wf = true) (wb : (Lit.int .i64 b).wf = true) (wc : (Lit.int .i64 c).wf = true) (we : (Lit.int .i64 e).wf = true) :
    DataW.Trod enc Tryd.prog w base spare held 34 (ru a b c e) (.agg [.agg [.lit (.int .i64 a), .lit (.int .i64 b)], .agg [.lit (.int .i64 c), .lit (.int .i64 e)]]) [] := by
  have := trod_struct2_mk (enc := enc) (w := w) (base := base) (spare := spare) (held := held) (n := 2) (cs := [.int .i64 a, .int .i64 b, .int .i64 c, .int .i64 e]) (y0 := (.agg [.lit (.int .i64 a), .lit (.int .i64 b)], [])) (y1 := (.agg [.lit (.int .i64 c), .lit (.int .i64 e)], [])) Tryd.underlying34 (by rw [rule_cells]; rfl)
    (by simpa [frac_cells] using shut_two wa wb) (by simpa [frac_cells] using shut_two wc we)
  exact ⟨3, by simpa [Value.cells] using this⟩
end Go.Proofs.YtconhikflghkdaaDoor
