/- What the Loft rows need: the listed variables, a world that holds them, the wrap with the world's shape, the tables that lent reads. -/
import Derived.Test.YthmimjofdmnakaaGreatDoorRows
import Derived.Test.YthmimjofdmnakaaGreatDoorSumOk
import Derived.ProofKit
import Derived.LaidMore
import Derived.OpenShut
import Derived.Stop.Joined
import Derived.Lib.LaidTab
import Derived.Lib.SmallJoins
import Derived.HandedShaped
import Derived.Stop.LaidErr
import Derived.Lay
import Derived.SevenTiedAt
import Derived.ChangeMaps5
namespace Go.Proofs.YthmimjofdmnakaaGreatDoor
open Go.ChangeShapes Go.WideShapes Go.ChangeAt Go.RowKit Go.Joins
theorem own : ownKnob Tryz.prog.godebug = none := by kernel_rfl
theorem laidOut : laidOutB Tryz.prog = true := by kernel_rfl
theorem mapsRow : mapsRowed Tryz.prog = true := by kernel_rfl
theorem looksAll : true = Tryz.prog.looks [] := by kernel_rfl
theorem mainIs : Tryz.prog.mainIs = some (true, "f640563e121ccbac8bbd08e2a9af14bcaac14639ac2f298e33b7a65943a8cd02".toList) := by kernel_rfl
theorem and_i {a b : Bool} (h : a = true) (k : b = true) : (a && b) = true := by rw [h, k]; rfl
/-- the variables that the rows list -/
def laid7 : List (String × DataW Unit) := [("math/bits.deBruijn32tab", Rows.laid_math_bits_deBruijn32tab), ("math/bits.deBruijn64tab", Rows.laid_math_bits_deBruijn64tab), ("internal/strconv.uint64pow10", Rows.laid_internal_strconv_uint64pow10), ("unicode/utf8.acceptRanges", Rows.laid_unicode_utf8_acceptRanges), ("strconv.ErrRange", Rows.laid_strconv_ErrRange), ("strconv.ErrSyntax", Rows.laid_strconv_ErrSyntax), ("unicode/utf8.first", Rows.laid_unicode_utf8_first)]
theorem maxCell (w : World) (h : w.ShapedOpen Tryz.prog) : ∃ m, w.cell? ⟨0, 0, none⟩ = some (.int .i64 m) :=
  Go.Proofs.cell_of_shapedOpen_int (zero := #[.int .i64 0]) (t := 3) h (of_decide_eq_true (by kernel_rfl)) (by kernel_rfl) rfl (by kernel_rfl) (by kernel_rfl) Tryz.underlying3
theorem heap_of_var {w : World} {name : String} {g : Nat} {cs : Array Value} (hg : Tryz.prog.globalNamed name = some g) (h : w.var? Tryz.prog name = some cs) : ∃ e fz, w.heap[g]? = some (.cells cs e fz) := by
  unfold World.var? at h
  rw [hg] at h
  simp only [Option.bind_some] at h
  split at h
  · rename_i c e fz hh
    obtain rfl := Option.some.inj h
    exact ⟨e, fz, hh⟩
  · cases h
theorem varAt_ints {w : World} {name : String} {g : Nat} {k : IntKind} {zs : List Int} (hg : Tryz.prog.globalNamed name = some g) (h : w.var? Tryz.prog name = some (zs.map (Value.int k)).toArray) : RX.VarAt w g (zs.map (RX.AV.int k)) := by
  obtain ⟨e, fz, hh⟩ := heap_of_var hg h
  refine ⟨_, e, fz, hh, fun sg => ⟨_, e, fz, rfl, by simp, fun i hi => ?_⟩⟩
  have hi' : i < zs.length := by simpa using hi
  refine ⟨.int k zs[i], by simp [hi'], rfl, ?_⟩
  have e1 : RX.cellAt (zs.map (RX.AV.int k)).length (zs.map (RX.AV.int k)) .nil i = .int k zs[i] := by
    unfold RX.cellAt
    rw [RX.T.get_nil, Nat.mod_eq_of_lt hi]
    simp [List.getD_eq_getElem?_getD, hi']
  rw [e1]
  rfl
theorem pairs_flat {k : IntKind} : ∀ (ps : List (Int × Int)) (cs : List Value), cs.length = 2 * ps.length → (∀ (i : Nat) (q : Int × Int), ps[i]? = some q → (cs.drop (i * 2)).take 2 = [.int k q.1, .int k q.2]) → cs = ps.flatMap fun q => [.int k q.1, .int k q.2]
  | [], cs, hl, _ => List.eq_nil_of_length_eq_zero (by simpa using hl)
  | q :: ps, cs, hl, h => by
    have h0 := h 0 q rfl
    have hr := pairs_flat (k := k) ps (cs.drop 2) (by simp at hl ⊢; omega) (fun i q' hq => by
      have := h (i + 1) q' (by simpa using hq)
      rw [List.drop_drop]
      rwa [show (i + 1) * 2 = 2 + i * 2 from by omega] at this)
    rw [List.flatMap_cons, ← hr]
    simp only [Nat.zero_mul, List.drop_zero] at h0
    rw [← h0, List.take_append_drop]
/-- an array of pairs that reads as data holds their numbers -/
theorem cells_of_pairs {H : Type} {enc : TypeId × Value → H} {P : Program} {w : World} {base : Nat} {sp : Nat → Bool} {held : Bool} {fuel : Nat} {t e : TypeId} {n : Nat} {k : IntKind} {f0 f1 : Field} {cs : List Value} {ps : List (Int × Int)} {p : List MemPlace}
    (ht : P.underlying t = some (.array n e)) (he : P.underlying e = some (.struct #[f0, f1])) (o0 : f0.offset = 0) (o1 : f1.offset = 1) (k0 : P.underlying f0.type = some (.int k)) (k1 : P.underlying f1.type = some (.int k)) (c0 : P.cellsOf f0.type = 1) (c1 : P.cellsOf f1.type = 1) (hce : P.cellsOf e = 2) (hct : P.cellsOf t = 2 * n)
    (h : DataW.trod enc P w base sp held fuel t cs = some (.agg (ps.map fun q => .agg [.lit (.int k q.1), .lit (.int k q.2)]), p)) : cs = ps.flatMap fun q => [.int k q.1, .int k q.2] := by
  obtain ⟨xs, m, _, hx, hl, hxl, hat⟩ := DataW.trod_array ht h
  rw [hce] at hat
  rw [hct] at hl
  have hxs : xs.map (·.1) = ps.map fun q => (DataW.agg [.lit (.int k q.1), .lit (.int k q.2)] : DataW H) := by
    have := congrArg Prod.fst hx
    simpa using this.symm
  have hpl : ps.length = n := by
    have := congrArg List.length hxs
    simp at this
    omega
  refine pairs_flat ps cs (by omega) (fun i q hq => ?_)
  have hi : i < n := by
    have := (List.getElem?_eq_some_iff.1 hq).1
    omega
  have h2 : (xs.map (·.1))[i]? = some (.agg [.lit (.int k q.1), .lit (.int k q.2)]) := by rw [hxs]; simp [hq]
  rw [List.getElem?_map, Option.map_eq_some_iff] at h2
  obtain ⟨y, hy, hy1⟩ := h2
  have h3 := (hat i hi).trans hy
  generalize hD : (cs.drop (i * 2)).take 2 = D at h3 ⊢
  obtain ⟨y0, y1, m', rfl, hDl, ha, hb⟩ := trod_struct2 he h3
  rw [hce] at hDl
  rw [o0, c0] at ha
  rw [o1, c1] at hb
  obtain ⟨z0, ea, rfl, _⟩ := DataW.trod_int k0 ha
  obtain ⟨z1, eb, rfl, _⟩ := DataW.trod_int k1 hb
  simp only [DataW.agg.injEq, List.cons.injEq, DataW.lit.injEq, Lit.int.injEq, true_and, and_true] at hy1
  obtain ⟨rfl, rfl⟩ := hy1
  match D, hDl with
  | [a, b], _ =>
    simp only [List.drop_zero, List.drop_succ_cons, List.take_succ_cons, List.take_zero, List.cons.injEq, and_true] at ea eb
    rw [ea, eb]
theorem wrap_shaped_and {H : Type} {enc : TypeId × Value → H} {a : Assume} {C : Checked} {os : Os} {f : FuncId} {fn : Func} {s : ChangeSpec} {conds : List PathCond} {apart fresh handsOn again : Bool} {X : World → Array Value → Prop}
    (hX : ∀ (w w' : World) (args : Array Value), w.heap = w'.heap → X w args → X w' args)
    (own : ownKnob C.prog.godebug = none) (started : os.Started) (noInit : C.prog.inits.idxOf? f = none) (hfn : C.prog.funcs[f]? = some fn)
    (witness : ∃ (w : World) (tape : Tape) (i : Input), w.os = os ∧ (w.forCall tape i).Shaped C.prog ∧ i.vars = [] ∧ Input.okWide C.prog (w.forCall tape i) .any w.heap.size f i ∧
      ((s.pre enc C.prog fn conds apart (w.forCall tape i).memory i.args ∧ X (w.forCall tape i).memory i.args) ∧ sizedMet enc C.prog fn (OpenSpec.ofChange s) apart (w.forCall tape i).memory i.args) ∧ a.holds C.prog (lone (Frame.enter C.prog f i.args .normal) [] (w.forCall tape i)))
    (contract : ∀ (W : World) (base : Nat) (args : Array Value) (ds gs : List (DataW H)) (before : List MemPlace),
      (∀ (j : Nat) t v, fn.params[j]? = some t → args[j]? = some v → Value.okWide C.prog W .any base t v) →
      DataW.Whole enc C.prog fn.params.toList s.vars apart W args.toList ds gs before →
      X W args → W.ShapedOpen C.prog →
      Calls C.prog f args W fun e W' => ∃ v, e = .returned v ∧ s.post enc C.prog fn apart fresh handsOn again W args v W') :
    ReturnsInHanded a C os f .any (fun w args => (s.pre enc C.prog fn conds apart w args ∧ X w args) ∧ sizedMet enc C.prog fn (OpenSpec.ofChange s) apart w args) (s.post enc C.prog fn apart fresh handsOn again) := by
  refine returnsInHanded_of_calls own started noInit witness ?_
  intro w tape i _ hsh _ hok hpre _
  obtain ⟨_, _, _, fn', hfn', _, _, _, _, hval⟩ := hok
  have e : fn' = fn := Option.some.inj (hfn'.symm.trans hfn)
  subst e
  obtain ⟨⟨⟨ds, gs, before, hw, _⟩, hx⟩, _⟩ := hpre
  have hw' := DataW.Whole.of_heap (w' := w.forCall tape i) (by rfl) hw
  refine (contract (w.forCall tape i) w.heap.size i.args ds gs before hval hw' (hX _ _ _ (by rfl) hx) hsh).mono fun e W' ⟨v, he, hp⟩ => ?_
  subst he
  exact ChangeSpec.post_blind hp
/-- the numbers of a table -/
def intsOf : List RX.AV → List Int
  | .int _ n :: l => n :: intsOf l
  | _ :: l => intsOf l
  | [] => []
def pairsOf : List Int → List (Int × Int)
  | a :: b :: l => (a, b) :: pairsOf l
  | _ => []
theorem tables_of_laid {W : World} (h : laidMetH Tryz.prog laid7 W) (hs : W.ShapedOpen Tryz.prog) : RX.Tables W := by
  rw [MakeChecks.laidMetH_plain _ _ _ (by kernel_rfl)] at h
  obtain ⟨m, hm⟩ := maxCell W hs
  obtain ⟨ps, ⟨g0, t0, cs0, f0, p0, q0, hg0, ht0, hv0, hd0, ⟨g1, t1, cs1, f1, p1, q1, hg1, ht1, hv1, hd1, ⟨g2, t2, cs2, f2, p2, q2, hg2, ht2, hv2, hd2, ⟨g3, t3, cs3, f3, p3, q3, hg3, ht3, hv3, hd3, _, _⟩, _⟩, _⟩, _⟩, _, _⟩ := h
  have tab : ∀ {name : String} {g : Nat} {t e : TypeId} {n f : Nat} {k : IntKind} {cs : Array Value} {zs : List Int} {p : List MemPlace}, Tryz.prog.globalNamed name = some g → Tryz.prog.underlying t = some (.array n e) → Tryz.prog.underlying e = some (.int k) → Tryz.prog.cellsOf e = 1 → Tryz.prog.cellsOf t = n → W.var? Tryz.prog name = some cs →
      DataW.trod (fun _ => ()) Tryz.prog W 0 (fun _ => true) false f t cs.toList = some (Lib.tabData k zs, p) → RX.VarAt W g (zs.map (RX.AV.int k)) := fun hg ht he hce hct hv hd => by
    have := Lib.cells_of_tab ht he hce hct hd
    refine varAt_ints hg ?_
    rw [hv, ← this]
  refine ⟨?_, ?_, ?_, ?_, ?_⟩
  · unfold World.cell? at hm
    split at hm
    · rename_i c e fz hh
      refine ⟨c, e, fz, hh, fun sg => ⟨c, e, fz, rfl, ?_, fun i hi => ?_⟩⟩
      · have := (Array.getElem?_eq_some_iff.1 hm).1
        exact this
      · obtain rfl : i = 0 := by simpa using hi
        exact ⟨_, hm, rfl, rfl⟩
    · cases hm
  · obtain rfl := Option.some.inj ((show Tryz.prog.globalNamed "unicode/utf8.acceptRanges" = some 4 by kernel_rfl).symm.trans hg3)
    obtain rfl := Option.some.inj ((show (Tryz.prog.globals[4]?).map (·.type) = some 407 by kernel_rfl).symm.trans ht3)
    have hc := cells_of_pairs (k := .u8) (ps := pairsOf (intsOf RX.t4)) Tryz.underlying407 Tryz.underlying406 rfl rfl Tryz.underlying5 Tryz.underlying5 (by kernel_rfl) (by kernel_rfl) (by kernel_rfl) (by kernel_rfl) hd3
    refine varAt_ints (zs := intsOf RX.t4) hg3 ?_
    rw [hv3]
    have e : ((intsOf RX.t4).map (Value.int .u8)) = (pairsOf (intsOf RX.t4)).flatMap fun q => [.int .u8 q.1, .int .u8 q.2] := rfl
    rw [e, ← hc]
  · obtain rfl := Option.some.inj ((show Tryz.prog.globalNamed "internal/strconv.uint64pow10" = some 5 by kernel_rfl).symm.trans hg2)
    obtain rfl := Option.some.inj ((show (Tryz.prog.globals[5]?).map (·.type) = some 419 by kernel_rfl).symm.trans ht2)
    exact tab (zs := intsOf RX.t5) hg2 Tryz.underlying419 Tryz.underlying96 (by kernel_rfl) (by kernel_rfl) hv2 hd2
  · obtain rfl := Option.some.inj ((show Tryz.prog.globalNamed "math/bits.deBruijn32tab" = some 6 by kernel_rfl).symm.trans hg0)
    obtain rfl := Option.some.inj ((show (Tryz.prog.globals[6]?).map (·.type) = some 193 by kernel_rfl).symm.trans ht0)
    exact tab (zs := intsOf RX.t6) hg0 Tryz.underlying193 Tryz.underlying5 (by kernel_rfl) (by kernel_rfl) hv0 hd0
  · obtain rfl := Option.some.inj ((show Tryz.prog.globalNamed "math/bits.deBruijn64tab" = some 7 by kernel_rfl).symm.trans hg1)
    obtain rfl := Option.some.inj ((show (Tryz.prog.globals[7]?).map (·.type) = some 139 by kernel_rfl).symm.trans ht1)
    exact tab (zs := intsOf RX.t7) hg1 Tryz.underlying139 Tryz.underlying5 (by kernel_rfl) (by kernel_rfl) hv1 hd1
end Go.Proofs.YthmimjofdmnakaaGreatDoor
