/- LoftRecords: for every input that can be read as data the call returns true and the arguments read as before; the listed variables of the library read as the program's text lays them. The row and its card. -/
import Derived.Test.YthmimjofdmnakaaGreatDoorFrameR
import Derived.Test.YthmimjofdmnakaaGreatDoorLawLoftRecords
import Derived.Test.YthmimjofdmnakaaGreatDoorCards
import Derived.Test.YthmimjofdmnakaaGreatDoorTie
namespace Go.Proofs.YthmimjofdmnakaaGreatDoor
open Go.ChangeShapes Go.WideShapes Go.ChangeAt Go.RowKit Go.Joins
theorem trodAll_five {H : Type} {enc : TypeId × Value → H} {P : Program} {w : World} {base : Nat} {spare : Nat → Bool} {held : Bool} {t0 t1 t2 t3 t4 : TypeId} {args : Array Value} {ds : List (DataW H)} {ps : List MemPlace} (h : DataW.TrodAll enc P w base spare held [t0, t1, t2, t3, t4] args.toList ds ps) :
    ∃ v0 v1 v2 v3 v4 d0 d1 d2 d3 d4 p0 p1 p2 p3 p4, args = #[v0, v1, v2, v3, v4] ∧ ds = [d0, d1, d2, d3, d4] ∧ ps = p0 ++ p1 ++ p2 ++ p3 ++ p4 ∧ DataW.Trod enc P w base spare held t0 v0 d0 p0 ∧ DataW.Trod enc P w base spare held t1 v1 d1 p1 ∧ DataW.Trod enc P w base spare held t2 v2 d2 p2 ∧ DataW.Trod enc P w base spare held t3 v3 d3 p3 ∧ DataW.Trod enc P w base spare held t4 v4 d4 p4 := by
  obtain ⟨v0, vs, d0, ds0, p0, q0, hargs, rfl, rfl, h0, r0⟩ := trodAll_cons h
  obtain ⟨v1, vs1, d1, ds1, p1, q1, rfl, rfl, rfl, h1, r1⟩ := trodAll_cons r0
  obtain ⟨v2, vs2, d2, ds2, p2, q2, rfl, rfl, rfl, h2, r2⟩ := trodAll_cons r1
  obtain ⟨v3, vs3, d3, ds3, p3, q3, rfl, rfl, rfl, h3, r3⟩ := trodAll_cons r2
  obtain ⟨v4, vs4, d4, ds4, p4, q4, rfl, rfl, rfl, h4, r4⟩ := trodAll_cons r3
  obtain ⟨rfl, rfl, rfl⟩ := trodAll_nil r4
  exact ⟨v0, v1, v2, v3, v4, d0, d1, d2, d3, d4, p0, p1, p2, p3, p4, by cases args; simp_all, rfl, by simp, h0, h1, h2, h3, h4⟩
theorem trodAll_mk5 {H : Type} {enc : TypeId × Value → H} {P : Program} {w : World} {base : Nat} {spare : Nat → Bool} {held : Bool} {t0 t1 t2 t3 t4 : TypeId} {v0 v1 v2 v3 v4 : Value} {d0 d1 d2 d3 d4 : DataW H} (h0 : DataW.Trod enc P w base spare held t0 v0 d0 []) (h1 : DataW.Trod enc P w base spare held t1 v1 d1 []) (h2 : DataW.Trod enc P w base spare held t2 v2 d2 []) (h3 : DataW.Trod enc P w base spare held t3 v3 d3 []) (h4 : DataW.Trod enc P w base spare held t4 v4 d4 []) :
    DataW.TrodAll enc P w base spare held [t0, t1, t2, t3, t4] [v0, v1, v2, v3, v4] [d0, d1, d2, d3, d4] [] :=
  trodAll_cons_mk h0 (trodAll_cons_mk h1 (trodAll_cons_mk h2 (trodAll_cons_mk h3 (trodAll_mk1 h4))))
set_option maxRecDepth 100000 in
theorem loftRecords_lifted (os : Os) (started : os.Started) (H : Type) (enc : TypeId × Value → H) :
    ReturnsInHanded {} Tryz.checked os 3 .any (fun w args => (Rows.loftRecordsSpec.pre enc Tryz.prog Tryz.f3 [] false w args ∧ laidMetH Tryz.prog laid7 w) ∧ sizedMet enc Tryz.prog Tryz.f3 (OpenSpec.ofChange Rows.loftRecordsSpec) false w args)
      (Rows.loftRecordsSpec.post enc Tryz.prog Tryz.f3 false true false false) := by
  refine wrap_shaped_and (C := Tryz.checked) (X := fun w _ => laidMetH Tryz.prog laid7 w) (fun _ _ _ hh h => h.of_heap hh) own started (by kernel_rfl) Tryz.func3
    (ChangeSpec.witness_shaped (enc := enc) (C := Tryz.checked) (os := os) (X := fun w _ => laidMetH Tryz.prog laid7 w) false (World.laidAll Tryz.prog os laid7) #[.int .i64 0, .agg #[.int .i64 0, .int .i64 0, .int .i64 0, .string ByteArray.empty], .string ByteArray.empty, .int .i64 0, .int .i64 0] 8 (World.laidAll_os _ _ _) (World.shaped_of_ZipB (by kernel_rfl) (by kernel_rfl)) (by kernel_rfl) (by kernel_rfl) (by kernel_rfl)
      (by rw [MakeChecks.laidMetH_plain _ _ _ (by kernel_rfl)]; exact laidMet_laidAll _ (by kernel_rfl) (by kernel_rfl))) ?_
  intro W base args ds gs before hval0 hW hL hS
  have hval : ∀ (j : Nat) t v, Tryz.f3.params[j]? = some t → args[j]? = some v → Value.okWide Tryz.prog W .any base t v := hval0
  have hW' := hW
  obtain ⟨p, q, hA0, hV, rfl, hfz, hnd⟩ := hW
  have hA : DataW.TrodAll enc Tryz.prog W 0 (fun _ => true) true Tryz.f3.params.toList args.toList ds p := hA0
  rw [Tryz.params3] at hA hval
  obtain ⟨v0, v1, v2, v3, v4, d0, d1, d2, d3, d4, p0, p1, p2, p3, p4, rfl, rfl, rfl, h0, h1, h2, h3, h4⟩ := trodAll_five hA
  obtain ⟨rfl, rfl⟩ := trodVars_none hV
  obtain ⟨a0, rfl, rfl, rfl, wa0⟩ := open_int Tryz.underlying3 (hval 0 3 v0 rfl rfl) h0
  obtain ⟨a1, b1, c1, t1, rfl, rfl, q1⟩ := open_rec (hval 1 23 v1 rfl rfl) h1
  obtain ⟨s2, rfl, rfl, rfl, ws2⟩ := ChangeMaps.open_string Tryz.underlying9 (hval 2 9 v2 rfl rfl) h2
  obtain ⟨a3, rfl, rfl, rfl, wa3⟩ := open_int Tryz.underlying3 (hval 3 3 v3 rfl rfl) h3
  obtain ⟨a4, rfl, rfl, rfl, wa4⟩ := open_int Tryz.underlying3 (hval 4 3 v4 rfl rfl) h4
  clear hA0 hval0
  try simp only [List.append_nil] at hW'
  refine (LoftRecords_any a0 a1 b1 c1 t1 s2 a3 a4 W (tw_of_laid hL hS) (tables_of_laid hL hS)).mono fun e W' ⟨he, hg⟩ => ?_
  subst he
  refine ⟨_, rfl, _, _, _, [], [], [], hW', ?_, ?_, rfl, hg.b.frame _, fun h => by cases h⟩
  · exact trodAll_mk1 (shut_bool Tryz.underlying4 _)
  · exact trodAll_mk5 (shut_int Tryz.underlying3 wa0) (q1 _ _ _ _) (ChangeMaps.shut_string Tryz.underlying9 ws2) (shut_int Tryz.underlying3 wa3) (shut_int Tryz.underlying3 wa4)
theorem loftRecords_wf : Rows.loftRecordsRow.wf (OpenSpec.ofChange Rows.loftRecordsSpec) = true := by kernel_rfl
theorem loftRecords_inPlace : (Rows.loftRecordsRow.inPlace == Tryz.prog.inPlace 3) = true := by kernel_rfl
theorem loftRecords_unfollowed : (Rows.loftRecordsRow.unfollowed == Tryz.prog.unfollowed 3) = true := by kernel_rfl
theorem loftRecords_recurses : (Rows.loftRecordsRow.recurses == Tryz.prog.recurses 3) = true := by kernel_rfl
theorem loftRecords_named : (Rows.loftRecordsRow.named == Tryz.prog.varsNamed 3) = true := by kernel_rfl
theorem loftRecords_funcNamed : Tryz.prog.funcNamed "strickle/stricklelaw09.LoftRecords" = some 3 := by kernel_rfl
set_option maxRecDepth 100000 in
theorem loftRecords_joined : joinedFacts Tryz.prog 3 Tryz.f3 Rows.loftRecordsSpec Rows.loftRecordsRow = true := by
  unfold joinedFacts
  repeat' with_reducible refine and_i ?_ ?_
  all_goals first
    | with_reducible exact loftRecords_wf
    | with_reducible exact laidOut
    | with_reducible exact mapsRow
    | with_reducible exact loftRecords_inPlace
    | with_reducible exact loftRecords_unfollowed
    | with_reducible exact loftRecords_recurses
    | with_reducible exact loftRecords_named
    | kernel_rfl
theorem loftRecords_wrap : Tryz.f3.isWrapper Tryz.prog Rows.loftRecordsRow.wrapper Rows.loftRecordsRow.mainSum := by
  unfold Func.isWrapper
  rw [if_neg (of_decide_eq_false (by kernel_rfl))]
  exact ⟨rfl, rfl⟩
theorem loftRecords_holds : Rows.LoftRecordsSaid :=
  OpenClaim.holds_of_wide 3 Tryz.f3 rfl rfl rfl rfl rfl rfl rfl ⟨rfl, rfl, rfl, rfl, rfl⟩ rfl rfl rfl rfl rfl loftRecords_funcNamed Tryz.func3 loftRecords_joined
    (of_decide_eq_true (by kernel_rfl)) loftRecords_wrap
    (fun os started H enc _ => loftRecords_lifted os started H enc)
theorem loftRecords_byText : Rows.loftRecordsRow.wfByText (OpenSpec.ofChange Rows.loftRecordsSpec) = true := by kernel_rfl
theorem loftRecords_goes : false = Rows.loftRecordsRow.goesBy Tryz.prog := by kernel_rfl
theorem loftRecords_plain : ∀ (f : FuncId) (fn : Func), Tryz.prog.funcNamed "strickle/stricklelaw09.LoftRecords" = some f → Tryz.prog.funcs[f]? = some fn → true = Tryz.prog.looks [] ∧ ∀ (j : Nat) t, fn.params[j]? = some t → Tryz.prog.wantsStandIn t = false := fun f fn hf hfn => by
  obtain rfl : f = 3 := Option.some.inj (loftRecords_funcNamed.symm.trans hf) |>.symm
  obtain rfl : fn = Tryz.f3 := (Option.some.inj (Tryz.func3.symm.trans hfn)).symm
  exact ⟨looksAll, fun j t ht => by
    rw [Tryz.params3] at ht
    have hm : t ∈ [3, 23, 9, 3, 3] := by simpa using Array.mem_of_getElem? ht
    have hall : ([3, 23, 9, 3, 3].all fun u => !Tryz.prog.wantsStandIn u) = true := by kernel_rfl
    exact (show Tryz.prog.wantsStandIn t = false by simpa using List.all_eq_true.1 hall t hm)⟩
theorem loftRecords_card : Rows.LoftRecordsCardSaid :=
  Claim7.holds_tied_plain_at .later [] [.data, .data, .data, .data, .sentinel, .sentinel, .pinned] true (true, "f640563e121ccbac8bbd08e2a9af14bcaac14639ac2f298e33b7a65943a8cd02") true
    loftRecords_holds (fun _ h => by cases h) loftRecords_byText (fun _ h => by cases h) loftRecords_row_tie rfl ⟨rfl, rfl⟩ mainIs rfl
    loftRecords_plain loftRecords_goes
#print axioms loftRecords_card
end Go.Proofs.YthmimjofdmnakaaGreatDoor
