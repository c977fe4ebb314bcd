/- LoftNil: for every input that can be read as data the call returns true and the arguments read as before; the listed variables of the library read as the program's text lays them. The row and its card. -/
import Derived.Test.YthmimjofdmnakaaGreatDoorFrameL
import Derived.Test.YthmimjofdmnakaaGreatDoorLawLoftNil
import Derived.Test.YthmimjofdmnakaaGreatDoorCards
import Derived.Test.YthmimjofdmnakaaGreatDoorTie
namespace Go.Proofs.YthmimjofdmnakaaGreatDoor
open Go.ChangeShapes Go.WideShapes Go.ChangeAt Go.RowKit Go.Joins
set_option maxRecDepth 100000 in
theorem loftNil_lifted (os : Os) (started : os.Started) (H : Type) (enc : TypeId × Value → H) :
    ReturnsInHanded {} Tryz.checked os 7 .any (fun w args => (Rows.loftNilSpec.pre enc Tryz.prog Tryz.f7 [] false w args ∧ laidMetH Tryz.prog laid7 w) ∧ sizedMet enc Tryz.prog Tryz.f7 (OpenSpec.ofChange Rows.loftNilSpec) false w args)
      (Rows.loftNilSpec.post enc Tryz.prog Tryz.f7 false true false false) := by
  refine wrap_shaped_and (C := Tryz.checked) (X := fun w _ => laidMetH Tryz.prog laid7 w) (fun _ _ _ hh h => h.of_heap hh) own started (by kernel_rfl) Tryz.func7
    (ChangeSpec.witness_shaped (enc := enc) (C := Tryz.checked) (os := os) (X := fun w _ => laidMetH Tryz.prog laid7 w) false (World.laidAll Tryz.prog os laid7) #[.int .i64 0, .string ByteArray.empty, .int .i64 0] 8 (World.laidAll_os _ _ _) (World.shaped_of_ZipB (by kernel_rfl) (by kernel_rfl)) (by kernel_rfl) (by kernel_rfl) (by kernel_rfl)
      (by rw [MakeChecks.laidMetH_plain _ _ _ (by kernel_rfl)]; exact laidMet_laidAll _ (by kernel_rfl) (by kernel_rfl))) ?_
  intro W base args ds gs before hval0 hW hL hS
  have hval : ∀ (j : Nat) t v, Tryz.f7.params[j]? = some t → args[j]? = some v → Value.okWide Tryz.prog W .any base t v := hval0
  have hW' := hW
  obtain ⟨p, q, hA0, hV, rfl, hfz, hnd⟩ := hW
  have hA : DataW.TrodAll enc Tryz.prog W 0 (fun _ => true) true Tryz.f7.params.toList args.toList ds p := hA0
  rw [Tryz.params7] at hA hval
  obtain ⟨v0, v1, v2, d0, d1, d2, p0, p1, p2, rfl, rfl, rfl, h0, h1, h2⟩ := trodAll_three hA
  obtain ⟨rfl, rfl⟩ := trodVars_none hV
  obtain ⟨a0, rfl, rfl, rfl, wa0⟩ := open_int Tryz.underlying3 (hval 0 3 v0 rfl rfl) h0
  obtain ⟨s1, rfl, rfl, rfl, ws1⟩ := ChangeMaps.open_string Tryz.underlying9 (hval 1 9 v1 rfl rfl) h1
  obtain ⟨a2, rfl, rfl, rfl, wa2⟩ := open_int Tryz.underlying3 (hval 2 3 v2 rfl rfl) h2
  clear hA0 hval0
  try simp only [List.append_nil] at hW'
  refine (LoftNil_any a0 s1 a2 W (tables_of_laid hL hS)).mono fun e W' ⟨he, hg⟩ => ?_
  subst he
  refine ⟨_, rfl, _, _, _, [], [], [], hW', ?_, ?_, rfl, hg.b.frame _, fun h => by cases h⟩
  · exact trodAll_mk1 (shut_bool Tryz.underlying4 _)
  · exact trodAll_mk3 (shut_int Tryz.underlying3 wa0) (ChangeMaps.shut_string Tryz.underlying9 ws1) (shut_int Tryz.underlying3 wa2)
theorem loftNil_wf : Rows.loftNilRow.wf (OpenSpec.ofChange Rows.loftNilSpec) = true := by kernel_rfl
theorem loftNil_inPlace : (Rows.loftNilRow.inPlace == Tryz.prog.inPlace 7) = true := by kernel_rfl
theorem loftNil_unfollowed : (Rows.loftNilRow.unfollowed == Tryz.prog.unfollowed 7) = true := by kernel_rfl
theorem loftNil_recurses : (Rows.loftNilRow.recurses == Tryz.prog.recurses 7) = true := by kernel_rfl
theorem loftNil_named : (Rows.loftNilRow.named == Tryz.prog.varsNamed 7) = true := by kernel_rfl
theorem loftNil_funcNamed : Tryz.prog.funcNamed "strickle/stricklelaw09.LoftNil" = some 7 := by kernel_rfl
set_option maxRecDepth 100000 in
theorem loftNil_joined : joinedFacts Tryz.prog 7 Tryz.f7 Rows.loftNilSpec Rows.loftNilRow = true := by
  unfold joinedFacts
  repeat' with_reducible refine and_i ?_ ?_
  all_goals first
    | with_reducible exact loftNil_wf
    | with_reducible exact laidOut
    | with_reducible exact mapsRow
    | with_reducible exact loftNil_inPlace
    | with_reducible exact loftNil_unfollowed
    | with_reducible exact loftNil_recurses
    | with_reducible exact loftNil_named
    | kernel_rfl
theorem loftNil_wrap : Tryz.f7.isWrapper Tryz.prog Rows.loftNilRow.wrapper Rows.loftNilRow.mainSum := by
  unfold Func.isWrapper
  rw [if_neg (of_decide_eq_false (by kernel_rfl))]
  exact ⟨rfl, rfl⟩
theorem loftNil_holds : Rows.LoftNilSaid :=
  OpenClaim.holds_of_wide 7 Tryz.f7 rfl rfl rfl rfl rfl rfl rfl ⟨rfl, rfl, rfl, rfl, rfl⟩ rfl rfl rfl rfl rfl loftNil_funcNamed Tryz.func7 loftNil_joined
    (of_decide_eq_true (by kernel_rfl)) loftNil_wrap
    (fun os started H enc _ => loftNil_lifted os started H enc)
theorem loftNil_byText : Rows.loftNilRow.wfByText (OpenSpec.ofChange Rows.loftNilSpec) = true := by kernel_rfl
theorem loftNil_goes : false = Rows.loftNilRow.goesBy Tryz.prog := by kernel_rfl
theorem loftNil_plain : ∀ (f : FuncId) (fn : Func), Tryz.prog.funcNamed "strickle/stricklelaw09.LoftNil" = some f → Tryz.prog.funcs[f]? = some fn → true = Tryz.prog.looks [] ∧ ∀ (j : Nat) t, fn.params[j]? = some t → Tryz.prog.wantsStandIn t = false := fun f fn hf hfn => by
  obtain rfl : f = 7 := Option.some.inj (loftNil_funcNamed.symm.trans hf) |>.symm
  obtain rfl : fn = Tryz.f7 := (Option.some.inj (Tryz.func7.symm.trans hfn)).symm
  exact ⟨looksAll, fun j t ht => by
    rw [Tryz.params7] at ht
    have hm : t ∈ [3, 9, 3] := by simpa using Array.mem_of_getElem? ht
    have hall : ([3, 9, 3].all fun u => !Tryz.prog.wantsStandIn u) = true := by kernel_rfl
    exact (show Tryz.prog.wantsStandIn t = false by simpa using List.all_eq_true.1 hall t hm)⟩
theorem loftNil_card : Rows.LoftNilCardSaid :=
  Claim7.holds_tied_plain_at .later [] [.data, .data, .data, .data, .sentinel, .sentinel, .pinned] true (true, "f640563e121ccbac8bbd08e2a9af14bcaac14639ac2f298e33b7a65943a8cd02") true
    loftNil_holds (fun _ h => by cases h) loftNil_byText (fun _ h => by cases h) loftNil_row_tie rfl ⟨rfl, rfl⟩ mainIs rfl
    loftNil_plain loftNil_goes
#print axioms loftNil_card
end Go.Proofs.YthmimjofdmnakaaGreatDoor
