/- LoftMerges: for every input that can be read as data the call returns true and the arguments read as before; the listed variables of the library read as the program's text lays them. The row and its card. -/
import Derived.Test.YthmimjofdmnakaaGreatDoorJArg
import Derived.Test.YthmimjofdmnakaaGreatDoorLawLoftMerges
import Derived.Test.YthmimjofdmnakaaGreatDoorCards
import Derived.Test.YthmimjofdmnakaaGreatDoorTie
namespace Go.Proofs.YthmimjofdmnakaaGreatDoor
open Go.ChangeShapes Go.WideShapes Go.ChangeAt Go.RowKit Go.Joins
set_option maxRecDepth 100000 in
theorem loftMerges_lifted (os : Os) (started : os.Started) (H : Type) (enc : TypeId × Value → H) :
    ReturnsInHanded {} Tryz.checked os 5 .any (fun w args => (Rows.loftMergesSpec.pre enc Tryz.prog Tryz.f5 [] false w args ∧ laidMetH Tryz.prog laid7 w) ∧ sizedMet enc Tryz.prog Tryz.f5 (OpenSpec.ofChange Rows.loftMergesSpec) false w args)
      (Rows.loftMergesSpec.post enc Tryz.prog Tryz.f5 false true false false) := by
  refine wrap_shaped_and (C := Tryz.checked) (X := fun w _ => laidMetH Tryz.prog laid7 w) (fun _ _ _ hh h => h.of_heap hh) own started (by kernel_rfl) Tryz.func5
    (ChangeSpec.witness_shaped (enc := enc) (C := Tryz.checked) (os := os) (X := fun w _ => laidMetH Tryz.prog laid7 w) false (World.laidAll Tryz.prog os laid7) #[.int .i64 0, .slice none 0 0, .slice none 0 0, .slice none 0 0] 8 (World.laidAll_os _ _ _) (World.shaped_of_ZipB (by kernel_rfl) (by kernel_rfl)) (by kernel_rfl) (by kernel_rfl) (by kernel_rfl)
      (by rw [MakeChecks.laidMetH_plain _ _ _ (by kernel_rfl)]; exact laidMet_laidAll _ (by kernel_rfl) (by kernel_rfl))) ?_
  intro W base args ds gs before hval0 hW hL hS
  have hval : ∀ (j : Nat) t v, Tryz.f5.params[j]? = some t → args[j]? = some v → Value.okWide Tryz.prog W .any base t v := hval0
  have hW' := hW
  obtain ⟨p, q, hA0, hV, rfl, hfz, hnd⟩ := hW
  have hA : DataW.TrodAll enc Tryz.prog W 0 (fun _ => true) true Tryz.f5.params.toList args.toList ds p := hA0
  rw [Tryz.params5] at hA hval
  obtain ⟨v0, v1, v2, v3, d0, d1, d2, d3, p0, p1, p2, p3, rfl, rfl, rfl, h0, h1, h2, h3⟩ := trodAll_four hA
  obtain ⟨rfl, rfl⟩ := trodVars_none hV
  obtain ⟨a0, rfl, rfl, rfl, wa0⟩ := open_int Tryz.underlying3 (hval 0 3 v0 rfl rfl) h0
  obtain ⟨l1, r1⟩ := open_recs (hval 1 32 v1 rfl rfl) h1
  obtain ⟨l2, r2⟩ := open_recs (hval 2 32 v2 rfl rfl) h2
  obtain ⟨l3, r3⟩ := open_recs (hval 3 32 v3 rfl rfl) h3
  clear hA0 hval0
  try simp only [List.append_nil] at hW'
  refine (LoftMerges_any a0 v1 v2 v3 l1 l2 l3 W r1 r2 r3 (tables_of_laid hL hS)).mono fun e W' ⟨he, hg⟩ => ?_
  subst he
  refine ⟨_, rfl, _, _, _, [], [] ++ p1 ++ p2 ++ p3, [], hW', ?_, ?_, rfl, hg.b.frame _, fun h => by cases h⟩
  · exact trodAll_mk1 (shut_bool Tryz.underlying4 _)
  · have hh := trodAll_mk4 (shut_int Tryz.underlying3 wa0) (againJ h1 hg (of_decide_eq_true (by kernel_rfl))) (againJ h2 hg (of_decide_eq_true (by kernel_rfl))) (againJ h3 hg (of_decide_eq_true (by kernel_rfl)))
    simp only [List.append_assoc]
    exact hh
theorem loftMerges_wf : Rows.loftMergesRow.wf (OpenSpec.ofChange Rows.loftMergesSpec) = true := by kernel_rfl
theorem loftMerges_inPlace : (Rows.loftMergesRow.inPlace == Tryz.prog.inPlace 5) = true := by kernel_rfl
theorem loftMerges_unfollowed : (Rows.loftMergesRow.unfollowed == Tryz.prog.unfollowed 5) = true := by kernel_rfl
theorem loftMerges_recurses : (Rows.loftMergesRow.recurses == Tryz.prog.recurses 5) = true := by kernel_rfl
theorem loftMerges_named : (Rows.loftMergesRow.named == Tryz.prog.varsNamed 5) = true := by kernel_rfl
theorem loftMerges_funcNamed : Tryz.prog.funcNamed "strickle/stricklelaw09.LoftMerges" = some 5 := by kernel_rfl
set_option maxRecDepth 100000 in
theorem loftMerges_joined : joinedFacts Tryz.prog 5 Tryz.f5 Rows.loftMergesSpec Rows.loftMergesRow = true := by
  unfold joinedFacts
  repeat' with_reducible refine and_i ?_ ?_
  all_goals first
    | with_reducible exact loftMerges_wf
    | with_reducible exact laidOut
    | with_reducible exact mapsRow
    | with_reducible exact loftMerges_inPlace
    | with_reducible exact loftMerges_unfollowed
    | with_reducible exact loftMerges_recurses
    | with_reducible exact loftMerges_named
    | kernel_rfl
theorem loftMerges_wrap : Tryz.f5.isWrapper Tryz.prog Rows.loftMergesRow.wrapper Rows.loftMergesRow.mainSum := by
  unfold Func.isWrapper
  rw [if_neg (of_decide_eq_false (by kernel_rfl))]
  exact ⟨rfl, rfl⟩
theorem loftMerges_holds : Rows.LoftMergesSaid :=
  OpenClaim.holds_of_wide 5 Tryz.f5 rfl rfl rfl rfl rfl rfl rfl ⟨rfl, rfl, rfl, rfl, rfl⟩ rfl rfl rfl rfl rfl loftMerges_funcNamed Tryz.func5 loftMerges_joined
    (of_decide_eq_true (by kernel_rfl)) loftMerges_wrap
    (fun os started H enc _ => loftMerges_lifted os started H enc)
theorem loftMerges_byText : Rows.loftMergesRow.wfByText (OpenSpec.ofChange Rows.loftMergesSpec) = true := by kernel_rfl
theorem loftMerges_goes : false = Rows.loftMergesRow.goesBy Tryz.prog := by kernel_rfl
theorem loftMerges_plain : ∀ (f : FuncId) (fn : Func), Tryz.prog.funcNamed "strickle/stricklelaw09.LoftMerges" = some f → Tryz.prog.funcs[f]? = some fn → true = Tryz.prog.looks [] ∧ ∀ (j : Nat) t, fn.params[j]? = some t → Tryz.prog.wantsStandIn t = false := fun f fn hf hfn => by
  obtain rfl : f = 5 := Option.some.inj (loftMerges_funcNamed.symm.trans hf) |>.symm
  obtain rfl : fn = Tryz.f5 := (Option.some.inj (Tryz.func5.symm.trans hfn)).symm
  exact ⟨looksAll, fun j t ht => by
    rw [Tryz.params5] at ht
    have hm : t ∈ [3, 32, 32, 32] := by simpa using Array.mem_of_getElem? ht
    have hall : ([3, 32, 32, 32].all fun u => !Tryz.prog.wantsStandIn u) = true := by kernel_rfl
    exact (show Tryz.prog.wantsStandIn t = false by simpa using List.all_eq_true.1 hall t hm)⟩
theorem loftMerges_card : Rows.LoftMergesCardSaid :=
  Claim7.holds_tied_plain_at .later [] [.data, .data, .data, .data, .sentinel, .sentinel, .pinned] true (true, "f640563e121ccbac8bbd08e2a9af14bcaac14639ac2f298e33b7a65943a8cd02") true
    loftMerges_holds (fun _ h => by cases h) loftMerges_byText (fun _ h => by cases h) loftMerges_row_tie rfl ⟨rfl, rfl⟩ mainIs rfl
    loftMerges_plain loftMerges_goes
#print axioms loftMerges_card
end Go.Proofs.YthmimjofdmnakaaGreatDoor
