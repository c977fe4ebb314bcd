/- LoftDisk: for every input that can be read as data the call returns true and the arguments read as before; the listed variables of the library read as the program's text lays them. The row and its card. -/
import Derived.Test.YthmimjofdmnakaaGreatDoorLOpsArg
import Derived.Test.YthmimjofdmnakaaGreatDoorLawLoftDisk
import Derived.Test.YthmimjofdmnakaaGreatDoorCards
import Derived.Test.YthmimjofdmnakaaGreatDoorTie
namespace Go.Proofs.YthmimjofdmnakaaGreatDoor
open Go.ChangeShapes Go.WideShapes Go.ChangeAt Go.RowKit Go.Joins
set_option maxRecDepth 100000 in
theorem loftDisk_lifted (os : Os) (started : os.Started) (H : Type) (enc : TypeId × Value → H) :
    ReturnsInHanded {} Tryz.checked os 6 .any (fun w args => (Rows.loftDiskSpec.pre enc Tryz.prog Tryz.f6 [] false w args ∧ laidMetH Tryz.prog laid7 w) ∧ sizedMet enc Tryz.prog Tryz.f6 (OpenSpec.ofChange Rows.loftDiskSpec) false w args)
      (Rows.loftDiskSpec.post enc Tryz.prog Tryz.f6 false true false false) := by
  refine wrap_shaped_and (C := Tryz.checked) (X := fun w _ => laidMetH Tryz.prog laid7 w) (fun _ _ _ hh h => h.of_heap hh) own started (by kernel_rfl) Tryz.func6
    (ChangeSpec.witness_shaped (enc := enc) (C := Tryz.checked) (os := os) (X := fun w _ => laidMetH Tryz.prog laid7 w) false (World.laidAll Tryz.prog os laid7) #[.int .i64 0, .slice none 0 0] 8 (World.laidAll_os _ _ _) (World.shaped_of_ZipB (by kernel_rfl) (by kernel_rfl)) (by kernel_rfl) (by kernel_rfl) (by kernel_rfl)
      (by rw [MakeChecks.laidMetH_plain _ _ _ (by kernel_rfl)]; exact laidMet_laidAll _ (by kernel_rfl) (by kernel_rfl))) ?_
  intro W base args ds gs before hval0 hW hL hS
  have hval : ∀ (j : Nat) t v, Tryz.f6.params[j]? = some t → args[j]? = some v → Value.okWide Tryz.prog W .any base t v := hval0
  have hW' := hW
  obtain ⟨p, q, hA0, hV, rfl, hfz, hnd⟩ := hW
  have hA : DataW.TrodAll enc Tryz.prog W 0 (fun _ => true) true Tryz.f6.params.toList args.toList ds p := hA0
  rw [Tryz.params6] at hA hval
  obtain ⟨v0, v1, d0, d1, p0, p1, rfl, rfl, rfl, h0, h1⟩ := trodAll_two hA
  obtain ⟨rfl, rfl⟩ := trodVars_none hV
  obtain ⟨a0, rfl, rfl, rfl, wa0⟩ := open_int Tryz.underlying3 (hval 0 3 v0 rfl rfl) h0
  obtain ⟨l1, r1⟩ := open_ops (hval 1 47 v1 rfl rfl) h1
  clear hA0 hval0
  try simp only [List.append_nil] at hW'
  refine (LoftDisk_any a0 v1 l1 W r1 (tables_of_laid hL hS) (i64_lo wa0) (i64_of wa0)).mono fun e W' ⟨he, hg⟩ => ?_
  subst he
  refine ⟨_, rfl, _, _, _, [], [] ++ p1, [], hW', ?_, ?_, rfl, hg.b.frame _, fun h => by cases h⟩
  · exact trodAll_mk1 (shut_bool Tryz.underlying4 _)
  · exact trodAll_mk2 (shut_int Tryz.underlying3 wa0) (again_arg h1 hg (of_decide_eq_true (by kernel_rfl)))
theorem loftDisk_wf : Rows.loftDiskRow.wf (OpenSpec.ofChange Rows.loftDiskSpec) = true := by kernel_rfl
theorem loftDisk_inPlace : (Rows.loftDiskRow.inPlace == Tryz.prog.inPlace 6) = true := by kernel_rfl
theorem loftDisk_unfollowed : (Rows.loftDiskRow.unfollowed == Tryz.prog.unfollowed 6) = true := by kernel_rfl
theorem loftDisk_recurses : (Rows.loftDiskRow.recurses == Tryz.prog.recurses 6) = true := by kernel_rfl
theorem loftDisk_named : (Rows.loftDiskRow.named == Tryz.prog.varsNamed 6) = true := by kernel_rfl
theorem loftDisk_funcNamed : Tryz.prog.funcNamed "strickle/stricklelaw09.LoftDisk" = some 6 := by kernel_rfl
set_option maxRecDepth 100000 in
theorem loftDisk_joined : joinedFacts Tryz.prog 6 Tryz.f6 Rows.loftDiskSpec Rows.loftDiskRow = true := by
  unfold joinedFacts
  repeat' with_reducible refine and_i ?_ ?_
  all_goals first
    | with_reducible exact loftDisk_wf
    | with_reducible exact laidOut
    | with_reducible exact mapsRow
    | with_reducible exact loftDisk_inPlace
    | with_reducible exact loftDisk_unfollowed
    | with_reducible exact loftDisk_recurses
    | with_reducible exact loftDisk_named
    | kernel_rfl
theorem loftDisk_wrap : Tryz.f6.isWrapper Tryz.prog Rows.loftDiskRow.wrapper Rows.loftDiskRow.mainSum := by
  unfold Func.isWrapper
  rw [if_neg (of_decide_eq_false (by kernel_rfl))]
  exact ⟨rfl, rfl⟩
theorem loftDisk_holds : Rows.LoftDiskSaid :=
  OpenClaim.holds_of_wide 6 Tryz.f6 rfl rfl rfl rfl rfl rfl rfl ⟨rfl, rfl, rfl, rfl, rfl⟩ rfl rfl rfl rfl rfl loftDisk_funcNamed Tryz.func6 loftDisk_joined
    (of_decide_eq_true (by kernel_rfl)) loftDisk_wrap
    (fun os started H enc _ => loftDisk_lifted os started H enc)
theorem loftDisk_byText : Rows.loftDiskRow.wfByText (OpenSpec.ofChange Rows.loftDiskSpec) = true := by kernel_rfl
theorem loftDisk_goes : false = Rows.loftDiskRow.goesBy Tryz.prog := by kernel_rfl
theorem loftDisk_plain : ∀ (f : FuncId) (fn : Func), Tryz.prog.funcNamed "strickle/stricklelaw09.LoftDisk" = some f → Tryz.prog.funcs[f]? = some fn → true = Tryz.prog.looks [] ∧ ∀ (j : Nat) t, fn.params[j]? = some t → Tryz.prog.wantsStandIn t = false := fun f fn hf hfn => by
  obtain rfl : f = 6 := Option.some.inj (loftDisk_funcNamed.symm.trans hf) |>.symm
  obtain rfl : fn = Tryz.f6 := (Option.some.inj (Tryz.func6.symm.trans hfn)).symm
  exact ⟨looksAll, fun j t ht => by
    rw [Tryz.params6] at ht
    have hm : t ∈ [3, 47] := by simpa using Array.mem_of_getElem? ht
    have hall : ([3, 47].all fun u => !Tryz.prog.wantsStandIn u) = true := by kernel_rfl
    exact (show Tryz.prog.wantsStandIn t = false by simpa using List.all_eq_true.1 hall t hm)⟩
theorem loftDisk_card : Rows.LoftDiskCardSaid :=
  Claim7.holds_tied_plain_at .later [] [.data, .data, .data, .data, .sentinel, .sentinel, .pinned] true (true, "f640563e121ccbac8bbd08e2a9af14bcaac14639ac2f298e33b7a65943a8cd02") true
    loftDisk_holds (fun _ h => by cases h) loftDisk_byText (fun _ h => by cases h) loftDisk_row_tie rfl ⟨rfl, rfl⟩ mainIs rfl
    loftDisk_plain loftDisk_goes
#print axioms loftDisk_card
end Go.Proofs.YthmimjofdmnakaaGreatDoor
