/- LoftForms: for every input that can be read as data the call returns true and the arguments read as before; the listed variables of the library read as the program's text lays them. The row and its card. -/
import Derived.Test.YtimcfaoabaflkaaGreatDoorLLib
import Derived.Test.YtimcfaoabaflkaaGreatDoorLawLoftForms
import Derived.Test.YtimcfaoabaflkaaGreatDoorCards
import Derived.Test.YtimcfaoabaflkaaGreatDoorTie
namespace Go.Proofs.YtimcfaoabaflkaaGreatDoor
open AbA AbI
set_option maxRecDepth 100000
open Go.Proofs.Tryz
open Go.ChangeShapes Go.WideShapes Go.ChangeAt Go.RowKit Go.Joins
theorem zcr (os:Os) (started:os.Started) (H:Type) (enc:TypeId×Value→H):
  ReturnsInHanded {} Tryz.checked os 4 .any (fun w args=>(Rows.loftFormsSpec.pre enc prog Tryz.f4 [] false w args∧laidMetH prog laid7 w)∧sizedMet enc prog Tryz.f4 (OpenSpec.ofChange Rows.loftFormsSpec) false w args)
   (Rows.loftFormsSpec.post enc prog Tryz.f4 false true false false):=by
 refine wrap_shaped_and (C:=Tryz.checked) (X:=fun w _=>laidMetH prog laid7 w) (fun _ _ _ hh h=>h.of_heap hh) own started Yh func4
  (ChangeSpec.witness_shaped (enc:=enc) (C:=Tryz.checked) (os:=os) (X:=fun w _=>laidMetH prog laid7 w) false (World.laidAll prog os laid7) #[Yp 0,.slice none 0 0,.agg #[Yp 0,Yp 0,Yp 0,.string ByteArray.empty]] 8 (World.laidAll_os _ _ _) (World.shaped_of_ZipB Yh Yh) Yh Yh Yh
   (by rw[MakeChecks.laidMetH_plain _ _ _ Yh];exact laidMet_laidAll _ Yh Yh)) ?_
 intro W base args ds gs before hval0 hW hL hS;have hval:∀(j:Nat) t v,Tryz.f4.params[j]?=some t→args[j]?=some v→Value.okWide prog W .any base t v:=hval0;have hW':=hW;obtain⟨p,q,hA0,hV,rfl,hfz,hnd⟩:=hW;have hA:DataW.TrodAll enc prog W 0 (fun _=>true) true Tryz.f4.params.toList args.toList ds p:=hA0;rw[params4]at hA hval;obtain⟨v0,v1,v2,d0,d1,d2,p0,p1,p2,rfl,rfl,rfl,h0,h1,h2⟩:=trodAll_three hA;obtain⟨rfl,rfl⟩:=trodVars_none hV;obtain⟨a0,rfl,rfl,rfl,wa0⟩:=open_int underlying3 (hval 0 3 v0 rfl rfl) h0;obtain⟨l1,r1⟩:=Ti (hval 1 22 v1 rfl rfl) h1;obtain⟨x2,y2,z2,t2,rfl,rfl,_⟩:=zdP (hval 2 36 v2 rfl rfl) h2;clear hA0 hval0
 try simp only[List.append_nil]at hW'
 refine(zcP a0 v1 l1 ⟨x2,y2,z2,t2⟩ W r1 (tables_of_laid hL hS) (M6 hL hS) (Ej hL).1 (Ej hL).2).mono fun e W' ⟨he,hg⟩=>?_;subst he;refine⟨_,rfl,_,_,_,[],[] ++ p1 ++ [],[],hW',?_,?_,rfl,hg.b.frame _,fun h=>by cases h⟩
 ·exact trodAll_mk1 (shut_bool underlying4 _)
 ·have hh:=trodAll_mk3 (shut_int underlying3 wa0) (zdW h1 hg (of_decide_eq_true Yh)) (zdW h2 hg (of_decide_eq_true Yh));simp only[List.append_assoc];exact hh
theorem zc2:Rows.loftFormsRow.wf (OpenSpec.ofChange Rows.loftFormsSpec)=true:=Yh
theorem Ye:(Rows.loftFormsRow.inPlace == prog.inPlace 4)=true:=Yh
theorem B9:(Rows.loftFormsRow.unfollowed == prog.unfollowed 4)=true:=Yh
theorem X7:(Rows.loftFormsRow.recurses == prog.recurses 4)=true:=Yh
theorem zcz:(Rows.loftFormsRow.named == prog.varsNamed 4)=true:=Yh
theorem P8:prog.funcNamed "strickle/stricklelaw09.LoftForms" =some 4:=Yh
theorem zcs:joinedFacts prog 4 Tryz.f4 Rows.loftFormsSpec Rows.loftFormsRow=true:=by
 unfold joinedFacts
 repeat' with_reducible refine and_i ?_ ?_
 all_goals first
  | with_reducible exact zc2
  | with_reducible exact laidOut
  | with_reducible exact mapsRow
  | with_reducible exact Ye
  | with_reducible exact B9
  | with_reducible exact X7
  | with_reducible exact zcz
  | kernel_rfl
theorem zcG:Tryz.f4.isWrapper prog Rows.loftFormsRow.wrapper Rows.loftFormsRow.mainSum:=by
 unfold Func.isWrapper;rw[if_neg (of_decide_eq_false Yh)];exact⟨rfl,rfl⟩
theorem zcA:Rows.LoftFormsSaid:=
 OpenClaim.holds_of_wide 4 Tryz.f4 rfl rfl rfl rfl rfl rfl rfl ⟨rfl,rfl,rfl,rfl,rfl⟩ rfl rfl rfl rfl rfl P8 func4 zcs
  (of_decide_eq_true Yh) zcG
  (fun os started H enc _=>zcr os started H enc)
theorem zct:Rows.loftFormsRow.wfByText (OpenSpec.ofChange Rows.loftFormsSpec)=true:=Yh
theorem zcH:false=Rows.loftFormsRow.goesBy prog:=Yh
theorem zcy:∀(f:FuncId) (fn:Func),prog.funcNamed "strickle/stricklelaw09.LoftForms" =some f→prog.funcs[f]?=some fn→true=prog.looks []∧∀(j:Nat) t,fn.params[j]?=some t→prog.wantsStandIn t=false:=fun f fn hf hfn=>by
 obtain rfl:f=4:=Yt (P8.symm.trans hf) |>.symm;obtain rfl:fn=Tryz.f4:=(Yt (func4.symm.trans hfn)).symm;exact⟨looksAll,fun j t ht=>by
  rw[params4]at ht;have hm:t∈[3,22,36]:=by simpa using Array.mem_of_getElem? ht
  have hall:([3,22,36].all fun u=> !prog.wantsStandIn u)=true:=Yh;exact(show prog.wantsStandIn t=false by simpa using List.all_eq_true.1 hall t hm)⟩
theorem loftForms_card:Rows.LoftFormsCardSaid:=
 Claim7.holds_tied_plain_at .later [] [.data,.data,.data,.data,.sentinel,.sentinel,.pinned] true (true, "937ce4180b7e0530971f9c10e838baacdee34d16f0adff7030cd4e3c59a4d404") true
  zcA (fun _ h=>by cases h) zct (fun _ h=>by cases h) loftForms_row_tie rfl ⟨rfl,rfl⟩ mainIs rfl
  zcy zcH
#print axioms loftForms_card
end Go.Proofs.YtimcfaoabaflkaaGreatDoor
