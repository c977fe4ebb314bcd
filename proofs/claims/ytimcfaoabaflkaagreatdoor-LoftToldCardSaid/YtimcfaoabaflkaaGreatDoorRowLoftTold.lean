/- LoftTold: for every input that can be read as data the call returns true and the arguments read as before; the listed variables of the library read as the program's text lays them. The row and its card. -/
import Derived.Test.YtimcfaoabaflkaaGreatDoorJArg
import Derived.Test.YtimcfaoabaflkaaGreatDoorTTdE
import Derived.Test.YtimcfaoabaflkaaGreatDoorCards
import Derived.Test.YtimcfaoabaflkaaGreatDoorTie
namespace Go.Proofs.YtimcfaoabaflkaaGreatDoor
open AbA AbI
set_option maxRecDepth 100000
open Go.Proofs.Tryz
open Go.ChangeShapes Go.WideShapes Go.ChangeAt Go.RowKit Go.Joins
theorem Az (os:Os) (started:os.Started) (H:Type) (enc:TypeId×Value→H):
  ReturnsInHanded {} Tryz.checked os 3 .any (fun w args=>(Rows.loftToldSpec.pre enc prog Tryz.f3 [] false w args∧laidMetH prog laid7 w)∧sizedMet enc prog Tryz.f3 (OpenSpec.ofChange Rows.loftToldSpec) false w args)
   (Rows.loftToldSpec.post enc prog Tryz.f3 false true false false):=by
 refine wrap_shaped_and (C:=Tryz.checked) (X:=fun w _=>laidMetH prog laid7 w) (fun _ _ _ hh h=>h.of_heap hh) own started Yh func3
  (ChangeSpec.witness_shaped (enc:=enc) (C:=Tryz.checked) (os:=os) (X:=fun w _=>laidMetH prog laid7 w) false (World.laidAll prog os laid7) #[Yp 0,.slice none 0 0] 8 (World.laidAll_os _ _ _) (World.shaped_of_ZipB Yh Yh) Yh Yh Yh
   (by rw[MakeChecks.laidMetH_plain _ _ _ Yh];exact laidMet_laidAll _ Yh Yh)) ?_
 intro W base args ds gs before hval0 hW hL hS;have hval:∀(j:Nat) t v,Tryz.f3.params[j]?=some t→args[j]?=some v→Value.okWide prog W .any base t v:=hval0;have hW':=hW;obtain⟨p,q,hA0,hV,rfl,hfz,hnd⟩:=hW;have hA:DataW.TrodAll enc prog W 0 (fun _=>true) true Tryz.f3.params.toList args.toList ds p:=hA0;rw[params3]at hA hval;obtain⟨v0,v1,d0,d1,p0,p1,rfl,rfl,rfl,h0,h1⟩:=trodAll_two hA;obtain⟨rfl,rfl⟩:=trodVars_none hV;obtain⟨a0,rfl,rfl,rfl,wa0⟩:=open_int underlying3 (hval 0 3 v0 rfl rfl) h0;obtain⟨l1,r1⟩:=Ti (hval 1 22 v1 rfl rfl) h1;clear hA0 hval0
 try simp only[List.append_nil]at hW'
 refine(Jp a0 v1 l1 W r1 (tables_of_laid hL hS) (M6 hL hS) (Ej hL).1 (Ej hL).2).mono fun e W' ⟨he,hg⟩=>?_;subst he;refine⟨_,rfl,_,_,_,[],[] ++ p1,[],hW',?_,?_,rfl,hg.b.frame _,fun h=>by cases h⟩
 ·exact trodAll_mk1 (shut_bool underlying4 _)
 ·have hh:=trodAll_mk2 (shut_int underlying3 wa0) (againJ h1 hg (of_decide_eq_true Yh));simp only;exact hh
theorem Ks:Rows.loftToldRow.wf (OpenSpec.ofChange Rows.loftToldSpec)=true:=Yh
theorem yi:(Rows.loftToldRow.inPlace == prog.inPlace 3)=true:=Yh
theorem ry:(Rows.loftToldRow.unfollowed == prog.unfollowed 3)=true:=Yh
theorem vx:(Rows.loftToldRow.recurses == prog.recurses 3)=true:=Yh
theorem Dj:(Rows.loftToldRow.named == prog.varsNamed 3)=true:=Yh
theorem ud:prog.funcNamed "strickle/stricklelaw09.LoftTold" =some 3:=Yh
theorem A8:joinedFacts prog 3 Tryz.f3 Rows.loftToldSpec Rows.loftToldRow=true:=by
 unfold joinedFacts
 repeat' with_reducible refine and_i ?_ ?_
 all_goals first
  | with_reducible exact Ks
  | with_reducible exact laidOut
  | with_reducible exact mapsRow
  | with_reducible exact yi
  | with_reducible exact ry
  | with_reducible exact vx
  | with_reducible exact Dj
  | kernel_rfl
theorem Fh:Tryz.f3.isWrapper prog Rows.loftToldRow.wrapper Rows.loftToldRow.mainSum:=by
 unfold Func.isWrapper;rw[if_neg (of_decide_eq_false Yh)];exact⟨rfl,rfl⟩
theorem Dk:Rows.LoftToldSaid:=
 OpenClaim.holds_of_wide 3 Tryz.f3 rfl rfl rfl rfl rfl rfl rfl ⟨rfl,rfl,rfl,rfl,rfl⟩ rfl rfl rfl rfl rfl ud func3 A8
  (of_decide_eq_true Yh) Fh
  (fun os started H enc _=>Az os started H enc)
theorem A9:Rows.loftToldRow.wfByText (OpenSpec.ofChange Rows.loftToldSpec)=true:=Yh
theorem Fj:false=Rows.loftToldRow.goesBy prog:=Yh
theorem Di:∀(f:FuncId) (fn:Func),prog.funcNamed "strickle/stricklelaw09.LoftTold" =some f→prog.funcs[f]?=some fn→true=prog.looks []∧∀(j:Nat) t,fn.params[j]?=some t→prog.wantsStandIn t=false:=fun f fn hf hfn=>by
 obtain rfl:f=3:=Yt (ud.symm.trans hf) |>.symm;obtain rfl:fn=Tryz.f3:=(Yt (func3.symm.trans hfn)).symm;exact⟨looksAll,fun j t ht=>by
  rw[params3]at ht;have hm:t∈[3,22]:=by simpa using Array.mem_of_getElem? ht
  have hall:([3,22].all fun u=> !prog.wantsStandIn u)=true:=Yh;exact(show prog.wantsStandIn t=false by simpa using List.all_eq_true.1 hall t hm)⟩
theorem loftTold_card:Rows.LoftToldCardSaid:=
 Claim7.holds_tied_plain_at .later [] [.data,.data,.data,.data,.sentinel,.sentinel,.pinned] true (true, "937ce4180b7e0530971f9c10e838baacdee34d16f0adff7030cd4e3c59a4d404") true
  Dk (fun _ h=>by cases h) A9 (fun _ h=>by cases h) loftTold_row_tie rfl ⟨rfl,rfl⟩ mainIs rfl
  Di Fj
#print axioms loftTold_card
end Go.Proofs.YtimcfaoabaflkaaGreatDoor
