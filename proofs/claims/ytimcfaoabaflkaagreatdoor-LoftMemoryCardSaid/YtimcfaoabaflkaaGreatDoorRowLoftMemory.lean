/- LoftMemory: for every input that can be read as data the call returns true and the arguments read as before; the listed variables of the library read as the program's text lays them. The row and its card. -/
import Derived.Test.YtimcfaoabaflkaaGreatDoorLawLoftMemory
import Derived.Test.YtimcfaoabaflkaaGreatDoorCards
import Derived.Test.YtimcfaoabaflkaaGreatDoorTie
namespace Go.Proofs.YtimcfaoabaflkaaGreatDoor
open AbA AbI
set_option maxRecDepth 100000
open Go.Proofs.Tryz
open Go.ChangeShapes Go.WideShapes Go.ChangeAt Go.RowKit Go.Joins
theorem zep (os:Os) (started:os.Started) (H:Type) (enc:TypeId×Value->H):
  ReturnsInHanded {} Tryz.checked os 5 .any (λw args=>(Rows.loftMemorySpec.pre enc prog Tryz.f5 [] false w args/\laidMetH prog laid7 w)/\sizedMet enc prog Tryz.f5 (OpenSpec.ofChange Rows.loftMemorySpec) false w args)
   (Rows.loftMemorySpec.post enc prog Tryz.f5 false true false false):=by
 refine wrap_shaped_and (C:=Tryz.checked) (X:=λw _=>laidMetH prog laid7 w) (λ_ _ _ hh h=>h.of_heap hh) own started Yh func5
  (ChangeSpec.witness_shaped (enc:=enc) (C:=Tryz.checked) (os:=os) (X:=λw _=>laidMetH prog laid7 w) false (World.laidAll prog os laid7) #[Yp 0,.slice none 0 0,.agg #[Yp 0,Yp 0,Yp 0,Yp 0,Yp 0]] 8 (World.laidAll_os _ _ _) (World.shaped_of_ZipB Yh Yh) Yh Yh Yh
   (by rw[MakeChecks.laidMetH_plain _ _ _ Yh];exact laidMet_laidAll _ Yh Yh)) ?_
 intro W base args ds gs before hval0 hW hL hS;have hval:∀(j:Nat) t v,Tryz.f5.params[j]?=some t->args[j]?=some v->Value.okWide prog W .any base t v:=hval0;have hW':=hW;obtain⟨p,q,hA0,hV,rfl,hfz,hnd⟩:=hW;have hA:DataW.TrodAll enc prog W 0 (λ_=>true) true Tryz.f5.params.toList args.toList ds p:=hA0;rw[params5]at hA hval;obtain⟨v0,v1,v2,d0,d1,d2,p0,p1,p2,rfl,rfl,rfl,h0,h1,h2⟩:=trodAll_three hA;obtain⟨rfl,rfl⟩:=trodVars_none hV;obtain⟨a0,rfl,rfl,rfl,wa0⟩:=open_int underlying3 (hval 0 3 v0 rfl rfl) h0;obtain⟨l1,r1⟩:=Ti (hval 1 22 v1 rfl rfl) h1;obtain⟨c0,c1,c2,c3,c4,rfl⟩:=zeY (hval 2 61 v2 rfl rfl) h2;clear hA0 hval0
 try simp only[List.append_nil]at hW'
 refine(zeD a0 v1 l1 c0 c1 c2 c3 c4 W r1 (tables_of_laid hL hS) (M6 hL hS) (Ej hL).1 (Ej hL).2).mono λe W' ⟨he,hg⟩=>?_;subst he;refine⟨_,rfl,_,_,_,[],[] ++ p1 ++ p2,[],hW',?_,?_,rfl,hg.b.frame _,λh=>by cases h⟩
 ·exact trodAll_mk1 (shut_bool underlying4 _)
 ·have hh:=trodAll_mk3 (shut_int underlying3 wa0) (zdW h1 hg (of_decide_eq_true Yh)) (zdW h2 hg (of_decide_eq_true Yh));simp only[List.append_assoc];exact hh
theorem zeF:Rows.loftMemoryRow.wf (OpenSpec.ofChange Rows.loftMemorySpec)=true:=Yh
theorem zel:(Rows.loftMemoryRow.inPlace == prog.inPlace 5)=true:=Yh
theorem zd8:(Rows.loftMemoryRow.unfollowed == prog.unfollowed 5)=true:=Yh
theorem zeg:(Rows.loftMemoryRow.recurses == prog.recurses 5)=true:=Yh
theorem zex:(Rows.loftMemoryRow.named == prog.varsNamed 5)=true:=Yh
theorem zea:prog.funcNamed "strickle/stricklelaw09.LoftMemory" =some 5:=Yh
theorem zeq:joinedFacts prog 5 Tryz.f5 Rows.loftMemorySpec Rows.loftMemoryRow=true:=by
 unfold joinedFacts
 repeat' with_reducible refine and_i ?_ ?_
 all_goals first
  | with_reducible exact zeF
  | with_reducible exact laidOut
  | with_reducible exact mapsRow
  | with_reducible exact zel
  | with_reducible exact zd8
  | with_reducible exact zeg
  | with_reducible exact zex
  | kernel_rfl
theorem zeA:Tryz.f5.isWrapper prog Rows.loftMemoryRow.wrapper Rows.loftMemoryRow.mainSum:=by
 unfold Func.isWrapper;rw[if_neg (of_decide_eq_false Yh)];exact⟨rfl,rfl⟩
theorem zey:Rows.LoftMemorySaid:=
 OpenClaim.holds_of_wide 5 Tryz.f5 rfl rfl rfl rfl rfl rfl rfl ⟨rfl,rfl,rfl,rfl,rfl⟩ rfl rfl rfl rfl rfl zea func5 zeq
  (of_decide_eq_true Yh) zeA
  (λos started H enc _=>zep os started H enc)
theorem zer:Rows.loftMemoryRow.wfByText (OpenSpec.ofChange Rows.loftMemorySpec)=true:=Yh
theorem zeB:false=Rows.loftMemoryRow.goesBy prog:=Yh
theorem zew:∀(f:FuncId) (fn:Func),prog.funcNamed "strickle/stricklelaw09.LoftMemory" =some f->prog.funcs[f]?=some fn->true=prog.looks []/\∀(j:Nat) t,fn.params[j]?=some t->prog.wantsStandIn t=false:=λf fn hf hfn=>by
 obtain rfl:f=5:=Yt (zea.symm.trans hf) |>.symm;obtain rfl:fn=Tryz.f5:=(Yt (func5.symm.trans hfn)).symm;exact⟨looksAll,λj t ht=>by
  rw[params5]at ht;have hm:t∈[3,22,61]:=by simpa using Array.mem_of_getElem? ht
  have hall:([3,22,61].all λu=> !prog.wantsStandIn u)=true:=Yh;exact(show prog.wantsStandIn t=false by simpa using List.all_eq_true.1 hall t hm)⟩
theorem loftMemory_card:Rows.LoftMemoryCardSaid:=
 Claim7.holds_tied_plain_at .later [] [.data,.data,.data,.data,.sentinel,.sentinel,.pinned] true (true, "937ce4180b7e0530971f9c10e838baacdee34d16f0adff7030cd4e3c59a4d404") true
  zey (λ_ h=>by cases h) zer (λ_ h=>by cases h) loftMemory_row_tie rfl ⟨rfl,rfl⟩ mainIs rfl
  zew zeB
#print axioms loftMemory_card
end Go.Proofs.YtimcfaoabaflkaaGreatDoor
