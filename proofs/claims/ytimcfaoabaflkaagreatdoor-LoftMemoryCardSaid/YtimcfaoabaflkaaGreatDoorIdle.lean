/- RX: deferred calls that find nothing to recover. -/
import Derived.Test.YtimcfaoabaflkaaGreatDoorRxY
import Derived.RecoverIn
import Derived.TacticsIn
import Derived.Test.YtimcfaoabaflkaaGreatDoorCk1
import Derived.Test.YtimcfaoabaflkaaGreatDoorCk5
import Derived.Test.YtimcfaoabaflkaaGreatDoorCk9
import Derived.Below
import Derived.Test.YtimcfaoabaflkaaGreatDoorLSumG
import Derived.Test.YtimcfaoabaflkaaGreatDoorRows
import Derived.ProofKit
import Derived.LaidMore
import Derived.OpenShut
import Derived.Stop.Joined
import Derived.Lib.LaidTab
import Derived.Lib.SmallJoins
import Derived.HandedShaped
import Derived.Stop.LaidErr
import Derived.Lay
import Derived.SevenTiedAt
import Derived.ChangeMaps5
import Derived.Lib.ItoaNum
import Derived.Lib.ItoaMem
import Derived.Lib.AtoiAll
import Derived.Lib.IndexMore
import Derived.Lib.ItoaLen
import Derived.Deep.RegionWith
namespace Go.Proofs.YtimcfaoabaflkaaGreatDoor
set_option maxHeartbeats 2000000
set_option maxRecDepth 100000
open Go.Proofs.Tryz
section
namespace RX
open Go.Proofs.Tryz
theorem Qz (w:World):(binOp .neq 20 .nilIface .nilIface).run prog w= .ok (.bool false) w:=Yw
theorem idle_a:P9 prog 193 1:=by
 intro args w hk;refine⟨?_,λm=>?_⟩
 ·simp[callFunc,go_sem,func193,Tryz.f193]
 ·obtain⟨l⟩:=args;obtain⟨u,rfl⟩:∃u,l=[u]:=by
   match l,hk with
   | [u],_=>exact⟨u,rfl⟩
  refine callsDIn_of_wpSIn func193 rfl trivial λc₀ cs hu=>?_;apply wpSIn_seq;apply wpSIn_region;simp[wpOpsSIn,go_sem,recoverD,hu,ntmps193,Exit.thenS];apply wpSIn_seq;apply wpSIn_region;simp[wpOpsSIn,go_sem,Exit.thenS,Qz w];refine wpSIn_cond (t:=false) (by simp[Act.eval]) ?_;simp only[Bool.false_eq_true,if_false];refine wpSIn_of_wpIn rfl (wpIn_skip ?_);cases c₀;simp_all[bodyPostS,results,results193]
theorem idle_b:P9 prog 137 2:=by
 intro args w hk;refine⟨?_,λm=>?_⟩
 ·simp[callFunc,go_sem,func137,Tryz.f137]
 ·obtain⟨l⟩:=args;obtain⟨u,v,rfl⟩:∃u v,l=[u,v]:=by
   match l,hk with
   | [u,v],_=>exact⟨u,v,rfl⟩
  refine callsDIn_of_wpSIn func137 rfl trivial λc₀ cs hu=>?_;apply wpSIn_seq;apply wpSIn_region;simp[wpOpsSIn,go_sem,recoverD,hu,ntmps137,Exit.thenS];apply wpSIn_seq;apply wpSIn_region;simp[wpOpsSIn,go_sem,Exit.thenS,Qz w];refine wpSIn_cond (t:=false) (by simp[Act.eval]) ?_;simp only[Bool.false_eq_true,if_false];refine wpSIn_of_wpIn rfl (wpIn_skip ?_);cases c₀;simp_all[bodyPostS,results,results137]
end RX
end
section
namespace RX
open Go.Proofs.Tryz
noncomputable section
open Go.RowKit
theorem zaU:(prog.funcs.toList.all λF=> !(F.name == "runtime.NumGoroutine"))=true:=Yw
theorem name_ok {f:FuncId} {F:Func} (h:prog.funcs[f]?=some F):(F.name == "runtime.NumGoroutine")=false:=by
 have hm:F∈prog.funcs.toList:=by
  obtain⟨hl,rfl⟩:=Array.getElem?_eq_some_iff.1 h;exact Array.getElem_mem_toList hl
 have:=List.all_eq_true.1 zaU F hm
 rwa [Bool.not_eq_true']at this
def zeS:Prop:=∀args s v s',sumA args s=some (v,s')->Fc Y.M 108 args s v s'
def Rn (F:Func):Option Func:=match F.body with
 | some _=>some F
 | none=>none
theorem y_ok (hsum:zeS):Y.Ok:=by
 have e1:Y.M.E.info=prog.info?:=Yw;have e2:Y.M.E.und=prog.underlying:=Yw;have e3:Y.M.P=prog:=Yw;have e4:Y.M.fn=λf=>(prog.funcs[f]?).bind Rn:=Yw;have henv:Y.M.E.Ok Y.M.P:=⟨λt i h=>by rw[e1]at h;rw[e3];exact h,λt d h=>by rw[e2]at h;rw[e3];exact h⟩;refine⟨⟨henv,λf F h=>?_,λf g h=>?_⟩,λf g h=>?_,Yw,λf k h=>?_,λf g h=>?_⟩
 ·rw[e4]at h;obtain⟨F',hF,h⟩:=bnd h;unfold Rn at h;cases hb:F'.body with
  | none=>rw[hb]at h;cases h
  | some c=>
   rw[hb]at h;obtain rfl:=Xa h;rw[e3];exact⟨hF,name_ok hF,by rw[hb];rfl⟩
 ·rw[e3];change (match Nat.beq f 296 with | true=>some jm | false=>match Nat.beq f 252 with | true=>some qq | false=>match Nat.beq f 278 with | true=>some og | false=>match Nat.beq f 279 with | true=>some (oh 5) | false=>match Nat.beq f 199 with | true=>some lr | false=>none)=some g at h;split at h
  ·rename_i hf;obtain rfl:=Nat.eq_of_beq_eq_true hf;obtain rfl:=Xa h;exact Ba func296 Yw Yw Yw Yw
  ·split at h
   ·rename_i hf;obtain rfl:=Nat.eq_of_beq_eq_true hf;obtain rfl:=Xa h;exact Lp func252 Yw Yw Yw Yw
   ·split at h
    ·rename_i hf;obtain rfl:=Nat.eq_of_beq_eq_true hf;obtain rfl:=Xa h;exact Om func278 Yw Yw Yw Yw
    ·split at h
     ·rename_i hf;obtain rfl:=Nat.eq_of_beq_eq_true hf;obtain rfl:=Xa h;exact On (params:=Tryz.f279.params) (results:=Tryz.f279.resultTypes) (t:=205) Yw Yw func279 Yw Yw Yw Yw
     ·split at h
      ·rename_i hf;obtain rfl:=Nat.eq_of_beq_eq_true hf;obtain rfl:=Xa h;exact Lq func199 Yw Yw Yw Yw
      ·cases h
 ·change (match Nat.beq f 296 with | true=>some jm | false=>match Nat.beq f 252 with | true=>some qq | false=>match Nat.beq f 278 with | true=>some og | false=>match Nat.beq f 279 with | true=>some (oh 5) | false=>match Nat.beq f 199 with | true=>some lr | false=>none)=some g at h;split at h
  ·obtain rfl:=Xa h;exact yo
  ·split at h
   ·obtain rfl:=Xa h;exact Is
   ·split at h
    ·obtain rfl:=Xa h;exact Ln
    ·split at h
     ·obtain rfl:=Xa h;exact Lo 5
     ·split at h
      ·obtain rfl:=Xa h;exact Iu
      ·cases h
 ·rw[e3];change (match Nat.beq f 193 with | true=>Nat.beq k 1 | false=>match Nat.beq f 137 with | true=>Nat.beq k 2 | false=>false)=true at h;split at h
  ·rename_i hf;obtain rfl:=Nat.eq_of_beq_eq_true hf;obtain rfl:=Nat.eq_of_beq_eq_true h;exact idle_a
  ·split at h
   ·rename_i hf;obtain rfl:=Nat.eq_of_beq_eq_true hf;obtain rfl:=Nat.eq_of_beq_eq_true h;exact idle_b
   ·cases h
 ·change (match Nat.beq f 108 with | true=>some sumA | false=>none)=some g at h;split at h
  ·rename_i hf;obtain rfl:=Nat.eq_of_beq_eq_true hf;obtain rfl:=Xa h;exact hsum
  ·cases h
theorem sj {l:List Nat} (h:((List.range 8).all λb=>l.contains b)=true):∀b,b < s0.fresh->b∈l:=λb hb=>by
 have:=List.all_eq_true.1 h b (List.mem_range.2 hb);simpa using this
theorem T4 (hsum:zeS):∃s',Fc Y.M 7 [] s0 (.bool true) s'/\s'.wr % 256=0:=by
 have hY:=y_ok hsum;have r1:=fm hY (Nn (Y:=Y) (c:=body8) (fr:=f0) (s:=s0)) ck1 (sj Yw);have r2:=fm hY r1 ck2 (sj Yw);have r3:=fm hY r2 ck3 (sj Yw);have r4:=fm hY r3 ck4 (sj Yw);have r5:=fm hY r4 ck5 (sj Yw);have r6:=fm hY r5 ck6 (sj Yw);have r7:=fm hY r6 ck7 (sj Yw);have r8:=fm hY r7 ck8 (sj Yw);have r9:=fm hY r8 ck9 (sj Yw);have r10:=fm hY r9 ck10 (sj Yw);have he:=ck11;generalize hx:(run Y 600).code false f10 d10 s10=x at he;unfold ended at he;split at he
 ·rename_i fr s;split at he
  ·rename_i s2 hlv;split at he
   ·rename_i s3 hres;exact⟨s3,za3 (e:= .ret) hY (F:=F8) Yw Yw (Sx hY r10 hx) rfl hlv hres,Nat.eq_of_beq_eq_true he⟩
   ·cases he
  ·cases he
 ·cases he
def VarAt (w:World) (g:Nat) (l:List AV):Prop:=∃c e fz,w.heap[g]?=some (.cells c e fz)/\∀sg,BR sg (xn l.length l) (.cells c e fz)
structure Tables (w:World):Prop where
 v0:VarAt w 2 [.unk]
 v4:VarAt w 1 t4
 v5:VarAt w 5 t5
 v6:VarAt w 6 t6
 v7:VarAt w 7 t7
theorem uh (b:Nat):h0.get b=if b=1 then some (xn 32 t4)else if b=7 then some (xn 64 t7)else if b=6 then some (xn 32 t6)else if b=5 then some (xn 20 t5)else if b=2 then some (xn 1 [.unk])else none:=by
 unfold h0;rw[T.get_set,T.get_set,T.get_set,T.get_set,T.get_set,T.get_nil]
def sg0 (w:World):Ids:=⟨λb=>if b < 8 then some b else none,λb=>match w.heap[b]? with | some (.cells c _ _)=>c.size | _=>0⟩
theorem za2 (hsum:zeS) (w:World) (h:Tables w):Calls prog 7 #[] w λe w'=>e= .returned (.bool true)/\Below w.heap.size w w':=by
 obtain⟨s',⟨hab,law⟩,hwr⟩:=T4 hsum;have one:∀g l,VarAt w g l->g < 8->∃o,(sg0 w) g=some g/\w.heap[g]?=some o/\BR (sg0 w) (xn l.length l) o/\Sz ((sg0 w).sz g) o:=λg l ⟨c,e,fz,h1,h2⟩ hg=>by
  refine⟨_,if_pos hg,h1,h2 _,?_⟩;show c.size=(match w.heap[g]? with | some (.cells c _ _)=>c.size | _=>0);rw[h1]
 have hold:nh (λb=>s0.alive b) (sg0 w) s0.heap w:=by
  refine⟨λb hb=>?_,λb c p hb hc e1 e2=>?_⟩
  ·have hb':(h0.get b).isSome=true:=hb;rw[uh]at hb';have pack:∀g l,b=g->VarAt w g l->g < 8->h0.get g=some (xn l.length l)->∃k p o,h0.get b=some k/\(sg0 w) b=some p/\w.heap[p]?=some o/\BR (sg0 w) k o/\Sz ((sg0 w).sz b) o:=λg l e hv hg hget=>by
    subst e;obtain⟨o,a1,a2,a3,a4⟩:=one b l hv hg;exact⟨_,b,o,hget,a1,a2,a3,a4⟩
   show∃k p o,h0.get b=some k/\_;split at hb'
   ·rename_i e;exact pack 1 t4 e h.v4 Yx (by rw[uh];rfl)
   ·split at hb'
    ·rename_i e;exact pack 7 t7 e h.v7 Yx (by rw[uh];rfl)
    ·split at hb'
     ·rename_i e;exact pack 6 t6 e h.v6 Yx (by rw[uh];rfl)
     ·split at hb'
      ·rename_i e;exact pack 5 t5 e h.v5 Yx (by rw[uh];rfl)
      ·split at hb'
       ·rename_i e;exact pack 2 [.unk] e h.v0 Yx (by rw[uh];rfl)
       ·cases hb'
  ·have q:∀b p,(sg0 w) b=some p->b=p:=λb p e=>by
    change (if b < 8 then some b else none)=some p at e;split at e
    ·exact Xa e
    ·cases e
   exact(q b p e1).trans (q c p e2).symm
 have hwf:s0.wf:=λb hb=>by
  have hb':(h0.get b).isSome=true:=hb;rw[uh]at hb';show b < 8
  repeat' split at hb'
  all_goals first | omega | (cases hb';done)
 have ask:Ask (λb=>s0.alive b) (sg0 w) w s0 s':=⟨hold,hwf,λb _ ha=>ha,λb hb _=>by
  have:¬b < 8:=Nat.not_lt.2 hb;exact if_neg this⟩
 have hg:GOk Y.M.ng (sg0 w):=λg hg=>if_pos hg;refine Calls.mono (law _ (sg0 w) w [] rfl hg ask) λe w' he=>?_;obtain⟨u,sg',rfl,hu,P⟩:=he;obtain rfl:u= .bool true:=hu;refine⟨rfl,⟨P.os,P.tape,P.output,P.size,λp hp=>P.frame p hp λc hc hw=>?_⟩⟩;exfalso;have hc8:c < 8:=hwf c hc;have:(s'.wr % 2 ^ 8).testBit c=true:=by rw[Nat.testBit_mod_two_pow];simp[hc8,hw]
 rw[show(2:Nat) ^ 8=256 from rfl,hwr]at this;simp at this
end
end RX
end
section
open Go.RowKit
namespace RX
open Go.Proofs.Tryz
noncomputable section
theorem Mb {sg:Ids} {c:Array Value} {per:Nat} {zs:List AV} {ov:T AV}:∀(n off:Nat),qy (cj per zs ov off n)=true->(∀i,i < n->∃v,c[off+i]?=some v/\VR sg (cellAt per zs ov (off+i)) v)->
  ∃l:List Int,l.length=n/\∀(j:Nat) (v:Value),(l.map (Value.int .u8))[j]?=some v->c[off+j]?=some v
 | 0,off,_,_=>⟨[],rfl,λj v h=>by simp at h⟩
 | n+1,off,hb,hc=>by
  have hb1:Ij (cellAt per zs ov off)=true/\qy (cj per zs ov (off+1) n)=true:=by
   change (match Ij (cellAt per zs ov off)with | true=>qy (cj per zs ov (off+1) n) | false=>false)=true at hb;cases h:Ij (cellAt per zs ov off)with
   | true=>rw[h]at hb;exact⟨rfl,hb⟩
   | false=>rw[h]at hb;cases hb
  obtain⟨l,hl,h⟩:=Mb (sg:=sg) (c:=c) n (off+1) hb1.2 (λi hi=>by
   have:=hc (i+1) Yx
   rwa [show off+(i+1)=off+1+i from by omega]at this)
  obtain⟨v,h1,h2⟩:=hc 0 Yx;rw[Nat.add_zero]at h1 h2;have hv:∃z,v= .int .u8 z:=by
   generalize cellAt per zs ov off=a at h2 hb1;cases a with
   | byte=>exact h2
   | int k z=>
    cases k with
    | u8=>exact⟨z,h2⟩
    | _=>cases hb1.1
   | _=>cases hb1.1
  obtain⟨z,rfl⟩:=hv;refine⟨z :: l,by simp[hl],λj v hj=>?_⟩;cases j with
  | zero=>
   simp only[List.map_cons,List.getElem?_cons_zero]at hj;rw[Nat.add_zero,h1,hj]
  | succ j=>
   simp only[List.map_cons,List.getElem?_cons_succ]at hj;rw[show off+(j+1)=off+1+j from by omega];exact h j v hj
theorem F4 {sg:Ids}:∀(d:List Int),VRs sg (List.replicate d.length .byte) (d.map (Value.int .u8))
 | []=>rfl
 | z :: d=>⟨_,_,rfl,⟨z,rfl⟩,F4 d⟩
theorem dx.gr {X:Nat->Prop} {sg:Ids} {w w':World} {s s':St} (hh:s'.heap=s.heap) (hf:s'.fresh=s.fresh) (H:nh X sg s.heap w) (g:Gr w w'):dx X sg w s sg w' s':=by
 refine⟨Ext.refl _,λ_ _ e=> .inl e,λb p h1 h2 _=>by rw[hf]at h2;omega,?_,g.b.size,g.b.os,g.b.tape,g.b.output,λp hp _=>g.b.block p hp⟩;have key:∀b,fk X s s' b->X b:=λb hb=>by
  rcases hb.1 with h | h
  ·exact h
  ·rw[hf]at h;omega
 refine⟨λb hb=>?_,λb c p hb hc=>H.inj b c p (key b hb) (key c hc)⟩;obtain⟨k,p,o,h1,h2,h3,h4,h5⟩:=H.cell b (key b hb);refine⟨k,p,o,by rw[hh];exact h1,h2,?_,h4,h5⟩;obtain⟨hlt,_⟩:=Array.getElem?_eq_some_iff.1 h3;rw[g.b.block p hlt];exact h3
theorem sum_ok:zeS:=by
 intro args s v s' h;unfold sumA at h;split at h
 ·rename_i x;obtain⟨q,hq,h⟩:=bnd h;obtain⟨k,hk,h⟩:=bnd h;obtain⟨r,hr,h⟩:=bnd h;obtain⟨_,h1,h⟩:=bnd h;obtain⟨_,h2,h⟩:=bnd h;obtain⟨_,h3,h⟩:=bnd h;have h1:=ag h1;have h2:=ag h2;have h3:=ag h3;rw[Nat.ble_eq]at h1 h2;obtain⟨rfl,rfl⟩:=Prod.mk.inj (Xa h);refine⟨Abs.saw s q.b,λX sg w us hv _ A=>?_⟩;obtain⟨u,us',rfl,hu,hus⟩:=hv;obtain rfl:us'=[]:=hus;obtain⟨p,c,hp,hlen,_,_,rfl⟩:=dy hq hu;obtain⟨_,p',o,hp',ho,hbr,_⟩:=A.at hk (.inl (ey s q.b));rw[hp]at hp';obtain rfl:=Xa hp';obtain rfl:=fu hr;obtain⟨cs,e,fz,rfl,hsz,hcells⟩:=nd (r:=r) rfl hbr;obtain⟨l,hl,hget⟩:=Mb (sg:=sg) (c:=cs) q.len q.off h3 (λi hi=>by
   obtain⟨v,a,_,b⟩:=hcells (q.off+i) Yx;exact⟨v,a,b⟩)
  have hra:w.rangeAt p q.off (l.map (Value.int .u8)):=λj v hj=>by
   have:=hget j v hj;unfold World.cell?;rw[ho];exact this
  have G:=sum_gen p q.off c l w hra Yx;rw[hl]at G;refine Calls.mono G ?_;rintro e w' ⟨⟨d,hd,rfl⟩,hg⟩;refine⟨_,sg,rfl,?_,dx.gr rfl rfl A.holds hg⟩;have:=F4 (sg:=sg) d;rw[hd]at this;exact⟨_,this,rfl⟩
 ·cases h
theorem lent_yes (w:World) (h:Tables w):Calls prog 7 #[] w λe w'=>e= .returned (.bool true)/\Below w.heap.size w w':=za2 sum_ok w h
end
end RX
theorem RX.Tables.gr {w w':World} (h:RX.Tables w) (g:Gr w w'):RX.Tables w':=by
 have one:∀p l,RX.VarAt w p l->RX.VarAt w' p l:=λp l ⟨c,e,fz,h1,h2⟩=>by
  refine⟨c,e,fz,?_,h2⟩;obtain⟨hlt,_⟩:=Array.getElem?_eq_some_iff.1 h1;rw[g.b.block p hlt];exact h1
 exact⟨one _ _ h.v0,one _ _ h.v4,one _ _ h.v5,one _ _ h.v6,one _ _ h.v7⟩
theorem lent_g (w:World) (h:RX.Tables w):Calls prog 7 #[] w λe w'=>e= .returned (.bool true)/\Gr w w':=
 (RX.lent_yes w h).mono λ_ _ ⟨a,b⟩=>⟨a,Gr.of_below b⟩
end
section
open Go.ChangeShapes Go.WideShapes Go.ChangeAt Go.RowKit Go.Joins
theorem own:ownKnob prog.godebug=none:=Yw
theorem laidOut:laidOutB prog=true:=Yw
theorem mapsRow:mapsRowed prog=true:=Yw
theorem looksAll:true=prog.looks []:=Yw
theorem mainIs:prog.mainIs=some (true, "937ce4180b7e0530971f9c10e838baacdee34d16f0adff7030cd4e3c59a4d404".toList):=Yw
theorem and_i {a b:Bool} (h:a=true) (k:b=true):(a && b)=true:=by rw[h,k];rfl
def laid7:List (String×DataW Unit):=[("math/bits.deBruijn32tab",Rows.laid_math_bits_deBruijn32tab),("math/bits.deBruijn64tab",Rows.laid_math_bits_deBruijn64tab),("internal/strconv.uint64pow10",Rows.laid_internal_strconv_uint64pow10),("unicode/utf8.acceptRanges",Rows.laid_unicode_utf8_acceptRanges),("strconv.ErrRange",Rows.laid_strconv_ErrRange),("strconv.ErrSyntax",Rows.laid_strconv_ErrSyntax),("unicode/utf8.first",Rows.laid_unicode_utf8_first)]
theorem maxCell (w:World) (h:w.ShapedOpen prog):∃m,w.cell? ⟨2,0,none⟩=some (.int .i64 m):=
 Go.Proofs.cell_of_shapedOpen_int (zero:=#[.int .i64 0]) (t:=3) h (of_decide_eq_true Yw) Yw rfl Yw Yw underlying3
theorem heap_of_var {w:World} {name:String} {g:Nat} {cs:Array Value} (hg:prog.globalNamed name=some g) (h:w.var? prog name=some cs):∃e fz,w.heap[g]?=some (.cells cs e fz):=by
 unfold World.var? at h;rw[hg]at h;simp only[Option.bind_some]at h;split at h
 ·rename_i c e fz hh;obtain rfl:=Xa h;exact⟨e,fz,hh⟩
 ·cases h
theorem B8 {w:World} {name:String} {g:Nat} {k:IntKind} {zs:List Int} (hg:prog.globalNamed name=some g) (h:w.var? prog name=some (zs.map (Value.int k)).toArray):RX.VarAt w g (zs.map (RX.AV.int k)):=by
 obtain⟨e,fz,hh⟩:=heap_of_var hg h;refine⟨_,e,fz,hh,λsg=>⟨_,e,fz,rfl,Yy,λi hi=>?_⟩⟩;have hi':i < zs.length:=by simpa using hi
 refine⟨.int k zs[i],by simp[hi'],rfl,?_⟩;have e1:RX.cellAt (zs.map (RX.AV.int k)).length (zs.map (RX.AV.int k)) .nil i= .int k zs[i]:=by
  unfold RX.cellAt;rw[RX.T.get_nil,Nat.mod_eq_of_lt hi];simp[List.getD_eq_getElem?_getD,hi']
 rw[e1];rfl
theorem Cz {k:IntKind}:∀(ps:List (Int×Int)) (cs:List Value),cs.length=2 * ps.length->(∀(i:Nat) (q:Int×Int),ps[i]?=some q->(cs.drop (i * 2)).take 2=[.int k q.1,.int k q.2])->cs=ps.flatMap λq=>[.int k q.1,.int k q.2]
 | [],cs,hl,_=>List.eq_nil_of_length_eq_zero (by simpa using hl)
 | q :: ps,cs,hl,h=>by
  have h0:=h 0 q rfl;have hr:=Cz (k:=k) ps (cs.drop 2) (by simp at hl ⊢;omega) (λi q' hq=>by
   have:=h (i+1) q' (by simpa using hq);rw[List.drop_drop]
   rwa [show(i+1) * 2=2+i * 2 from by omega]at this)
  rw[List.flatMap_cons,<-hr];simp only[Nat.zero_mul,List.drop_zero]at h0;rw[<-h0,List.take_append_drop]
theorem Es {H:Type} {enc:TypeId×Value->H} {P:Program} {w:World} {base:Nat} {sp:Nat->Bool} {held:Bool} {fuel:Nat} {t e:TypeId} {n:Nat} {k:IntKind} {f0 f1:Field} {cs:List Value} {ps:List (Int×Int)} {p:List MemPlace}
  (ht:P.underlying t=some (.array n e)) (he:P.underlying e=some (.struct #[f0,f1])) (o0:f0.offset=0) (o1:f1.offset=1) (k0:P.underlying f0.type=some (.int k)) (k1:P.underlying f1.type=some (.int k)) (c0:P.cellsOf f0.type=1) (c1:P.cellsOf f1.type=1) (hce:P.cellsOf e=2) (hct:P.cellsOf t=2 * n)
  (h:DataW.trod enc P w base sp held fuel t cs=some (.agg (ps.map λq=> .agg [.lit (.int k q.1),.lit (.int k q.2)]),p)):cs=ps.flatMap λq=>[.int k q.1,.int k q.2]:=by
 obtain⟨xs,m,_,hx,hl,hxl,hat⟩:=DataW.trod_array ht h;rw[hce]at hat;rw[hct]at hl;have hxs:xs.map (·.1)=ps.map λq=>(DataW.agg [.lit (.int k q.1),.lit (.int k q.2)]:DataW H):=by
  have:=congrArg Prod.fst hx;simpa using this.symm
 have hpl:ps.length=n:=by
  have:=congrArg List.length hxs;simp at this;omega
 refine Cz ps cs Yx (λi q hq=>?_);have hi:i < n:=by
  have:=(List.getElem?_eq_some_iff.1 hq).1;omega
 have h2:(xs.map (·.1))[i]?=some (.agg [.lit (.int k q.1),.lit (.int k q.2)]):=by rw[hxs];simp[hq]
 rw[List.getElem?_map,Option.map_eq_some_iff]at h2;obtain⟨y,hy,hy1⟩:=h2;have h3:=(hat i hi).trans hy;generalize hD:(cs.drop (i * 2)).take 2=D at h3 ⊢;obtain⟨y0,y1,m',rfl,hDl,ha,hb⟩:=trod_struct2 he h3;rw[hce]at hDl;rw[o0,c0]at ha;rw[o1,c1]at hb;obtain⟨z0,ea,rfl,_⟩:=DataW.trod_int k0 ha;obtain⟨z1,eb,rfl,_⟩:=DataW.trod_int k1 hb;simp only[DataW.agg.injEq,List.cons.injEq,DataW.lit.injEq,Lit.int.injEq,true_and,and_true]at hy1;obtain⟨rfl,rfl⟩:=hy1
 match D,hDl with
 | [a,b],_=>
  simp only[List.drop_zero,List.drop_succ_cons,List.take_succ_cons,List.take_zero,List.cons.injEq,and_true]at ea eb;rw[ea,eb]
theorem wrap_shaped_and {H:Type} {enc:TypeId×Value->H} {a:Assume} {C:Checked} {os:Os} {f:FuncId} {fn:Func} {s:ChangeSpec} {conds:List PathCond} {apart fresh handsOn again:Bool} {X:World->Array Value->Prop}
  (hX:∀(w w':World) (args:Array Value),w.heap=w'.heap->X w args->X w' args)
  (own:ownKnob C.prog.godebug=none) (started:os.Started) (noInit:C.prog.inits.idxOf? f=none) (hfn:C.prog.funcs[f]?=some fn)
  (witness:∃(w:World) (tape:Tape) (i:Input),w.os=os/\(w.forCall tape i).Shaped C.prog/\i.vars=[]/\Input.okWide C.prog (w.forCall tape i) .any w.heap.size f i/\
   ((s.pre enc C.prog fn conds apart (w.forCall tape i).memory i.args/\X (w.forCall tape i).memory i.args)/\sizedMet enc C.prog fn (OpenSpec.ofChange s) apart (w.forCall tape i).memory i.args)/\a.holds C.prog (lone (Frame.enter C.prog f i.args .normal) [] (w.forCall tape i)))
  (contract:∀(W:World) (base:Nat) (args:Array Value) (ds gs:List (DataW H)) (before:List MemPlace),
   (∀(j:Nat) t v,fn.params[j]?=some t->args[j]?=some v->Value.okWide C.prog W .any base t v)->
   DataW.Whole enc C.prog fn.params.toList s.vars apart W args.toList ds gs before->
   X W args->W.ShapedOpen C.prog->
   Calls C.prog f args W λe W'=>∃v,e= .returned v/\s.post enc C.prog fn apart fresh handsOn again W args v W'):
  ReturnsInHanded a C os f .any (λw args=>(s.pre enc C.prog fn conds apart w args/\X w args)/\sizedMet enc C.prog fn (OpenSpec.ofChange s) apart w args) (s.post enc C.prog fn apart fresh handsOn again):=by
 refine returnsInHanded_of_calls own started noInit witness ?_;intro w tape i _ hsh _ hok hpre _;obtain⟨_,_,_,fn',hfn',_,_,_,_,hval⟩:=hok;have e:fn'=fn:=Xa (hfn'.symm.trans hfn);subst e;obtain⟨⟨⟨ds,gs,before,hw,_⟩,hx⟩,_⟩:=hpre;have hw':=DataW.Whole.of_heap (w':=w.forCall tape i) (by rfl) hw;refine(contract (w.forCall tape i) w.heap.size i.args ds gs before hval hw' (hX _ _ _ (by rfl) hx) hsh).mono λe W' ⟨v,he,hp⟩=>?_;subst he;exact ChangeSpec.post_blind hp
def intsOf:List RX.AV->List Int
 | .int _ n :: l=>n :: intsOf l
 | _ :: l=>intsOf l
 | []=>[]
def Hw:List Int->List (Int×Int)
 | a :: b :: l=>(a,b) :: Hw l
 | _=>[]
theorem tables_of_laid {W:World} (h:laidMetH prog laid7 W) (hs:W.ShapedOpen prog):RX.Tables W:=by
 rw[MakeChecks.laidMetH_plain _ _ _ Yw]at h;obtain⟨m,hm⟩:=maxCell W hs;obtain⟨ps,⟨g0,t0,cs0,f0,p0,q0,hg0,ht0,hv0,hd0,⟨g1,t1,cs1,f1,p1,q1,hg1,ht1,hv1,hd1,⟨g2,t2,cs2,f2,p2,q2,hg2,ht2,hv2,hd2,⟨g3,t3,cs3,f3,p3,q3,hg3,ht3,hv3,hd3,_,_⟩,_⟩,_⟩,_⟩,_,_⟩:=h;have tab:∀{name:String} {g:Nat} {t e:TypeId} {n f:Nat} {k:IntKind} {cs:Array Value} {zs:List Int} {p:List MemPlace},prog.globalNamed name=some g->prog.underlying t=some (.array n e)->prog.underlying e=some (.int k)->prog.cellsOf e=1->prog.cellsOf t=n->W.var? prog name=some cs->
   DataW.trod (λ_=>()) prog W 0 (λ_=>true) false f t cs.toList=some (Lib.tabData k zs,p)->RX.VarAt W g (zs.map (RX.AV.int k)):=λhg ht he hce hct hv hd=>by
  have:=Lib.cells_of_tab ht he hce hct hd;refine B8 hg ?_;rw[hv,<-this]
 refine⟨?_,?_,?_,?_,?_⟩
 ·unfold World.cell? at hm;split at hm
  ·rename_i c e fz hh;refine⟨c,e,fz,hh,λsg=>⟨c,e,fz,rfl,?_,λi hi=>?_⟩⟩
   ·have:=(Array.getElem?_eq_some_iff.1 hm).1;exact this
   ·obtain rfl:i=0:=by simpa using hi
    exact⟨_,hm,rfl,rfl⟩
  ·cases hm
 ·obtain rfl:=Xa ((show prog.globalNamed "unicode/utf8.acceptRanges" =some 1 by kernel_rfl).symm.trans hg3)
  obtain rfl:=Xa ((show(prog.globals[1]?).map (·.type)=some 372 by kernel_rfl).symm.trans ht3);have hc:=Es (k:= .u8) (ps:=Hw (intsOf RX.t4)) underlying372 underlying371 rfl rfl underlying5 underlying5 Yw Yw Yw Yw hd3;refine B8 (zs:=intsOf RX.t4) hg3 ?_;rw[hv3];have e:((intsOf RX.t4).map (Value.int .u8))=(Hw (intsOf RX.t4)).flatMap λq=>[.int .u8 q.1,.int .u8 q.2]:=rfl;rw[e,<-hc]
 ·obtain rfl:=Xa ((show prog.globalNamed "internal/strconv.uint64pow10" =some 5 by kernel_rfl).symm.trans hg2)
  obtain rfl:=Xa ((show(prog.globals[5]?).map (·.type)=some 406 by kernel_rfl).symm.trans ht2);exact tab (zs:=intsOf RX.t5) hg2 underlying406 underlying37 Yw Yw hv2 hd2
 ·obtain rfl:=Xa ((show prog.globalNamed "math/bits.deBruijn32tab" =some 6 by kernel_rfl).symm.trans hg0)
  obtain rfl:=Xa ((show(prog.globals[6]?).map (·.type)=some 152 by kernel_rfl).symm.trans ht0);exact tab (zs:=intsOf RX.t6) hg0 underlying152 underlying5 Yw Yw hv0 hd0
 ·obtain rfl:=Xa ((show prog.globalNamed "math/bits.deBruijn64tab" =some 7 by kernel_rfl).symm.trans hg1)
  obtain rfl:=Xa ((show(prog.globals[7]?).map (·.type)=some 211 by kernel_rfl).symm.trans ht1);exact tab (zs:=intsOf RX.t7) hg1 underlying211 underlying5 Yw Yw hv1 hd1
end
section
section
open Go
theorem u8 {k:Nat} (h:k < 256):(UInt8.ofNat k).toNat=k:=UInt8.toNat_ofNat_of_lt (show k < UInt8.size from h)
theorem dec_digits:∀(k u:Nat),u<=k->∀c∈Lib.decDigits u,48<=c.toNat/\c.toNat<=57
 | 0,u,h,c,hc=>by
  obtain rfl:u=0:=Yx;rw[Lib.decDigits,dif_pos Yx]at hc;simp at hc;subst hc
  decide
 | k+1,u,h,c,hc=>by
  by_cases hu:u < 10
  ·rw[Lib.decDigits,dif_pos hu]at hc;obtain rfl:=List.mem_singleton.1 hc;rw[u8 Yx];omega
  ·rw[Lib.decDigits,dif_neg hu]at hc;rcases List.mem_append.1 hc with hc | hc
   ·exact dec_digits k (u/10) Yx c hc
   ·obtain rfl:=List.mem_singleton.1 hc;rw[u8 Yx];omega
theorem zbB (u:Nat):Lib.decDigits u≠[]:=by
 rw[Lib.decDigits];split <;> simp
theorem Cy:∀(l:List UInt8) (acc:Nat) (c:UInt8),Lib.parseUint10 acc (l ++ [c])=match Lib.parseUint10 acc l with | .ok v=>Lib.parseUint10 v [c] | e=>e
 | [],acc,c=>rfl
 | b :: l,acc,c=>by
  simp only[List.cons_append,Lib.parseUint10];split
  ·split
   ·rfl
   ·split
    ·rfl
    ·exact Cy l _ c
  ·rfl
theorem xz:∀(k u:Nat),u<=k->u<=1000000000000000000->Lib.parseUint10 0 (Lib.decDigits u)= .ok u
 | 0,u,h,_=>by
  obtain rfl:u=0:=Yx
  decide +kernel
 | k+1,u,h,hu=>by
  by_cases h10:u < 10
  ·rw[Lib.decDigits,dif_pos h10];have e:(UInt8.ofNat (48+u)).toNat=48+u:=u8 Yx;simp only[Lib.parseUint10,e];rw[if_pos Yx,if_neg Yx,if_neg Yx];simp
  ·rw[Lib.decDigits,dif_neg h10,Cy,xz k (u/10) Yx Yx];have e:(UInt8.ofNat (48+u % 10)).toNat=48+u % 10:=u8 Yx;simp only[Lib.parseUint10,e];rw[if_pos Yx,if_neg Yx,if_neg Yx];congr 1;omega
theorem dec_cons (u:Nat):∃c l,Lib.decDigits u=c :: l/\48<=c.toNat/\c.toNat<=57:=by
 cases h:Lib.decDigits u with
 | nil=>exact absurd h (zbB u)
 | cons c l=>exact⟨c,l,rfl,dec_digits u u (Xc _) c (by rw[h];simp)⟩
theorem atoi_itoa (n:Int) (h1: -1000000000<=n) (h2:n<=1000000000):Lib.atoiAll (Lib.itoa n)= .ok n:=by
 unfold Lib.itoa;split
 ·rename_i hn;simp only[Lib.atoiAll];have e:(45:UInt8).toNat=45:=rfl;rw[e,if_pos (.inr rfl)];unfold Lib.parseMag;rw[if_neg (zbB _),xz _ _ (Xc _) Yx];simp only;rw[if_neg Yx,if_neg Yx,if_pos trivial];congr 1;omega
 ·rename_i hn;obtain⟨c,l,hc,c1,c2⟩:=dec_cons n.toNat;have hp:=xz _ n.toNat (Xc _) Yx;rw[hc]at hp ⊢;simp only[Lib.atoiAll];rw[if_neg Yx];unfold Lib.parseMag;rw[if_neg Yy,hp];simp only;rw[if_neg Yx,if_neg Yx,if_neg Yx];congr 1;omega
end
section
open Go.RowKit
theorem conv_one (w:World) (b:Nat) (c:Int) (hw:w.cell? ⟨b,0,none⟩=some (.int .u8 c)):(convert 205 9 (.slice (some ⟨b,0,none⟩) 1 1)).run prog w= .ok (.string (strOfNums [c])) w:=
 run_convert_bytes_arg w 205 5 underlying205 underlying5 b 0 1 1 [c] rfl (λi hi=>by
  obtain rfl:i=0:=Yx;simpa using hw) 9 underlying9
theorem one_nums (k:Nat):strOfNums [48+(k:Int)]=⟨#[UInt8.ofNat (48+k)]⟩:=by
 have:(48+(k:Int)).toNat=48+k:=Yx;simp only[strOfNums,List.map_cons,List.map_nil,this]
theorem cat_one (A:List UInt8) (c:UInt8):(⟨(A ++ [c]).toArray⟩:ByteArray)=⟨A.toArray⟩ ++ ⟨#[c]⟩:=by
 apply ByteArray.ext;simp
theorem wk (n:Nat) (w:World) (h:n < 10):
  Calls prog 99 #[.int .i64 n] w λe w'=>e= .returned (.string ⟨(Lib.decDigits n).toArray⟩)/\Gr w w':=by
 have e0:Lib.decDigits n=[UInt8.ofNat (48+n)]:=by rw[Lib.decDigits,dif_pos h]
 rw[e0];have cv:=conv_one (w.alloc (.cells #[.int .u8 (48+(n:Int))] 5)) w.heap.size (48+(n:Int)) ((ed (ae w _)).1 0);rw[one_nums]at cv;obtain⟨c,hc⟩:∃c,UInt8.ofNat (48+n)=c:=⟨_,rfl⟩;rw[hc]at cv ⊢;clear hc e0;go_enter func99,ntmps99;go_wp2_with fail;go_ret;exact⟨rfl,grT⟩
theorem Oz (k:Nat):∀(n:Nat) (w:World),n<=k->n<=1000000000->
  Calls prog 99 #[.int .i64 n] w λe w'=>e= .returned (.string ⟨(Lib.decDigits n).toArray⟩)/\Gr w w':=by
 induction k with
 | zero=>intro n w h _;exact wk n w Yx
 | succ k ih=>
  intro n w h hb
  by_cases h10:n < 10
  ·exact wk n w h10
  have e0:Lib.decDigits n=Lib.decDigits (n/10) ++ [UInt8.ofNat (48+n % 10)]:=by rw[Lib.decDigits,dif_neg h10]
  rw[e0];have IH:=Hd (λw=>ih (n/10) w Yx Yx);have q1:((n:Int)).tdiv 10=((n / 10:Nat):Int):=by rw[Int.tdiv_eq_ediv_of_nonneg Yx];omega
  have q2:((n:Int)).tmod 10=((n % 10:Nat):Int):=by rw[Int.tmod_eq_emod_of_nonneg Yx];omega
  have CV:=Hd (fun(w:World) (b:Nat) (hb:w.cell? ⟨b,0,none⟩=some (.int .u8 (48+((n % 10:Nat):Int))))=>(conv_one w b _ hb).trans (by rw[one_nums]));obtain⟨c,hc⟩:∃c,UInt8.ofNat (48+n % 10)=c:=⟨_,rfl⟩;rw[hc]at CV ⊢;have hm:n % 10 < 10:=Nat.mod_lt _ Yx;have hm2:n / 10<=1000000000:=Yx;have q3:IntKind.i64.wrap ((n / 10:Nat):Int)=((n / 10:Nat):Int):=IntWalk.i64_in _ Yx;have hl:(Lib.decDigits (n/10)).length<=21:=by
   have:=Lib.itoa_length_le ((n/10:Nat):Int) Yx Yx
   rwa [Lib.itoa_nonneg]at this
  have q4:IntKind.i64.wrap (48+((n % 10:Nat):Int))=48+((n % 10:Nat):Int):=IntWalk.i64_in _ Yx;have q5:IntKind.u8.wrap (48+((n % 10:Nat):Int))=48+((n % 10:Nat):Int):=IntWalk.u8_in _ Yx;generalize n % 10=r at *;generalize Lib.decDigits (n/10)=A at *;generalize n / 10=m at *;have l1:¬9223372036854775807 < A.length+1:=Yx;clear ih e0 hc;go_enter func99,ntmps99;go_wp2_with fail;have CV2:=CV.out;clear CV;go_region_with (go_at_call_of 99 (Value.int .i64 (m:Int));refine(IH.out _).mono ?_;rintro e w1 ⟨rfl,hg1⟩;obtain⟨hc1,hf1,hz1⟩:=hg1.cells)
  all_goals go_wp2
  all_goals exact bodyPost_ret (v:= .string ⟨(A ++ [c]).toArray⟩) (by simp[results,results99,go_sem];exact(cat_one A c).symm) rfl ⟨rfl,grT⟩
theorem O0 (n:Nat) (w:World) (h:n<=1000000000):
  Calls prog 99 #[.int .i64 n] w λe w'=>e= .returned (.string ⟨(Lib.decDigits n).toArray⟩)/\Gr w w':=Oz n n w (Xc _) h
end
section
open Go.RowKit Go.Shelf
theorem indexc_no (c:UInt8):∀(l:List UInt8),c∉l->Lib.index l [c]= -1
 | [],_=>rfl
 | b :: l,h=>by
  have hb:¬c=b:=λe=>h (by simp[e]);have hl:=indexc_no c l (λhm=>h (by simp[hm]));simp[Lib.index,hl,hb]
theorem indexc_at (c:UInt8):∀(l m:List UInt8),c∉l->Lib.index (l ++ c :: m) [c]=l.length
 | [],m,_=>by simp[Lib.index]
 | b :: l,m,h=>by
  have hb:¬c=b:=λe=>h (by simp[e]);have hl:=indexc_at c l m (λhm=>h (by simp[hm]));simp only[List.cons_append,Lib.index,hl];simp[hb]
theorem cutc_no {c:UInt8} {l:List UInt8} (h:c∉l):Lib.cut l [c]=(l,[],false):=by
 unfold Lib.cut;rw[indexc_no c l h,if_neg Yx]
theorem cutc_at {c:UInt8} {l m:List UInt8} (h:c∉l):Lib.cut (l ++ c :: m) [c]=(l,m,true):=by
 unfold Lib.cut;rw[indexc_at c l m h,if_pos Yx];simp
theorem N4 {c:UInt8} {l:List UInt8} {i:Nat} (h:i < l.length) (h1:c∉l.take i) (h2:l[i]≠c):c∉l.take (i+1):=by
 rw[List.take_succ_eq_append_getElem h];simp only[List.mem_append,List.mem_singleton,not_or];exact⟨h1,λe=>h2 e.symm⟩
theorem rcut_any (s:ByteArray) (c:UInt8) (w:World) (hs:s.size<=100000):
  Calls prog 44 #[.string s,.int .u8 c.toNat] w λe w'=>e= .returned (.tuple #[.string ⟨(Lib.cut s.data.toList [c]).1.toArray⟩,.string ⟨(Lib.cut s.data.toList [c]).2.1.toArray⟩,.bool (Lib.cut s.data.toList [c]).2.2])/\Gr w w':=by
 obtain⟨l,hl⟩:∃l,s.data.toList=l:=⟨_,rfl⟩;have hsz:s.size=l.length:=by rw[<-hl];rfl
 have HX:=Hd (fun(i:Nat) (h:i < l.length)=>show s[i]'Yx=l[i] by subst hl;rfl);have HS:=Hd (show(⟨l.toArray⟩:ByteArray)=s by rw[<-hl]);rw[hl];obtain⟨x,y,z,hc⟩:∃x y z,Lib.cut l [c]=(x,y,z):=⟨_,_,_,rfl⟩;rw[hc];have HC:=Hd hc;clear hl hc;obtain⟨k,hk⟩:∃k,c.toNat=k:=⟨_,rfl⟩;rw[hk];have HK:=Hd hk;clear hk;go_enter func44,ntmps44;go_wp2;go_loopw [7] (λp wr=>∃i:Nat,p= .int .i64 i/\i<=l.length/\Hid (c∉l.take i)/\Gr w wr) (λp _=>l.length - (intOf p).toNat)
 case atStart=>exact⟨0,rfl,Yx,Hd Yy,Yu _⟩
 case round=>
  obtain⟨i,rfl,hi,HN,gr⟩:=hrel
  by_cases hil:i < l.length
  ·have hil':(i:Int) < l.length:=Yx;have his:i < s.size:=Yx;have hx:=HX.out i hil
   by_cases he:l[i]=c
   ·have hcc:(s[i]'his).toNat=k:=by rw[hx,he];exact HK.out
    have hsp:l=l.take i ++ c :: l.drop (i+1):=by
     rw[<-he,List.getElem_cons_drop,List.take_append_drop]
    have hcut:=cutc_at (c:=c) (l:=l.take i) (m:=l.drop (i+1)) HN.out;rw[<-hsp,HC.out]at hcut;simp only[Prod.mk.injEq]at hcut;obtain⟨e1,e2,e3⟩:=hcut;subst e3;have E1:=Hd (show(⟨x.toArray⟩:ByteArray)=s.extract 0 i by rw[e1,<-HS.out];apply ByteArray.ext;simp);have E2:=Hd (show(⟨y.toArray⟩:ByteArray)=s.extract (i+1) l.length by rw[e2,<-HS.out];apply ByteArray.ext;simp;rw[List.take_of_length_le Yy]);clear hx he hsp e1 e2 HX;have hi1:i+1<=s.size:=Yx;have w1:IntKind.i64.wrap ((i:Int)+1)=(i:Int)+1:=IntWalk.i64_in _ Yx;go_wp2_with fail;refine ah [.val (.string s),.val (.int .i64 i),.val (.string (s.extract 0 i)),.val (.string s),.val (.int .i64 i),.val (.int .i64 (i+1)),.val (.string (s.extract (i+1) l.length)),.val (.string (s.extract 0 i)),.val (.string (s.extract (i+1) l.length)),.val (.bool true)] Yw Yw (λV=>finT) ?_ ?_
    ·refine⟨?_,?_,?_,?_,?_,?_,?_,?_,?_,?_,trivial⟩ <;> (first | exact trivial | exact osGr | (refine⟨osK,?_⟩;intro V u hu hk;refine⟨Yw,aw Yw ?_⟩;obtain⟨hc,hf,hz⟩:=hu.cells;go_simp;skip) | (refine⟨osK,?_⟩;intro V u hu hk;refine⟨Yw,?_⟩;obtain⟨hc,hf,hz⟩:=hu.cells;go_simp;skip) | (intro V u hu hk;refine⟨Yw,?_⟩;obtain⟨hc,hf,hz⟩:=hu.cells;go_simp;first | exact⟨rfl,Yu _⟩ | skip) | (intro V u hu hk;show _=false;kernel_rfl))
     all_goals (rw[if_pos ⟨Yx,Yx⟩];exact⟨rfl,Yu _⟩)
    ·intro V u hg hs;clear hs;have gu:=gr.trans hg;go_simp;go_wp2;rw[E1.out,E2.out];exact bodyPost_ret (v:= .tuple #[.string (s.extract 0 i),.string (s.extract (i+1) l.length),.bool true]) (by simp[results,results44,go_sem]) rfl ⟨rfl,gu⟩
   ·have hcc:¬(s[i]'his).toNat=k:=by rw[hx,<-HK.out];exact λe=>he (UInt8.toNat_inj.1 e)
    have hcc':¬((s[i]'his).toNat:Int)=k:=Yx;have HN':=Hd (N4 hil HN.out he);clear hx he;go_wp2;exact⟨⟨i+1,Yy,Yx,HN',gr⟩,by simp[intOf];omega⟩
  ·have hil':¬(i:Int) < l.length:=Yx;obtain rfl:i=l.length:=Yx;have hno:=HN.out;rw[List.take_length]at hno;have hcut:=cutc_no hno;rw[HC.out]at hcut;simp only[Prod.mk.injEq]at hcut;obtain⟨rfl,rfl,rfl⟩:=hcut;clear hno HN;go_wp2;rw[HS.out];exact bodyPost_ret (v:= .tuple #[.string s,.string ⟨#[]⟩,.bool false]) (by simp[results,results44,go_sem]) rfl ⟨rfl,gr⟩
def isDig (c:UInt8):Bool:=decide (48<=c.toNat) && decide (c.toNat<=57)
def valI (l:List UInt8):Int:=l.foldl (λa c=>10*a+((c.toNat:Int) - 48)) 0
def valV (l:List UInt8):Int:=if 1<=l.length/\l.length<=7/\l.all isDig=true then valI l else -1
theorem Sb {l:List UInt8} {i:Nat} (h:i < l.length):valI (l.take (i+1))=10 * valI (l.take i)+((l[i].toNat:Int) - 48):=by
 unfold valI;rw[List.take_succ_eq_append_getElem h,List.foldl_append];rfl
theorem Ft {l:List UInt8} {i:Nat} (h:i < l.length):(l.take (i+1)).all isDig=((l.take i).all isDig && isDig l[i]):=by
 rw[List.take_succ_eq_append_getElem h,List.all_append,List.all_cons,List.all_nil,Bool.and_true]
theorem not_all {l:List UInt8} {i:Nat} (h:i < l.length) (hd:isDig l[i]=false):l.all isDig=false:=by
 cases e:l.all isDig
 ·rfl
 ·have:=List.all_eq_true.1 e l[i] (List.getElem_mem h);rw[hd]at this;cases this
theorem rvalue_any (s:ByteArray) (w:World) (hs:s.size<=100000):
  Calls prog 45 #[.string s] w λe w'=>e= .returned (.int .i64 (valV s.data.toList))/\Gr w w':=by
 obtain⟨l,hl⟩:∃l,s.data.toList=l:=⟨_,rfl⟩;have hsz:s.size=l.length:=by rw[<-hl];rfl
 have HX:=Hd (fun(i:Nat) (h:i < l.length)=>show s[i]'Yx=l[i] by subst hl;rfl);rw[hl];obtain⟨v,hv⟩:∃v,valV l=v:=⟨_,rfl⟩;rw[hv];have HV:=Hd hv;clear hl hv
 by_cases z1:l.length=0
 ·have z1':(l.length:Int)=0:=Yx;obtain rfl:v= -1:=by rw[<-HV.out];unfold valV;rw[if_neg Yx]
  go_enter func45,ntmps45;go_wp2;go_ret;exact⟨rfl,Yu _⟩
 ·by_cases z2:7 < l.length
  ·have z1':¬(l.length:Int)=0:=Yx;have z2':(7:Int) < l.length:=Yx;obtain rfl:v= -1:=by rw[<-HV.out];unfold valV;rw[if_neg Yx]
   go_enter func45,ntmps45;go_wp2;go_ret;exact⟨rfl,Yu _⟩
  ·have z1':¬(l.length:Int)=0:=Yx;have z2':¬(7:Int) < l.length:=Yx;go_enter func45,ntmps45;go_wp2;go_loopw [3,4] (λn p wr=>∃(i:Nat) (x:Int),p= .int .i64 i/\i<=l.length/\n= .int .i64 x/\Hid (x=valI (l.take i)/\(l.take i).all isDig=true/\0<=x/\x < (10:Int)^i)/\Gr w wr) (λ_ p _=>l.length - (intOf p).toNat)
   case atStart=>exact⟨0,0,rfl,Yx,rfl,Hd ⟨rfl,Yy,Yx,Yy⟩,Yu _⟩
   case round=>
    obtain⟨i,x,rfl,hi,rfl,HR,gr⟩:=hrel
    by_cases hil:i < l.length
    ·have hil':(i:Int) < l.length:=Yx;have his:i < s.size:=Yx;have hx:=HX.out i hil;obtain⟨k,hk⟩:∃k,l[i].toNat=k:=⟨_,rfl⟩;have hc:(s[i]'his).toNat=k:=by rw[hx];exact hk
     by_cases kd:48<=k/\k<=57
     ·obtain⟨k1,k2⟩:=kd;have k1':¬(k:Int) < 48:=Yx;have k2':¬(57:Int) < k:=Yx;obtain⟨r1,r2,r3,r4⟩:=HR.out;have hp:(10:Int)^i<=10^7:=by
       have:=Nat.pow_le_pow_right (show 0 < 10 by omega) (show i<=7 by omega)
       exact_mod_cast this
      have hps:(10:Int)^(i+1)=10^i * 10:=Int.pow_succ ..;have HN:Hid (10*x+k - 48=valI (l.take (i+1))/\(l.take (i+1)).all isDig=true/\0<=10*x+(k:Int) - 48/\10*x+(k:Int) - 48 < (10:Int)^(i+1)):=
       Hd ⟨by rw[Sb hil,hk,<-r1];omega,by rw[Ft hil,r2];simp[isDig,hk,k1,k2],Yx,Yx⟩
      have w1:IntKind.i64.wrap (10*x)=10*x:=IntWalk.i64_in _ Yx;have w2:IntKind.i64.wrap (10*x+k)=10*x+k:=IntWalk.i64_in _ Yx;have w3:IntKind.i64.wrap (10*x+k - 48)=10*x+k - 48:=IntWalk.i64_in _ Yx;have w4:IntKind.i64.wrap (k:Int)=k:=IntWalk.i64_in _ Yx;clear hx hk r1 r2 r3 r4 hp hps HR;go_wp2;exact⟨⟨i+1,10*x+k - 48,Yy,Yx,rfl,HN,gr⟩,by simp[intOf];omega⟩
     ·have hd:isDig l[i]=false:=by simp only[isDig,hk];simp;omega
      obtain rfl:v= -1:=by rw[<-HV.out];unfold valV;rw[not_all hil hd,if_neg Yy]
      clear hx hk hd HR
      by_cases k1:k < 48
      ·have k1':(k:Int) < 48:=Yx;go_wp2;go_ret;exact⟨rfl,gr⟩
      ·have k1':¬(k:Int) < 48:=Yx;have k2':(57:Int) < k:=Yx;go_wp2;go_ret;exact⟨rfl,gr⟩
    ·have hil':¬(i:Int) < l.length:=Yx;obtain rfl:i=l.length:=Yx;obtain⟨r1,r2,r3,r4⟩:=HR.out;rw[List.take_length]at r1 r2;obtain rfl:v=x:=by rw[<-HV.out,r1];unfold valV;rw[if_pos ⟨Yx,Yx,r2⟩]
     clear r1 r2 r3 r4 HR;go_wp2;go_ret;exact⟨rfl,gr⟩
def rowL (A:List UInt8) (ns:List Nat):List UInt8:=ns.foldl (λa n=>a ++ 32 :: Lib.decDigits n) A
theorem zcT {A:List UInt8} {ns:List Nat} {i:Nat} (h:i < ns.length):rowL A (ns.take (i+1))=rowL A (ns.take i) ++ 32 :: Lib.decDigits ns[i]:=by
 unfold rowL;rw[List.take_succ_eq_append_getElem h,List.foldl_append];rfl
theorem dec_len20 (n:Nat) (h:n<=1000000000):(Lib.decDigits n).length<=21:=by
 have:=Lib.itoa_length_le (n:Int) Yx Yx
 rwa [Lib.itoa_nonneg]at this
theorem zae {A:List UInt8} {ns:List Nat} (hA:A.length<=100000) (hn:∀n∈ns,n<=1000000000):∀i,i<=ns.length->(rowL A (ns.take i)).length<=100000+22 * i:=by
 intro i
 induction i with
 | zero=>intro _;simpa[rowL]using hA
 | succ i ih=>
  intro h;rw[zcT Yx,List.length_append,List.length_cons];have:=ih Yx;have:=dec_len20 ns[i] (hn _ (List.getElem_mem _));omega
theorem Row_any (A:List UInt8) (ns:List Nat) (b cap:Nat) (w:World) (hb:b < w.heap.size) (hA:A.length<=100000) (hl:ns.length<=100) (hn:∀n∈ns,n<=1000000000)
  (hc:∀j (h:j < ns.length),w.cell? ⟨b,j,none⟩=some (.int .i64 (ns[j]:Nat))):
  Calls prog 46 #[.string ⟨A.toArray⟩,.slice (some ⟨b,0,none⟩) ns.length cap] w λe w'=>e= .returned (.string ⟨(rowL A ns).toArray⟩)/\Gr w w':=by
 have HC:=Hd hc;have HL:=Hd (zae hA hn);have HN:=Hd hn;clear hc hA hn;go_enter func46,ntmps46;go_wp2;go_loopw [0,5] (λq p wr=>∃(i:Nat) (B:List UInt8),p= .int .i64 i/\i<=ns.length/\q= .string ⟨B.toArray⟩/\Hid (B=rowL A (ns.take i))/\Gr w wr) (λ_ p _=>ns.length - (intOf p).toNat)
 case atStart=>exact⟨0,A,rfl,Yx,rfl,Hd rfl,Yu _⟩
 case round=>
  obtain⟨i,B,rfl,hi,rfl,HB,gr⟩:=hrel
  by_cases hil:i < ns.length
  ·have hil':(i:Int) < ns.length:=Yx;have hcell:=(gr.cells.1 b i hb).trans (HC.out i hil);have hlen:=HL.out i hi;rw[<-HB.out]at hlen;have hlt:b < wr.heap.size:=Nat.lt_of_lt_of_le hb gr.b.size;have HS:=Hd (zcT (A:=A) hil);obtain⟨n,hn⟩:∃n,ns[i]=n:=⟨_,rfl⟩;have hn9:n<=1000000000:=by rw[<-hn];exact HN.out _ (List.getElem_mem _)
   rw[hn]at hcell HS;clear hn;have hd:=dec_len20 n hn9;have DG:=Hd (λw=>O0 n w hn9);generalize Lib.decDigits n=C at DG hd HS;have l1:¬9223372036854775807 < B.length+1:=Yx;have l2:¬9223372036854775807 < B.length+1+C.length:=Yx;clear hn9;go_wp2_with fail;refine(DG.out _).mono ?_;rintro e w1 ⟨rfl,hg1⟩;go_wp2;refine⟨⟨i+1,B ++ 32 :: C,Yy,Yx,?_,Hd (by rw[HS.out,<-HB.out]),gr.trans hg1⟩,by simp[intOf];omega⟩
   first | (congr 1;apply ByteArray.ext;simp;done) | (simp;done) | trace_state
  ·have hil':¬(i:Int) < ns.length:=Yx;obtain rfl:i=ns.length:=Yx;have hB:=HB.out;rw[List.take_length]at hB;subst hB;go_wp2;go_ret;exact⟨rfl,gr⟩
end
end
end Go.Proofs.YtimcfaoabaflkaaGreatDoor
