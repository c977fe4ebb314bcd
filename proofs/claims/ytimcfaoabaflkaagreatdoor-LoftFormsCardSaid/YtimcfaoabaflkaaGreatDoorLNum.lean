/- loft: numeral; the world condition. -/
import Derived.Test.YtimcfaoabaflkaaGreatDoorIdle
import Derived.Test.YtimcfaoabaflkaaGreatDoorShelfR
import Derived.Lib.AtoiErrMem
import Derived.Lib.AppendIntMem
import Derived.Lib.ItoaLen
import Derived.Test.YtimcfaoabaflkaaGreatDoorBase
import Derived.RangeFuncNested
import Derived.RangeFuncBound
import Derived.RangeFuncCalls
import Derived.RangeFuncLeaves
import Derived.Shelf.Abstract
import Derived.Shelf.RegionOpen
import Derived.OwnWalkIn
import Derived.TacticsInMore
import Derived.LoopNIn
import Derived.LoopIn
import Derived.RangeFuncBox
import Derived.Maps.AppendAt
import Derived.Test.YtimcfaoabaflkaaGreatDoorSteps
namespace Go.Proofs.YtimcfaoabaflkaaGreatDoor
open AbA AbI
set_option maxHeartbeats 8000000
set_option maxRecDepth 100000
open Go.Proofs.Tryz
theorem Xk {P:Prop} (h:P:=by
 refine⟨?_,?_,?_,?_,?_,?_,?_,?_,?_,?_,?_,?_,?_,trivial⟩ <;> (first | exact trivial | exact osGr | (refine⟨osK,?_⟩;intro V u hu hk;refine⟨Yh,aw Yh ?_⟩;obtain⟨hc,hf,hz⟩:=hu.cells;go_simp;skip) | (refine⟨osK,?_⟩;intro V u hu hk;refine⟨Yh,?_⟩;obtain⟨hc,hf,hz⟩:=hu.cells;go_simp;skip) | (intro V u hu hk;refine⟨Yh,?_⟩;obtain⟨hc,hf,hz⟩:=hu.cells;go_simp;first | exact⟨rfl,Yu _⟩ | skip) | (intro V u hu hk;show _=false;kernel_rfl));exact CR.out _):P:=h
theorem Xm {P:Prop} (h:P:=by
 refine⟨?_,?_,?_,?_,?_,?_,?_,?_,?_,?_,?_,?_,?_,trivial⟩ <;> (first | exact trivial | exact osGr | (refine⟨osK,?_⟩;intro V u hu hk;refine⟨Yh,aw Yh ?_⟩;obtain⟨hc,hf,hz⟩:=hu.cells;go_simp;skip) | (refine⟨osK,?_⟩;intro V u hu hk;refine⟨Yh,?_⟩;obtain⟨hc,hf,hz⟩:=hu.cells;go_simp;skip) | (intro V u hu hk;refine⟨Yh,?_⟩;obtain⟨hc,hf,hz⟩:=hu.cells;go_simp;first | exact⟨rfl,Yu _⟩ | skip) | (intro V u hu hk;show _=false;kernel_rfl))):P:=h
theorem Xn {P:Prop} (h:P:=by
 intro V u5 hg5 hs;have gu:=gu.trans hg5;have bx:=hg5.heap bx;clear cx fx zx;obtain⟨cx,fx,zx⟩:=bw bx;go_simp;go_wp2;go_ret2;obtain⟨rfl,rfl⟩:=Prod.ext_iff.1 (HR.out.symm.trans (jp HZ.out hil (e:=6) (by rw[HA.out];simp[j5,HB.out,HQ.out,hd]) Yk));exact⟨Yj,gu⟩):P:=h
section
section
open Go.RowKit Go.Shelf
abbrev Tab (w:World):Prop:=Lib.TabIs prog w "internal/strconv.uint64pow10" .u64 Lib.pow10Tab
theorem Tab.gr {w w':World} (h:Tab w) (g:Gr w w'):Tab w':=Lib.tabBelow_of_tabIs h w' g.b
theorem Gr.grow (w:World) (k:Nat) (os:Array Obj):Gr w (Sort.grow (w.drewN k) os):=
 ⟨⟨rfl,rfl,rfl,by simp[Sort.grow],fun j hj=>by simp[Sort.grow,Array.getElem?_append,hj]⟩,trivial⟩
theorem Mv (n:Int) (w:World) (h1: -9223372036854775808≤n) (h2:n≤9223372036854775807) (ht:Tab w):
  Calls prog 136 #[Yp n] w fun e w'=>e= .returned (.string ⟨(Lib.itoa n).toArray⟩)∧Gr w w':=
 (Tryz.strconv_Itoa n h1 h2 w ht).mono fun _e _w' ⟨h,k,os,e'⟩=>⟨h,e'▸Gr.grow w k os⟩
structure TW (w:World):Prop where
 t:Tab w
 s:∃tp p,w.cell? ⟨3,0,none⟩=some (.iface tp p)
 r:∃tp p,w.cell? ⟨4,0,none⟩=some (.iface tp p)
 m:∃m,w.cell? ⟨2,0,none⟩=some (.int .i64 m)
theorem TW.gr {w w':World} (h:TW w) (g:Gr w w'):TW w':=by
 obtain⟨tp,p,h1⟩:=h.s;obtain⟨tp',p',h2⟩:=h.r;obtain⟨m,h3⟩:=h.m;exact⟨h.t.gr g,⟨tp,p,(g.cells.1 _ _ (World.block_lt_of_cell? _ _ h1)).trans h1⟩,⟨tp',p',(g.cells.1 _ _ (World.block_lt_of_cell? _ _ h2)).trans h2⟩,m,(g.cells.1 _ _ (World.block_lt_of_cell? _ _ h3)).trans h3⟩
theorem Pi {l:List UInt8} {v:Int} (h:Lib.atoiAll l= .ok v): -9223372036854775808≤v∧v≤9223372036854775807:=by
 cases l with
 | nil=>cases h
 | cons c r=>
  simp only[Lib.atoiAll]at h;split at h
  iterate 2 ·cases h
  ·split at h
   ·cases h
   ·split at h
    ·cases h
    ·split at h
     iterate 2 ·injection h with h;omega
def jh (l:List UInt8):Int:=match Lib.atoiAll l with | .ok v=>if Lib.itoa v=l then v else -1 | _=> -1
theorem Kj (s:ByteArray) (w:World) (hs:s.size≤100000) (tw:TW w):
  Calls prog 82 #[.string s] w fun e w'=>e= .returned (Yp (jh s.data.toList))∧Gr w w':=by
 obtain⟨l,hl⟩:∃l,s.data.toList=l:=⟨_,rfl⟩;have HL:=Lib.hid hl;have eqs:s.toList=l:=(ByteArray.toList_eq s).trans hl;have EQ:=Lib.hid eqs;rw[hl];clear eqs;rcases ha:Lib.atoiAll l with v | _ | _
 ·have hb:=Pi ha;have AT:=Lib.hid (fun w=>Tryz.strconv_Atoi_ok s Yi v (hl▸ha) w);have IT:=Lib.hid (fun w' (g:Gr w w')=>Mv v w' hb.1 hb.2 (tw.t.gr g));have NV:jh l=if Lib.itoa v=l then v else -1:=by unfold jh;rw[ha]
  rw[NV];generalize Lib.itoa v=t at IT ⊢;obtain⟨q,hq⟩:∃q,(if t=l then v else -1)=q:=⟨_,rfl⟩;rw[hq];have HQ:=Lib.hid hq;clear hb NV ha hl tw hq;go_enter func82,ntmps82;go_wp2_with fail;refine(AT.out _).mono ?_;rintro e w1 ⟨rfl,hw1⟩;have g1:Gr w w1:=by
   rcases hw1 with rfl | ⟨x,rfl⟩
   ·exact Yu _
   ·exact Gr.of_below (Lib.bytesWorld_below _ _ _)
  clear hw1;go_wp2_with fail;refine(IT.out _ g1).mono ?_;rintro e w2 ⟨rfl,hg2⟩
  by_cases hT:t=l
  ·have hc:(t == s.toList)=true:=by rw[EQ.out];exact beq_iff_eq.2 hT
   obtain rfl:q=v:=by rw[←HQ.out,if_pos hT]
   clear hT;go_wp2;go_ret;exact⟨rfl,g1.trans hg2⟩
  ·have hc:(t == s.toList)=false:=by rw[EQ.out];exact beq_eq_false_iff_ne.2 hT
   obtain rfl:q= -1:=by rw[←HQ.out,if_neg hT]
   clear hT;go_wp2;go_ret;exact⟨rfl,g1.trans hg2⟩
 ·obtain⟨tp,p,h1⟩:=tw.s;have AT:=Lib.hid (Tryz.strconv_Atoi_syntax s Yi (hl▸ha) _ w h1 (.inr ⟨_,_,rfl⟩));have NV:jh l= -1:=by unfold jh;rw[ha]
  rw[NV];clear NV ha hl tw h1;go_enter func82,ntmps82;go_wp2_with fail;refine AT.out.mono ?_;rintro e w1 ⟨N,rfl,_,_,b⟩;go_wp2;go_ret;exact⟨rfl,Gr.of_below b⟩
 ·obtain⟨tp,p,h1⟩:=tw.r;have AT:=Lib.hid (Tryz.strconv_Atoi_range s Yi (hl▸ha) _ w h1 (.inr ⟨_,_,rfl⟩));have NV:jh l= -1:=by unfold jh;rw[ha]
  rw[NV];clear NV ha hl tw h1;go_enter func82,ntmps82;go_wp2_with fail;refine AT.out.mono ?_;rintro e w1 ⟨N,rfl,_,_,b⟩;go_wp2;go_ret;exact⟨rfl,Gr.of_below b⟩
end
section
open Go.RowKit Go.Shelf
attribute [local go_sem] Oper.semAt_some
theorem GrL.heap {bs:List Nat} {W W':World} (g:GrL bs W W') {k:Nat} {o:Obj} (h:W.heap[k]?=some o) (hk:k∉bs):W'.heap[k]?=some o:=(g.block k (ai h) hk).trans h
theorem zbj:(prog.info? 9).map (fun i=>(i.zero,i.size,i.bytes))=some (some (.string ⟨#[]⟩),1,16):=Yh
abbrev sv (l:List UInt8):Value:= .string ⟨l.toArray⟩
theorem vy (K:Nat):∀ws:List (List UInt8),(∀l∈ws,l.length≤K)→Lib.lens ws≤K * ws.length
 | [],_=>by simp[Lib.lens]
 | l :: ws,h=>by
  have:=vy K ws (fun x hx=>h x (by simp[hx]));have:=h l Yj;have e:K * (ws.length+1)=K * ws.length+K:=Nat.mul_succ ..;simp only[Lib.lens,List.length_cons,List.map_cons,List.sum_cons,e]at *;omega
end
section
open Go.RowKit Go.Shelf
end
end
section
open Go.ChangeShapes Go.WideShapes Go.ChangeAt Go.RowKit Go.Joins
theorem star: "*" ++ "errors.errorString" = "*errors.errorString" :=Yk
theorem rowE (u:TypeId) (h:prog.typeName? 3 u=some "*errors.errorString"):u=402:=
 typeName_ptr_named (nm:= "errors.errorString") (by rw[star];kernel_rfl) Yh Yk u (by rw[star];exact h)
theorem zbR:prog.cellsOf 404=1:=Yh
theorem zbQ:prog.cellsOf 9=1:=Yh
theorem gES:prog.globalNamed "strconv.ErrSyntax" =some 3:=Yh
theorem gEST:(prog.globals[3]?).map (·.type)=some 250:=Yh
theorem gER:prog.globalNamed "strconv.ErrRange" =some 4:=Yh
theorem gERT:(prog.globals[4]?).map (·.type)=some 250:=Yh
theorem M6 {W:World} (h:laidMetH prog laid7 W) (hs:W.ShapedOpen prog):TW W:=by
 rw[MakeChecks.laidMetH_plain _ _ _ Yh]at h;have h3:=h.tail.tail.tail.tail;obtain⟨a1,s1,v1, -, -, -⟩:=laid_sentinel h3 gER gERT underlying250 rowE underlying402 underlying404 rfl rfl underlying9 zbR zbQ;obtain⟨a2,s2,v2, -, -, -⟩:=laid_sentinel h3.tail gES gEST underlying250 rowE underlying402 underlying404 rfl rfl underlying9 zbR zbQ;refine⟨?_,⟨_,_,by have h0:=World.var?_cell gES v2 0;simpa using h0⟩,⟨_,_,by have h0:=World.var?_cell gER v1 0;simpa using h0⟩,maxCell W hs⟩;obtain⟨ps,⟨g0,t0,cs0,f0,p0,q0,hg0,ht0,hv0,hd0,⟨g1,t1,cs1,f1,p1,q1,hg1,ht1,hv1,hd1,⟨g2,t2,cs2,f2,p2,q2,hg2,ht2,hv2,hd2,_,_⟩,_⟩,_⟩,_,_⟩:=h;obtain rfl:=Yt ((show prog.globalNamed "internal/strconv.uint64pow10" =some 5 by kernel_rfl).symm.trans hg2)
 obtain rfl:=Yt ((show(prog.globals[5]?).map (·.type)=some 406 by kernel_rfl).symm.trans ht2);have hd:DataW.trod _ prog W 0 _ _ f2 406 cs2.toList=some (Lib.tabData .u64 Lib.pow10Tab,p2):=hd2;have:=Lib.cells_of_tab (n:=20) (e:=37) underlying406 underlying37 Yh Yh hd;show W.var? prog _=_;rw[hv2,←this]
theorem zdP {H:Type} {enc:TypeId×Value→H} {w:World} {base b0:Nat} {spare:Nat→Bool} {held:Bool} {r:Reach} {v:Value} {d:DataW H} {p:List MemPlace} (hv:Value.okWide prog w r b0 36 v) (h:DataW.Trod enc prog w base spare held 36 v d p):
  ∃(a b c:Int) (t:ByteArray),v= .agg #[Yp a,Yp b,Yp c,.string t]∧p=[]∧∀w' base' spare' held',DataW.Trod enc prog w' base' spare' held' 36 v d []:=by
 obtain⟨v0,v1,v2,v3,y0,y1,y2,y3,n,rfl,rfl,rfl,h0,h1,h2,h3⟩:=open_agg4 underlying36 Yh Yh hv h;obtain⟨a,e0,rfl,w0⟩:=DataW.trod_int underlying3 h0;obtain⟨b,e1,rfl,w1⟩:=DataW.trod_int underlying3 h1;obtain⟨c,e2,rfl,w2⟩:=DataW.trod_int underlying3 h2;obtain⟨s,e3,rfl,w3⟩:=DataW.trod_string underlying9 h3;simp only[List.cons.injEq,and_true]at e0 e1 e2 e3;subst e0;subst e1;subst e2;subst e3;refine⟨a,b,c,s,rfl,rfl,fun w' base' spare' held'=>?_⟩;exact shut_agg4 (y0:=(.lit (Lit.int IntKind.i64 a),[])) (y1:=(.lit (Lit.int IntKind.i64 b),[])) (y2:=(.lit (Lit.int IntKind.i64 c),[])) (y3:=(.lit (.string s.data.toList),[])) underlying36 Yh Yh
  ⟨1,by simp[DataW.trod,underlying3,w0]⟩ ⟨1,by simp[DataW.trod,underlying3,w1]⟩ ⟨1,by simp[DataW.trod,underlying3,w2]⟩ ⟨1,by simp[DataW.trod,underlying9,w3]⟩
end
section
open Go.RowKit Go.Shelf
def jo (x y:Int):Int:=if x < y then -1 else if y < x then 1 else 0
theorem yj (x:Int) (w:World):Calls prog 87 #[Yp x] w fun e w'=>e= .returned (.bool false)∧w=w':=by
 go_enter func87,ntmps87;go_wp2;go_ret;exact⟨rfl,rfl⟩
theorem ml (x y:Int) (w:World):Calls prog 33 #[Yp x,Yp y] w fun e w'=>e= .returned (Yp (jo x y))∧w=w':=by
 unfold jo
 by_cases h1:x < y
 ·rw[if_pos h1];go_enter func33,ntmps33;go_wp2_with (go_at_call 87;refine(yj _ _).mono ?_;rintro e w1 ⟨rfl,rfl⟩);go_ret;exact⟨rfl,rfl⟩
 ·rw[if_neg h1]
  by_cases h2:y < x
  ·rw[if_pos h2];go_enter func33,ntmps33;go_wp2_with (go_at_call 87;refine(yj _ _).mono ?_;rintro e w1 ⟨rfl,rfl⟩);go_ret;exact⟨rfl,rfl⟩
  ·rw[if_neg h2];go_enter func33,ntmps33;go_wp2_with (go_at_call 87;refine(yj _ _).mono ?_;rintro e w1 ⟨rfl,rfl⟩);go_ret;exact⟨rfl,rfl⟩
def orI (x y:Int):Int:=if x≠0 then x else y
theorem Px (g cap:Nat) (x y:Int) (w:World) (hx:w.cell? ⟨g,0,none⟩=some (.int .i64 x)) (hy:w.cell? ⟨g,1,none⟩=some (.int .i64 y)):
  Calls prog 53 #[.slice (Yn g) 2 cap] w fun e w'=>e= .returned (Yp (orI x y))∧w=w':=by
 unfold orI
 by_cases h:x=0
 ·subst h
  by_cases k:y=0
  ·subst k;go_enter func53,ntmps53;go_wp2;refine wp_loop_rounds 3 ?_;rw[rounds_succ];go_wp2;rw[rounds_succ];go_wp2
   try (rw[rounds_succ];go_wp2)
   go_ret;exact⟨rfl,rfl⟩
  ·go_enter func53,ntmps53;go_wp2;refine wp_loop_rounds 3 ?_;rw[rounds_succ];go_wp2;rw[rounds_succ];go_wp2
   try (rw[rounds_succ];go_wp2)
   go_ret;exact⟨rfl,rfl⟩
 ·go_enter func53,ntmps53;go_wp2;refine wp_loop_rounds 3 ?_;rw[rounds_succ];go_wp2;go_ret;exact⟨iy (by simp),rfl⟩
def ul (a b:Rc):Int:=orI (jo a.s b.s) (jo a.k b.k)
theorem As (a b:Rc) (w:World):Calls prog 42 #[a.v,b.v] w fun e w'=>e= .returned (Yp (ul a b))∧Gr w w':=by
 obtain⟨s,k,d,t⟩:=a;obtain⟨s2,k2,d2,t2⟩:=b;unfold ul Rc.v;dsimp only;have bx:=ae w (.cells #[Yp s,Yp k,Yp d,.string t] 36);have by_:=ae (w.alloc (.cells #[Yp s,Yp k,Yp d,.string t] 36)) (.cells #[Yp s2,Yp k2,Yp d2,.string t2] 36);have bx:=((Yu _).alloc (.cells #[Yp s2,Yp k2,Yp d2,.string t2] 36)).heap bx;have g0:Gr w ((w.alloc (.cells #[Yp s,Yp k,Yp d,.string t] 36)).alloc (.cells #[Yp s2,Yp k2,Yp d2,.string t2] 36)):=((Yu w).alloc _).alloc _;simp only[World.size_alloc]at by_;go_enter func42,ntmps42;go_wp2;generalize (w.alloc (.cells #[Yp s,Yp k,Yp d,.string t] 36)).alloc (.cells #[Yp s2,Yp k2,Yp d2,.string t2] 36)=W at *;obtain⟨p2,h2⟩:∃p2,w.heap.size+1=p2:=⟨_,rfl⟩;rw[h2]at by_;rw[h2];clear h2;generalize w.heap.size=p1 at *;obtain⟨cx,fx,zx⟩:=bw bx;obtain⟨cy,fy,zy⟩:=bw by_;refine ah [.val (Ym p1),.val (Yp s),.val (Ym p2),.val (Yp s2),.val (Yp (jo s s2)),.val (.pointer (some ⟨p1,1,none⟩)),.val (Yp k),.val (.pointer (some ⟨p2,1,none⟩)),.val (Yp k2),.val (Yp (jo k k2)),.sat (fun v u=>∃g,v= .slice (Yn g) 2 2∧u.heap[g]?=some (.cells #[Yp (jo s s2),Yp (jo k k2)] 3 (0,0))),.val (Yp (orI (jo s s2) (jo k k2))),.val (Yp (orI (jo s s2) (jo k k2)))] Yh Yh (fun V=>finT) ?_ ?_
 ·refine⟨?_,?_,?_,?_,?_,?_,?_,?_,?_,?_,?_,?_,?_,trivial⟩ <;> (first | exact trivial | exact osGr | (refine⟨osK,?_⟩;intro V u hu hk;refine⟨Yh,aw Yh ?_⟩;obtain⟨hc,hf,hz⟩:=hu.cells;go_simp;skip) | (refine⟨osK,?_⟩;intro V u hu hk;refine⟨Yh,?_⟩;obtain⟨hc,hf,hz⟩:=hu.cells;go_simp;skip) | (intro V u hu hk;refine⟨Yh,?_⟩;obtain⟨hc,hf,hz⟩:=hu.cells;go_simp;first | exact⟨rfl,Yu _⟩ | skip) | (intro V u hu hk;show _=false;kernel_rfl))
  iterate 2 ·exact(ml _ _ _).mono fun e w' ⟨h,e'⟩=>⟨h,e'▸Yu _⟩
  ·obtain⟨g,hv,hb⟩:=hk 10 _ rfl Yh;rw[hv];obtain⟨cg,fg,zg⟩:=bw hb;exact(Px g 2 _ _ _ (cg 0) (cg 1)).mono fun e w' ⟨h,e'⟩=>⟨h,e'▸Yu _⟩
 ·intro V u hg hs;go_simp;go_wp2;go_ret;exact⟨rfl,g0.trans hg⟩
end
section
open Go.RowKit Go.Shelf
theorem zdd (v:Value) (l:List Rc) (x:Rc) (m:Nat) (fb:Bool) (w:World) (hr:RowR w v l) (hl:l.length≤1000000) (hm:m≤l.length)
  (h1:∀j (hj:j < l.length),j < m→ul l[j] x < 0) (h2:∀j (hj:j < l.length),m≤j→¬ul l[j] x < 0)
  (f1:∀h:m < l.length,fb=decide (ul l[m] x=0)) (f2:¬m < l.length→fb=false):
  Calls prog 41 #[v,x.v,.func (.func 42) #[] #[]] w fun e w'=>e= .returned (.tuple #[Yp m,.bool fb])∧Gr w w':=by
 obtain⟨a,cap,rfl,hcap,hcell⟩:=hr.form;have HC:=Lib.hid hcell;have H1:=Lib.hid h1;have H2:=Lib.hid h2;have F1:=Lib.hid f1;have F2:=Lib.hid f2;have CX:=Lib.hid (fun(r:Rc) w=>As r x w);have HX:x.v= .agg #[Yp x.s,Yp x.k,Yp x.d,.string x.t]:=rfl;rw[HX];have HX:=Lib.hid HX;have bx:=ae w (.cells #[Yp x.s,Yp x.k,Yp x.d,.string x.t] 36);have g0:Gr w (w.alloc (.cells #[Yp x.s,Yp x.k,Yp x.d,.string x.t] 36)):=(Yu w).alloc _;clear hcell hr h1 h2 f1 f2;go_enter func41,ntmps41;go_wp2;generalize w.alloc (.cells #[Yp x.s,Yp x.k,Yp x.d,.string x.t] 36)=W at *;obtain⟨px,hpx⟩:∃p,w.heap.size=p:=⟨_,rfl⟩;rw[hpx]at bx;rw[hpx];clear hpx;go_loopw [9,10] (fun p q wr=>∃i j:Nat,p= .int .i64 i∧q= .int .i64 j∧i≤m∧m≤j∧j≤l.length∧Gr W wr) (fun p q _=>(intOf q).toNat - (intOf p).toNat)
 case atStart=>exact⟨0,l.length,rfl,rfl,Yi,Yi,Yi,Yu _⟩
 case round=>
  obtain⟨i,j,rfl,rfl,hi,hj,hjl,gr⟩:=hrel;have bx':=gr.heap bx;obtain⟨cx,fx,zx⟩:=bw bx'
  by_cases hij:i < j
  ·have hij':(i:Int) < j:=Yi;go_wp2_with fail;obtain⟨h,hh⟩:∃h:Nat,((i:Int)+j) / 2=h:=⟨(i+j) / 2,Yi⟩;rw[hh];have hh1:i≤h:=Yi;have hh2:h < j:=Yi;clear hh;have hlt:h < l.length:=Yi;obtain⟨g,rfl,hg,c0,c1,c2,c3⟩:=HC.out h hlt;have G:=g0.trans gr;rw[←G.cells.1 g _ hg]at c0 c1 c2 c3;have hz:g < wr.heap.size:=Nat.lt_of_lt_of_le hg G.b.size;have A1:=Lib.hid (H1.out h hlt);have A2:=Lib.hid (H2.out h hlt);generalize l[h]=r at *;have CR:=Lib.hid (fun w=>CX.out r w);have hb1:(0:Int)≤h:=Yi;have hb2:(h:Int) < l.length:=Yi;obtain⟨q,hq⟩:∃q,ul r x=q:=⟨_,rfl⟩;rw[hq]at A1 A2;simp only[hq]at CR;refine ah [.val (.func (.func 42) #[] #[]),.val (.slice (Yn g) l.length cap),.val (Yp h),.val (.pointer (some ⟨g,h * 4,none⟩)),.val r.v,.val x.v,.val (Yp q),.val (.bool (decide (q < 0)))] Yh Yh (fun V=>finT) ?_ ?_
   ·refine⟨?_,?_,?_,?_,?_,?_,?_,?_,trivial⟩ <;> (first | exact trivial | exact osGr | (refine⟨osK,?_⟩;intro V u hu hk;refine⟨Yh,aw Yh ?_⟩;obtain⟨hc,hf,hz⟩:=hu.cells;go_simp;skip) | (refine⟨osK,?_⟩;intro V u hu hk;refine⟨Yh,?_⟩;obtain⟨hc,hf,hz⟩:=hu.cells;go_simp;skip) | (intro V u hu hk;refine⟨Yh,?_⟩;obtain⟨hc,hf,hz⟩:=hu.cells;go_simp;first | exact⟨rfl,Yu _⟩ | skip) | (intro V u hu hk;show _=false;kernel_rfl));exact CR.out _
   ·intro V u hg' hs;have gu:=gr.trans hg'
    by_cases hk:h < m
    ·have hq0:=A1.out hk;go_simp;go_wp2;exact⟨⟨h+1,j,Yj,rfl,Yi,Yi,Yi,gu⟩,by simp[intOf];omega⟩
    ·have hq0:=A2.out Yi;have hq1:decide (q < 0)=false:=by simpa using hq0
     go_simp;go_wp2;exact⟨⟨i,h,rfl,rfl,Yi,Yi,Yi,gu⟩,by simp[intOf];omega⟩
  ·have hij':¬(i:Int) < j:=Yi;obtain rfl:i=m:=Yi;obtain rfl:j=i:=Yi
   by_cases hk:j < l.length
   ·have hk':(j:Int) < l.length:=Yi;have fq:=Lib.hid (F1.out hk);obtain⟨g,rfl,hg,c0,c1,c2,c3⟩:=HC.out j hk;have G:=g0.trans gr;rw[←G.cells.1 g _ hg]at c0 c1 c2 c3;have hz:g < wr.heap.size:=Nat.lt_of_lt_of_le hg G.b.size;generalize l[j]=r at *;have CR:=Lib.hid (fun w=>CX.out r w);have hb1:(0:Int)≤j:=Yi;obtain⟨q,hq⟩:∃q,ul r x=q:=⟨_,rfl⟩;rw[hq]at fq;simp only[hq]at CR;obtain rfl:=fq.out;go_wp2_with fail;refine ah [.val (Yp j),.val (Yp j),.val (Yp l.length),.val (.bool true),.val (.bool true),.val (.func (.func 42) #[] #[]),.val (.slice (Yn g) l.length cap),.val (Yp j),.val (.pointer (some ⟨g,j * 4,none⟩)),.val r.v,.val x.v,.val (Yp q),.val (.bool (decide (q=0))),.val (.bool (decide (q=0))),.val (Yp j),.val (.bool (decide (q=0)))] Yh Yh (fun V=>finT) ?_ ?_
    ·refine⟨?_,?_,?_,?_,?_,?_,?_,?_,?_,?_,?_,?_,?_,?_,?_,?_,trivial⟩ <;> (first | exact trivial | exact osGr | (refine⟨osK,?_⟩;intro V u hu hk;refine⟨Yh,aw Yh ?_⟩;obtain⟨hc,hf,hz⟩:=hu.cells;go_simp;skip) | (refine⟨osK,?_⟩;intro V u hu hk;refine⟨Yh,?_⟩;obtain⟨hc,hf,hz⟩:=hu.cells;go_simp;skip) | (intro V u hu hk;refine⟨Yh,?_⟩;obtain⟨hc,hf,hz⟩:=hu.cells;go_simp;first | exact⟨rfl,Yu _⟩ | skip) | (intro V u hu hk;show _=false;kernel_rfl));exact CR.out _
    ·intro V u hg' hs;go_simp;go_wp2;go_ret2;exact⟨rfl,(g0.trans gr).trans hg'⟩
   ·have hk':¬(j:Int) < l.length:=Yi;obtain rfl:=F2.out hk;go_wp2_with fail;refine ah [.val (Yp j),.val (Yp j),.val (Yp l.length),.val (.bool false),.val (.bool false),.off,.off,.off,.off,.off,.off,.off,.off,.val (.bool false),.val (Yp j),.val (.bool false)] Yh Yh (fun V=>finT) ?_ ?_
    ·refine⟨?_,?_,?_,?_,?_,?_,?_,?_,?_,?_,?_,?_,?_,?_,?_,?_,trivial⟩ <;> (first | exact trivial | exact osGr | (refine⟨osK,?_⟩;intro V u hu hk;refine⟨Yh,aw Yh ?_⟩;obtain⟨hc,hf,hz⟩:=hu.cells;go_simp;skip) | (refine⟨osK,?_⟩;intro V u hu hk;refine⟨Yh,?_⟩;obtain⟨hc,hf,hz⟩:=hu.cells;go_simp;skip) | (intro V u hu hk;refine⟨Yh,?_⟩;obtain⟨hc,hf,hz⟩:=hu.cells;go_simp;first | exact⟨rfl,Yu _⟩ | skip) | (intro V u hu hk;show _=false;kernel_rfl))
    ·intro V u hg' hs;go_simp;go_wp2;go_ret2;exact⟨rfl,(g0.trans gr).trans hg'⟩
end
section
open Go.RowKit Go.Shelf
def okR (n:Int) (x:Rc):Bool:=ob n x.s x.k x.d x.t
def j5 (n:Int) (num day:Int) (p:Option Rc) (x:Rc):Int:=
 if okR n x=false then 1 else if (p.any fun q=>decide (0≤ul q x))=true then 6 else if x.k≠num+1 then 93 else if x.d < day then 7 else 0
def kr (n:Int) (p:Option Rc) (x:Rc):Int:=match p with
 | none=>j5 n 0 0 none x
 | some q=>if q.s=x.s then j5 n q.k q.d (some q) x else j5 n 0 0 (some q) x
def kw (n:Int) (l:List Rc) (i:Nat):Int:=match l[i]? with
 | none=>0
 | some x=>kr n (if i=0 then none else l[i-1]?) x
theorem Pb {n:Int} {l:List Rc} (h:0 < l.length):kw n l 0=j5 n 0 0 none l[0]:=by
 unfold kw;rw[List.getElem?_eq_getElem h];rfl
theorem Ja {n:Int} {l:List Rc} {i:Nat} (h:i+1 < l.length):kw n l (i+1)=kr n (some (l[i]'Yi)) l[i+1]:=by
 unfold kw;rw[List.getElem?_eq_getElem h,if_neg Yi,Nat.add_sub_cancel,List.getElem?_eq_getElem (show i < l.length by omega)]
def I8 (n:Int) (l:List Rc):Nat→Nat→Int×Int
 | 0,_=>(0,0)
 | f+1,i=>if i < l.length then if kw n l i≠0 then(i,kw n l i)else I8 n l f (i+1)else(0,0)
def ot (n:Int) (l:List Rc):Int×Int:=I8 n l (l.length+1) 0
theorem zd {n:Int} {l:List Rc}:∀(f i k:Nat),(∀j,j < k→j < l.length→kw n l j=0)→k≤l.length→i≤k→l.length+1≤f+i→I8 n l f i=I8 n l (f - (k - i)) k
 | 0,i,k,_,h,h1,h2=>by
  have:i=k:=Yi;subst this;simp
 | f+1,i,k,h,hk,h1,h2=>by
  by_cases e:i=k
  ·subst e;simp
  ·rw[I8,if_pos Yi,if_neg (by rw[h i Yi Yi];simp),zd f (i+1) k h hk Yi Yi];congr 1;omega
theorem jp {n:Int} {l:List Rc} {i:Nat} {e:Int} (h:∀j,j < i→j < l.length→kw n l j=0) (hi:i < l.length) (he:kw n l i=e) (h0:e≠0):ot n l=((i:Int),e):=by
 unfold ot;rw[zd _ 0 i h Yi Yi Yi];obtain⟨f,hf⟩:∃f,l.length+1 - (i - 0)=f+1:=⟨l.length - i,Yi⟩;rw[hf,I8,if_pos hi,if_pos (by rw[he];exact h0),he]
theorem Bw {n:Int} {l:List Rc} (h:∀j,j < l.length→kw n l j=0):ot n l=(0,0):=by
 unfold ot;rw[zd _ 0 l.length (fun j hj _=>h j hj) Yi Yi Yi];obtain⟨f,hf⟩:∃f,l.length+1 - (l.length - 0)=f+1:=⟨0,Yi⟩;rw[hf,I8,if_neg Yi]
theorem Ru {n a b:Int} {p:Option Rc} {x:Rc} (h:j5 n a b p x=0):okR n x=true:=by
 unfold j5 at h;cases hb:okR n x with
 | true=>rfl
 | false=>rw[hb]at h;simp at h
theorem okR_k {n:Int} {x:Rc} (h:okR n x=true):1≤x.k∧x.k≤400:=by
 unfold okR ob at h;simp only[Bool.and_eq_true,decide_eq_true_eq]at h;omega
theorem Jb {n:Int} {l:List Rc} {i:Nat} (hi:i < l.length) (h:kw n l i=0):okR n l[i]=true:=by
 unfold kw at h;rw[List.getElem?_eq_getElem hi]at h;dsimp only at h;unfold kr at h;split at h
 ·exact Ru h
 ·split at h
  iterate 2 ·exact Ru h
theorem Li (n:Int) (x:Rc) (w:World) (hn1: -1000000≤n) (hn2:n≤1000000) (ht:x.t.size≤100000):
  Calls prog 96 #[Yp n,x.v] w fun e w'=>e= .returned (.bool (okR n x))∧Gr w w':=Og n x.s x.k x.d x.t w hn1 hn2 ht
end
section
open Go.RowKit Go.Shelf
def dr (w:World) (v:Value) (l:List Rc):Prop:=∃a cap,v= .slice a l.length cap∧l.length≤cap∧∀j (hj:j < l.length),∃g o,a=some ⟨g,o,none⟩∧g < w.heap.size∧
  w.cell? ⟨g,o+j * 4,none⟩=some (.int .i64 l[j].s)∧w.cell? ⟨g,o+j * 4+1,none⟩=some (.int .i64 l[j].k)∧w.cell? ⟨g,o+j * 4+2,none⟩=some (.int .i64 l[j].d)∧w.cell? ⟨g,o+j * 4+3,none⟩=some (.string l[j].t)
theorem dr.gr {w w':World} {v:Value} {l:List Rc} (h:dr w v l) (g:Gr w w'):dr w' v l:=by
 obtain⟨a,cap,hv,hc,hr⟩:=h;refine⟨a,cap,hv,hc,fun j hj=>?_⟩;obtain⟨b,o,ha,hb,c0,c1,c2,c3⟩:=hr j hj;exact⟨b,o,ha,Nat.lt_of_lt_of_le hb g.b.size,(g.cells.1 b _ hb).trans c0,(g.cells.1 b _ hb).trans c1,(g.cells.1 b _ hb).trans c2,(g.cells.1 b _ hb).trans c3⟩
theorem RowR.recs {w:World} {v:Value} {l:List Rc} (h:RowR w v l):dr w v l:=by
 obtain⟨a,cap,hv,hc,hr⟩:=h.form;refine⟨a,cap,hv,hc,fun j hj=>?_⟩;obtain⟨b,ha,hb,c0,c1,c2,c3⟩:=hr j hj;refine⟨b,0,ha,hb,?_⟩;rw[Nat.zero_add];exact⟨c0,c1,c2,c3⟩
theorem dr.nil (w:World) (cap:Nat) (a:Option Addr):dr w (.slice a 0 cap) []:=⟨a,cap,rfl,Nat.zero_le _,fun _j hj=>absurd hj (Nat.not_lt_zero _)⟩
theorem Y8 (n:Int) (v:Value) (w:World) (hc:(decide (n=3) || decide (n=5))=false):
  Calls prog 39 #[Yp n,v] w fun e w'=>e= .returned (.tuple #[Yp 0,Yp 1])∧Gr w w':=by
 have IC:=Lib.hid (An n w);rw[hc]at IC;go_enter func39,ntmps39;go_wp2_with fail;refine IC.out.mono ?_;rintro e w1 ⟨rfl,hg1⟩;go_wp2;go_ret2;exact⟨rfl,hg1⟩
theorem Fb (n:Int) (v:Value) (l:List Rc) (w:World) (hn1: -1000000≤n) (hn2:n≤1000000) (hr:dr w v l) (hl:l.length≤1000000) (ht:∀x∈l,x.t.size≤100000) (hc:(decide (n=3) || decide (n=5))=true):
  Calls prog 39 #[Yp n,v] w fun e w'=>e= .returned (.tuple #[Yp (ot n l).1,Yp (ot n l).2])∧Gr w w':=by
 obtain⟨a,cap,rfl,hcap,hcell⟩:=hr;have HC:=Lib.hid hcell;have IC:=Lib.hid (fun w=>An n w);rw[hc]at IC;have FO:=Lib.hid (fun(j:Nat) (h:j < l.length) w=>Li n l[j] w hn1 hn2 (ht _ (List.getElem_mem h)));obtain⟨R1,R2,hR⟩:∃R1 R2,ot n l=(R1,R2):=⟨_,_,rfl⟩;rw[hR];have HR:=Lib.hid hR;clear hcell hc hR ht;go_enter func39,ntmps39;go_wp2_with fail;refine(IC.out _).mono ?_;rintro e w1 ⟨rfl,hg1⟩;clear IC;go_wp2;go_loopw [6,7,8,9,15] (fun _ _ _ _ q wr=>∃i:Nat,q= .int .i64 i∧i≤l.length∧Hid (∀j,j < i→j < l.length→kw n l j=0)∧Gr w wr) (fun _ _ _ _ q _=>l.length - (intOf q).toNat)
 case atStart=>exact⟨0,rfl,Yi,Lib.hid (fun j hj=>by omega),hg1⟩
 case round=>
  obtain⟨i,rfl,hi,HZ,gr⟩:=hrel
  by_cases hil:i < l.length
  ·have hil':(i:Int) < l.length:=Yi;have hi0:(0:Int)≤i:=Yi;obtain⟨g,o,rfl,hg,c0,c1,c2,c3⟩:=HC.out i hil;rw[←gr.cells.1 g _ hg]at c0 c1 c2 c3;have hz:g < wr.heap.size:=Nat.lt_of_lt_of_le hg gr.b.size;have FX:=Lib.hid (FO.out i hil);rcases Nat.eq_zero_or_pos i with rfl | hpos
   ·have HA:=Lib.hid (Pb (n:=n) hil);simp only[Nat.zero_mul,Nat.add_zero]at c0 c1 c2 c3;generalize l[0]=x at *;have bx:=ae wr (.cells #[Yp x.s,Yp x.k,Yp x.d,.string x.t] 36);have gu:=gr.alloc (.cells #[Yp x.s,Yp x.k,Yp x.d,.string x.t] 36);go_wp2_with fail;generalize wr.alloc (.cells #[Yp x.s,Yp x.k,Yp x.d,.string x.t] 36)=W at *;obtain⟨px,hpx⟩:∃p,wr.heap.size=p:=⟨_,rfl⟩;rw[hpx]at bx;rw[hpx];clear hpx c0 c1 c2 c3;obtain⟨cx,fx,zx⟩:=bw bx;refine ah [.val (Yp 0),.val (.bool false),.val (.bool false),.off,.off,.off,.off,.off,.off,.off,.off,.off,.val (.bool false)] Yh Yh (fun V=>finT) ?_ ?_
    ·exact Xm
    ·intro V u3 hg3 hs;have gu:=gu.trans hg3;have bx:=hg3.heap bx;clear cx fx zx;obtain⟨cx,fx,zx⟩:=bw bx;go_simp;go_wp2_with fail;refine(FX.out _).mono ?_;rintro e w4 ⟨rfl,hg4⟩;have gu:=gu.trans hg4;have bx:=hg4.heap bx;clear hg4 cx fx zx;obtain⟨cx,fx,zx⟩:=bw bx;obtain⟨b,hb⟩:∃b,okR n x=b:=⟨_,rfl⟩;rw[hb];have HB:=Lib.hid hb;clear hb;cases b
     ·go_wp2;go_ret2;obtain⟨rfl,rfl⟩:=Prod.ext_iff.1 (HR.out.symm.trans (jp HZ.out hil (e:=1) (by rw[HA.out];simp[j5,HB.out]) Yk));exact⟨Yj,gu⟩
     ·go_wp2_with fail;refine ah [.val (Yp 0),.val (.bool false),.val (.bool false),.off,.off,.off,.off,.off,.off,.off,.off,.val (.bool false),.val (.bool false)] Yh Yh (fun V=>finT) ?_ ?_
      ·exact Xm
      ·intro V u5 hg5 hs;have gu:=gu.trans hg5;have bx:=hg5.heap bx;clear cx fx zx;obtain⟨cx,fx,zx⟩:=bw bx;go_simp
       by_cases h93:x.k=1
       ·have e93:decide (x.k=1)=true:=by simpa using h93
        by_cases h7:x.d < 0
        ·go_wp2;go_ret2;obtain⟨rfl,rfl⟩:=Prod.ext_iff.1 (HR.out.symm.trans (jp HZ.out hil (e:=7) (by rw[HA.out];simp[j5,HB.out,h93,h7]) Yk));exact⟨Yj,gu⟩
        ·go_wp2;have NX:kw n l (0)=0:=by rw[HA.out];simp[j5,HB.out,h93,h7]
         exact⟨⟨1,Yj,Yi,Lib.hid (fun j hj hjl=>by
          rcases Nat.lt_or_ge j (0)with h | h
          ·exact HZ.out j h hjl
          ·obtain rfl:j=0:=Yi;exact NX),gu⟩,by simp[intOf];omega⟩
       ·have e93:decide (x.k=1)=false:=by simpa using h93
        go_wp2;go_ret2;obtain⟨rfl,rfl⟩:=Prod.ext_iff.1 (HR.out.symm.trans (jp HZ.out hil (e:=93) (by rw[HA.out];simp[j5,HB.out,h93]) Yk));exact⟨Yj,gu⟩
   ·obtain⟨i,rfl⟩:∃k,i=k+1:=⟨i - 1,Yi⟩;clear hpos;have HA:=Lib.hid (Ja (n:=n) hil);obtain⟨g2,o2,hge,_,d0,d1,d2,d3⟩:=HC.out i Yi;obtain⟨rfl,rfl⟩:g2=g∧o2=o:=by injection hge with h;injection h with h h2;exact⟨h.symm,h2.symm⟩
    clear hge;rw[←gr.cells.1 g2 _ hg]at d0 d1 d2 d3;obtain⟨k1,k2⟩:=okR_k (Jb (show i < l.length by omega) (HZ.out i Yi Yi));generalize l[i+1]=x at *;generalize l[i]=p at *;have C0:=Lib.hid c0;have q1:IntKind.i64.wrap ((i:Int)+1)=(i:Int)+1:=IntWalk.i64_in _ Yi;have q2:IntKind.i64.wrap (i:Int)=i:=IntWalk.i64_in _ Yi;have q3:(0:Int) < (i:Int)+1:=Yi;have q4:(i:Int) < l.length:=Yi;have q5:(0:Int)≤i:=Yi;have q6:((i:Int)+1).toNat=i+1:=Yi;have bx:=ae wr (.cells #[Yp x.s,Yp x.k,Yp x.d,.string x.t] 36);have gu:=gr.alloc (.cells #[Yp x.s,Yp x.k,Yp x.d,.string x.t] 36);go_wp2_with fail;generalize wr.alloc (.cells #[Yp x.s,Yp x.k,Yp x.d,.string x.t] 36)=W at *;obtain⟨px,hpx⟩:∃p,wr.heap.size=p:=⟨_,rfl⟩;rw[hpx]at bx;rw[hpx];clear hpx c0 c1 c2 c3 C0;obtain⟨cx,fx,zx⟩:=bw bx;have D0:=Lib.hid (fun(u:World) (h:Gr w u)=>show u.cell? ⟨g2,o2+i * 4,none⟩=some (.int .i64 p.s)∧u.cell? ⟨g2,o2+i * 4+1,none⟩=some (.int .i64 p.k)∧u.cell? ⟨g2,o2+i * 4+2,none⟩=some (.int .i64 p.d)∧u.cell? ⟨g2,o2+i * 4+3,none⟩=some (.string p.t)∧g2 < u.heap.size from by
     rw[gr.cells.1 g2 _ hg]at d0 d1 d2 d3;refine⟨(h.cells.1 g2 _ hg).trans d0,(h.cells.1 g2 _ hg).trans d1,(h.cells.1 g2 _ hg).trans d2,(h.cells.1 g2 _ hg).trans d3,Nat.lt_of_lt_of_le hg h.b.size⟩)
    clear d0 d1 d2 d3 hz;obtain⟨d0,d1,d2,d3,hz⟩:=D0.out _ gu
    by_cases hs:p.s=x.s
    ·have hd:decide (p.s=x.s)=true:=by simpa using hs
     have hd2:(p.s == x.s)=true:=by simpa using hs
     have hC:kr n (some p) x=j5 n p.k p.d (some p) x:=by unfold kr;simp only[hs,if_true]
     rw[hC]at HA;clear hC hs;refine ah [.val (Yp ((i:Int)+1)),.val (.bool true),.val (.bool true),.val (.slice (some ⟨g2,o2,none⟩) l.length cap),.val (Yp ((i:Int)+1)),.val (Yp i),.val (.pointer (some ⟨g2,o2+i * 4,none⟩)),.val (.pointer (some ⟨g2,o2+i * 4,none⟩)),.val (Yp p.s),.val (Ym px),.val (Yp x.s),.val (.bool true),.val (.bool true)] Yh Yh (fun V=>finT) ?_ ?_
     ·exact Xm
     ·intro V u3 hg3 hs3;have gu:=gu.trans hg3;have bx:=hg3.heap bx;clear cx fx zx d0 d1 d2 d3 hz;obtain⟨cx,fx,zx⟩:=bw bx;obtain⟨d0,d1,d2,d3,hz⟩:=D0.out _ gu;go_simp;go_wp2_with fail;refine ah [.val (.slice (some ⟨g2,o2,none⟩) l.length cap),.val (Yp ((i:Int)+1)),.val (Yp i),.val (.pointer (some ⟨g2,o2+i * 4,none⟩)),.val (.pointer (some ⟨g2,o2+i * 4+1,none⟩)),.val (Yp p.k),.val (.slice (some ⟨g2,o2,none⟩) l.length cap),.val (Yp ((i:Int)+1)),.val (Yp i),.val (.pointer (some ⟨g2,o2+i * 4,none⟩)),.val (.pointer (some ⟨g2,o2+i * 4+2,none⟩)),.val (Yp p.d),.val (Yp p.k),.val (Yp p.d)] Yh Yh (fun V=>finT) ?_ ?_
      ·refine⟨?_,?_,?_,?_,?_,?_,?_,?_,?_,?_,?_,?_,?_,?_,trivial⟩ <;> (first | exact trivial | exact osGr | (refine⟨osK,?_⟩;intro V u hu hk;refine⟨Yh,aw Yh ?_⟩;obtain⟨hc,hf,hz⟩:=hu.cells;go_simp;skip) | (refine⟨osK,?_⟩;intro V u hu hk;refine⟨Yh,?_⟩;obtain⟨hc,hf,hz⟩:=hu.cells;go_simp;skip) | (intro V u hu hk;refine⟨Yh,?_⟩;obtain⟨hc,hf,hz⟩:=hu.cells;go_simp;first | exact⟨rfl,Yu _⟩ | skip) | (intro V u hu hk;show _=false;kernel_rfl))
      ·intro V u7 hg7 hs7;have gu:=gu.trans hg7;have bx:=hg7.heap bx;clear cx fx zx d0 d1 d2 d3 hz;obtain⟨cx,fx,zx⟩:=bw bx;obtain⟨d0,d1,d2,d3,hz⟩:=D0.out _ gu;go_simp;go_wp2_with fail;refine(FX.out _).mono ?_;rintro e w4 ⟨rfl,hg4⟩;have gu:=gu.trans hg4;have bx:=hg4.heap bx;clear hg4 cx fx zx;obtain⟨cx,fx,zx⟩:=bw bx;clear d0 d1 d2 d3 hz;obtain⟨d0,d1,d2,d3,hz⟩:=D0.out _ gu;obtain⟨b,hb⟩:∃b,okR n x=b:=⟨_,rfl⟩;rw[hb];have HB:=Lib.hid hb;clear hb;cases b
       ·go_wp2;go_ret2;obtain⟨rfl,rfl⟩:=Prod.ext_iff.1 (HR.out.symm.trans (jp HZ.out hil (e:=1) (by rw[HA.out];simp[j5,HB.out]) Yk));exact⟨Yj,gu⟩
       ·go_wp2_with fail;have CR:=Lib.hid (fun w=>As p x w);obtain⟨q,hq⟩:∃q,ul p x=q:=⟨_,rfl⟩;rw[hq]at CR;have HQ:=Lib.hid hq;clear hq
        by_cases h6:0≤q
        ·have hd:decide (0≤q)=true:=by simpa using h6
         refine ah [.val (Yp ((i:Int)+1)),.val (.bool true),.val (.bool true),.val (.slice (some ⟨g2,o2,none⟩) l.length cap),.val (Yp ((i:Int)+1)),.val (Yp i),.val (.pointer (some ⟨g2,o2+i * 4,none⟩)),.val p.v,.val x.v,.val (Yp q),.val (.bool true),.val (.bool true),.val (.bool true)] Yh Yh (fun V=>finT) ?_ ?_
         ·exact Xk
         ·exact Xn
        ·have hd:decide (0≤q)=false:=by simpa using h6
         refine ah [.val (Yp ((i:Int)+1)),.val (.bool true),.val (.bool true),.val (.slice (some ⟨g2,o2,none⟩) l.length cap),.val (Yp ((i:Int)+1)),.val (Yp i),.val (.pointer (some ⟨g2,o2+i * 4,none⟩)),.val p.v,.val x.v,.val (Yp q),.val (.bool false),.val (.bool false),.val (.bool false)] Yh Yh (fun V=>finT) ?_ ?_
         ·exact Xk
         ·intro V u5 hg5 hs;have gu:=gu.trans hg5;have bx:=hg5.heap bx;clear cx fx zx;obtain⟨cx,fx,zx⟩:=bw bx;go_simp
          by_cases h93:x.k=p.k+1
          ·have e93:decide (x.k=p.k+1)=true:=by simpa using h93
           by_cases h7:x.d < p.d
           ·go_wp2;go_ret2;obtain⟨rfl,rfl⟩:=Prod.ext_iff.1 (HR.out.symm.trans (jp HZ.out hil (e:=7) (by rw[HA.out];simp[j5,HB.out,HQ.out,hd,h93,h7]) Yk));exact⟨Yj,gu⟩
           ·go_wp2;have NX:kw n l (i+1)=0:=by rw[HA.out];simp[j5,HB.out,HQ.out,hd,h93,h7]
            exact⟨⟨i+1+1,Yj,Yi,Lib.hid (fun j hj hjl=>by
             rcases Nat.lt_or_ge j (i+1)with h | h
             ·exact HZ.out j h hjl
             ·obtain rfl:j=i+1:=Yi;exact NX),gu⟩,by simp[intOf];omega⟩
          ·have e93:decide (x.k=p.k+1)=false:=by simpa using h93
           go_wp2;go_ret2;obtain⟨rfl,rfl⟩:=Prod.ext_iff.1 (HR.out.symm.trans (jp HZ.out hil (e:=93) (by rw[HA.out];simp[j5,HB.out,HQ.out,hd,h93]) Yk));exact⟨Yj,gu⟩
    ·have hd:decide (p.s=x.s)=false:=by simpa using hs
     have hd2:(p.s == x.s)=false:=by simpa using hs
     have hC:kr n (some p) x=j5 n 0 0 (some p) x:=by unfold kr;simp only[hs,if_false]
     rw[hC]at HA;clear hC hs;refine ah [.val (Yp ((i:Int)+1)),.val (.bool true),.val (.bool true),.val (.slice (some ⟨g2,o2,none⟩) l.length cap),.val (Yp ((i:Int)+1)),.val (Yp i),.val (.pointer (some ⟨g2,o2+i * 4,none⟩)),.val (.pointer (some ⟨g2,o2+i * 4,none⟩)),.val (Yp p.s),.val (Ym px),.val (Yp x.s),.val (.bool false),.val (.bool false)] Yh Yh (fun V=>finT) ?_ ?_
     ·exact Xm
     ·intro V u3 hg3 hs3;have gu:=gu.trans hg3;have bx:=hg3.heap bx;clear cx fx zx d0 d1 d2 d3 hz;obtain⟨cx,fx,zx⟩:=bw bx;obtain⟨d0,d1,d2,d3,hz⟩:=D0.out _ gu;go_simp;go_wp2_with fail;refine(FX.out _).mono ?_;rintro e w4 ⟨rfl,hg4⟩;have gu:=gu.trans hg4;have bx:=hg4.heap bx;clear hg4 cx fx zx;obtain⟨cx,fx,zx⟩:=bw bx;clear d0 d1 d2 d3 hz;obtain⟨d0,d1,d2,d3,hz⟩:=D0.out _ gu;obtain⟨b,hb⟩:∃b,okR n x=b:=⟨_,rfl⟩;rw[hb];have HB:=Lib.hid hb;clear hb;cases b
      ·go_wp2;go_ret2;obtain⟨rfl,rfl⟩:=Prod.ext_iff.1 (HR.out.symm.trans (jp HZ.out hil (e:=1) (by rw[HA.out];simp[j5,HB.out]) Yk));exact⟨Yj,gu⟩
      ·go_wp2_with fail;have CR:=Lib.hid (fun w=>As p x w);obtain⟨q,hq⟩:∃q,ul p x=q:=⟨_,rfl⟩;rw[hq]at CR;have HQ:=Lib.hid hq;clear hq
       by_cases h6:0≤q
       ·have hd:decide (0≤q)=true:=by simpa using h6
        refine ah [.val (Yp ((i:Int)+1)),.val (.bool true),.val (.bool true),.val (.slice (some ⟨g2,o2,none⟩) l.length cap),.val (Yp ((i:Int)+1)),.val (Yp i),.val (.pointer (some ⟨g2,o2+i * 4,none⟩)),.val p.v,.val x.v,.val (Yp q),.val (.bool true),.val (.bool true),.val (.bool true)] Yh Yh (fun V=>finT) ?_ ?_
        ·exact Xk
        ·exact Xn
       ·have hd:decide (0≤q)=false:=by simpa using h6
        refine ah [.val (Yp ((i:Int)+1)),.val (.bool true),.val (.bool true),.val (.slice (some ⟨g2,o2,none⟩) l.length cap),.val (Yp ((i:Int)+1)),.val (Yp i),.val (.pointer (some ⟨g2,o2+i * 4,none⟩)),.val p.v,.val x.v,.val (Yp q),.val (.bool false),.val (.bool false),.val (.bool false)] Yh Yh (fun V=>finT) ?_ ?_
        ·exact Xk
        ·intro V u5 hg5 hs;have gu:=gu.trans hg5;have bx:=hg5.heap bx;clear cx fx zx;obtain⟨cx,fx,zx⟩:=bw bx;go_simp
         by_cases h93:x.k=1
         ·have e93:decide (x.k=1)=true:=by simpa using h93
          by_cases h7:x.d < 0
          ·go_wp2;go_ret2;obtain⟨rfl,rfl⟩:=Prod.ext_iff.1 (HR.out.symm.trans (jp HZ.out hil (e:=7) (by rw[HA.out];simp[j5,HB.out,HQ.out,hd,h93,h7]) Yk));exact⟨Yj,gu⟩
          ·go_wp2;have NX:kw n l (i+1)=0:=by rw[HA.out];simp[j5,HB.out,HQ.out,hd,h93,h7]
           exact⟨⟨i+1+1,Yj,Yi,Lib.hid (fun j hj hjl=>by
            rcases Nat.lt_or_ge j (i+1)with h | h
            ·exact HZ.out j h hjl
            ·obtain rfl:j=i+1:=Yi;exact NX),gu⟩,by simp[intOf];omega⟩
         ·have e93:decide (x.k=1)=false:=by simpa using h93
          go_wp2;go_ret2;obtain⟨rfl,rfl⟩:=Prod.ext_iff.1 (HR.out.symm.trans (jp HZ.out hil (e:=93) (by rw[HA.out];simp[j5,HB.out,HQ.out,hd,h93]) Yk));exact⟨Yj,gu⟩
  ·have hil':¬(i:Int) < l.length:=Yi;obtain rfl:i=l.length:=Yi;go_wp2;go_ret2;obtain⟨rfl,rfl⟩:=Prod.ext_iff.1 (HR.out.symm.trans (Bw (fun j hj=>HZ.out j hj hj)));exact⟨rfl,gr⟩
end
end Go.Proofs.YtimcfaoabaflkaaGreatDoor
