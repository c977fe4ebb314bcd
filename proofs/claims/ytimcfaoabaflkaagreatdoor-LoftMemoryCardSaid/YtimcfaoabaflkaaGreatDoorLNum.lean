/- loft: numeral; the world condition. -/
import Derived.Test.YtimcfaoabaflkaaGreatDoorIdle
import Derived.Test.YtimcfaoabaflkaaGreatDoorShelfR
import Derived.Lib.AppendIntMem
import Derived.RangeFuncNested
import Derived.RangeFuncBound
import Derived.Shelf.RegionOpen
import Derived.OwnWalkIn
import Derived.TacticsInMore
import Derived.LoopNIn
import Derived.LoopIn
import Derived.RangeFuncBox
import Derived.Maps.AppendAt
namespace Go.Proofs.YtimcfaoabaflkaaGreatDoor
open AbA AbI
set_option maxHeartbeats 2000000
set_option maxRecDepth 100000
open Go.Proofs.Tryz
section
section
open Go.RowKit Go.Shelf
abbrev Tab (w:World):Prop:=Lib.TabIs prog w "internal/strconv.uint64pow10" .u64 Lib.pow10Tab
theorem Tab.gr {w w':World} (h:Tab w) (g:Gr w w'):Tab w':=Lib.tabBelow_of_tabIs h w' g.b
theorem Gr.grow (w:World) (k:Nat) (os:Array Obj):Gr w (Sort.grow (w.drewN k) os):=
 ⟨⟨rfl,rfl,rfl,by simp[Sort.grow],λj hj=>by simp[Sort.grow,Array.getElem?_append,hj]⟩,trivial⟩
theorem Mv (n:Int) (w:World) (h1: -9223372036854775808<=n) (h2:n<=9223372036854775807) (ht:Tab w):
  Calls prog 136 #[Yp n] w λe w'=>e= .returned (.string ⟨(Lib.itoa n).toArray⟩)/\Gr w w':=
 (Tryz.strconv_Itoa n h1 h2 w ht).mono λ_e _w' ⟨h,k,os,e'⟩=>⟨h,e'▸Gr.grow w k os⟩
structure TW (w:World):Prop where
 t:Tab w
 s:∃tp p,w.cell? ⟨3,0,none⟩=some (.iface tp p)
 r:∃tp p,w.cell? ⟨4,0,none⟩=some (.iface tp p)
 m:∃m,w.cell? ⟨2,0,none⟩=some (.int .i64 m)
theorem TW.gr {w w':World} (h:TW w) (g:Gr w w'):TW w':=by
 obtain⟨tp,p,h1⟩:=h.s;obtain⟨tp',p',h2⟩:=h.r;obtain⟨m,h3⟩:=h.m;exact⟨h.t.gr g,⟨tp,p,(g.cells.1 _ _ (World.block_lt_of_cell? _ _ h1)).trans h1⟩,⟨tp',p',(g.cells.1 _ _ (World.block_lt_of_cell? _ _ h2)).trans h2⟩,m,(g.cells.1 _ _ (World.block_lt_of_cell? _ _ h3)).trans h3⟩
theorem Pi {l:List UInt8} {v:Int} (h:Lib.atoiAll l= .ok v): -9223372036854775808<=v/\v<=9223372036854775807:=by
 cases l with
 | nil=>cases h
 | cons c r=>
  simp only[Lib.atoiAll]at h;split at h
  iterate 2 ·cases h
  ·split at h
   ·cases h
   ·split at h
    ·cases h
    ·split at h
     iterate 2 ·injection h with h;omega
def jh (l:List UInt8):Int:=match Lib.atoiAll l with | .ok v=>if Lib.itoa v=l then v else -1 | _=> -1
theorem Kj (s:ByteArray) (w:World) (hs:s.size<=100000) (tw:TW w):
  Calls prog 82 #[.string s] w λe w'=>e= .returned (Yp (jh s.data.toList))/\Gr w w':=by
 obtain⟨l,hl⟩:∃l,s.data.toList=l:=⟨_,rfl⟩;have HL:=Hd hl;have eqs:s.toList=l:=(ByteArray.toList_eq s).trans hl;have EQ:=Hd eqs;rw[hl];clear eqs;rcases ha:Lib.atoiAll l with v | _ | _
 ·have hb:=Pi ha;have AT:=Hd (λw=>Tryz.strconv_Atoi_ok s Yi v (hl▸ha) w);have IT:=Hd (λw' (g:Gr w w')=>Mv v w' hb.1 hb.2 (tw.t.gr g));have NV:jh l=if Lib.itoa v=l then v else -1:=by unfold jh;rw[ha]
  rw[NV];generalize Lib.itoa v=t at IT ⊢;obtain⟨q,hq⟩:∃q,(if t=l then v else -1)=q:=⟨_,rfl⟩;rw[hq];have HQ:=Hd hq;clear hb NV ha hl tw hq;go_enter func82,ntmps82;go_wp2_with fail;refine(AT.out _).mono ?_;rintro e w1 ⟨rfl,hw1⟩;have g1:Gr w w1:=by
   rcases hw1 with rfl | ⟨x,rfl⟩
   ·exact Yu _
   ·exact Gr.of_below (Lib.bytesWorld_below _ _ _)
  clear hw1;go_wp2_with fail;refine(IT.out _ g1).mono ?_;rintro e w2 ⟨rfl,hg2⟩
  by_cases hT:t=l
  ·have hc:(t == s.toList)=true:=by rw[EQ.out];exact beq_iff_eq.2 hT
   obtain rfl:q=v:=by rw[<-HQ.out,if_pos hT]
   clear hT;go_wp2;go_ret;exact⟨rfl,g1.trans hg2⟩
  ·have hc:(t == s.toList)=false:=by rw[EQ.out];exact beq_eq_false_iff_ne.2 hT
   obtain rfl:q= -1:=by rw[<-HQ.out,if_neg hT]
   clear hT;go_wp2;go_ret;exact⟨rfl,g1.trans hg2⟩
 ·obtain⟨tp,p,h1⟩:=tw.s;have AT:=Hd (Tryz.strconv_Atoi_syntax s Yi (hl▸ha) _ w h1 (.inr ⟨_,_,rfl⟩));have NV:jh l= -1:=by unfold jh;rw[ha]
  rw[NV];clear NV ha hl tw h1;go_enter func82,ntmps82;go_wp2_with fail;refine AT.out.mono ?_;rintro e w1 ⟨N,rfl,_,_,b⟩;go_wp2;go_ret;exact⟨rfl,Gr.of_below b⟩
 ·obtain⟨tp,p,h1⟩:=tw.r;have AT:=Hd (Tryz.strconv_Atoi_range s Yi (hl▸ha) _ w h1 (.inr ⟨_,_,rfl⟩));have NV:jh l= -1:=by unfold jh;rw[ha]
  rw[NV];clear NV ha hl tw h1;go_enter func82,ntmps82;go_wp2_with fail;refine AT.out.mono ?_;rintro e w1 ⟨N,rfl,_,_,b⟩;go_wp2;go_ret;exact⟨rfl,Gr.of_below b⟩
attribute [local go_sem] Oper.semAt_some
theorem GrL.heap {bs:List Nat} {W W':World} (g:GrL bs W W') {k:Nat} {o:Obj} (h:W.heap[k]?=some o) (hk:k∉bs):W'.heap[k]?=some o:=(g.block k (ai h) hk).trans h
theorem zbj:(prog.info? 9).map (λi=>(i.zero,i.size,i.bytes))=some (some (.string ⟨#[]⟩),1,16):=Yh
abbrev sv (l:List UInt8):Value:= .string ⟨l.toArray⟩
theorem zes (K:Nat):∀ws:List (List UInt8),(∀l∈ws,l.length<=K)->Lib.lens ws<=K * ws.length
 | [],_=>by simp[Lib.lens]
 | l :: ws,h=>by
  have:=zes K ws (λx hx=>h x (by simp[hx]));have:=h l Yj;have e:K * (ws.length+1)=K * ws.length+K:=Nat.mul_succ ..;simp only[Lib.lens,List.length_cons,List.map_cons,List.sum_cons,e]at *;omega
end
end
section
open Go.ChangeShapes Go.WideShapes Go.ChangeAt Go.RowKit Go.Joins
theorem star: "*" ++ "errors.errorString" = "*errors.errorString" :=Yk
theorem rowE (u:TypeId) (h:prog.typeName? 3 u=some "*errors.errorString"):u=402:=
 typeName_ptr_named (nm:= "errors.errorString") (by rw[star];kernel_rfl) Yh Yk u (by rw[star];exact h)
theorem zbR:prog.cellsOf 404=1:=Yh
theorem zbQ:prog.cellsOf 9=1:=Yh
theorem gES:prog.globalNamed "strconv.ErrSyntax" =some 3:=Yh
theorem gEST:(prog.globals[3]?).map (·.type)=some 250:=Yh
theorem gER:prog.globalNamed "strconv.ErrRange" =some 4:=Yh
theorem gERT:(prog.globals[4]?).map (·.type)=some 250:=Yh
theorem M6 {W:World} (h:laidMetH prog laid7 W) (hs:W.ShapedOpen prog):TW W:=by
 rw[MakeChecks.laidMetH_plain _ _ _ Yh]at h;have h3:=h.tail.tail.tail.tail;obtain⟨a1,s1,v1, -, -, -⟩:=laid_sentinel h3 gER gERT underlying250 rowE underlying402 underlying404 rfl rfl underlying9 zbR zbQ;obtain⟨a2,s2,v2, -, -, -⟩:=laid_sentinel h3.tail gES gEST underlying250 rowE underlying402 underlying404 rfl rfl underlying9 zbR zbQ;refine⟨?_,⟨_,_,by have h0:=World.var?_cell gES v2 0;simpa using h0⟩,⟨_,_,by have h0:=World.var?_cell gER v1 0;simpa using h0⟩,maxCell W hs⟩;obtain⟨ps,⟨g0,t0,cs0,f0,p0,q0,hg0,ht0,hv0,hd0,⟨g1,t1,cs1,f1,p1,q1,hg1,ht1,hv1,hd1,⟨g2,t2,cs2,f2,p2,q2,hg2,ht2,hv2,hd2,_,_⟩,_⟩,_⟩,_,_⟩:=h;obtain rfl:=Yt ((show prog.globalNamed "internal/strconv.uint64pow10" =some 5 by kernel_rfl).symm.trans hg2)
 obtain rfl:=Yt ((show(prog.globals[5]?).map (·.type)=some 406 by kernel_rfl).symm.trans ht2);have hd:DataW.trod _ prog W 0 _ _ f2 406 cs2.toList=some (Lib.tabData .u64 Lib.pow10Tab,p2):=hd2;have:=Lib.cells_of_tab (n:=20) (e:=37) underlying406 underlying37 Yh Yh hd;show W.var? prog _=_;rw[hv2,<-this]
end
section
open Go.RowKit Go.Shelf
def jo (x y:Int):Int:=if x < y then -1 else if y < x then 1 else 0
theorem yj (x:Int) (w:World):Calls prog 87 #[Yp x] w λe w'=>e= .returned (.bool false)/\w=w':=by
 go_enter func87,ntmps87;go_wp2;go_ret;exact⟨rfl,rfl⟩
theorem ml (x y:Int) (w:World):Calls prog 33 #[Yp x,Yp y] w λe w'=>e= .returned (Yp (jo x y))/\w=w':=by
 unfold jo
 by_cases h1:x < y
 ·rw[if_pos h1];go_enter func33,ntmps33;go_wp2_with (go_at_call 87;refine(yj _ _).mono ?_;rintro e w1 ⟨rfl,rfl⟩);go_ret;exact⟨rfl,rfl⟩
 ·rw[if_neg h1]
  by_cases h2:y < x
  ·rw[if_pos h2];go_enter func33,ntmps33;go_wp2_with (go_at_call 87;refine(yj _ _).mono ?_;rintro e w1 ⟨rfl,rfl⟩);go_ret;exact⟨rfl,rfl⟩
  ·rw[if_neg h2];go_enter func33,ntmps33;go_wp2_with (go_at_call 87;refine(yj _ _).mono ?_;rintro e w1 ⟨rfl,rfl⟩);go_ret;exact⟨rfl,rfl⟩
def orI (x y:Int):Int:=if x≠0 then x else y
theorem Px (g cap:Nat) (x y:Int) (w:World) (hx:w.cell? ⟨g,0,none⟩=some (.int .i64 x)) (hy:w.cell? ⟨g,1,none⟩=some (.int .i64 y)):
  Calls prog 53 #[.slice (Yn g) 2 cap] w λe w'=>e= .returned (Yp (orI x y))/\w=w':=by
 unfold orI
 by_cases h:x=0
 ·subst h
  by_cases k:y=0
  ·subst k;go_enter func53,ntmps53;go_wp2;refine wp_loop_rounds 3 ?_;rw[rounds_succ];go_wp2;rw[rounds_succ];go_wp2
   try (rw[rounds_succ];go_wp2)
   go_ret;exact⟨rfl,rfl⟩
  ·go_enter func53,ntmps53;go_wp2;refine wp_loop_rounds 3 ?_;rw[rounds_succ];go_wp2;rw[rounds_succ];go_wp2
   try (rw[rounds_succ];go_wp2)
   go_ret;exact⟨rfl,rfl⟩
 ·go_enter func53,ntmps53;go_wp2;refine wp_loop_rounds 3 ?_;rw[rounds_succ];go_wp2;go_ret;exact⟨iy (by simp),rfl⟩
def ul (a b:Rc):Int:=orI (jo a.s b.s) (jo a.k b.k)
theorem As (a b:Rc) (w:World):Calls prog 42 #[a.v,b.v] w λe w'=>e= .returned (Yp (ul a b))/\Gr w w':=by
 obtain⟨s,k,d,t⟩:=a;obtain⟨s2,k2,d2,t2⟩:=b;unfold ul Rc.v;dsimp only;have bx:=ae w (.cells #[Yp s,Yp k,Yp d,.string t] 36);have by_:=ae (w.alloc (.cells #[Yp s,Yp k,Yp d,.string t] 36)) (.cells #[Yp s2,Yp k2,Yp d2,.string t2] 36);have bx:=((Yu _).alloc (.cells #[Yp s2,Yp k2,Yp d2,.string t2] 36)).heap bx;have g0:Gr w ((w.alloc (.cells #[Yp s,Yp k,Yp d,.string t] 36)).alloc (.cells #[Yp s2,Yp k2,Yp d2,.string t2] 36)):=((Yu w).alloc _).alloc _;simp only[World.size_alloc]at by_;go_enter func42,ntmps42;go_wp2;generalize (w.alloc (.cells #[Yp s,Yp k,Yp d,.string t] 36)).alloc (.cells #[Yp s2,Yp k2,Yp d2,.string t2] 36)=W at *;obtain⟨p2,h2⟩:∃p2,w.heap.size+1=p2:=⟨_,rfl⟩;rw[h2]at by_;rw[h2];clear h2;generalize w.heap.size=p1 at *;obtain⟨cx,fx,zx⟩:=ed bx;obtain⟨cy,fy,zy⟩:=ed by_;refine ah [.val (Ym p1),.val (Yp s),.val (Ym p2),.val (Yp s2),.val (Yp (jo s s2)),.val (.pointer (some ⟨p1,1,none⟩)),.val (Yp k),.val (.pointer (some ⟨p2,1,none⟩)),.val (Yp k2),.val (Yp (jo k k2)),.sat (λv u=>∃g,v= .slice (Yn g) 2 2/\u.heap[g]?=some (.cells #[Yp (jo s s2),Yp (jo k k2)] 3 (0,0))),.val (Yp (orI (jo s s2) (jo k k2))),.val (Yp (orI (jo s s2) (jo k k2)))] Yh Yh (λV=>finT) ?_ ?_
 ·refine⟨?_,?_,?_,?_,?_,?_,?_,?_,?_,?_,?_,?_,?_,trivial⟩ <;> (first | exact trivial | exact osGr | (refine⟨osK,?_⟩;intro V u hu hk;refine⟨Yh,aw Yh ?_⟩;obtain⟨hc,hf,hz⟩:=hu.cells;go_simp;skip) | (refine⟨osK,?_⟩;intro V u hu hk;refine⟨Yh,?_⟩;obtain⟨hc,hf,hz⟩:=hu.cells;go_simp;skip) | (intro V u hu hk;refine⟨Yh,?_⟩;obtain⟨hc,hf,hz⟩:=hu.cells;go_simp;first | exact⟨rfl,Yu _⟩ | skip) | (intro V u hu hk;show _=false;kernel_rfl))
  iterate 2 ·exact(ml _ _ _).mono λe w' ⟨h,e'⟩=>⟨h,e'▸Yu _⟩
  ·obtain⟨g,hv,hb⟩:=hk 10 _ rfl Yh;rw[hv];obtain⟨cg,fg,zg⟩:=ed hb;exact(Px g 2 _ _ _ (cg 0) (cg 1)).mono λe w' ⟨h,e'⟩=>⟨h,e'▸Yu _⟩
 ·intro V u hg hs;go_simp;go_wp2;go_ret;exact⟨rfl,g0.trans hg⟩
theorem zdd (v:Value) (l:List Rc) (x:Rc) (m:Nat) (fb:Bool) (w:World) (hr:RowR w v l) (hl:l.length<=1000000) (hm:m<=l.length)
  (h1:∀j (hj:j < l.length),j < m->ul l[j] x < 0) (h2:∀j (hj:j < l.length),m<=j->¬ul l[j] x < 0)
  (f1:∀h:m < l.length,fb=decide (ul l[m] x=0)) (f2:¬m < l.length->fb=false):
  Calls prog 41 #[v,x.v,.func (.func 42) #[] #[]] w λe w'=>e= .returned (.tuple #[Yp m,.bool fb])/\Gr w w':=by
 obtain⟨a,cap,rfl,hcap,hcell⟩:=hr.form;have HC:=Hd hcell;have H1:=Hd h1;have H2:=Hd h2;have F1:=Hd f1;have F2:=Hd f2;have CX:=Hd (fun(r:Rc) w=>As r x w);have HX:x.v= .agg #[Yp x.s,Yp x.k,Yp x.d,.string x.t]:=rfl;rw[HX];have HX:=Hd HX;have bx:=ae w (.cells #[Yp x.s,Yp x.k,Yp x.d,.string x.t] 36);have g0:Gr w (w.alloc (.cells #[Yp x.s,Yp x.k,Yp x.d,.string x.t] 36)):=(Yu w).alloc _;clear hcell hr h1 h2 f1 f2;go_enter func41,ntmps41;go_wp2;generalize w.alloc (.cells #[Yp x.s,Yp x.k,Yp x.d,.string x.t] 36)=W at *;obtain⟨px,hpx⟩:∃p,w.heap.size=p:=⟨_,rfl⟩;rw[hpx]at bx;rw[hpx];clear hpx;go_loopw [9,10] (λp q wr=>∃i j:Nat,p= .int .i64 i/\q= .int .i64 j/\i<=m/\m<=j/\j<=l.length/\Gr W wr) (λp q _=>(intOf q).toNat - (intOf p).toNat)
 case atStart=>exact⟨0,l.length,rfl,rfl,Yi,Yi,Yi,Yu _⟩
 case round=>
  obtain⟨i,j,rfl,rfl,hi,hj,hjl,gr⟩:=hrel;have bx':=gr.heap bx;obtain⟨cx,fx,zx⟩:=ed bx'
  by_cases hij:i < j
  ·have hij':(i:Int) < j:=Yi;go_wp2_with fail;obtain⟨h,hh⟩:∃h:Nat,((i:Int)+j) / 2=h:=⟨(i+j) / 2,Yi⟩;rw[hh];have hh1:i<=h:=Yi;have hh2:h < j:=Yi;clear hh;have hlt:h < l.length:=Yi;obtain⟨g,rfl,hg,c0,c1,c2,c3⟩:=HC.out h hlt;have G:=g0.trans gr;rw[<-G.cells.1 g _ hg]at c0 c1 c2 c3;have hz:g < wr.heap.size:=Nat.lt_of_lt_of_le hg G.b.size;have A1:=Hd (H1.out h hlt);have A2:=Hd (H2.out h hlt);generalize l[h]=r at *;have CR:=Hd (λw=>CX.out r w);have hb1:(0:Int)<=h:=Yi;have hb2:(h:Int) < l.length:=Yi;obtain⟨q,hq⟩:∃q,ul r x=q:=⟨_,rfl⟩;rw[hq]at A1 A2;simp only[hq]at CR;refine ah [.val (.func (.func 42) #[] #[]),.val (.slice (Yn g) l.length cap),.val (Yp h),.val (.pointer (some ⟨g,h * 4,none⟩)),.val r.v,.val x.v,.val (Yp q),.val (.bool (decide (q < 0)))] Yh Yh (λV=>finT) ?_ ?_
   ·refine⟨?_,?_,?_,?_,?_,?_,?_,?_,trivial⟩ <;> (first | exact trivial | exact osGr | (refine⟨osK,?_⟩;intro V u hu hk;refine⟨Yh,aw Yh ?_⟩;obtain⟨hc,hf,hz⟩:=hu.cells;go_simp;skip) | (refine⟨osK,?_⟩;intro V u hu hk;refine⟨Yh,?_⟩;obtain⟨hc,hf,hz⟩:=hu.cells;go_simp;skip) | (intro V u hu hk;refine⟨Yh,?_⟩;obtain⟨hc,hf,hz⟩:=hu.cells;go_simp;first | exact⟨rfl,Yu _⟩ | skip) | (intro V u hu hk;show _=false;kernel_rfl));exact CR.out _
   ·intro V u hg' hs;have gu:=gr.trans hg'
    by_cases hk:h < m
    ·have hq0:=A1.out hk;go_simp;go_wp2;exact⟨⟨h+1,j,Yj,rfl,Yi,Yi,Yi,gu⟩,by simp[intOf];omega⟩
    ·have hq0:=A2.out Yi;have hq1:decide (q < 0)=false:=by simpa using hq0
     go_simp;go_wp2;exact⟨⟨i,h,rfl,rfl,Yi,Yi,Yi,gu⟩,by simp[intOf];omega⟩
  ·have hij':¬(i:Int) < j:=Yi;obtain rfl:i=m:=Yi;obtain rfl:j=i:=Yi
   by_cases hk:j < l.length
   ·have hk':(j:Int) < l.length:=Yi;have fq:=Hd (F1.out hk);obtain⟨g,rfl,hg,c0,c1,c2,c3⟩:=HC.out j hk;have G:=g0.trans gr;rw[<-G.cells.1 g _ hg]at c0 c1 c2 c3;have hz:g < wr.heap.size:=Nat.lt_of_lt_of_le hg G.b.size;generalize l[j]=r at *;have CR:=Hd (λw=>CX.out r w);have hb1:(0:Int)<=j:=Yi;obtain⟨q,hq⟩:∃q,ul r x=q:=⟨_,rfl⟩;rw[hq]at fq;simp only[hq]at CR;obtain rfl:=fq.out;go_wp2_with fail;refine ah [.val (Yp j),.val (Yp j),.val (Yp l.length),.val (.bool true),.val (.bool true),.val (.func (.func 42) #[] #[]),.val (.slice (Yn g) l.length cap),.val (Yp j),.val (.pointer (some ⟨g,j * 4,none⟩)),.val r.v,.val x.v,.val (Yp q),.val (.bool (decide (q=0))),.val (.bool (decide (q=0))),.val (Yp j),.val (.bool (decide (q=0)))] Yh Yh (λV=>finT) ?_ ?_
    ·refine⟨?_,?_,?_,?_,?_,?_,?_,?_,?_,?_,?_,?_,?_,?_,?_,?_,trivial⟩ <;> (first | exact trivial | exact osGr | (refine⟨osK,?_⟩;intro V u hu hk;refine⟨Yh,aw Yh ?_⟩;obtain⟨hc,hf,hz⟩:=hu.cells;go_simp;skip) | (refine⟨osK,?_⟩;intro V u hu hk;refine⟨Yh,?_⟩;obtain⟨hc,hf,hz⟩:=hu.cells;go_simp;skip) | (intro V u hu hk;refine⟨Yh,?_⟩;obtain⟨hc,hf,hz⟩:=hu.cells;go_simp;first | exact⟨rfl,Yu _⟩ | skip) | (intro V u hu hk;show _=false;kernel_rfl));exact CR.out _
    ·intro V u hg' hs;go_simp;go_wp2;go_ret2;exact⟨rfl,(g0.trans gr).trans hg'⟩
   ·have hk':¬(j:Int) < l.length:=Yi;obtain rfl:=F2.out hk;go_wp2_with fail;refine ah [.val (Yp j),.val (Yp j),.val (Yp l.length),.val (.bool false),.val (.bool false),.off,.off,.off,.off,.off,.off,.off,.off,.val (.bool false),.val (Yp j),.val (.bool false)] Yh Yh (λV=>finT) ?_ ?_
    ·refine⟨?_,?_,?_,?_,?_,?_,?_,?_,?_,?_,?_,?_,?_,?_,?_,?_,trivial⟩ <;> exact osA
    ·intro V u hg' hs;go_simp;go_wp2;go_ret2;exact⟨rfl,(g0.trans gr).trans hg'⟩
def okR (n:Int) (x:Rc):Bool:=ob n x.s x.k x.d x.t
def j5 (n:Int) (num day:Int) (p:Option Rc) (x:Rc):Int:=
 if okR n x=false then 1 else if (p.any λq=>decide (0<=ul q x))=true then 6 else if x.k≠num+1 then 93 else if x.d < day then 7 else 0
def kr (n:Int) (p:Option Rc) (x:Rc):Int:=match p with
 | none=>j5 n 0 0 none x
 | some q=>if q.s=x.s then j5 n q.k q.d (some q) x else j5 n 0 0 (some q) x
def kw (n:Int) (l:List Rc) (i:Nat):Int:=match l[i]? with
 | none=>0
 | some x=>kr n (if i=0 then none else l[i-1]?) x
theorem Pb {n:Int} {l:List Rc} (h:0 < l.length):kw n l 0=j5 n 0 0 none l[0]:=by
 unfold kw;rw[List.getElem?_eq_getElem h];rfl
theorem Ja {n:Int} {l:List Rc} {i:Nat} (h:i+1 < l.length):kw n l (i+1)=kr n (some (l[i]'Yi)) l[i+1]:=by
 unfold kw;rw[List.getElem?_eq_getElem h,if_neg Yi,Nat.add_sub_cancel,List.getElem?_eq_getElem (show i < l.length by omega)]
def I8 (n:Int) (l:List Rc):Nat->Nat->Int×Int
 | 0,_=>(0,0)
 | f+1,i=>if i < l.length then if kw n l i≠0 then(i,kw n l i)else I8 n l f (i+1)else(0,0)
def ot (n:Int) (l:List Rc):Int×Int:=I8 n l (l.length+1) 0
theorem zd {n:Int} {l:List Rc}:∀(f i k:Nat),(∀j,j < k->j < l.length->kw n l j=0)->k<=l.length->i<=k->l.length+1<=f+i->I8 n l f i=I8 n l (f - (k - i)) k
 | 0,i,k,_,h,h1,h2=>by
  have:i=k:=Yi;subst this;simp
 | f+1,i,k,h,hk,h1,h2=>by
  by_cases e:i=k
  ·subst e;simp
  ·rw[I8,if_pos Yi,if_neg (by rw[h i Yi Yi];simp),zd f (i+1) k h hk Yi Yi];congr 1;omega
theorem jp {n:Int} {l:List Rc} {i:Nat} {e:Int} (h:∀j,j < i->j < l.length->kw n l j=0) (hi:i < l.length) (he:kw n l i=e) (h0:e≠0):ot n l=((i:Int),e):=by
 unfold ot;rw[zd _ 0 i h Yi Yi Yi];obtain⟨f,hf⟩:∃f,l.length+1 - (i - 0)=f+1:=⟨l.length - i,Yi⟩;rw[hf,I8,if_pos hi,if_pos (by rw[he];exact h0),he]
theorem Bw {n:Int} {l:List Rc} (h:∀j,j < l.length->kw n l j=0):ot n l=(0,0):=by
 unfold ot;rw[zd _ 0 l.length (λj hj _=>h j hj) Yi Yi Yi];obtain⟨f,hf⟩:∃f,l.length+1 - (l.length - 0)=f+1:=⟨0,Yi⟩;rw[hf,I8,if_neg Yi]
theorem Ru {n a b:Int} {p:Option Rc} {x:Rc} (h:j5 n a b p x=0):okR n x=true:=by
 unfold j5 at h;cases hb:okR n x with
 | true=>rfl
 | false=>rw[hb]at h;simp at h
theorem okR_k {n:Int} {x:Rc} (h:okR n x=true):1<=x.k/\x.k<=400:=by
 unfold okR ob at h;simp only[Bool.and_eq_true,decide_eq_true_eq]at h;omega
theorem Jb {n:Int} {l:List Rc} {i:Nat} (hi:i < l.length) (h:kw n l i=0):okR n l[i]=true:=by
 unfold kw at h;rw[List.getElem?_eq_getElem hi]at h;dsimp only at h;unfold kr at h;split at h
 ·exact Ru h
 ·split at h
  iterate 2 ·exact Ru h
theorem Li (n:Int) (x:Rc) (w:World) (hn1: -1000000<=n) (hn2:n<=1000000) (ht:x.t.size<=100000):
  Calls prog 96 #[Yp n,x.v] w λe w'=>e= .returned (.bool (okR n x))/\Gr w w':=Og n x.s x.k x.d x.t w hn1 hn2 ht
end
end Go.Proofs.YtimcfaoabaflkaaGreatDoor
