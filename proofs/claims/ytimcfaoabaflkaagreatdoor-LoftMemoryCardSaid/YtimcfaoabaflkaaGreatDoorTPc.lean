/- ledger.piece: a piece more for a pattern. -/
import Derived.Test.YtimcfaoabaflkaaGreatDoorRSP
namespace Go.Proofs.YtimcfaoabaflkaaGreatDoor
open AbA AbI
set_option maxHeartbeats 4000000
set_option maxRecDepth 100000
open Go.Proofs.Tryz
theorem Ue {P:Prop} (h:P:=by
 refine⟨?_,?_,?_,?_,?_,?_,?_,trivial⟩
 iterate 5 ·(intro V u hu hk;refine⟨Yh,?_⟩;obtain⟨ce,fe,ze⟩:=ed (hu.heap HE.out);obtain⟨cl,fl,zl⟩:=ed (hu.heap HL.out);go_simp;first | exact⟨rfl,Yu _⟩ | skip)
 ·(intro V u hu hk;refine⟨Yh,?_⟩;obtain⟨ce,fe,ze⟩:=ed (hu.heap HE.out);obtain⟨cl,fl,zl⟩:=ed (hu.heap HL.out);go_simp;first | exact⟨rfl,Yu _⟩ | skip)
  refine(KP.out u hu).mono ?_;rintro e w' ⟨g,h⟩;obtain⟨g',hg',he⟩:=h;cases hg';exact⟨he,g⟩
 ·(intro V u hu hk;refine⟨Yh,?_⟩;obtain⟨ce,fe,ze⟩:=ed (hu.heap HE.out);obtain⟨cl,fl,zl⟩:=ed (hu.heap HL.out);go_simp;first | exact⟨rfl,Yu _⟩ | skip)):P:=h
section
open Go.RowKit Go.Shelf Go.Lib
theorem yn {α:Type} (enc:α->List Value) (k:Nat) (hk:∀x,(enc x).length=k):∀(l:List α) (i j:Nat) (hi:i < l.length) (_:j < k) (x:Value) (y:α),enc y=(enc l[i]).set j x->(l.flatMap enc).set (i * k+j) x=(l.set i y).flatMap enc
 | [],i,j,hi,_,_,_,_=>by simp at hi
 | a :: l,0,j,_,hj,x,y,hy=>by
  rw[List.flatMap_cons,List.set_cons_zero,List.flatMap_cons,Nat.zero_mul,Nat.zero_add,List.set_append,if_pos (by rw[hk];exact hj)];rw[hy];rfl
 | a :: l,i+1,j,hi,hj,x,y,hy=>by
  have e:(i+1) * k+j=k+(i * k+j):=by rw[Nat.succ_mul];omega
  rw[List.flatMap_cons,List.set_cons_succ,List.flatMap_cons,e,List.set_append,if_neg (by rw[hk];omega),hk,Nat.add_sub_cancel_left];rw[yn enc k hk l i j (by simpa using hi) hj x y hy]
theorem gc {α:Type} (enc:α->List Value) (k:Nat) (hk:∀x,(enc x).length=k) {w:World} {base:Nat} {T:TypeId} {g cap:Nat} {l:List α} (h:w.ownsRow base T k (.slice (Yn g) l.length cap) l.length (l.flatMap enc)) (i j:Nat) (hi:i < l.length) (hj:j < k) (x:Value) (hx:(enc l[i])[j]?=some x):w.cell? ⟨g,i * k+j,none⟩=some x:=by
 have hlt:i * k+j < l.length * k:=by
  have:(i+1) * k<=l.length * k:=Nat.mul_le_mul_right k hi;rw[Nat.succ_mul]at this;omega
 rw[h.cellAt (i * k+j) hlt,qo enc k hk l i j hi hj];exact hx
theorem QOk.p_form {w:World} {base:Nat} {q:Q3} (h:QOk w base q):∃a c,q.p.v= .slice a q.k.pieces.length c:=by
 obtain⟨a,c,e,_⟩:=aj h.p;exact⟨a,c,e⟩
theorem QOk.a_form {w:World} {base:Nat} {q:Q3} (h:QOk w base q):∃a c,q.a.v= .slice a q.k.acts.length c:=by
 obtain⟨a,c,e,_⟩:=aj h.a;exact⟨a,c,e⟩
theorem az.form {w:World} {base:Nat} {v:Value} {Q:List Q3} (h:az w base v Q) (hn:0 < Q.length):∃g cap,v= .slice (Yn g) Q.length cap/\base<=g/\(∃cur,w.heap[g]?=some (.cells cur 47 (0,0)))/\Q.length<=cap:=by
 rcases h.r.2 with ⟨_,h0⟩ | ⟨g,cap,cur,rfl,hb,hg,hc,_⟩
 ·omega
 ·exact⟨g,cap,rfl,hb,⟨cur,hg⟩,hc⟩
theorem QOk.set {w:World} {base g j:Nat} {q:Q3} {cur:Array Value} (x:Value) (h:QOk w base q) (hg:w.heap[g]?=some (.cells cur 47 (0,0))):QOk (w.setCell (Yo g j) x) base q:=by
 refine⟨ownsRow_setCell_other h.p (a:=⟨g,j,none⟩) (λe=>?_) x,ownsRow_setCell_other h.a (a:=⟨g,j,none⟩) (λe=>?_) x⟩
 ·obtain⟨c,h1⟩:=bi h.p e;rw[hg]at h1;simp at h1
 ·obtain⟨c,h1⟩:=bi h.a e;rw[hg]at h1;simp at h1
theorem Kp.many_le {K:List Kp} {n:Int} {i:Nat} (h:gh K n=some i):i < K.length:=(i8 h).1
theorem Tg (Lb base:Nat) (v:Value) (Q:List Q3) (wd:ByteArray) (n s0 s1 s2 s3 s4 s5 s6 s7 k:Nat) (pc:Int) (c0 c1 c2 c3 c4 c5 c6 c7:Nat) (w:World) (hL:w.heap[Lb]?=some (.cells #[v] 88 (0,0))) (hB:az w base v Q) (hl:Q.length<=1000) (hbs:base<=w.heap.size):
  Calls prog 153 #[Ym Lb,.agg #[.string wd,Yp n,s0,s1,s2,s3,s4,s5,s6,s7,Ys k,Yp pc,c0,c1,c2,c3,c4,c5,c6,c7]] w λe w'=>∃Q' r,e= .returned (Yp (r:Nat))/\(Q'.map Q3.k,r)=ay (Q.map Q3.k) (some (.keep n (⟨s0,s1,s2,s3,s4,s5,s6,s7⟩:S8)))/\az w' base v Q'/\GrL v.ownBlock.toList w w':=by
 have gI:=(Yu w).alloc (.cells #[.string wd,Yp n,s0,s1,s2,s3,s4,s5,s6,s7,Ys k,Yp pc,c0,c1,c2,c3,c4,c5,c6,c7] 90);have h0:=ae w (.cells #[.string wd,Yp n,s0,s1,s2,s3,s4,s5,s6,s7,Ys k,Yp pc,c0,c1,c2,c3,c4,c5,c6,c7] 90);have KP:=hid (λu (g:Gr (w.alloc (.cells #[.string wd,Yp n,s0,s1,s2,s3,s4,s5,s6,s7,Ys k,Yp pc,c0,c1,c2,c3,c4,c5,c6,c7] 90)) u)=>Kz Lb base v 88 Q n u ((gI.trans g).heap hL) (hB.gr (gI.trans g)) hl);have GI:=hid gI;have HE:=hid h0;have HL:=hid (gI.heap hL);have HB:=hid (hB.gr gI);have HBS:=hid (Nat.le_trans hbs gI.b.size);have HBW:=hid hB;clear gI h0 hL hB hbs;cases ho:gh (Q.map Q3.k) n with
 | none=>
  rw[ho]at KP;have HR:Hid (ay (Q.map Q3.k) (some (.keep n (⟨s0,s1,s2,s3,s4,s5,s6,s7⟩:S8)))=(Q.map Q3.k,5)):=hid (by simp only[ay,ho]);clear ho;go_enter func153,ntmps153;go_wp2;generalize w.alloc (.cells #[.string wd,Yp n,s0,s1,s2,s3,s4,s5,s6,s7,Ys k,Yp pc,c0,c1,c2,c3,c4,c5,c6,c7] 90)=U at *;refine ah [.val (Ym Lb),.val (Ym Lb),.val (Ym Lb),.val (.pointer (some ⟨w.heap.size,1,none⟩)),.val (Yp n),.val (.pointer none),.val (.pointer none)] Yh Yh (λV=>finT) ?_ ?_
  ·refine⟨?_,?_,?_,?_,?_,?_,?_,trivial⟩
   iterate 5 ·(intro V u hu hk;refine⟨Yh,?_⟩;obtain⟨ce,fe,ze⟩:=ed (hu.heap HE.out);obtain⟨cl,fl,zl⟩:=ed (hu.heap HL.out);go_simp;first | exact⟨rfl,Yu _⟩ | skip)
   ·(intro V u hu hk;refine⟨Yh,?_⟩;obtain⟨ce,fe,ze⟩:=ed (hu.heap HE.out);obtain⟨cl,fl,zl⟩:=ed (hu.heap HL.out);go_simp;first | exact⟨rfl,Yu _⟩ | skip)
    refine(KP.out u hu).mono ?_;rintro e w' ⟨g,h⟩;exact⟨h,g⟩
   ·(intro V u hu hk;refine⟨Yh,?_⟩;obtain⟨ce,fe,ze⟩:=ed (hu.heap HE.out);obtain⟨cl,fl,zl⟩:=ed (hu.heap HL.out);go_simp;first | exact⟨rfl,Yu _⟩ | skip)
  ·intro V1 w1 g1 _;go_wp2;go_ret;exact⟨Q,5,rfl,HR.out.symm,HB.out.gr g1,GrL.of_gr (GI.out.trans g1)⟩
 | some i=>
  have hi:i < Q.length:=by simpa using Kp.many_le ho
  obtain⟨g,cap,rfl,hbg,⟨cur,hgb⟩,hcap⟩:=HBW.out.form Yi;rw[ho]at KP;obtain⟨q,hq⟩:∃q,Q[i]=q:=⟨_,rfl⟩;have hgd:(Q.map Q3.k).getD i default=q.k:=by simp[List.getD,hi,hq]
  have hqo:QOk w base q:=HBW.out.q q (hq▸List.getElem_mem hi);obtain⟨pa,pc',hpv⟩:=hqo.p_form;have hcp:=gc Q3.cs 13 Q3.cs_len HBW.out.r i 11 hi Yk q.p.v (by rw[hq];rfl);rw[hpv]at hcp;have CP:=hid ((GI.out.cells.1 g _ (ai hgb)).trans hcp);have HGL:=hid (ai (GI.out.heap hgb));have HGB:=hid (GI.out.heap hgb);have HQ:=hid (hqo.gr GI.out);have EP:=hid hpv;have HQI:=hid hq;clear hcp hqo hpv hq;go_enter func153,ntmps153
  by_cases h8:8<=q.k.pieces.length
  ·have HR:Hid (ay (Q.map Q3.k) (some (.keep n (⟨s0,s1,s2,s3,s4,s5,s6,s7⟩:S8)))=(Q.map Q3.k,2)):=hid (by simp only[ay,ho,hgd,if_pos h8]);have h8':(8:Int)<=q.k.pieces.length:=Yi;clear ho hgd;go_wp2;generalize w.alloc (.cells #[.string wd,Yp n,s0,s1,s2,s3,s4,s5,s6,s7,Ys k,Yp pc,c0,c1,c2,c3,c4,c5,c6,c7] 90)=U at *;refine ah [.val (Ym Lb),.val (Ym Lb),.val (Ym Lb),.val (.pointer (some ⟨w.heap.size,1,none⟩)),.val (Yp n),.val (.pointer (some ⟨g,i * 13,none⟩)),.val (.pointer (some ⟨g,i * 13,none⟩))] Yh Yh (λV=>finT) ?_ ?_
   ·exact Ue
   ·intro V1 w1 g1 _;have cpv:=(g1.cells.1 g _ HGL.out).trans CP.out;go_wp2;go_ret;exact⟨Q,2,rfl,HR.out.symm,HB.out.gr g1,GrL.of_gr (GI.out.trans g1)⟩
  ·have HR:Hid (ay (Q.map Q3.k) (some (.keep n (⟨s0,s1,s2,s3,s4,s5,s6,s7⟩:S8)))=((Q.map Q3.k).set i {q.k with pieces:=q.k.pieces ++ [(⟨s0,s1,s2,s3,s4,s5,s6,s7⟩:S8)]},0)):=hid (by simp only[ay,ho,hgd,if_neg h8]);have h8':¬(8:Int)<=q.k.pieces.length:=Yi;clear ho hgd;go_wp2;generalize w.alloc (.cells #[.string wd,Yp n,s0,s1,s2,s3,s4,s5,s6,s7,Ys k,Yp pc,c0,c1,c2,c3,c4,c5,c6,c7] 90)=U at *;refine ah [.val (Ym Lb),.val (Ym Lb),.val (Ym Lb),.val (.pointer (some ⟨w.heap.size,1,none⟩)),.val (Yp n),.val (.pointer (some ⟨g,i * 13,none⟩)),.val (.pointer (some ⟨g,i * 13,none⟩))] Yh Yh (λV=>finT) ?_ ?_
   ·exact Ue
   ·intro V1 w1 g1 _;have cpv:=(g1.cells.1 g _ HGL.out).trans CP.out;have HE:=hid (g1.heap HE.out);have HGL:=hid (ai (g1.heap HGB.out));have CP:=hid cpv;have HGB:=hid (g1.heap HGB.out);have HQ:=hid (HQ.out.gr g1);have HB:=hid (HB.out.gr g1);have HBS:=hid (Nat.le_trans HBS.out g1.b.size);have GI:=hid (GI.out.trans g1);clear KP HL g1;go_wp2;refine bz [12,13,14,15,16] [.val (.pointer (some ⟨g,i * 13,none⟩)),.val (.pointer (some ⟨g,i * 13,none⟩)),.val (.pointer (some ⟨g,i * 13,none⟩)),.val (.pointer (some ⟨g,i * 13+3,none⟩)),.val (.pointer (some ⟨g,i * 13+3,none⟩)),.val (.pointer (some ⟨g,i * 13+11,none⟩)),.val (.slice pa q.k.pieces.length pc'),.sat (λv u=>u.ownsRow w1.heap.size 39 8 v q.k.pieces.length (q.k.pieces.flatMap S8.cs)),.val (.pointer (some ⟨w.heap.size,2,none⟩)),.val (.agg #[s0,s1,s2,s3,s4,s5,s6,s7]),.sat (λv u=>∃b,v= .slice (Yn b) 1 1/\u.heap[b]?=some (.cells #[s0,s1,s2,s3,s4,s5,s6,s7] 39 (0,0))),.turn (λv u=>u.ownsRow w1.heap.size 39 8 v (q.k.pieces.length+1) ((q.k.pieces ++ [(⟨s0,s1,s2,s3,s4,s5,s6,s7⟩:S8)]).flatMap S8.cs)) [7,10],.later,.later,.later,.later,.later] Yh Yh (λV=>finT) ?_ ?_
    ·refine⟨?_,?_,?_,?_,?_,?_,?_,?_,?_,?_,?_,?_,?_,?_,?_,?_,?_,trivial⟩
     iterate 7 ·(intro V u hu hk;refine⟨Yh,?_⟩;obtain⟨ce,fe,ze⟩:=ed (hu.heap HE.out);have cpv:=(hu.cells.1 g _ HGL.out).trans CP.out;go_simp;first | exact⟨rfl,Yu _⟩ | skip)
     ·refine⟨λv u u1 h g=>h.gr1 g,λV u hu hk=>⟨Yh,?_⟩⟩;go_simp;refine(xg _ q.k.pieces u (by rw[<-EP.out];exact ra S8.cs 8 S8.cs_len ((HQ.out).p.gr1 hu)) Yi).mono ?_;rintro e w' ⟨v',rfl,h1,h2⟩;exact⟨v',rfl,h1.mono hu.b.size,h2⟩
     iterate 2 ·(intro V u hu hk;refine⟨Yh,?_⟩;obtain⟨ce,fe,ze⟩:=ed (hu.heap HE.out);have cpv:=(hu.cells.1 g _ HGL.out).trans CP.out;go_simp;first | exact⟨rfl,Yu _⟩ | skip)
     ·refine⟨λv u u1 h g=>?_,λV u hu hk=>⟨Yh,?_⟩⟩
      ·obtain⟨b,h1,h2⟩:=h;exact⟨b,h1,g.heap h2⟩
      ·go_simp;exact⟨⟨_,rfl,ae _ _⟩,(Yu _).alloc _⟩
     ·refine⟨λv u u1 h g=>h.gr1 g,λV u hu hk=>⟨Yh,?_⟩⟩;refine aw Yh ?_;have h7:=hk 7 (λv u=>u.ownsRow w1.heap.size 39 8 v q.k.pieces.length (q.k.pieces.flatMap S8.cs)) rfl Yh;obtain⟨b,hb1,hb2⟩:=hk 10 (λv u=>∃b,v= .slice (Yn b) 1 1/\u.heap[b]?=some (.cells #[s0,s1,s2,s3,s4,s5,s6,s7] 39 (0,0))) rfl Yh;obtain⟨v',u',hr,h1,h2⟩:=dw S8.cs S8.cs_len S8.cs_one Ow u w1.heap.size 40 (V 7) q.k.pieces.length _ h7 (V 10) [(⟨s0,s1,s2,s3,s4,s5,s6,s7⟩:S8)] (by rw[hb1];exact mb S8.cs S8.cs_len _ hb2) (by simp;omega) Yk hu.b.size;exact ar _ _ 40 40 rfl _ _ rfl rfl hr ⟨by rw[List.flatMap_append];exact h1,GrL.gr hu h2 (λi hi=>(h7.lt i (by simpa using hi)).1)⟩
     iterate 5 ·trivial
    ·intro V u hg hs;have h11:=hs 11 (λv u=>u.ownsRow w1.heap.size 39 8 v (q.k.pieces.length+1) ((q.k.pieces ++ [(⟨s0,s1,s2,s3,s4,s5,s6,s7⟩:S8)]).flatMap S8.cs)) rfl;have HGU:=hid (GI.out.trans hg);have HBU:=hid (HB.out.gr hg);have HCG:=hid (hg.heap HGB.out);have HAQ:=hid (HQ.out.a.gr1 hg);obtain⟨xa,xc,hx,_⟩:=aj h11;have fg:u.frozen? ⟨g,i * 13+11,none⟩=false:=World.ownsRow.frozenAt HBU.out.r (i * 13+11);have cg:u.cell? ⟨g,i * 13+11,none⟩=some q.p.v:=gc Q3.cs 13 Q3.cs_len HBU.out.r i 11 hi Yk q.p.v (by rw[HQI.out];rfl);have HN:=hid h11;have HX:=hid hx;clear h11 hs hg hx;refine⟨⟨some 36,_,_,_,_,_⟩,rfl,rfl,?_⟩;generalize V 11=v11 at *;obtain⟨v12,hv12⟩:∃y,y=v11:=⟨_,rfl⟩;have hvx:=HX.out;subst hvx;go_simp;refine Fa.next ?_;refine⟨⟨some 37,_,_,_,_,_⟩,rfl,rfl,?_⟩;go_simp;refine Fa.next ?_;refine⟨⟨some 38,_,_,_,_,_⟩,rfl,rfl,?_⟩;go_simp;refine Fa.next ?_;refine⟨⟨some 39,_,_,_,_,_⟩,rfl,rfl,?_⟩;go_simp;refine Fa.next ?_;refine⟨⟨none,_,_,_,_,_⟩,rfl,rfl,?_⟩;rw[show i * 13+3+8=i * 13+11 from rfl];go_simp;refine Fa.fin ?_;go_wp2;go_ret;rw[<-hv12]at HN ⊢;obtain⟨y,hy⟩:∃y:Q3,y=⟨{q.k with pieces:=q.k.pieces ++ [(⟨s0,s1,s2,s3,s4,s5,s6,s7⟩:S8)]},⟨xa,q.k.pieces.length+1,xc⟩,q.a⟩:=⟨_,rfl⟩;have hv:v12=y.p.v:=by rw[hy];exact hv12
     have hr:=(World.ownsRow.stored HBU.out.r (i * 13+11) v12).1;rw[yn Q3.cs 13 Q3.cs_len Q i 11 hi Yk v12 y (by rw[HQI.out,hv,hy];rfl)]at hr;have hyo:QOk (u.setCell (Yo g (i * 13+11)) v12) base y:=by
      refine⟨ownsRow_setCell_other (a:=⟨g,i * 13+11,none⟩) (show u.ownsRow base 39 8 y.p.v _ _ from ?_) (λe=>?_) v12,ownsRow_setCell_other (a:=⟨g,i * 13+11,none⟩) (show u.ownsRow base 54 10 y.a.v _ _ from ?_) (λe=>?_) v12⟩
      ·rw[<-hv,hy];simpa using HN.out.mono HBS.out
      ·obtain⟨c,h1⟩:=bi (HN.out) (by rw[hv];exact e);rw[HCG.out]at h1;simp at h1
      ·rw[hy];exact HAQ.out
      ·obtain⟨c,h1⟩:=bi HAQ.out (by rw[hy]at e;exact e);rw[HCG.out]at h1;simp at h1
     refine⟨Q.set i y,0,rfl,?_,⟨by simpa using hr,λq' hq'=>?_⟩,(GrL.of_gr HGU.out).set _ _ (Or.inr (by simp[Value.ownBlock]))⟩
     ·rw[List.map_set,HR.out,hy]
     ·rcases List.mem_or_eq_of_mem_set hq' with h | rfl
      ·exact(HBU.out.q q' h).set v12 HCG.out
      ·exact hyo
end
section
section
open Go.RowKit Go.Shelf
variable {P:Program} {ops:Array Oper} {Q:Exit->Act->World->Prop}
def Dl (ops:Array Oper) (pl:List Step) (kE jE:Nat):Bool:=
 (match pl[kE]? with | some (.turn _ _)=>true | _=>false) && (match ops[kE]? with | some o=>o.after.any (λe=>Region.binds .any e && e.on == jE) | none=>false) && (jE !=kE)
theorem Ku {pl:List Step} {kE jE:Nat} (h:Dl ops pl kE jE=true):(∃F d,pl[kE]?=some (.turn F d))/\(∃o,ops[kE]?=some o/\∃e∈o.after,Region.binds .any e=true/\e.on=jE)/\jE≠kE:=by
 unfold Dl at h;simp only[Bool.and_eq_true,bne_iff_ne,ne_eq]at h;obtain⟨⟨h1,h2⟩,h3⟩:=h;refine⟨?_,?_,h3⟩
 ·split at h1
  ·exact⟨_,_,by assumption⟩
  ·cases h1
 ·split at h2
  ·rename_i o ho;obtain⟨e,he,hb⟩:=Array.any_eq_true'.1 h2;simp only[Bool.and_eq_true,beq_iff_eq]at hb;exact⟨o,ho,e,he,hb.1,hb.2⟩
  ·cases h2
def OwesV (P:Program) (ops:Array Oper) (pl:List Step) (R J:World->Prop) (dj:List Nat) (kE jE:Nat) (E:Value->World->Prop) (F:(Nat->Value)->Act) (k:Nat) (o:Oper):Step->Prop
 | .val v=>∀V u,R u->(pf ops dj k=true->J u)->kx ops pl k o V u->Region.wanted o (yielded ops (F V).tmps)=true/\Mx P v (Gr u) ((execOp (F V).eval o).run P u)
 | .off=>∀V u,R u->(pf ops dj k=true->J u)->kx ops pl k o V u->Region.wanted o (yielded ops (F V).tmps)=false
 | .sat Fk=>(∀v u u',Fk v u->Gr u u'->Fk v u')/\∀V u,R u->(pf ops dj k=true->J u)->kx ops pl k o V u->Region.wanted o (yielded ops (F V).tmps)=true/\ii P Fk (Gr u) ((execOp (F V).eval o).run P u)
 | .turn Fk drop=>(∀v u u',Fk v u->Gr u u'->Fk v u')/\∀V u,R u->(pf ops dj k=true->J u)->kx ops pl k o V u->Region.wanted o (yielded ops (F V).tmps)=true/\
   ii P Fk (λu'=>(R u'/\(dj.contains k=false->J u->J u')/\∀(i:Nat) (Fi:Value->World->Prop),(pl[i]?).bind Step.fact?=some Fi->i≠k->drop.contains i=false->gk ops 4 i k=false->Fi (V i) u->Fi (V i) u')/\(k=kE->E (V jE) u')/\(k≠kE->E (V jE) u->E (V jE) u')) ((execOp (F V).eval o).run P u)
 | .later=>True
 | .dies chain=>∀V u,R u->(pf ops dj k=true->J u)->kx ops pl k o V u->Region.wanted o (yielded ops (F V).tmps)=true/\Dead P chain (Gr u) ((execOp (F V).eval o).run P u)
 | .never=>True
def zn (P:Program) (ops:Array Oper) (pl:List Step) (R J:World->Prop) (dj:List Nat) (kE jE:Nat) (E:Value->World->Prop) (F:(Nat->Value)->Act):Nat->List Oper->List Step->Prop
 | k,o :: os,p :: ps=>OwesV P ops pl R J dj kE jE E F k o p/\zn P ops pl R J dj kE jE E F (k+1) os ps
 | _,_,_=>True
theorem zn.at {pl:List Step} {R J:World->Prop} {dj:List Nat} {kE jE:Nat} {E:Value->World->Prop} {F:(Nat->Value)->Act}:∀{os:List Oper} {ps:List Step} {k0:Nat},zn P ops pl R J dj kE jE E F k0 os ps->∀(k:Nat) (o:Oper) (p:Step),os[k]?=some o->ps[k]?=some p->OwesV P ops pl R J dj kE jE E F (k0+k) o p
 | [],_,_,_,k,o,p,ho,_=>by simp at ho
 | _ :: _,[],_,_,k,o,p,_,hp=>by simp at hp
 | o' :: os,p' :: ps,k0,h,k,o,p,ho,hp=>by
  cases k with
  | zero=>
   simp only[List.getElem?_cons_zero,Option.some.injEq]at ho hp;subst ho hp;exact h.1
  | succ k=>
   simp only[List.getElem?_cons_succ]at ho hp;have:=h.2.at k o p ho hp;rw[show k0+1+k=k0+(k+1) by omega]at this;exact this
theorem zn.stable {pl:List Step} {R J:World->Prop} {dj:List Nat} {kE jE:Nat} {E:Value->World->Prop} {F:(Nat->Value)->Act} {os:List Oper} (h:zn P ops pl R J dj kE jE E F 0 os pl) (hl:pl.length=os.length):∀(i:Nat) (Fk:Value->World->Prop),(pl[i]?).bind Step.fact?=some Fk->∀v u u',Fk v u->Gr u u'->Fk v u':=λi Fk hi=>by
 cases hp:pl[i]? with
 | none=>rw[hp]at hi;cases hi
 | some p=>
  have ho:os[i]?=some (os[i]'(by rw[<-hl];exact(List.getElem?_eq_some_iff.1 hp).1)):=List.getElem?_eq_getElem _;have:=h.at i _ _ ho hp;rw[hp]at hi;cases p with
  | sat F=>cases hi;exact this.1
  | turn F d=>cases hi;exact this.1
  | _=>cases hi
theorem Sl {pl:List Step} (hok:mj ops pl) {R J:World->Prop} {dj:List Nat} {kE jE:Nat} {E:Value->World->Prop} {a0:Act} (hEG:∀v u u',E v u->Gr u u'->E v u') (hlk:Dl ops pl kE jE=true) (hRG:∀u u',R u->Gr u u'->R u') (hJG:∀u u',J u->Gr u u'->J u') (hsz:∀j∈dj,j < ops.size) (hO:zn P ops pl R J dj kE jE E (λV=>finS V a0 0 ops.toList pl) 0 ops.toList pl)
  (hP:∀(k:Nat) (chain:List PanicEntry),pl[k]?=some (.dies chain)->∀a u,R u->a.defers=a0.defers->Q (.panic chain) a u)
  (hF:(∀(k:Nat) (chain:List PanicEntry),pl[k]?≠some (.dies chain))->∀V u,R u->(∀(i:Nat) (F:Value->World->Prop),ic pl i=some F->F (V i) u)->E (V jE) u->
   ∀fuel,kq (fd pl) ops.size<=fuel->wpAny P .any ops Q fuel (fd pl) (finS V a0 0 ops.toList pl) u):
  ∀(fuel:Nat) (listed:Array Bool) (a:Act) (u:World) (V:Nat->Value),ly ops pl R J dj a0 V listed a u->(listed.getD kE false=true->E (V jE) u)->kq listed ops.size<=fuel->wpAny P .any ops Q fuel listed a u:=by
 have hst:=hO.stable (by simpa using hok.len);obtain⟨⟨FE,dE,hkE⟩,hjE,hne⟩:=Ku hlk;have fin:∀(fuel:Nat) (listed:Array Bool) (a:Act) (u:World) (V:Nat->Value),ly ops pl R J dj a0 V listed a u->(listed.getD kE false=true->E (V jE) u)->kq listed ops.size<=fuel->(∀(k:Nat) (p:Step),pl[k]?=some p->p.isLater=false->listed.getD k false=true)->wpAny P .any ops Q fuel listed a u:=by
  intro fuel listed a u V I hev hc hl;have el:listed=fd pl:=by
   apply Array.ext
   ·simp[fd,I.lsz,hok.len]
   ·intro k h1 h2;have hk:k < pl.length:=by rw[hok.len,<-I.lsz];exact h1
    have hp:pl[k]?=some pl[k]:=List.getElem?_eq_getElem hk;have e1:(fd pl)[k]=(match pl[k]with | .later=>false | _=>true):=by
     simp[fd];cases pl[k] <;> rfl
    rw[e1];generalize pl[k]=q at *;cases q
    case later=>
     have:=I.lat k _ hp rfl;simpa[h1]using this
    all_goals
     have:=hl k _ hp rfl;have e2:listed[k]=true:=by simpa[h1]using this
     rw[e2]
  rw[I.fin hok hl];have hd:∀(k:Nat) (chain:List PanicEntry),pl[k]?≠some (.dies chain):=λk chain hk=>by have:=hl k _ hk rfl;rw[I.lat k _ hk rfl]at this;cases this
  have hfact:∀(i:Nat) (F:Value->World->Prop),ic pl i=some F->F (V i) u:=λi F hi=>by
   obtain⟨h1,h2⟩:=Aq hi;refine I.fact i F h1 ?_ (λj hj=>by rw[h2 j]at hj;cases hj);cases hp:pl[i]? with
   | none=>rw[hp]at h1;cases h1
   | some p=>
    rw[hp]at h1;refine hl i p hp ?_;cases p <;> first | rfl | cases h1
  have hE':=hev (hl kE _ hkE rfl);have hg:=I.gr;rw[el]at hc ⊢;exact hF hd V u hg hfact hE' fuel hc
 intro fuel
 induction fuel with
 | zero=>
  intro listed a u V I hev hc;have hl:=zc ops.size (Nat.le_zero.1 hc);exact fin 0 listed a u V I hev hc λk p hp _=>hl k (by rw[<-hok.len];exact(List.getElem?_eq_some_iff.1 hp).1)
 | succ fuel ih=>
  intro listed a u V I hev hc
  by_cases hfin:∀(k:Nat) (p:Step),pl[k]?=some p->p.isLater=false->listed.getD k false=true
  ·exact fin (fuel+1) listed a u V I hev hc hfin
  have hlate:∀(k:Nat) (o:Oper),ops[k]?=some o->(∀e∈o.after,Region.binds .any e=true->listed.getD e.on false=true)->pl[k]?≠some .later:=λk o ho hall hp=>by
   refine hfin λi q hq hn=>?_;exact fo I.down 6 k i (hok.lat k o ho hp i q hq hn) λo' ho' e he hb=>by rw[ho]at ho';cases ho';exact hall e he hb
  refine⟨λhr=>?_,λk hk=>?_⟩
  ·exfalso;have all:∀k,k < ops.size->listed.getD k false=true:=by
    intro k
    induction k using Nat.strongRecOn with
    | ind k ihk=>
     intro hk;cases hl:listed.getD k false with
     | true=>rfl
     | false=>
      exfalso;have ho:ops[k]?=some ops[k]:=Array.getElem?_eq_getElem hk;have:k∈Region.ready .any ops listed:=mem_ready.2 ⟨by
       have:=I.lsz;simp[Array.getD_eq_getD_getElem?,this,hk]at hl ⊢;exact hl,ops[k],ho,λe he hb=>ihk e.on (hok.front k _ ho e he hb) (by have:=hok.front k _ ho e he hb;omega)⟩
      rw[hr]at this;cases this
   exact hfin λk p hp _=>all k (by rw[<-hok.len];exact(List.getElem?_eq_some_iff.1 hp).1)
  obtain⟨h0,o,ho,hall⟩:=mem_ready.1 hk;have hk':k < ops.size:=(Array.getElem?_eq_some_iff.1 ho).1;have hkl:k < listed.size:=by rw[I.lsz];exact hk'
  have hf:=qf I.lsz hk' h0;have hc':kq (listed.setIfInBounds k true) ops.size<=fuel:=by
   have:=Em hkl hf ops.size;rw[if_pos hk']at this;omega
  obtain⟨p,hp⟩:∃p,pl[k]?=some p:=⟨pl[k]'(by rw[hok.len];exact hk'),List.getElem?_eq_getElem _⟩;obtain⟨e1,e2⟩:=I.agree hok ho hall;have O:=hO.at k o p (by simpa using ho) hp;rw[Nat.zero_add]at O;have KN:=I.known (o:=o) hf hall;have KJ:=I.useJ hsz hf;have hnj:listed.getD kE false=true->jE≠k:=λh e=>by
   obtain⟨o',ho',e',he',hb',hj'⟩:=hjE;have:=I.down kE o' ho' h e' he' hb';rw[hj',e,hf]at this;cases this
  unfold Go.wpOp;rw[ho];dsimp only;rw[e2];cases p with
  | later=>exact absurd hp (hlate k o ho hall)
  | never=>
   obtain⟨e,he,hb,q,hq,hi⟩:=hok.nev k o ho hp;have:=hall e he hb;rw[I.lat e.on q hq hi]at this;cases this
  | dies chain=>
   obtain⟨hw,hv⟩:=O V u I.gr KJ KN;dsimp only at hw hv;rw[if_pos hw];left;unfold Oper.wp;rw[e1];exact Dead.upon hv λu' g=>hP k chain hp a u' (hRG _ _ I.gr g) I.df
  | val v=>
   obtain⟨hw,hv⟩:=O V u I.gr KJ KN;dsimp only at hw hv;rw[if_pos hw];left;unfold Oper.wp;rw[e1];exact Mx.upon hv λu' g=>ih _ _ u' V (I.step (V':=V) hok ho hp rfl hall g hRG hJG (λ_ _=>rfl) hst (λF h=>by cases h) hf) (λh=>by
    rcases di h with e | h
    ·rw[e,hp]at hkE;cases hkE
    ·exact hEG _ _ _ (hev h) g) hc'
  | off=>
   have hw:=O V u I.gr KJ KN;dsimp only at hw;rw[if_neg (by rw[hw];simp)];exact ih _ _ u V (I.step (V':=V) hok ho hp rfl hall (Yu u) hRG hJG (λ_ _=>rfl) hst (λF h=>by cases h) hf) (λh=>by
    rcases di h with e | h
    ·rw[e,hp]at hkE;cases hkE
    ·exact hev h) hc'
  | sat Fk=>
   obtain⟨hw,hv⟩:=O.2 V u I.gr KJ KN;dsimp only at hw hv;rw[if_pos hw];left;unfold Oper.wp;rw[e1];refine ii.upon hv λv u' hfv g=>?_;have hval:(Step.sat Fk).value (λi=>if i=k then v else V i) k=v:=by simp[Step.value]
   have st:=I.step (V':=λi=>if i=k then v else V i) hok ho hp rfl hall g hRG hJG (λi hi=>by simp[hi]) hst (λF h=>by cases h;simpa using hfv) hf;rw[hval]at st;exact ih _ _ u' _ st (λh=>by
    rcases di h with e | h
    ·rw[e,hp]at hkE;cases hkE
    ·rw[if_neg (hnj h)];exact hEG _ _ _ (hev h) g) hc'
  | turn Fk drop=>
   obtain⟨hw,hv⟩:=O.2 V u I.gr KJ KN;dsimp only at hw hv;rw[if_pos hw];left;unfold Oper.wp;rw[e1];refine ii.upon hv λv u' hfv g=>?_;have hval:(Step.turn Fk drop).value (λi=>if i=k then v else V i) k=v:=by simp[Step.value]
   have st:=I.stepM (V':=λi=>if i=k then v else V i) hok ho hp rfl hall g.1.1 g.1.2.1 (λi hi=>by simp[hi]) (λi Fi hi hn hdr hli hx=>g.1.2.2 i Fi hi hn (by unfold jn at hdr;rw[hp]at hdr;exact hdr) (by
    cases hcov:gk ops 4 i k with
    | false=>rfl
    | true=>
     have:=fo I.down 4 i k hcov λo' ho' e he hb=>I.down i o' ho' hli e he hb;rw[hf]at this;cases this) hx) (λF h=>by cases h;simpa using hfv) hkl
   rw[hval]at st;refine ih _ _ u' _ st (λh=>?_) hc'
   by_cases e:k=kE
   ·subst e;rw[if_neg hne];exact g.2.1 rfl
   ·rcases di h with e' | h
    ·exact absurd e'.symm e
    ·rw[if_neg (hnj h)];exact g.2.2 e (hev h)
theorem pk {id:Nat} {w:World} {a0:Act} (R J:World->Prop) (dj:List Nat) (hRG:∀u u',R u->Gr u u'->R u') (hJG:∀u u',J u->Gr u u'->J u') (hR0:R w) (hJ0:J w) (hsz:(dj.all λj=>decide (j < ops.size))=true) (pl:List Step) (kE jE:Nat) (E:Value->World->Prop) (hEG:∀v u u',E v u->Gr u u'->E v u') (hlk:Dl ops pl kE jE=true) {F:(Nat->Value)->Act} (hm:P.follows .mixedOrders=true) (hok:H5 ops pl=true)
  (hE:∀V,finS V a0 0 ops.toList pl=F V)
  (hO:zn P ops pl R J dj kE jE E F 0 ops.toList pl)
  (hP:∀(k:Nat) (chain:List PanicEntry),pl[k]?=some (.dies chain)->∀a u,R u->a.defers=a0.defers->Q (.panic chain) a u)
  (hF:(∀(k:Nat) (chain:List PanicEntry),pl[k]?≠some (.dies chain))->∀V u,R u->(∀(i:Nat) (F:Value->World->Prop),ic pl i=some F->F (V i) u)->E (V jE) u->
   ∀fuel,kq (fd pl) ops.size<=fuel->wpAny P .any ops Q fuel (fd pl) (F V) u):
  (Code.region id ops true).wp P Q a0 w:=by
 have hok':=np hok;obtain rfl:(λV=>finS V a0 0 ops.toList pl)=F:=funext hE;refine wp_region_any hm ?_;have h0:∀k,(Array.replicate ops.size false).getD k false=false:=λk=>by
  by_cases h:k < ops.size <;> simp[h]
 have hd:=Gr.drew (Yu w);refine Sl (R:=R) (J:=J) (dj:=dj) (kE:=kE) (jE:=jE) (E:=E) hok' hEG hlk hRG hJG (λj hj=>of_decide_eq_true (List.all_eq_true.1 hsz j hj)) hO hP hF ops.size _ _ _ (λ_=>undef) ⟨hRG _ _ hR0 hd,rfl,rfl,Yj,?_,λ_ _=>rfl,?_,λk _ _ _=>h0 k,?_,λ_=>hJG _ _ hJ0 hd⟩ (λh=>by rw[h0]at h;cases h) ?_
 ·intro k o t _ _ h;rw[h0]at h;cases h
 ·intro i F _ h _;rw[h0]at h;cases h
 ·intro k o _ h;rw[h0]at h;cases h
 ·have:∀n,kq (Array.replicate ops.size false) n<=n:=λn=>by
   induction n with
   | zero=>exact Yv _
   | succ n ih=>simp only[kq];split <;> omega
  exact this _
theorem jy {id:Nat} {w:World} {a0:Act} (R J:World->Prop) (dj:List Nat) (hRG:∀u u',R u->Gr u u'->R u') (hJG:∀u u',J u->Gr u u'->J u') (hR0:R w) (hJ0:J w) (hsz:(dj.all λj=>decide (j < ops.size))=true) (pl:List Step) (kE jE:Nat) (E:Value->World->Prop) (hEG:∀v u u',E v u->Gr u u'->E v u') (hlk:Dl ops pl kE jE=true) {F:(Nat->Value)->Act} (hm:P.follows .mixedOrders=true) (hok:(H5 ops pl && ji pl && (Region.ready .any ops (fd pl)).isEmpty)=true)
  (hE:∀V,finS V a0 0 ops.toList pl=F V)
  (hO:zn P ops pl R J dj kE jE E F 0 ops.toList pl)
  (hF:∀V u,R u->(∀(i:Nat) (F:Value->World->Prop),ic pl i=some F->F (V i) u)->E (V jE) u->Q .normal (F V) u):
  (Code.region id ops true).wp P Q a0 w:=by
 rw[Bool.and_eq_true,Bool.and_eq_true]at hok;exact pk R J dj hRG hJG hR0 hJ0 hsz pl kE jE E hEG hlk hm hok.1.1 hE hO (ny hok.1.2) λ_ V u hg hb he fuel _=>wpAny_done (by simpa using hok.2) (hF V u hg hb he) fuel
theorem turnV {pl:List Step} {R J:World->Prop} {dj:List Nat} {k kE jE:Nat} {E:Value->World->Prop} {drop:List Nat} {Fk:Value->World->Prop} {V:Nat->Value} {u:World} {r:Result Next} (hno:mw ops pl k drop=true) (hdk:dj.contains k=true) (hk':k=kE) (h:ii P Fk (λu'=>R u'/\E (V jE) u') r):
  ii P Fk (λu'=>(R u'/\(dj.contains k=false->J u->J u')/\∀(i:Nat) (Fi:Value->World->Prop),(pl[i]?).bind Step.fact?=some Fi->i≠k->drop.contains i=false->gk ops 4 i k=false->Fi (V i) u->Fi (V i) u')/\(k=kE->E (V jE) u')/\(k≠kE->E (V jE) u->E (V jE) u')) r:=by
 refine h.mono λu' g=>⟨⟨g.1,(λhc=>by rw[hdk]at hc;cases hc),λi Fi hi hk hd hcv=>?_⟩,λ_=>g.2,λhn=>absurd hk' hn⟩;exfalso;unfold mw at hno;rw[List.all_eq_true]at hno;have hlt:i < pl.length:=by
  cases hp:pl[i]? with
  | none=>rw[hp]at hi;cases hi
  | some p=>exact(List.getElem?_eq_some_iff.1 hp).1
 have:=hno i (List.mem_range.2 hlt);rw[hd,hcv]at this;cases hp:pl[i]? with
 | none=>rw[hp]at hi;cases hi
 | some p=>
  rw[hp]at hi this;cases p <;> first | (cases hi;done) | (simp at this;exact hk this)
end
end
section
open Go.RowKit Go.Shelf Go.Lib
theorem sy {P:Program} {o:Oper} {a:Act} {w:World} (ty:TypeId) (x:Operand) (ho:o.op= .load ty x) (b off:Nat) (cs:List Value) (hx:a.eval x= .pointer (some ⟨b,off,none⟩)) (d:TypeDesc) (hc:w.rangeAt b off cs)
  (hu:P.underlying ty=some d) (hd:d.isRow=true) (hi:(P.info? ty).map (·.size)=some cs.length):Mx P (.agg cs.toArray) (Gr w) ((execOp a.eval o).run P w):=by
 have:=run_loadVar_mid (P:=P) w b off ty cs d hc hu hd hi;unfold execOp;simp only[ho,hx,Instr.loadAt,Instr.sureAddr,Sem.run_bind,Sem.run_pure,Result.andThen_ok,this];exact⟨rfl,Yu _⟩
theorem tu {w:World} {base:Nat} {T:TypeId} {k:Nat} {v:Value} {n:Nat} {xs:List Value} {q:Nat} (h:w.ownsRow base T k v n xs) (hne:v.ownBlock≠some q) (C:Array Value):(w.setRow q C).ownsRow base T k v n xs:=by
 refine⟨h.1,?_⟩;rcases h.2 with h0 | ⟨g,cap,cur,rfl,hb,hg,hr⟩
 ·exact .inl h0
 ·exact .inr ⟨g,cap,cur,rfl,hb,(ky C (λe=>hne (by simp[Value.ownBlock,e]))).trans hg,hr⟩
theorem az.cell {u:World} {base g m cap:Nat} {Q:List Q3} (HB:az u base (.slice (Yn g) m cap) Q) (hm:m=Q.length) (i j:Nat) (hi:i < Q.length) (hj:j < 13) (x:Value) (y:Q3) (hy:y.cs=Q[i].cs.set j x) (hyo:QOk u base y):az (u.setCell (Yo g (i * 13+j)) x) base (.slice (Yn g) m cap) (Q.set i y):=by
 subst hm;obtain⟨cur,hg⟩:=bi HB.r (g:=g) rfl;refine⟨?_,λq' hq'=>?_⟩
 ·have hr:=(World.ownsRow.stored HB.r (i * 13+j) x).1;rw[yn Q3.cs 13 Q3.cs_len Q i j hi hj x y hy]at hr;simpa using hr
 ·rcases List.mem_or_eq_of_mem_set hq' with h | rfl
  ·exact(HB.q q' h).set x hg
  ·exact hyo.set x hg
theorem gd {u:World} {base g m cap:Nat} {Q:List Q3} {y1 y:Q3} (h:az u base (.slice (Yn g) m cap) Q/\QOk u base y1/\QOk u base y) (hm:m=Q.length) (i j:Nat) (hi:i < Q.length) (hj:j < 13) (x:Value) (hx:Q[i].cs[j]?=some x):
  az (u.setCell (Yo g (i * 13+j)) x) base (.slice (Yn g) m cap) Q/\QOk (u.setCell (Yo g (i * 13+j)) x) base y1/\QOk (u.setCell (Yo g (i * 13+j)) x) base y:=by
 obtain⟨cur,hg⟩:=bi h.1.r (g:=g) rfl;have hb:=h.1.cell hm i j hi hj x Q[i] (by
  obtain⟨h1,h2⟩:=List.getElem?_eq_some_iff.1 hx;rw[<-h2,List.set_getElem_self]) (h.1.q _ (List.getElem_mem hi))
 rw[List.set_getElem_self]at hb;exact⟨hb,h.2.1.set x hg,h.2.2.set x hg⟩
theorem az.hist {u:World} {base g cap:Nat} {Q:List Q3} (HB:az u base (.slice (Yn g) Q.length cap) Q) (i:Nat) (hi:i < Q.length) (q:Q3) (hq:Q[i]=q) (L':List S8) (A':List Ac) (sp sa:Sv)
  (hp:u.ownsRow base 39 8 sp.v L'.length (L'.flatMap S8.cs)) (ha:u.ownsRow base 54 10 sa.v A'.length (A'.flatMap Ac.cs)):
  az (u.setCells g (i * 13+3) [q.k.blank.a0,q.k.blank.a1,q.k.blank.a2,q.k.blank.a3,q.k.blank.a4,q.k.blank.a5,q.k.blank.a6,q.k.blank.a7,sp.v,sa.v]) base (.slice (Yn g) Q.length cap) (Q.set i ⟨{q.k with pieces:=L',acts:=A'},sp,sa⟩):=by
 have h0:az u base (.slice (some ⟨g,0,none⟩) Q.length cap) Q/\QOk u base ⟨{q.k with pieces:=L'},sp,q.a⟩/\QOk u base ⟨{q.k with pieces:=L',acts:=A'},sp,sa⟩:=⟨HB,⟨hp,(HB.q q (hq▸List.getElem_mem hi)).a⟩,⟨hp,ha⟩⟩;have h1:=gd h0 rfl i 3 hi Yk q.k.blank.a0 (by rw[hq];rfl);have h2:=gd h1 rfl i 4 hi Yk q.k.blank.a1 (by rw[hq];rfl);have h3:=gd h2 rfl i 5 hi Yk q.k.blank.a2 (by rw[hq];rfl);have h4:=gd h3 rfl i 6 hi Yk q.k.blank.a3 (by rw[hq];rfl);have h5:=gd h4 rfl i 7 hi Yk q.k.blank.a4 (by rw[hq];rfl);have h6:=gd h5 rfl i 8 hi Yk q.k.blank.a5 (by rw[hq];rfl);have h7:=gd h6 rfl i 9 hi Yk q.k.blank.a6 (by rw[hq];rfl);have h8:=gd h7 rfl i 10 hi Yk q.k.blank.a7 (by rw[hq];rfl);obtain⟨cur,hg⟩:=bi h8.1.r (g:=g) rfl;have h9:=h8.1.cell rfl i 11 hi Yk sp.v ⟨{q.k with pieces:=L'},sp,q.a⟩ (by rw[hq];rfl) h8.2.1;have h10:=h9.cell Yj i 12 (by simpa using hi) Yk sa.v ⟨{q.k with pieces:=L',acts:=A'},sp,sa⟩ (by rw[List.getElem_set_self];rfl) (h8.2.2.set _ hg);rw[List.set_set]at h10;exact h10
theorem Ey {u:World} {base g cap:Nat} {Q:List Q3} (HB:az u base (.slice (Yn g) Q.length cap) Q) (i:Nat) (hi:i < Q.length) (q:Q3) (hq:Q[i]=q):u.rangeAt g (i * 13+3) (q.cs.drop 3):=λj v hv=>by
 have hj:3+j < 13:=by
  have:=(List.getElem?_eq_some_iff.1 hv).1;rw[List.length_drop,Q3.cs_len]at this;omega
 rw[List.getElem?_drop]at hv;have:=gc Q3.cs 13 Q3.cs_len HB.r i (3+j) hi hj v (by rw[hq];exact hv);rw[Nat.add_assoc];exact this
theorem Pe {u:World} {base g cap:Nat} {Q:List Q3} (HB:az u base (.slice (Yn g) Q.length cap) Q) (i:Nat) (hi:i < Q.length):u.there g (i * 13+3) 10:=λj hj=>by
 obtain⟨v,hv⟩:∃v,Q[i].cs[3+j]?=some v:=⟨_,List.getElem?_eq_getElem (show 3+j < Q[i].cs.length by rw[Q3.cs_len];omega)⟩;rw[Nat.add_assoc];exact⟨by rw[gc Q3.cs 13 Q3.cs_len HB.r i (3+j) hi Yi v hv];rfl,World.ownsRow.frozenAt HB.r _⟩
def qk (p:S8) (x y:Value):Array Value:=#[p.a0,p.a1,p.a2,p.a3,p.a4,p.a5,p.a6,p.a7,x,y]
def o9 (u:World) (base:Nat) (L:List S8) (A:List Ac) (x y:Value):Prop:=u.ownsRow base 39 8 x L.length (L.flatMap S8.cs)/\u.ownsRow base 54 10 y A.length (A.flatMap Ac.cs)
theorem o9.gr {u u':World} {base:Nat} {L:List S8} {A:List Ac} {x y:Value} (h:o9 u base L A x y) (g:Gr u u'):o9 u' base L A x y:=⟨h.1.gr1 g,h.2.gr1 g⟩
theorem o9.row {u:World} {base q:Nat} {L:List S8} {A:List Ac} {x y:Value} {c:Array Value} (h:o9 u base L A x y) (hq:u.heap[q]?=some (.cells c 45 (0,0))) (C:Array Value):o9 (u.setRow q C) base L A x y:=by
 refine⟨tu h.1 (λe=>?_) C,tu h.2 (λe=>?_) C⟩
 ·obtain⟨c,h1⟩:=bi h.1 e;rw[hq]at h1;simp at h1
 ·obtain⟨c,h1⟩:=bi h.2 e;rw[hq]at h1;simp at h1
def zb9 (base:Nat) (p:S8) (L:List S8) (A:List Ac) (v:Value) (u:World):Prop:=∃x y,v= .tuple #[.agg (qk p x y),Yp 0]/\o9 u base L A x y
def AggH (base:Nat) (p:S8) (L:List S8) (A:List Ac) (v:Value) (u:World):Prop:=∃x y,v= .agg (qk p x y)/\o9 u base L A x y
def NewH (base:Nat) (v:Value) (u:World):Prop:=∃q c,v= .pointer (Yn q)/\base<=q/\u.heap[q]?=some (.cells c 45 (0,0))/\c.size=10
def BlkH (base:Nat) (p:S8) (L:List S8) (A:List Ac) (v:Value) (u:World):Prop:=∃q x y,v= .pointer (Yn q)/\base<=q/\u.heap[q]?=some (.cells (qk p x y) 45 (0,0))/\o9 u base L A x y
section
variable {P:Program} {ops:Array Oper}
theorem turnV1 {pl:List Step} {R J:World->Prop} {dj:List Nat} {k kE jE kk:Nat} {E:Value->World->Prop} {drop:List Nat} {Fk:Value->World->Prop} {V:Nat->Value} {u:World} {r:Result Next} (hno:mw ops pl k (kk :: drop)=true) (hdk:dj.contains k=true) (hk':k=kE)
  (h:ii P Fk (λu'=>(R u'/\E (V jE) u')/\∀Fi,(pl[kk]?).bind Step.fact?=some Fi->Fi (V kk) u->Fi (V kk) u') r):
  ii P Fk (λu'=>(R u'/\(dj.contains k=false->J u->J u')/\∀(i:Nat) (Fi:Value->World->Prop),(pl[i]?).bind Step.fact?=some Fi->i≠k->drop.contains i=false->gk ops 4 i k=false->Fi (V i) u->Fi (V i) u')/\(k=kE->E (V jE) u')/\(k≠kE->E (V jE) u->E (V jE) u')) r:=by
 refine h.mono λu' g=>⟨⟨g.1.1,(λhc=>by rw[hdk]at hc;cases hc),λi Fi hi hk hd hcv=>?_⟩,λ_=>g.1.2,λhn=>absurd hk' hn⟩
 by_cases e:i=kk
 ·subst e;exact g.2 Fi hi
 exfalso;unfold mw at hno;rw[List.all_eq_true]at hno;have hlt:i < pl.length:=by
  cases hp:pl[i]? with
  | none=>rw[hp]at hi;cases hi
  | some p=>exact(List.getElem?_eq_some_iff.1 hp).1
 have hd':(kk :: drop).contains i=false:=by
  rw[List.contains_cons,hd];simp[e]
 have:=hno i (List.mem_range.2 hlt);rw[hd',hcv]at this;cases hp:pl[i]? with
 | none=>rw[hp]at hi;cases hi
 | some p=>
  rw[hp]at hi this;cases p <;> first | (cases hi;done) | (simp at this;exact hk this)
end
end
end Go.Proofs.YtimcfaoabaflkaaGreatDoor
