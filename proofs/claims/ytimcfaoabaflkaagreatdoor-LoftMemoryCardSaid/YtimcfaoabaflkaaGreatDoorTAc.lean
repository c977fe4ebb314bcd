/- ledger.act: an act more for a pattern. -/
import Derived.Test.YtimcfaoabaflkaaGreatDoorTPc
namespace Go.Proofs.YtimcfaoabaflkaaGreatDoor
open AbBase
open AbA AbI
set_option maxHeartbeats 1000000
set_option maxRecDepth 100000
open Go.Proofs.Tryz
open Go.RowKit Go.Shelf Go.Lib
theorem Ud {P:Prop} (h:P:=by
 refine⟨?_,?_,?_,?_,?_,?_,?_,trivial⟩
 iterate 5 ·(intro V u hu hk;refine⟨Yh,?_⟩;obtain⟨ce,fe,ze⟩:=ed (hu.heap HE.out);obtain⟨cl,fl,zl⟩:=ed (hu.heap HL.out);go_simp;first | exact⟨rfl,Yu _⟩ | skip)
 ·(intro V u hu hk;refine⟨Yh,?_⟩;obtain⟨ce,fe,ze⟩:=ed (hu.heap HE.out);obtain⟨cl,fl,zl⟩:=ed (hu.heap HL.out);go_simp;first | exact⟨rfl,Yu _⟩ | skip)
  refine(KP.out u hu).mono ?_;rintro e w' ⟨g,h⟩;obtain⟨g',hg',he⟩:=h;cases hg';exact⟨he,g⟩
 ·(intro V u hu hk;refine⟨Yh,?_⟩;obtain⟨ce,fe,ze⟩:=ed (hu.heap HE.out);obtain⟨cl,fl,zl⟩:=ed (hu.heap HL.out);go_simp;first | exact⟨rfl,Yu _⟩ | skip)):P:=h
def Kp.fit (k:Kp):Prop:=(∀s∈k.pieces,s.ok)/\∀a∈k.acts,a.c.ok
theorem Oc (Lb base:Nat) (v:Value) (Q:List Q3) (wd:ByteArray) (n s0 s1 s2 s3 s4 s5 s6 s7 k:Nat) (pc:Int) (c0 c1 c2 c3 c4 c5 c6 c7:Nat) (w:World) (hL:w.heap[Lb]?=some (.cells #[v] 88 (0,0))) (hB:az w base v Q) (hl:Q.length<=1000) (hbs:base<=w.heap.size) (hfit:∀q∈Q,q.k.fit) (hac:S8.ok ⟨c0,c1,c2,c3,c4,c5,c6,c7⟩):
  Calls prog 154 #[Ym Lb,.agg #[.string wd,Yp n,s0,s1,s2,s3,s4,s5,s6,s7,Ys k,Yp pc,c0,c1,c2,c3,c4,c5,c6,c7]] w λe w'=>∃Q' r,e= .returned (Yp (r:Nat))/\(Q'.map Q3.k,r)=ay (Q.map Q3.k) (some (.act n (⟨k,pc,⟨c0,c1,c2,c3,c4,c5,c6,c7⟩⟩:Ac)))/\az w' base v Q'/\GrL v.ownBlock.toList w w':=by
 have gI:=(Yu w).alloc (.cells #[.string wd,Yp n,s0,s1,s2,s3,s4,s5,s6,s7,Ys k,Yp pc,c0,c1,c2,c3,c4,c5,c6,c7] 90);have h0:=ae w (.cells #[.string wd,Yp n,s0,s1,s2,s3,s4,s5,s6,s7,Ys k,Yp pc,c0,c1,c2,c3,c4,c5,c6,c7] 90);have KP:=hid (λu (g:Gr (w.alloc (.cells #[.string wd,Yp n,s0,s1,s2,s3,s4,s5,s6,s7,Ys k,Yp pc,c0,c1,c2,c3,c4,c5,c6,c7] 90)) u)=>Kz Lb base v 88 Q n u ((gI.trans g).heap hL) (hB.gr (gI.trans g)) hl);have GI:=hid gI;have HE:=hid h0;have HL:=hid (gI.heap hL);have HB:=hid (hB.gr gI);have HBS:=hid (Nat.le_trans hbs gI.b.size);have HBW:=hid hB;have HF:=hid hfit;have HAC:=hid hac;clear gI h0 hL hB hbs hfit hac;cases ho:gh (Q.map Q3.k) n with
 | none=>
  rw[ho]at KP;have HR:Hid (ay (Q.map Q3.k) (some (.act n (⟨k,pc,⟨c0,c1,c2,c3,c4,c5,c6,c7⟩⟩:Ac)))=(Q.map Q3.k,5)):=hid (by simp only[ay,ho]);clear ho;go_enter func154,ntmps154;go_wp2;generalize w.alloc (.cells #[.string wd,Yp n,s0,s1,s2,s3,s4,s5,s6,s7,Ys k,Yp pc,c0,c1,c2,c3,c4,c5,c6,c7] 90)=U at *;refine ah [.val (Ym Lb),.val (Ym Lb),.val (Ym Lb),.val (.pointer (some ⟨w.heap.size,1,none⟩)),.val (Yp n),.val (.pointer none),.val (.pointer none)] Yh Yh (λV=>finT) ?_ ?_
  ·refine⟨?_,?_,?_,?_,?_,?_,?_,trivial⟩
   iterate 5 ·(intro V u hu hk;refine⟨Yh,?_⟩;obtain⟨ce,fe,ze⟩:=ed (hu.heap HE.out);obtain⟨cl,fl,zl⟩:=ed (hu.heap HL.out);go_simp;first | exact⟨rfl,Yu _⟩ | skip)
   ·(intro V u hu hk;refine⟨Yh,?_⟩;obtain⟨ce,fe,ze⟩:=ed (hu.heap HE.out);obtain⟨cl,fl,zl⟩:=ed (hu.heap HL.out);go_simp;first | exact⟨rfl,Yu _⟩ | skip)
    refine(KP.out u hu).mono ?_;rintro e w' ⟨g,h⟩;exact⟨h,g⟩
   ·(intro V u hu hk;refine⟨Yh,?_⟩;obtain⟨ce,fe,ze⟩:=ed (hu.heap HE.out);obtain⟨cl,fl,zl⟩:=ed (hu.heap HL.out);go_simp;first | exact⟨rfl,Yu _⟩ | skip)
  ·intro V1 w1 g1 _;go_wp2;go_ret;exact⟨Q,5,rfl,HR.out.symm,HB.out.gr g1,GrL.of_gr (GI.out.trans g1)⟩
 | some i=>
  have hi:i < Q.length:=by simpa using Kp.many_le ho
  obtain⟨g,cap,rfl,hbg,⟨cur,hgb⟩,hcap⟩:=HBW.out.form Yi;rw[ho]at KP;obtain⟨q,hq⟩:∃q,Q[i]=q:=⟨_,rfl⟩;have hgd:(Q.map Q3.k).getD i default=q.k:=by simp[List.getD,hi,hq]
  have hqm:q∈Q:=hq▸List.getElem_mem hi;have hqo:QOk w base q:=HBW.out.q q hqm;obtain⟨hf1,hf2⟩:=HF.out q hqm;have AP0:=hid (λu (g:Gr w u)=>act_any q.k.blank.a0 q.k.blank.a1 q.k.blank.a2 q.k.blank.a3 q.k.blank.a4 q.k.blank.a5 q.k.blank.a6 q.k.blank.a7 q.k.pieces q.k.acts k pc c0 c1 c2 c3 c4 c5 c6 c7 q.p.v q.a.v u (ra S8.cs 8 S8.cs_len (hqo.gr g).p) hf1 ⟨ra Ac.cs 10 Ac.cs_len (hqo.gr g).a,hf2⟩ HAC.out);obtain⟨r,hr⟩:∃r,Mn q.k (⟨k,pc,⟨c0,c1,c2,c3,c4,c5,c6,c7⟩⟩:Ac)=r:=⟨_,rfl⟩;have hr':(if (du q.k.blank q.k.pieces q.k.acts).2≠0 then(du q.k.blank q.k.pieces q.k.acts).2 else(du q.k.blank q.k.pieces (q.k.acts ++ [(⟨k,pc,⟨c0,c1,c2,c3,c4,c5,c6,c7⟩⟩:Ac)])).2)=r:=hr;have hQ2:r=0->ay (Q.map Q3.k) (some (.act n (⟨k,pc,⟨c0,c1,c2,c3,c4,c5,c6,c7⟩⟩:Ac)))=((Q.map Q3.k).set i {q.k with acts:=q.k.acts ++ [(⟨k,pc,⟨c0,c1,c2,c3,c4,c5,c6,c7⟩⟩:Ac)]},0):=λh0=>by simp only[ay,ho,hgd,hr,if_pos h0]
  have hQ3:r≠0->ay (Q.map Q3.k) (some (.act n (⟨k,pc,⟨c0,c1,c2,c3,c4,c5,c6,c7⟩⟩:Ac)))=(Q.map Q3.k,r):=λh0=>by simp only[ay,ho,hgd,hr,if_neg h0]
  obtain⟨⟨qi,qs,qt,⟨b0,b1,b2,b3,b4,b5,b6,b7⟩,L,A⟩,sp,sa⟩:=q;dsimp only at AP0 hr' hQ2 hQ3 hgd;rw[hr']at AP0;have HGL:=hid (ai (GI.out.heap hgb));have HGB:=hid (GI.out.heap hgb);have HQI:=hid hq;obtain⟨pv,hpv⟩:∃x,sp.v=x:=⟨_,rfl⟩;obtain⟨av,hav⟩:∃x,sa.v=x:=⟨_,rfl⟩;rw[hpv,hav]at AP0;have EP:=hid hpv;have EA:=hid hav;clear hqo hpv hav hq hr hr' hgd hqm hf1 hf2 hgb HBW HF;go_enter func154,ntmps154
  by_cases hz:r=0
  ·subst hz;have HR:=hid (hQ2 rfl);have AP:=hid (λu (g:Gr w u)=>(AP0.out u g).mono (R':=λe w'=>∃x y,e= .returned (.tuple #[.agg #[b0,b1,b2,b3,b4,b5,b6,b7,x,y],Yp 0])/\w'.ownsRow u.heap.size 39 8 x L.length (L.flatMap S8.cs)/\w'.ownsRow u.heap.size 54 10 y (A.length+1) ((A ++ [(⟨k,pc,⟨c0,c1,c2,c3,c4,c5,c6,c7⟩⟩:Ac)]).flatMap Ac.cs)/\Gr u w') (by
    rintro e w' ⟨g,r',hr',h⟩;rcases h with ⟨h1,h2⟩ | ⟨h1,x,y,h2,h3,h4⟩
    ·exact absurd hr' h1
    ·exact⟨x,y,h2,h3,h4,g⟩))
   clear ho hQ2 hQ3 AP0;go_wp2;generalize w.alloc (.cells #[.string wd,Yp n,s0,s1,s2,s3,s4,s5,s6,s7,Ys k,Yp pc,c0,c1,c2,c3,c4,c5,c6,c7] 90)=U at *;refine ah [.val (Ym Lb),.val (Ym Lb),.val (Ym Lb),.val (.pointer (some ⟨w.heap.size,1,none⟩)),.val (Yp n),.val (.pointer (some ⟨g,i * 13,none⟩)),.val (.pointer (some ⟨g,i * 13,none⟩))] Yh Yh (λV=>finT) ?_ ?_
   ·exact Ud
   ·intro V1 w1 g1 _;have HE:=hid (g1.heap HE.out);have HB:=hid (HB.out.gr g1);have HBS:=hid (Nat.le_trans HBS.out g1.b.size);have GI:=hid (GI.out.trans g1);have AP:=hid (λu (g:Gr w1 u)=>AP.out u (GI.out.trans g));clear KP HL g1;go_upto_region 4 with (fail);refine jy (λu=>Gr w1 u) (λ_=>True) [11] (λu2 u3 h g=>h.trans g) (λu2 u3 h g=>trivial) (Yu _) trivial Yh
     [.val (.pointer (some ⟨g,i * 13,none⟩)),.val (.pointer (some ⟨g,i * 13,none⟩)),.val (.pointer (some ⟨g,i * 13+3,none⟩)),.val (.agg #[b0,b1,b2,b3,b4,b5,b6,b7,pv,av]),.val (.pointer (some ⟨w.heap.size,10,none⟩)),.val (.agg #[Ys k,Yp pc,c0,c1,c2,c3,c4,c5,c6,c7]),.sat (zb9 w1.heap.size (⟨b0,b1,b2,b3,b4,b5,b6,b7⟩:S8) L (A ++ [(⟨k,pc,⟨c0,c1,c2,c3,c4,c5,c6,c7⟩⟩:Ac)])),.sat (zb9 w1.heap.size (⟨b0,b1,b2,b3,b4,b5,b6,b7⟩:S8) L (A ++ [(⟨k,pc,⟨c0,c1,c2,c3,c4,c5,c6,c7⟩⟩:Ac)])),.sat (AggH w1.heap.size (⟨b0,b1,b2,b3,b4,b5,b6,b7⟩:S8) L (A ++ [(⟨k,pc,⟨c0,c1,c2,c3,c4,c5,c6,c7⟩⟩:Ac)])),.val (Yp 0),.sat (NewH w1.heap.size),.turn (λ_ _=>True) [6,8,10],.val (Yp 0)] 11 10 (BlkH w1.heap.size (⟨b0,b1,b2,b3,b4,b5,b6,b7⟩:S8) L (A ++ [(⟨k,pc,⟨c0,c1,c2,c3,c4,c5,c6,c7⟩⟩:Ac)])) (λv u u2 h g=>by obtain⟨q,x,y,h1,h2,h3,h4⟩:=h;exact⟨q,x,y,h1,h2,g.heap h3,h4.gr g⟩) Yh Yh Yh (λV=>finT) ?_ ?_
    ·refine⟨?_,?_,?_,?_,?_,?_,?_,?_,?_,?_,?_,?_,?_,trivial⟩
     iterate 3 ·(intro V u hu hj hk;refine⟨Yh,?_⟩;obtain⟨ce,fe,ze⟩:=ed (hu.heap HE.out);go_simp;first | exact⟨rfl,Yu _⟩ | skip)
     ·intro V u hu hj hk;refine⟨Yh,?_⟩;refine sy 45 (.tmp 19) rfl g (i * 13+3) [b0,b1,b2,b3,b4,b5,b6,b7,pv,av] ?_ _ (by have:=Ey (HB.out.gr hu) i hi _ HQI.out;rw[<-EP.out,<-EA.out];exact this) underlying45 rfl Yh;rfl
     iterate 2 ·(intro V u hu hj hk;refine⟨Yh,?_⟩;obtain⟨ce,fe,ze⟩:=ed (hu.heap HE.out);go_simp;first | exact⟨rfl,Yu _⟩ | skip)
     ·refine⟨λv u u1 h g=>?_,λV u hu hj hk=>⟨Yh,?_⟩⟩
      ·obtain⟨x,y,h1,h2⟩:=h;exact⟨x,y,h1,h2.gr g⟩
      ·go_simp;refine(AP.out u hu).mono ?_;rintro e w' ⟨x,y,rfl,h1,h2,h3⟩;exact⟨_,rfl,⟨x,y,rfl,h1.mono hu.b.size,by simpa using h2.mono hu.b.size⟩,h3⟩
     ·refine⟨λv u u1 h g=>?_,λV u hu hj hk=>⟨Yh,?_⟩⟩
      ·obtain⟨x,y,h1,h2⟩:=h;exact⟨x,y,h1,h2.gr g⟩
      ·have h6:=hk 6 (zb9 w1.heap.size (⟨b0,b1,b2,b3,b4,b5,b6,b7⟩:S8) L (A ++ [(⟨k,pc,⟨c0,c1,c2,c3,c4,c5,c6,c7⟩⟩:Ac)])) Yh Yh;go_simp;exact⟨h6,Yu _⟩
     ·refine⟨λv u u1 h g=>?_,λV u hu hj hk=>⟨Yh,?_⟩⟩
      ·obtain⟨x,y,h1,h2⟩:=h;exact⟨x,y,h1,h2.gr g⟩
      ·obtain⟨x,y,h1,h2⟩:=hk 7 (zb9 w1.heap.size (⟨b0,b1,b2,b3,b4,b5,b6,b7⟩:S8) L (A ++ [(⟨k,pc,⟨c0,c1,c2,c3,c4,c5,c6,c7⟩⟩:Ac)])) Yh Yh;go_simp;exact⟨⟨x,y,rfl,h2⟩,Yu _⟩
     ·intro V u hu hj hk;refine⟨Yh,?_⟩;obtain⟨x,y,h1,h2⟩:=hk 7 (zb9 w1.heap.size (⟨b0,b1,b2,b3,b4,b5,b6,b7⟩:S8) L (A ++ [(⟨k,pc,⟨c0,c1,c2,c3,c4,c5,c6,c7⟩⟩:Ac)])) Yh Yh;go_simp;exact⟨rfl,Yu _⟩
     ·refine⟨λv u u1 h g=>?_,λV u hu hj hk=>⟨Yh,?_⟩⟩
      ·obtain⟨q,c,h1,h2,h3,h4⟩:=h;exact⟨q,c,h1,h2,g.heap h3,h4⟩
      ·go_simp;exact⟨⟨_,_,rfl,hu.b.size,ae _ _,rfl⟩,(Yu _).alloc _⟩
     ·refine⟨λv u u1 h g=>trivial,λV u hu hj hk=>⟨Yh,?_⟩⟩;obtain⟨q,c,e10,hq,hqb,hcq⟩:=hk 10 (NewH w1.heap.size) Yh Yh;obtain⟨x,y,e8,hown⟩:=hk 8 (AggH w1.heap.size (⟨b0,b1,b2,b3,b4,b5,b6,b7⟩:S8) L (A ++ [(⟨k,pc,⟨c0,c1,c2,c3,c4,c5,c6,c7⟩⟩:Ac)])) Yh Yh;refine turnV1 (R:=(λu=>Gr w1 u)) (J:=(λ_=>True)) (dj:=[11]) (kk:=7) (V:=V) (u:=u) Yh Yh rfl ?_;refine mf _ _ _ rfl q (qk (⟨b0,b1,b2,b3,b4,b5,b6,b7⟩:S8) x y) e10 e8 _ c hqb Yh hcq ?_ ⟨trivial,⟨hu.setRow q _ hq,⟨q,x,y,e10,hq,setRow_heap u q c _ _ _ hqb,hown.row hqb _⟩⟩,?_⟩
      ·obtain⟨a1,q1,rfl,_⟩:=aj hown.1;obtain⟨a2,q2,rfl,_⟩:=aj hown.2;simp[qk,Value.oneCell']
      ·intro Fi hFi h7;cases hFi;obtain⟨x',y',h1,h2⟩:=h7;exact⟨x',y',h1,h2.row hqb _⟩
     ·(intro V u hu hj hk;refine⟨Yh,?_⟩;obtain⟨ce,fe,ze⟩:=ed (hu.heap HE.out);go_simp;first | exact⟨rfl,Yu _⟩ | skip)
    ·intro V u hg hs he;obtain⟨q',x,y,e10,hq',hqb,hown⟩:=he;obtain⟨a1,q1,hx,_⟩:=aj hown.1;obtain⟨a2,q2,hy,_⟩:=aj hown.2;rw[List.length_append,List.length_singleton]at hy;subst hx;subst hy;have GU:=hid (GI.out.trans hg);have HBU:=hid (HB.out.gr hg);have HQB:=hid hqb;have HO:=hid hown;clear hs hg hqb hown hq';generalize V 10=v10 at *;subst e10;go_upto_region 6 with (fail);have HT:=hid (Pe HBU.out i hi);obtain⟨cq,fq,zq⟩:=ed HQB.out;apply wp_region_lit;refine wpList_plain rfl λ_ hK=>?_;go_simp;refine hK _ _ ?_;clear hK;refine wpList_load_mid rfl 45 (.tmp 6) rfl q' 0 rfl [b0,b1,b2,b3,b4,b5,b6,b7,.slice a1 L.length q1,.slice a2 (A.length+1) q2] _ (λj v hv=>by rw[Nat.zero_add];exact(cq j).trans (by simpa[qk]using hv)) underlying45 rfl Yh ?_;(iterate 2 refine wpList_plain rfl λ_ hK=>?_;go_simp;refine hK _ _ ?_;clear hK);refine wpList_store_mid rfl 45 (.tmp 31) (.tmp 29) rfl g (i * 13+3) (qk (⟨b0,b1,b2,b3,b4,b5,b6,b7⟩:S8) (.slice a1 L.length q1) (.slice a2 (A.length+1) q2)) rfl rfl HT.out Yh (by simp[qk,Value.oneCell']) ?_;have hh:az (u.setCells g (i * 13+3) (qk (⟨b0,b1,b2,b3,b4,b5,b6,b7⟩:S8) (.slice a1 L.length q1) (.slice a2 (A.length+1) q2)).toList) base (.slice (Yn g) Q.length cap) (Q.set i ⟨⟨qi,qs,qt,(⟨b0,b1,b2,b3,b4,b5,b6,b7⟩:S8),L,(A ++ [(⟨k,pc,⟨c0,c1,c2,c3,c4,c5,c6,c7⟩⟩:Ac)])⟩,⟨a1,L.length,q1⟩,⟨a2,A.length+1,q2⟩⟩):=HBU.out.hist i hi _ HQI.out L (A ++ [(⟨k,pc,⟨c0,c1,c2,c3,c4,c5,c6,c7⟩⟩:Ac)]) ⟨a1,L.length,q1⟩ ⟨a2,A.length+1,q2⟩ (HO.out.1.mono HBS.out) (HO.out.2.mono HBS.out);have hgr:GrL [g] w (u.setCells g (i * 13+3) (qk (⟨b0,b1,b2,b3,b4,b5,b6,b7⟩:S8) (.slice a1 L.length q1) (.slice a2 (A.length+1) q2)).toList):=GrL.setCells g _ _ u (GrL.of_gr GU.out) (Or.inr Yj);have HH:=hid hh;have HGR:=hid hgr;clear hh hgr HT cq fq zq HQB;generalize u.setCells g (i * 13+3) (qk (⟨b0,b1,b2,b3,b4,b5,b6,b7⟩:S8) (.slice a1 L.length q1) (.slice a2 (A.length+1) q2)).toList=U2 at *;go_wp2;go_ret;refine⟨_,0,rfl,?_,HH.out,HGR.out⟩;rw[HR.out,List.map_set]
  ·have HR:=hid (hQ3 hz);have AP:=hid (λu (g:Gr w u)=>(AP0.out u g).mono (R':=λe w'=>e= .returned (.tuple #[.agg Zd,Yp r])/\Gr u w') (by
    rintro e w' ⟨g,r',hr',h⟩;rcases h with ⟨h1,h2⟩ | ⟨h1,x,y,h2,h3,h4⟩
    ·rw[h2,hr'];exact⟨rfl,g⟩
    ·exact absurd (hr'.symm.trans h1) hz))
   have hz':¬((r:Nat):Int)=0:=Yi;clear ho hQ2 hQ3 AP0;go_wp2;generalize w.alloc (.cells #[.string wd,Yp n,s0,s1,s2,s3,s4,s5,s6,s7,Ys k,Yp pc,c0,c1,c2,c3,c4,c5,c6,c7] 90)=U at *;refine ah [.val (Ym Lb),.val (Ym Lb),.val (Ym Lb),.val (.pointer (some ⟨w.heap.size,1,none⟩)),.val (Yp n),.val (.pointer (some ⟨g,i * 13,none⟩)),.val (.pointer (some ⟨g,i * 13,none⟩))] Yh Yh (λV=>finT) ?_ ?_
   ·exact Ud
   ·intro V1 w1 g1 _;have HE:=hid (g1.heap HE.out);have HB:=hid (HB.out.gr g1);have HBS:=hid (Nat.le_trans HBS.out g1.b.size);have GI:=hid (GI.out.trans g1);have AP:=hid (λu (g:Gr w1 u)=>AP.out u (GI.out.trans g));clear KP HL g1;go_upto_region 4 with (fail);refine jy (λu=>Gr w1 u) (λ_=>True) [11] (λu2 u3 h g=>h.trans g) (λu2 u3 h g=>trivial) (Yu _) trivial Yh
     [.val (.pointer (some ⟨g,i * 13,none⟩)),.val (.pointer (some ⟨g,i * 13,none⟩)),.val (.pointer (some ⟨g,i * 13+3,none⟩)),.val (.agg #[b0,b1,b2,b3,b4,b5,b6,b7,pv,av]),.val (.pointer (some ⟨w.heap.size,10,none⟩)),.val (.agg #[Ys k,Yp pc,c0,c1,c2,c3,c4,c5,c6,c7]),.val (.tuple #[.agg Zd,Yp r]),.val (.tuple #[.agg Zd,Yp r]),.val (.agg Zd),.val (Yp r),.sat (NewH w1.heap.size),.turn (λ_ _=>True) [10],.val (Yp r)] 11 10 (λ_ _=>True) (λ_ _ _ _ _=>trivial) Yh Yh Yh (λV=>finT) ?_ ?_
    ·refine⟨?_,?_,?_,?_,?_,?_,?_,?_,?_,?_,?_,?_,?_,trivial⟩
     iterate 3 ·(intro V u hu hj hk;refine⟨Yh,?_⟩;obtain⟨ce,fe,ze⟩:=ed (hu.heap HE.out);go_simp;first | exact⟨rfl,Yu _⟩ | skip)
     ·intro V u hu hj hk;refine⟨Yh,?_⟩;refine sy 45 (.tmp 19) rfl g (i * 13+3) [b0,b1,b2,b3,b4,b5,b6,b7,pv,av] ?_ _ (by have:=Ey (HB.out.gr hu) i hi _ HQI.out;rw[<-EP.out,<-EA.out];exact this) underlying45 rfl Yh;rfl
     iterate 2 ·(intro V u hu hj hk;refine⟨Yh,?_⟩;obtain⟨ce,fe,ze⟩:=ed (hu.heap HE.out);go_simp;first | exact⟨rfl,Yu _⟩ | skip)
     ·(intro V u hu hj hk;refine⟨Yh,?_⟩;obtain⟨ce,fe,ze⟩:=ed (hu.heap HE.out);go_simp;first | exact⟨rfl,Yu _⟩ | skip)
      refine(AP.out u hu).mono ?_;rintro e w' ⟨he,g⟩;exact⟨he,g⟩
     iterate 3 ·(intro V u hu hj hk;refine⟨Yh,?_⟩;obtain⟨ce,fe,ze⟩:=ed (hu.heap HE.out);go_simp;first | exact⟨rfl,Yu _⟩ | skip)
     ·refine⟨λv u u1 h g=>?_,λV u hu hj hk=>⟨Yh,?_⟩⟩
      ·obtain⟨q,c,h1,h2,h3,h4⟩:=h;exact⟨q,c,h1,h2,g.heap h3,h4⟩
      ·go_simp;exact⟨⟨_,_,rfl,hu.b.size,ae _ _,rfl⟩,(Yu _).alloc _⟩
     ·refine⟨λv u u1 h g=>trivial,λV u hu hj hk=>⟨Yh,?_⟩⟩;obtain⟨q,c,e10,hq,hqb,hcq⟩:=hk 10 (NewH w1.heap.size) Yh Yh;refine turnV (R:=(λu=>Gr w1 u)) (J:=(λ_=>True)) (dj:=[11]) (E:=λ_ _=>True) (jE:=10) (V:=V) (u:=u) Yh Yh rfl ?_;exact mf _ _ _ rfl q Zd e10 rfl _ c hqb Yh hcq (by simp[Value.oneCell']) ⟨trivial,hu.setRow q _ hq,trivial⟩
     ·(intro V u hu hj hk;refine⟨Yh,?_⟩;obtain⟨ce,fe,ze⟩:=ed (hu.heap HE.out);go_simp;first | exact⟨rfl,Yu _⟩ | skip)
    ·intro V u hg hs _;have HG:=hid hg;have GU:=hid (GI.out.trans hg);have HBU:=hid (HB.out.gr hg);clear hs hg;go_wp2;go_ret;exact⟨Q,r,rfl,HR.out.symm,HBU.out,GrL.of_gr GU.out⟩
end Go.Proofs.YtimcfaoabaflkaaGreatDoor
