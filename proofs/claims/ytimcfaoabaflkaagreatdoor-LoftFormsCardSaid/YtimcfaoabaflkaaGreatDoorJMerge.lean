/- loft: Merge. -/
import Derived.Test.YtimcfaoabaflkaaGreatDoorRAct
import Derived.Test.YtimcfaoabaflkaaGreatDoorJDel
import Derived.Test.YtimcfaoabaflkaaGreatDoorLLib
import Derived.Test.YtimcfaoabaflkaaGreatDoorRForm
import Derived.Test.YtimcfaoabaflkaaGreatDoorTTd
namespace Go.Proofs.YtimcfaoabaflkaaGreatDoor
open AbA AbI
set_option maxHeartbeats 16000000
set_option maxRecDepth 100000
open Go.Proofs.Tryz
theorem Xj {P:Prop} (h:P:=by
 refine⟨?_,?_,?_,?_,?_,?_,?_,?_,?_,?_,trivial⟩ <;> (first | exact trivial | exact osGr | (refine⟨osK,?_⟩;intro V u hu hk;refine⟨Yh,aw Yh ?_⟩;obtain⟨hc,hf,hz⟩:=hu.cells;go_simp;skip) | (refine⟨osK,?_⟩;intro V u hu hk;refine⟨Yh,?_⟩;obtain⟨hc,hf,hz⟩:=hu.cells;go_simp;skip) | (intro V u hu hk;refine⟨Yh,?_⟩;obtain⟨hc,hf,hz⟩:=hu.cells;go_simp;first | exact⟨rfl,Yu _⟩ | skip) | (intro V u hu hk;show _=false;kernel_rfl));exact zdU y x _ _ NE.out):P:=h
section
open Go.RowKit Go.Shelf Go.Lib
theorem zdX {l:List Rc} {x:Rc} (hp:o7 l x < l.length) (hc:ul l[o7 l x] x=0) (he:l[o7 l x]=x):zcB l x=some l:=by
 unfold zcB;rw[dif_pos hp,if_pos hc,if_pos he]
theorem zdH {l:List Rc} {x:Rc} (hp:o7 l x < l.length) (hc:ul l[o7 l x] x=0) (he:l[o7 l x]≠x):zcB l x=none:=by
 unfold zcB;rw[dif_pos hp,if_pos hc,if_neg he]
theorem zdb {l:List Rc} {x:Rc} (h:∀hp:o7 l x < l.length,ul l[o7 l x] x≠0):zcB l x=some (Yg l x):=by
 unfold zcB
 by_cases hp:o7 l x < l.length
 ·rw[dif_pos hp,if_neg (h hp)]
 ·rw[dif_neg hp]
theorem zdA {m b:List Rc} {i:Nat} (hi:i < b.length):rr m (b.drop i)=(zcB m b[i]).bind fun l'=>rr l' (b.drop (i+1)):=by
 rw[List.drop_eq_getElem_cons hi];rfl
theorem zdI {l l':List Rc} {x:Rc} (hk:Pz l) (h:zcB l x=some l'):Pz l':=by
 rcases zdq (x:=x) hk with ⟨h1,_⟩ | ⟨l2,h1,h2,_⟩
 ·rw[h1]at h;cases h
 ·rw[h1]at h;cases h;exact h2
theorem zdS (l:List Rc) (x:Rc):(Yg l x).length=l.length+1:=by
 have:=zdj l x;unfold Yg;simp only[List.length_append,List.length_take,List.length_drop,List.length_singleton];omega
theorem zdY (n:Int) (v1 v2:Value) (a b:List Rc) (i0 e0:Int) (w:World) (hv1:dr w v1 a) (hv2:dr w v2 b) (h0:e0≠0)
  (hc:(∀u,Gr w u→Calls prog 39 #[Yp n,v1] u fun e w'=>e= .returned (.tuple #[Yp i0,Yp e0])∧Gr u w')):
  Calls prog 13 #[Yp n,v1,v2] w fun e w'=>e= .returned (.tuple #[.slice none 0 0,Yp e0])∧Gr w w':=by
 have CH:=hid hc;have h1:(e0 == 0)=false:=by simpa using h0
 have h2:decide (e0=0)=false:=by simpa using h0
 obtain⟨aa,capa,rfl, -, -⟩:=hv1;obtain⟨ab,capb,rfl, -, -⟩:=hv2;have bx:=ae w (.cells #[.slice aa a.length capa,.slice ab b.length capb] 22);have g0:Gr w (w.alloc (.cells #[.slice aa a.length capa,.slice ab b.length capb] 22)):=(Yu w).alloc _;clear hc;go_enter func13,ntmps13;go_wp2;generalize w.alloc (.cells #[.slice aa a.length capa,.slice ab b.length capb] 22)=W at *;obtain⟨p,hp⟩:∃p,w.heap.size=p:=⟨_,rfl⟩;rw[hp]at bx;simp only[hp];clear hp;go_loopw [9,10,11,21] (fun _ _ _ q wr=>q= .int .i64 0∧Gr W wr) (fun _ _ _ _ _=>0)
 case atStart=>exact⟨rfl,Yu _⟩
 case round=>
  obtain⟨rfl,gr⟩:=hrel;obtain⟨cx,fx,zx⟩:=bw (gr.heap bx);go_wp2_with fail;refine(CH.out _ (g0.trans gr)).mono ?_;rintro e w1 ⟨rfl,hg1⟩;have G:=(g0.trans gr).trans hg1;clear cx fx zx;go_wp2;go_ret2;exact⟨rfl,G⟩
theorem zdK (n:Int) (v1 v2:Value) (a b:List Rc) (i0 e0:Int) (w:World) (hv1:dr w v1 a) (hv2:dr w v2 b) (h0:e0≠0)
  (hc:(∀u,Gr w u→Calls prog 39 #[Yp n,v1] u fun e w'=>e= .returned (.tuple #[Yp 0,Yp 0])∧Gr u w'))
  (hc2:(∀u,Gr w u→Calls prog 39 #[Yp n,v2] u fun e w'=>e= .returned (.tuple #[Yp i0,Yp e0])∧Gr u w')):
  Calls prog 13 #[Yp n,v1,v2] w fun e w'=>e= .returned (.tuple #[.slice none 0 0,Yp e0])∧Gr w w':=by
 have CH:=hid hc;have CH2:=hid hc2;have h1:(e0 == 0)=false:=by simpa using h0
 have h2:decide (e0=0)=false:=by simpa using h0
 obtain⟨aa,capa,rfl, -, -⟩:=hv1;obtain⟨ab,capb,rfl, -, -⟩:=hv2;have bx:=ae w (.cells #[.slice aa a.length capa,.slice ab b.length capb] 22);have g0:Gr w (w.alloc (.cells #[.slice aa a.length capa,.slice ab b.length capb] 22)):=(Yu w).alloc _;clear hc hc2;go_enter func13,ntmps13;go_wp2;generalize w.alloc (.cells #[.slice aa a.length capa,.slice ab b.length capb] 22)=W at *;obtain⟨p,hp⟩:∃p,w.heap.size=p:=⟨_,rfl⟩;rw[hp]at bx;simp only[hp];clear hp;go_loopw [9,10,11,21] (fun _ _ _ q wr=>∃i:Nat,q= .int .i64 i∧i≤1∧Gr W wr) (fun _ _ _ q _=>1 - (intOf q).toNat)
 case atStart=>exact⟨0,rfl,Yi,Yu _⟩
 case round=>
  obtain⟨i,rfl,hi,gr⟩:=hrel;obtain⟨cx,fx,zx⟩:=bw (gr.heap bx);rcases(show i=0∨i=1 by omega)with rfl | rfl
  ·go_wp2_with fail;refine(CH.out _ (g0.trans gr)).mono ?_;rintro e w1 ⟨rfl,hg1⟩;have G:=gr.trans hg1;clear cx fx zx gr hg1;go_wp2;exact⟨⟨1,Yj,Yi,G⟩,by simp[intOf]⟩
  ·go_wp2_with fail;refine(CH2.out _ (g0.trans gr)).mono ?_;rintro e w1 ⟨rfl,hg1⟩;have G:=(g0.trans gr).trans hg1;clear cx fx zx;go_wp2;go_ret2;exact⟨rfl,G⟩
theorem zdJ (n:Int) (v1 v2:Value) (a b:List Rc) (w:World) (hv1:dr w v1 a) (hv2:dr w v2 b) (hla:a.length≤1000) (hlb:b.length≤1000) (ha:Pz a)
  (hc:(∀u,Gr w u→Calls prog 39 #[Yp n,v1] u fun e w'=>e= .returned (.tuple #[Yp 0,Yp 0])∧Gr u w'))
  (hc2:(∀u,Gr w u→Calls prog 39 #[Yp n,v2] u fun e w'=>e= .returned (.tuple #[Yp 0,Yp 0])∧Gr u w')):
  Calls prog 13 #[Yp n,v1,v2] w fun e w'=>((rr a b=none∧e= .returned (.tuple #[.slice none 0 0,Yp 96]))∨∃m v',rr a b=some m∧e= .returned (.tuple #[v',Yp 0])∧w'.ownsRow w.heap.size 36 4 v' m.length (rcs m))∧Gr w w':=by
 have CH:=hid hc;have CH2:=hid hc2;have CL:=hid (fun u (g:Gr w u)=>Qc v1 a u (hv1.gr g) Yi);obtain⟨aa,capa,rfl, -, -⟩:=hv1;obtain⟨ab,capb,rfl,hcapb,hcell⟩:=hv2;have HC:=hid hcell;have HKA:=hid ha;have bx:=ae w (.cells #[.slice aa a.length capa,.slice ab b.length capb] 22);have g0:Gr w (w.alloc (.cells #[.slice aa a.length capa,.slice ab b.length capb] 22)):=(Yu w).alloc _;clear hc hc2 hcell ha;go_enter func13,ntmps13;go_wp2;generalize w.alloc (.cells #[.slice aa a.length capa,.slice ab b.length capb] 22)=W at *;obtain⟨p,hp⟩:∃p,w.heap.size=p:=⟨_,rfl⟩;rw[hp]at bx;simp only[hp];have HP:=hid hp;clear hp;go_loopw [9,10,11,21] (fun _ _ _ q wr=>∃i:Nat,q= .int .i64 i∧i≤2∧Gr W wr) (fun _ _ _ q _=>2 - (intOf q).toNat)
 case atStart=>exact⟨0,rfl,Yi,Yu _⟩
 case round=>
  obtain⟨i,rfl,hi,gr⟩:=hrel;rcases(show i=0∨i=1∨i=2 by omega)with rfl | rfl | rfl
  ·obtain⟨cx,fx,zx⟩:=bw (gr.heap bx);go_wp2_with fail;refine(CH.out _ (g0.trans gr)).mono ?_;rintro e w1 ⟨rfl,hg1⟩;have G:=gr.trans hg1;clear cx fx zx gr hg1;go_wp2;exact⟨⟨1,Yj,Yi,G⟩,by simp[intOf]⟩
  ·obtain⟨cx,fx,zx⟩:=bw (gr.heap bx);go_wp2_with fail;refine(CH2.out _ (g0.trans gr)).mono ?_;rintro e w1 ⟨rfl,hg1⟩;have G:=gr.trans hg1;clear cx fx zx gr hg1;go_wp2;exact⟨⟨2,Yj,Yi,G⟩,by simp[intOf]⟩
  ·go_wp2_with fail;refine(CL.out _ (g0.trans gr)).mono ?_;rintro e w2 ⟨v0,rfl,hown,hg2⟩;have G2:=(g0.trans gr).trans hg2;have HO0:Hid (w2.ownsRow p 36 4 v0 a.length (rcs a)):=hid (World.ownsRow.mono hown (by rw[←HP.out];exact(g0.trans gr).b.size));clear bx g0 gr hown hg2 CH CH2 CL;go_wp2;go_loopw [12,14,15,16,39] (fun o _ _ _ q wr=>∃(i:Nat) (m:List Rc),q= .int .i64 i∧i≤b.length∧m.length≤a.length+i∧Hid (Pz m)∧Hid (rr a b=rr m (b.drop i))∧Hid (wr.ownsRow p 36 4 o m.length (rcs m))∧Gr w wr) (fun _ _ _ _ q _=>b.length - (intOf q).toNat)
   case atStart=>exact⟨0,a,rfl,Yi,Yi,HKA,hid (by rw[List.drop_zero]),HO0,G2⟩
   case round=>
    obtain⟨i,m,rfl,hib,hml,HK,HM,HO,gr⟩:=hrel
    by_cases hil:i < b.length
    ·have hil':(i:Int) < b.length:=Yi;have hi0:(0:Int)≤i:=Yi;obtain⟨g,o,rfl,hgl,c0,c1,c2,c3⟩:=HC.out i hil;rw[←gr.cells.1 g _ hgl]at c0 c1 c2 c3;have hz:g < wr.heap.size:=Nat.lt_of_lt_of_le hgl gr.b.size;have HST:=hid (zdA (m:=m) hil);generalize b[i]=x at *;obtain⟨ao,co,rfl⟩:=pt HO.out;have HXV:Hid (x.v= .agg #[Yp x.s,Yp x.k,Yp x.d,.string x.t]):=hid rfl;have bx:=ae wr (.cells #[Yp x.s,Yp x.k,Yp x.d,.string x.t] 36);have gx:Gr wr (wr.alloc (.cells #[Yp x.s,Yp x.k,Yp x.d,.string x.t] 36)):=(Yu wr).alloc _;have HO1:=hid (ek HO.out gx);have hpw:p≤wr.heap.size:=by rw[←HP.out];exact gr.b.size
     obtain⟨pos,hpos⟩:∃pos,o7 m x=pos:=⟨_,rfl⟩;have hpl:pos≤m.length:=by rw[←hpos];exact zdj m x
     obtain⟨fb,hfb⟩:∃fb,(if h:pos < m.length then decide (ul m[pos] x=0)else false)=fb:=⟨_,rfl⟩;have hm6:m.length≤1000000:=Yi;have SE:=hid (fun u (hu:u.ownsRow p 36 4 (.slice ao m.length co) m.length (rcs m))=>zdd (.slice ao m.length co) m x pos fb u (World.ownsRow.mono hu (Nat.zero_le _)) hm6 hpl (fun j hj h=>zcC j hj (by rw[hpos];exact h)) (fun j hj h=>zcD HK.out j hj (by rw[hpos];exact h)) (fun h=>by rw[←hfb,dif_pos h]) (fun h=>by rw[←hfb,dif_neg h]));have HPOS:=hid hpos;have HFB:=hid hfb;clear hpos hfb;rw[HXV.out]at SE;go_wp2_with fail;generalize wr.alloc (.cells #[Yp x.s,Yp x.k,Yp x.d,.string x.t] 36)=W3 at *;obtain⟨px,hpx⟩:∃q,wr.heap.size=q:=⟨_,rfl⟩;rw[hpx]at bx;simp only[hpx];clear c0 c1 c2 c3 hz hpw hpx;refine(SE.out _ HO1.out).mono ?_;rintro e w4 ⟨rfl,hg4⟩;have bx4:=hg4.heap bx;have HO4:=hid (ek HO1.out hg4);have G4:Gr w w4:=(gr.trans gx).trans hg4;clear bx HO1 HO SE hg4 gx gr;obtain⟨cx,fx,zx⟩:=bw bx4;cases fb
     ·have HA:Hid (rr a b=rr (Yg m x) (b.drop (i+1))):=hid (by
       rw[HM.out,HST.out,zdb (fun hp=>by
        have h1:=HFB.out;rw[HPOS.out]at hp;rw[dif_pos hp]at h1;simp only[HPOS.out];simpa using h1)]
       rfl)
      have HI:Hid (m.take pos ++ [x] ++ m.drop pos=Yg m x):=hid (by rw[←HPOS.out];rfl);have HKI:Hid (Pz (Yg m x)):=hid (zdI HK.out (zdb (fun hp=>by
        have h1:=HFB.out;rw[HPOS.out]at hp;rw[dif_pos hp]at h1;simp only[HPOS.out];simpa using h1)))
      have hil2:(Yg m x).length≤a.length+(i+1):=by rw[zdS];omega
      go_wp2_with fail;refine ah [.val (.bool false),.val (.bool false),.off,.off,.off,.off,.off,.off,.val (.bool false),.val (.bool false)] Yh Yh (fun V=>finT) ?_ ?_
      ·refine⟨?_,?_,?_,?_,?_,?_,?_,?_,?_,?_,trivial⟩ <;> (first | exact trivial | exact osGr | (refine⟨osK,?_⟩;intro V u hu hk;refine⟨Yh,aw Yh ?_⟩;obtain⟨hc,hf,hz⟩:=hu.cells;go_simp;skip) | (refine⟨osK,?_⟩;intro V u hu hk;refine⟨Yh,?_⟩;obtain⟨hc,hf,hz⟩:=hu.cells;go_simp;skip) | (intro V u hu hk;refine⟨Yh,?_⟩;obtain⟨hc,hf,hz⟩:=hu.cells;go_simp;first | exact⟨rfl,Yu _⟩ | skip) | (intro V u hu hk;show _=false;kernel_rfl))
      ·intro V u hg hsx;have bx5:=hg.heap bx4;have HO5:=hid (ek HO4.out hg);have G5:=G4.trans hg;clear cx fx zx bx4 HO4 hg hsx G4;obtain⟨cx,fx,zx⟩:=bw bx5;have bn:=ae u (.cells #[Yp x.s,Yp x.k,Yp x.d,.string x.t] 36);have gn:Gr u (u.alloc (.cells #[Yp x.s,Yp x.k,Yp x.d,.string x.t] 36)):=(Yu u).alloc _;have HO6:=hid (ek HO5.out gn);have hpu:p≤(u.alloc (.cells #[Yp x.s,Yp x.k,Yp x.d,.string x.t] 36)).heap.size:=by rw[←HP.out];exact(G5.trans gn).b.size
       have IN:=hid (zdg p (.slice ao m.length co) m x pos u.heap.size 1 _ hpu HO6.out bn (fun hq=>by have:=(HO5.out.lt _ hq).2;omega) hpl hm6);have G6:=G5.trans gn;clear bn gn hpu;go_simp;go_wp2_with fail;refine IN.out.mono ?_;rintro e w7 ⟨v7,rfl,hown7,hg7⟩;rw[HI.out]at hown7;have HN:=hid hown7;have G7:Gr w w7:=GrL.gr G6 hg7 (fun k hk=>by
        rw[HP.out];exact(HO6.out.lt k (by simpa using hk)).1)
       clear hown7 hg7 IN HO5 HO6 G5 G6 cx fx zx bx5;go_wp2;exact⟨⟨i+1,Yg m x,Yj,Yi,hil2,HKI,HA,HN,G7⟩,by simp[intOf];omega⟩
     ·have hp2:pos < m.length:=by
       have h1:=HFB.out
       by_cases h:pos < m.length
       ·exact h
       ·rw[dif_neg h]at h1;cases h1
      have hc0:ul m[pos] x=0:=by
       have h1:=HFB.out;rw[dif_pos hp2]at h1;simpa using h1
      obtain⟨gm,om,rfl,hgm,d0,d1,d2,d3⟩:=(qe HO4.out).cells.2 pos hp2;have hpp:(0:Int)≤pos:=Yi;have hpp2:(pos:Int) < m.length:=Yi;obtain⟨bq,hbq⟩:∃b,(!decide (m[pos]=x))=b:=⟨_,rfl⟩;have NE:=hid hbq.symm;cases bq
      ·have HA:Hid (rr a b=rr m (b.drop (i+1))):=hid (by
        rw[HM.out,HST.out,zdX (by rw[HPOS.out];exact hp2) (by simp only[HPOS.out];exact hc0) (by simp only[HPOS.out];simpa using hbq)];rfl)
       clear hbq hc0 HFB;generalize m[pos]=y at *;go_wp2_with fail;refine ah [.val (.bool true),.val (.bool true),.val (.slice (some ⟨gm,om,none⟩) m.length co),.val (Yp pos),.val (.pointer (some ⟨gm,om+pos * 4,none⟩)),.val y.v,.val x.v,.val (.bool false),.val (.bool false),.val (.bool false)] Yh Yh (fun V=>finT) ?_ ?_
       ·exact Xj
       ·intro V u hg hsx;have HN:=hid (ek HO4.out hg);have G5:=G4.trans hg;clear cx fx zx d0 d1 d2 d3 hg hsx;go_simp;go_wp2;exact⟨⟨i+1,m,Yj,Yi,Yi,HK,HA,HN,G5⟩,by simp[intOf];omega⟩
      ·have HN:Hid (rr a b=none):=hid (by
        rw[HM.out,HST.out,zdH (by rw[HPOS.out];exact hp2) (by simp only[HPOS.out];exact hc0) (by simp only[HPOS.out];simpa using hbq)];rfl)
       clear hbq hc0 HFB;generalize m[pos]=y at *;go_wp2_with fail;refine ah [.val (.bool true),.val (.bool true),.val (.slice (some ⟨gm,om,none⟩) m.length co),.val (Yp pos),.val (.pointer (some ⟨gm,om+pos * 4,none⟩)),.val y.v,.val x.v,.val (.bool true),.val (.bool true),.val (.bool true)] Yh Yh (fun V=>finT) ?_ ?_
       ·exact Xj
       ·intro V u hg hsx;have G5:=G4.trans hg;clear cx fx zx d0 d1 d2 d3 hg hsx;go_simp;go_wp2;go_ret2;exact⟨.inl ⟨HN.out,rfl⟩,G5⟩
    ·have hil':¬(i:Int) < b.length:=Yi;obtain rfl:i=b.length:=Yi;have HMM:Hid (rr a b=some m):=hid (by rw[HM.out,List.drop_length];rfl);go_wp2;go_ret2;exact⟨.inr ⟨m,HMM.out,_,rfl,by rw[HP.out];exact HO.out⟩,gr⟩
end
section
def Down (n:Int) (l:List Rc):Prop:=∀x∈l,okR n x=true∧(x.k=1∨∃p∈l,p.s=x.s∧p.k+1=x.k∧p.d≤x.d)
abbrev Fd (n:Int) (l:List Rc):Prop:=∀j,j < l.length→kw n l j=0
theorem Rr {n:Int} {l:List Rc} (h:Fd n l):Down n l:=fun x hx=>by
 obtain⟨j,hj,rfl⟩:=List.mem_iff_getElem.1 hx;have hok:=Jb hj (h j hj);refine⟨hok,?_⟩;cases j with
 | zero=>
  have:=h 0 hj;rw[show kw n l 0=kr n none l[0]from Pb hj]at this;exact Or.inl (Pa this)
 | succ j=>
  have:=h (j+1) hj;rw[Ja hj]at this;rcases Wq this with ⟨h1,h2⟩ | ⟨_,h2⟩
  ·refine Or.inr ⟨l[j],List.getElem_mem _,h1.symm,h2.symm,?_⟩;rw[O5 hok h1 Yi,if_pos h2]at this
   by_cases hd:l[j+1].d < l[j].d
   ·rw[if_pos hd]at this;cases this
   ·omega
  ·exact Or.inl h2
theorem ok_of {n:Int} {l:List Rc} (hk:Pz l) (h:Down n l):Fd n l:=by
 intro j hj;have hm:=List.getElem_mem hj;obtain⟨hok,hp⟩:=h l[j] hm;have hd:=Ki hok;cases j with
 | zero=>
  rw[show kw n l 0=kr n none l[0]from Pb hj,zbL hok];rcases hp with h1 | ⟨p,hp,h1,h2,_⟩
  ·rw[if_pos h1]
  ·have hpd:=Ki (h p hp).1;obtain⟨i,hi,rfl⟩:=List.mem_iff_getElem.1 hp
   by_cases e:i=0
   ·subst e;omega
   ·have:=List.pairwise_iff_getElem.1 hk 0 i hj hi Yi;unfold rz at this;omega
 | succ j=>
  have hq:=(h l[j] (List.getElem_mem (show j < l.length by omega))).1;have hqd:=Ki hq;have hkq:=List.pairwise_iff_getElem.1 hk j (j+1) Yi hj Yi;rw[Ja hj];rcases hp with h1 | ⟨p,hp,h1,h2,h3⟩
  ·have:l[j].s < l[j+1].s:=by unfold rz at hkq;omega
   rw[zbN hok this,if_pos h1]
  ·have e:p=l[j]:=by
    obtain⟨i,hi,rfl⟩:=List.mem_iff_getElem.1 hp;rcases Nat.lt_trichotomy i j with h4 | h4 | h4
    ·have:=List.pairwise_iff_getElem.1 hk i j hi Yi h4;unfold rz at this hkq;omega
    ·subst h4;rfl
    ·by_cases e2:i=j+1
     ·subst e2;omega
     ·have:=List.pairwise_iff_getElem.1 hk (j+1) i hj hi Yi;unfold rz at this;omega
   rw[e]at h1 h2 h3;rw[O5 hok h1.symm Yi,if_pos h2.symm,if_neg Yi]
def Agr (a b:List Rc):Prop:=∀y∈a,∀x∈b,wz y x→y=x
theorem Agr.symm {a b:List Rc} (h:Agr a b):Agr b a:=fun y hy x hx hs=>(h x hx y hy ⟨hs.1.symm,hs.2.symm⟩).symm
theorem zdz {n:Int} {a b:List Rc} (ha:Fd n a) (hb:Fd n b):
  (rr a b=none∧¬Agr a b)∨∃m,rr a b=some m∧Fd n m∧Pz m∧(∀y,y∈m↔y∈a∨y∈b)∧Agr a b:=by
 rcases zdk (zbK ha) (zbK hb)with ⟨h1,y,hy,x,hx,h2,h3⟩ | ⟨m,h1,h2,h3,h4⟩
 ·exact Or.inl ⟨h1,fun h=>h3 (h y hy x hx h2)⟩
 ·refine Or.inr ⟨m,h1,ok_of h2 (fun x hx=>?_),h2,h3,h4⟩;rcases(h3 x).1 hx with h | h
  ·obtain⟨k1,k2⟩:=Rr ha x h;exact⟨k1,k2.imp id (fun⟨p,hp,k3⟩=>⟨p,(h3 p).2 (Or.inl hp),k3⟩)⟩
  ·obtain⟨k1,k2⟩:=Rr hb x h;exact⟨k1,k2.imp id (fun⟨p,hp,k3⟩=>⟨p,(h3 p).2 (Or.inr hp),k3⟩)⟩
theorem Gp {n:Int} (l:List Rc):((ot n l).2=0→ot n l=(0,0)∧Fd n l):=fun h=>by
 have:=Wr h;exact⟨Bw this,this⟩
theorem Xl {n:Int} {l:List Rc} (h:Fd n l):ot n l=(0,0):=Bw h
end
section
open Go.RowKit Go.Shelf
def mny (n:Int):Bool:=decide (n=3) || decide (n=5)
theorem De {n:Int} (h:mny n=true):3≤n∧n≤5:=by
 unfold mny at h;simp only[Bool.or_eq_true,decide_eq_true_eq]at h;omega
def cR (n:Int) (l:List Rc):Int×Int:=if mny n=true then ot n l else(0,1)
def mR (n:Int) (a b:List Rc):Int×List Rc:=if (cR n a).2=0 then(if (cR n b).2=0 then(match rr a b with | none=>(96,[]) | some m=>(0,m))else((cR n b).2,[]))else((cR n a).2,[])
theorem zcw {n:Int} {l:List Rc} (h:(cR n l).2=0):mny n=true∧cR n l=(0,0)∧Fd n l:=by
 unfold cR at h ⊢;cases hm:mny n with
 | false=>rw[hm]at h;cases h
 | true=>
  rw[hm]at h;simp only[if_true]at h ⊢;exact⟨trivial,(Gp l h).1,(Gp l h).2⟩
theorem cR_of {n:Int} {l:List Rc} (hm:mny n=true) (h:Fd n l):cR n l=(0,0):=by
 unfold cR;rw[if_pos hm];exact Xl h
theorem zdZ (n:Int) (v:Value) (l:List Rc) (w:World) (hr:dr w v l) (hl:l.length≤1000) (ht:∀x∈l,x.t.size≤1000):
  Calls prog 39 #[Yp n,v] w fun e w'=>e= .returned (.tuple #[Yp (cR n l).1,Yp (cR n l).2])∧Gr w w':=by
 unfold cR;cases hm:mny n with
 | false=>exact Y8 n v w hm
 | true=>
  have:=De hm;exact Fb n v l w Yi Yi hr Yi (fun x hx=>by have:=ht x hx;omega) hm
def Gives (r:Int×List Rc) (w:World) (e:Ending) (w':World):Prop:=∃v',e= .returned (.tuple #[v',Yp r.1])∧w'.ownsRow w.heap.size 36 4 v' r.2.length (rcs r.2)∧Gr w w'
theorem Gives.no {w:World} {e0:Int} {e:Ending} {w':World} (h:e= .returned (.tuple #[.slice none 0 0,Yp e0])∧Gr w w'):Gives (e0,[]) w e w':=⟨_,h.1,World.ownsRow_nil _ _ _ _,h.2⟩
theorem Mrg_is (n:Int) (v1 v2:Value) (a b:List Rc) (w:World) (hr:dr w v1 a) (hr2:dr w v2 b) (hl:a.length≤1000) (hl2:b.length≤1000) (ht:∀x∈a,x.t.size≤1000) (ht2:∀x∈b,x.t.size≤1000):
  Calls prog 13 #[Yp n,v1,v2] w (Gives (mR n a b) w):=by
 have hc:=fun u (g:Gr w u)=>zdZ n v1 a u (hr.gr g) hl ht;have hc2:=fun u (g:Gr w u)=>zdZ n v2 b u (hr2.gr g) hl2 ht2;unfold mR
 by_cases h:(cR n a).2=0
 ·rw[if_pos h];obtain⟨hm,he,ha⟩:=zcw h;rw[he]at hc
  by_cases h2:(cR n b).2=0
  ·rw[if_pos h2];obtain⟨-,he2,hb⟩:=zcw h2;rw[he2]at hc2;refine(zdJ n v1 v2 a b w hr hr2 hl hl2 (zbK ha) hc hc2).mono ?_;rintro e w' ⟨⟨h1,h2⟩ | ⟨m,v',h1,h2,h3⟩,h4⟩
   ·rw[h1];exact Gives.no ⟨h2,h4⟩
   ·rw[h1];exact⟨v',h2,h3,h4⟩
  ·rw[if_neg h2];exact(zdK n v1 v2 a b _ _ w hr hr2 h2 hc hc2).mono fun e w' h=>Gives.no h
 ·rw[if_neg h];exact(zdY n v1 v2 a b _ _ w hr hr2 h hc).mono fun e w' h=>Gives.no h
end
section
open Go.RowKit Go.Shelf
theorem C8 (l:List Rc):(i7 l).length=l.length:=by
 have:∀(l acc:List Rc),(l.foldl n9 acc).length=acc.length+l.length:=fun l=>by
  induction l with
  | nil=>intro acc;rfl
  | cons a l ih=>intro acc;rw[List.foldl_cons,ih,K9,List.length_cons];omega
 unfold i7;rw[this];simp
end
section
open Go.RowKit Go.Shelf Go.Lib
theorem Qm (t:ByteArray) (h:t.size≤1000) (w:World):Calls prog 15 #[.string t] w fun e w'=>e= .returned (Ov (ee t)).v∧Gr w w':=by
 obtain⟨⟨l⟩⟩:=t;exact Kc l h w
theorem bo.takeS {w:World} {k n cap j:Nat} {a:Option Addr} {L:List (List Value)} (h:bo w k (.slice a n cap) L) (hj:j≤L.length):bo w k (.slice a j cap) (L.take j):=by
 obtain⟨a',c',e,h2,h3⟩:=h;cases e;have el:(L.take j).length=j:=by rw[List.length_take];omega
 refine⟨a,cap,by rw[el],Yi,fun i hi=>?_⟩;have hi2:i < L.length:=Yi;obtain⟨g,o,e1,e2,e3⟩:=h3 i hi2;exact⟨g,o,e1,e2,fun q x hx=>e3 q x (by rwa [List.getElem_take]at hx)⟩
theorem bo.dropS {w:World} {k n cap j g o:Nat} {L:List (List Value)} (h:bo w k (.slice (some ⟨g,o,none⟩) n cap) L) (hj:j≤L.length):bo w k (.slice (some ⟨g,o+j * k,none⟩) (n - j) (cap - j)) (L.drop j):=by
 obtain⟨a',c',e,h2,h3⟩:=h;cases e;have el:(L.drop j).length=L.length - j:=List.length_drop ..;refine⟨_,_,by rw[el],Yi,fun i hi=>?_⟩;have hi2:j+i < L.length:=Yi;obtain⟨g',o',e1,e2,e3⟩:=h3 (j+i) hi2;cases e1;refine⟨g,o+j * k,rfl,e2,fun q x hx=>?_⟩;rw[List.getElem_drop]at hx;have:=e3 q x hx
 rwa [Nat.add_mul,←Nat.add_assoc]at this
theorem Ez (l:List Rc):(bj l).length≤l.length:=by
 rw[(ie l).length_eq];exact List.length_filterMap_le ..
theorem Rq (FF:Option Fm):∃(wl:List UInt8) (nn:Int) (s:S8) (x:Ac),(Ov FF).v= .agg #[sv wl,Yp nn,s.a0,s.a1,s.a2,s.a3,s.a4,s.a5,s.a6,s.a7,Ys x.k,Yp x.p,x.c.a0,x.c.a1,x.c.a2,x.c.a3,x.c.a4,x.c.a5,x.c.a6,x.c.a7]∧((∃m:Nat,FF=some (.new m s)∧nn=m∧(wl == [110,101,119])=true)∨(zbg FF=false∧(wl == [110,101,119])=false)):=by
 cases FF with
 | none=>exact⟨[],0,S8.zero,n5,rfl,Or.inr ⟨rfl,rfl⟩⟩
 | some f=>
  cases f with
  | new m s=>exact⟨[110,101,119],m,s,n5,rfl,Or.inl ⟨m,rfl,rfl,rfl⟩⟩
  | keep m s=>exact⟨[107,101,101,112],m,s,n5,rfl,Or.inr ⟨rfl,rfl⟩⟩
  | act m x=>exact⟨[100,111],m,S8.zero,x,rfl,Or.inr ⟨rfl,rfl⟩⟩
theorem Iw {K:List Kp} (h:∀k∈K,k.blank.ok) (F:Option Fm):∀k∈(ay K F).1,k.blank.ok:=by
 have key:∀(i:Nat) (x:Kp),i < K.length→x.blank=(K.getD i default).blank→∀k∈K.set i x,k.blank.ok:=fun i x hi hx k hk=>by
  rcases List.mem_or_eq_of_mem_set hk with hk | rfl
  ·exact h k hk
  ·rw[hx,In hi];exact h _ (List.getElem_mem hi)
 cases F with
 | none=>exact h
 | some f=>
  cases f with
  | new n s=>exact h
  | keep n s=>
   simp only[ay];cases hf:gh K n with
   | none=>exact h
   | some i=>
    dsimp only;split
    ·exact h
    ·exact key i _ (i8 hf).1 rfl
  | act n a=>
   simp only[ay];cases hf:gh K n with
   | none=>exact h
   | some i=>
    dsimp only;split
    ·exact key i _ (i8 hf).1 rfl
    ·exact h
theorem N6 {x:Rc} {k:Kp} (h:ku x=some k):k.blank.ok:=by
 unfold ku at h;split at h
 ·rename_i n s hf;have hok:=(cu hf).1;cases h;exact hok.2.2.1
 ·cases h
end
section
open Go.RowKit Go.Shelf Go.Lib
theorem zcb (n:Int) (v:Value) (e0:Int) (w:World) (h0:e0≠0) (hc:∀u,Gr w u→Calls prog 16 #[Yp n,v] u fun e w'=>e= .returned (.tuple #[.slice none 0 0,Yp e0])∧Gr u w'):
  Calls prog 8 #[Yp n,v] w fun e w'=>e= .returned (.tuple #[.agg #[.slice none 0 0],.slice none 0 0,Yp e0])∧Gr w w':=by
 have g0:=(Yu w).alloc (.cells #[.slice none 0 0] 27);have h1:=ae w (.cells #[.slice none 0 0] 27);have OY:=hid (hc _ g0);have G0:=hid g0;have H0:=hid h1;have h2:(e0 == 0)=false:=by simpa using h0
 have h3:decide (e0=0)=false:=by simpa using h0
 clear g0 h1 hc;go_enter func8,ntmps8;go_wp2_with fail;refine(OY.out).mono ?_;rintro e w1 ⟨rfl,g1⟩;have HB:=hid (g1.heap H0.out);have HG:=hid (G0.out.trans g1);obtain⟨cb,fb,zb⟩:=bw HB.out;clear g1 OY G0 H0;go_wp2_with fail;clear cb fb zb;have f2:=heap_setCell_same w1 w.heap.size 0 _ _ (.slice none 0 0) HB.out;have gr2:Gr w (w1.setCell (Yo w.heap.size 0) (.slice none 0 0)):=GrL.gr (Yu w) ((GrL.of_gr (l:=[]) HG.out).set _ _ (Or.inl (Yv _))) (fun b hb=>by simp at hb);have hld:=run_loadVar_row (P:=prog) _ w.heap.size 27 27 _ (0,0) _ f2 underlying27 rfl Yh;exact bodyPost_ret (v:= .tuple #[.agg #[.slice none 0 0],.slice none 0 0,Yp e0]) (by simp[results,results8,asAddr,hld]) rfl ⟨rfl,gr2⟩
end
end Go.Proofs.YtimcfaoabaflkaaGreatDoor
