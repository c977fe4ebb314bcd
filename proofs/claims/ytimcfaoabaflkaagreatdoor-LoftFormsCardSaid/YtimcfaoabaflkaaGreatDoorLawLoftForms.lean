/- The walk of LoftForms. -/
import Derived.Test.YtimcfaoabaflkaaGreatDoorFmW
namespace Go.Proofs.YtimcfaoabaflkaaGreatDoor
open AbBase AbTP
open AbA AbI
set_option maxHeartbeats 32000000
set_option maxRecDepth 100000
open Go.Proofs.Tryz
open Go.RowKit Go.Shelf Go.Lib
theorem Xq {P:Prop} (h:P:=by
 refine⟨?_,?_,?_,?_,?_,?_,?_,?_,?_,?_,?_,?_,?_,?_,?_,?_,?_,?_,?_,?_,?_,?_,?_,?_,?_,?_,?_,trivial⟩ <;> (first | exact trivial | exact osGr | (refine⟨osK,?_⟩;intro V u hu hk;refine⟨Yh,aw Yh ?_⟩;obtain⟨hc,hf,hz⟩:=hu.cells;go_simp;skip) | (refine⟨osK,?_⟩;intro V u hu hk;refine⟨Yh,?_⟩;obtain⟨hc,hf,hz⟩:=hu.cells;go_simp;skip) | (intro V u hu hk;refine⟨Yh,?_⟩;obtain⟨hc,hf,hz⟩:=hu.cells;go_simp;first | exact⟨rfl,Yu _⟩ | skip) | (intro V u hu hk;show _=false;kernel_rfl))):P:=h
theorem Xr {P:Prop} (h:P:=by
 refine⟨?_,?_,?_,?_,?_,?_,?_,?_,?_,?_,?_,?_,?_,?_,?_,?_,?_,?_,trivial⟩ <;> (first | exact trivial | exact osGr | (refine⟨osK,?_⟩;intro V u hu hk;refine⟨Yh,aw Yh ?_⟩;obtain⟨hc,hf,hz⟩:=hu.cells;go_simp;skip) | (refine⟨osK,?_⟩;intro V u hu hk;refine⟨Yh,?_⟩;obtain⟨hc,hf,hz⟩:=hu.cells;go_simp;skip) | (intro V u hu hk;refine⟨Yh,?_⟩;obtain⟨hc,hf,hz⟩:=hu.cells;go_simp;first | exact⟨rfl,Yu _⟩ | skip) | (intro V u hu hk;show _=false;kernel_rfl))):P:=h
structure FmS (w u:World) (p pA b:Nat) (X:Rc) (bv ev:Value) (Q:List Q3) (E:List Nat):Prop where
 x:u.heap[p]?=some (.cells #[Yp X.s,Yp X.k,Yp X.d,.string X.t] 36 (0,0))
 a:u.heap[pA]?=some (.cells #[bv] 27 (0,0))
 bk:az u b bv Q
 e:u.ownsRow b 29 1 ev E.length (E.flatMap m8)
 g:Gr w u
theorem FmS.gr {w u u':World} {p pA b:Nat} {X:Rc} {bv ev:Value} {Q:List Q3} {E:List Nat} (h:FmS w u p pA b X bv ev Q E) (g:Gr u u'):FmS w u' p pA b X bv ev Q E:=⟨g.heap h.x,g.heap h.a,h.bk.gr g,h.e.gr1 g,h.g.trans g⟩
theorem FmS.num {w u:World} {p pA b:Nat} {X:Rc} {bv ev:Value} {Q:List Q3} {E:List Nat} (h:FmS w u p pA b X bv ev Q E) (hp:w.heap.size≤p) (k:Int):FmS w (u.setCell (Yo p 1) (Yp k)) p pA b {X with k:=k} bv ev Q E:=by
 have hne:pA≠p:=fun e=>by
  have h1:=h.a;rw[e,h.x]at h1;simp only[Option.some.injEq,Obj.cells.injEq]at h1;exact absurd h1.2.1 Yk
 have gl:GrL [p] u (u.setCell (Yo p 1) (Yp k)):=(GrL.of_gr (Yu u)).set _ _ (Or.inr Yj);refine⟨heap_setCell_same u p 1 _ _ (Yp k) h.x,qj p 1 _ h.a hne,h.bk.grl gl (fun b c T hb hT hm=>?_),?_,h.g.set _ _ hp⟩
 ·rw[List.mem_singleton.1 hm,h.x]at hb;simp only[Option.some.injEq,Obj.cells.injEq]at hb;rw[←hb.2.1]at hT;exact absurd hT Yk
 ·refine fv h.e gl (fun b hb hm=>?_);obtain⟨c,h1⟩:=bi h.e hb;rw[List.mem_singleton.1 hm,h.x]at h1;simp only[Option.some.injEq,Obj.cells.injEq]at h1;exact absurd h1.2.1 Yk
theorem road4 (d xd s xs:Int):(xd < d)∨(¬xd < d∧d=xd∧xs < s)∨(¬xd < d∧d=xd∧¬xs < s)∨(¬xd < d∧d≠xd):=Yi
theorem zcP (n:Int) (v:Value) (l:List Rc) (x:Rc) (w:World) (hr:dr w v l) (ht:RX.Tables w) (tw:TW w) (htb:w.cell? ⟨7,15,none⟩=some (.int .u8 4)) (htz:7 < w.heap.size):
  Calls prog 4 #[Yp n,v,x.v] w fun e w'=>e= .returned (.bool true)∧Gr w w':=by
 have LE:=hid (fun w' (g:Gr w w')=>lent_g w' (ht.gr g));have FA:=hid (fun u (g:Gr w u)=>Few_any v l 30 u (hr.gr g) Yi);obtain⟨xs,xk,xd,xt⟩:=x;unfold Rc.v;have gX:=(Yu w).alloc (.cells #[Yp xs,Yp xk,Yp xd,.string xt] 36);have hX:=ae w (.cells #[Yp xs,Yp xk,Yp xd,.string xt] 36);clear ht;cases hfa:Ee l 30 with
 | false=>
  rw[hfa]at FA;clear hr hfa tw htb htz hX;go_enter func4,ntmps4;go_wp2_with fail;generalize w.alloc (.cells #[Yp xs,Yp xk,Yp xd,.string xt] 36)=W at *;refine(FA.out _ gX).mono ?_;rintro e w1 ⟨rfl,hw⟩;obtain rfl:W=w1:=hw.symm;go_wp2_with fail;refine(LE.out _ gX).mono ?_;rintro e w1 ⟨rfl,g1⟩;go_wp2;go_ret;exact⟨rfl,gX.trans g1⟩
 | true=>
 rw[hfa]at FA;obtain⟨hl,htx⟩:=fewB_is hfa;have htx':∀x∈l,x.t.size≤1000:=fun x hx=>by have:=htx x hx;omega
 have TG:=hid (fun u (g:Gr w u) v m (hm:dr u v m) (h1:m.length≤1000) (h2:∀x∈m,x.t.size≤1000)=>Told_is n v m u hm h1 h2 (tw.gr g) ((g.cells.1 _ _ htz).trans htb) (Nat.lt_of_lt_of_le htz g.b.size));have HR:=hid hr;have HTX:=hid htx';obtain⟨a,cl,rfl,hcl,hcell⟩:=hr;have HC:=hid hcell;have KT:=hid (fun u (g:Gr w u)=>TG.out u g _ l (HR.out.gr g) Yi htx');clear hcell hfa tw htb htz htx htx';go_enter func4,ntmps4;go_wp2_with fail;generalize w.alloc (.cells #[Yp xs,Yp xk,Yp xd,.string xt] 36)=W at *;obtain⟨p,hp⟩:∃p,w.heap.size=p:=⟨_,rfl⟩;rw[hp]at hX
 try simp only[hp]
 have HP:=hid hp;clear hp;refine(FA.out _ gX).mono ?_;rintro e w1 ⟨rfl,hw⟩;obtain rfl:W=w1:=hw.symm;clear FA;obtain⟨x0,y0,z0⟩:=bw hX;refine dite (300 < (xt.size:Int)) (fun hts=>?_) (fun hts=>?_)
 ·clear HC HR HTX KT TG;go_wp2_with fail;clear x0 y0 z0;refine(LE.out _ gX).mono ?_;rintro e w1 ⟨rfl,g1⟩;go_wp2;go_ret;exact⟨rfl,gX.trans g1⟩
 have HF:=hid (fun h0:(tR n l).1=0=>zc4 h0);have HBAD:=hid (fun h0:(tR n l).1≠0=>tR_bad h0);have HLN:=hid (tR_len n l);have HST:=hid (fun(h0:(tR n l).1=0) (m:List Rc) (X:Rc) (hm:mR n l (nc l X)=(0,m)) (hb:xb l X)=>tR_step h0 hm hb);have HMW:=hid (fun(h0:(tR n l).1=0) (m:List Rc) (X:Rc) (hm:mR n l (nc l X)=(0,m))=>mR_with h0 hm);generalize htR:tR n l=r at KT HF HBAD HLN HST HMW;obtain⟨er,K,E⟩:=r;dsimp only at HF HBAD HLN HST HMW;clear htR;go_wp2_with fail;clear x0 y0 z0;refine(KT.out _ gX).mono ?_;rintro e w1 ⟨bv1,ev1,Q1,rfl,hb1,hq1,he1,g1⟩;clear KT;obtain⟨ba,bc,rfl,_⟩:=aj hb1.r;obtain⟨b1,hbb⟩:∃q,W.heap.size=q:=⟨_,rfl⟩;rw[hbb]at hb1 he1;clear hbb;obtain⟨ea,ec,rfl,hec⟩:=aj he1;have gA:=(Yu w1).alloc (.cells #[.slice ba Q1.length bc] 27);have hA:=ae w1 (.cells #[.slice ba Q1.length bc] 27);have S0:=hid (show FmS w (w1.alloc (.cells #[.slice ba Q1.length bc] 27)) p w1.heap.size b1 ⟨xs,xk,xd,xt⟩ (.slice ba Q1.length bc) (.slice ea E.length ec) Q1 E from⟨(g1.trans gA).heap hX,hA,hb1.gr gA,he1.gr1 gA,(gX.trans g1).trans gA⟩);clear hb1 he1 g1 gX gA hA hX;go_upto_region 4 with (fail);generalize w1.alloc (.cells #[.slice ba Q1.length bc] 27)=w2 at *;obtain⟨pA,hpA⟩:∃q,w1.heap.size=q:=⟨_,rfl⟩;rw[hpA]at S0
 try simp only[hpA]
 clear hpA;refine dite (er=0) (fun h0=>?_) (fun h0=>?_)
 case refine_2=>
  have hb:=HBAD.out h0;obtain⟨hK,hE⟩:K=[]∧E=[]:=⟨congrArg Prod.fst hb,congrArg Prod.snd hb⟩;subst hE;have hQ:Q1=[]:=by rw[hK]at hq1;exact List.map_eq_nil_iff.1 hq1
  subst hQ;have h0b:(er == 0)=false:=by simpa using h0
  clear HC HR HTX TG HF HBAD HLN HST HMW hb hq1 hK HP;go_wp2_with fail;refine(LE.out _ S0.out.g).mono ?_;rintro e w3 ⟨rfl,g3⟩;obtain⟨x1,y1,z1⟩:=bw (g3.heap S0.out.a);have G:=hid (S0.out.g.trans g3);clear g3 LE S0 h0b;go_wp2;go_ret;exact⟨rfl,G.out⟩
 subst h0;obtain⟨hEl,hmE,hgood,hids⟩:=HF.out rfl;have HKQ:=hid (show∀i (h:i < Q1.length),∃h':i < K.length,K[i]=Q1[i].k from fun i h=>⟨by rw[←hq1,List.length_map];exact h,by simp[←hq1]⟩);have HKL:=hid (show K.length=Q1.length by rw[←hq1,List.length_map]);have HQ1:=hid hq1;have HEL:=hid hEl;have HME:=hid hmE;have HGD:=hid hgood;have HID:=hid hids;have HLK:=hid (HLN.out.2.2);have hE30:E.length≤30:=Yi;have hQ30:Q1.length≤30:=by
  have h1:=HKL.out;have h2:=HME.out;have h4:=q9 E;have h5:=zcq K;omega
 clear HF HBAD hEl hmE hgood hids hq1 HLN;go_wp2_with fail;go_loopw [10,11] (fun c u wr=>∃i:Nat,u= .int .i64 i∧i≤E.length∧c= .int .i64 (q8 (E.take i):Nat)∧Gr w2 wr) (fun _ u _=>E.length - (intOf u).toNat)
 case atStart=>exact⟨0,rfl,Nat.zero_le _,by simp[q8],Yu _⟩
 obtain⟨i,rfl,hi,rfl,gr⟩:=hrel
 by_cases hil:i < E.length
 case pos=>
  have hil':(i:Int) < E.length:=Yi;have hi0:(0:Int)≤i:=Yi;have hN:=hid (zc3 hil);obtain⟨g,rfl,hg,hc⟩:=zbt (S0.out.e.gr1 gr) i hil;have hel:=q9 (E.take i);rw[List.length_take]at hel;have hw1:=IntWalk.i64_in ((q8 (E.take i):Int)+1) Yi
  by_cases h0:E[i]=0
  ·rw[h0]at hc hN;clear hel HC HR HTX TG HST HMW HKQ HKL HQ1 HEL HME HGD HID HLK LE HP S0;go_wp2;exact⟨⟨i+1,Yj,Yi,by rw[hN.out];simp,gr⟩,by simp[intOf];omega⟩
  ·rw[if_neg h0]at hN;generalize E[i]=y at *;have hy:((y:Int) == 0)=false:=by simp;omega
   clear hel HC HR HTX TG HST HMW HKQ HKL HQ1 HEL HME HGD HID HLK LE HP S0;go_wp2;exact⟨⟨i+1,Yj,Yi,by rw[hN.out];simp,gr⟩,by simp[intOf];omega⟩
 have hil':¬(i:Int) < E.length:=Yi;rw[List.take_of_length_le Yi];obtain⟨wa,rfl⟩:∃u,u=wr:=⟨_,rfl⟩;have S1:=hid (S0.out.gr gr);clear S0 gr hi hil;obtain⟨x0,y0,z0⟩:=bw S1.out.a;go_wp2_with fail;clear hil' x0 y0 z0;have HMB:=hid (fun i=>zcU K i);go_loopw [12,13] (fun c u wr=>∃i:Nat,u= .int .i64 i∧i≤Q1.length∧c= .int .i64 (b9 (K.take i):Nat)∧Gr wa wr) (fun _ u _=>Q1.length - (intOf u).toNat)
 case atStart=>exact⟨0,rfl,Nat.zero_le _,by simp[b9],Yu _⟩
 obtain⟨i,rfl,hi,rfl,gr⟩:=hrel;have S2:=hid (S1.out.gr gr)
 by_cases hil:i < Q1.length
 case pos=>
  have hil':(i:Int) < Q1.length:=Yi;have hi0:(0:Int)≤i:=Yi;obtain⟨hiK,hKi⟩:=HKQ.out i hil;have hN:=zcV hiK;have hM1:=HMB.out (i+1);rw[HME.out]at hM1;have hM2:=q9 E;have hB:=S2.out.bk;obtain⟨g,c0,e1,_,_,_⟩:=hB.form Yi;cases e1;have hm1:=List.getElem_mem hil;obtain⟨pa1,pc1,hp1⟩:=(hB.q _ hm1).p_form;obtain⟨aa1,ac1,ha1⟩:=(hB.q _ hm1).a_form;have r1:=m0 S8.cs 8 S8.cs_len (hB.q _ hm1).p;have r2:=m0 Ac.cs 10 Ac.cs_len (hB.q _ hm1).a;have d1:wr.rangeAt g (i * 13) Q1[i].cs:=E0 (Q:=Q1) hB i hil _ rfl;have HLO:=hid (show∀j,i=j+1→∃hj:j < Q1.length,wr.cell? ⟨g,j * 13,none⟩=some (.int .i64 Q1[j].k.id)∧Q1[j].k.id < Q1[i].k.id from fun j hj=>⟨Yi,E0 (Q:=Q1) hB j Yi _ rfl 0 _ rfl,by
   have hp:=(List.pairwise_iff_getElem.1 HID.out) j i (by have:=HKL.out;omega) hiK Yi;rw[hKi,(HKQ.out j Yi).2]at hp;exact hp⟩)
  have hgd:=HGD.out K[i] (List.getElem_mem hiK);rw[hKi]at hN hgd;unfold Q3.cs at d1;rw[hp1,ha1]at d1;rw[hp1]at r1;rw[ha1]at r2;generalize Q1[i].k=kk at *;have CK:=hid (fun u (g2:Gr wr u)=>Cq kk.blank.a0 kk.blank.a1 kk.blank.a2 kk.blank.a3 kk.blank.a4 kk.blank.a5 kk.blank.a6 kk.blank.a7 kk.pieces kk.acts _ _ u (r1.gr g2) hgd.2.1.1 hgd.2.2 ⟨r2.gr g2,hgd.2.1.2⟩);have hck:du ⟨kk.blank.a0,kk.blank.a1,kk.blank.a2,kk.blank.a3,kk.blank.a4,kk.blank.a5,kk.blank.a6,kk.blank.a7⟩ kk.pieces kk.acts=(0,0):=hgd.1;rw[hck]at CK;have D1:=hid d1;have hw1:=IntWalk.i64_in ((b9 (K.take i):Int)+1) Yi;have hw2:=IntWalk.i64_in ((b9 (K.take i):Int)+1+kk.acts.length) Yi;have hw3:=IntWalk.i64_in ((b9 (K.take i):Int)+1+kk.acts.length+kk.pieces.length) Yi;have hw4:=IntWalk.i64_in ((i:Int)+1) Yi;have HN:=hid hN;clear hB hm1 hp1 ha1 r1 r2 d1 hgd hck hM1 hM2 hN hKi hiK HC HR HTX TG HST HMW HKQ HKL HQ1 HEL HME HGD HID HLK LE HP HMB;obtain⟨x0,y0,z0⟩:=bw S2.out.a;go_upto_region 16 with (fail);apply wp_region_lit;refine wpList_plain rfl fun _ hK=>?_;go_simp;refine hK _ _ ?_;clear hK;refine wpList_plain rfl fun _ hK=>?_;go_simp;refine hK _ _ ?_;clear hK;refine wpList_plain rfl fun _ hK=>?_;go_simp;refine hK _ _ ?_;clear hK;refine wpList_plain rfl fun _ hK=>?_;go_simp;refine hK _ _ ?_;clear hK;refine wpList_load_mid rfl 47 _ rfl g (i * 13) rfl [Yp kk.id,Yp kk.size,Yp kk.st,kk.blank.a0,kk.blank.a1,kk.blank.a2,kk.blank.a3,kk.blank.a4,kk.blank.a5,kk.blank.a6,kk.blank.a7,.slice pa1 kk.pieces.length pc1,.slice aa1 kk.acts.length ac1] _ D1.out underlying47 rfl Yh ?_;refine wpList_plain rfl fun _ hK=>?_;go_simp;refine hK _ _ ?_;clear hK;obtain⟨w3,h3,hq3,ga⟩:=Bo wr Ze (Yf kk pa1 pc1 aa1 ac1) 47;refine wpList_store_row rfl _ _ _ rfl wr.heap.size (Yf kk pa1 pc1 aa1 ac1) rfl rfl _ Ze (ae wr _) Yh rfl (by simp[Value.oneCell']) ?_
  try simp only[Act.put]
  rw[h3];have HQ:=hid hq3;have G3:=hid ga;have S3:=hid (S2.out.gr ga);clear h3 hq3 ga S2 D1 x0 y0 z0;obtain⟨q,hq⟩:∃q,wr.heap.size=q:=⟨_,rfl⟩;rw[hq]at HQ;rw[hq];clear hq;obtain⟨xq,yq,zq⟩:=bw HQ.out;go_wp2_with fail;clear xq yq zq;refine(CK.out _ G3.out).mono ?_;rintro e w4 ⟨rfl,g4⟩;have S4:=hid (S3.out.gr g4);have HG:=hid (gr.trans (G3.out.trans g4));have H5:=hid (g4.heap HQ.out);have HG3:=hid (G3.out.trans g4);clear g4 G3 CK S3 HQ gr;cases i with
  | zero=>
   go_wp2_with fail;refine ah [.val (Yp 0),.val (.bool false),.val (.bool false),.val (Yp 0),.val (.bool false),.val (.bool false),.off,.off,.off,.off,.off,.off,.off,.off,.off,.off,.val (.bool false),.val (.bool false)] Yh Yh (fun V=>finT) ?_ ?_
   ·exact Xr
   ·intro V u hg hs;have HG2:=hid (HG.out.trans hg);clear hs hg HG S4 H5 HG3;go_simp;go_wp2;exact⟨⟨1,Yj,Yi,by rw[HN.out];simp,HG2.out⟩,by simp[intOf];omega⟩
  | succ j=>
   obtain⟨hj,hcj,hlt⟩:=HLO.out j rfl;generalize Q1[j].k.id=ij at *;have hlt':decide (kk.id≤ij)=false:=by simp;omega
   have hgz:=World.block_lt_of_cell? _ _ hcj;have c6:=(HG3.out.cells.1 g _ hgz).trans hcj;have z6:g < w4.heap.size:=Nat.lt_of_lt_of_le hgz HG3.out.b.size;obtain⟨x4,y4,z4⟩:=bw S4.out.a;obtain⟨x5,y5,z5⟩:=bw H5.out;have hw5:=IntWalk.i64_in (j:Int) Yi;have hw6:=IntWalk.i64_in ((j:Int)+1+1) Yi;clear hcj hgz HLO hlt HG3 H5 S4;go_wp2_with fail;refine ah [.val (Yp 0),.val (.bool false),.val (.bool false),.val (Yp (j+1)),.val (.bool true),.val (.bool true),.val (Ym pA),.val (.slice (Yn g) Q1.length bc),.val (Yp (j+1)),.val (Yp j),.val (.pointer (some ⟨g,j * 13,none⟩)),.val (.pointer (some ⟨g,j * 13,none⟩)),.val (Yp ij),.val (Ym q),.val (Yp kk.id),.val (.bool false),.val (.bool false),.val (.bool false)] Yh Yh (fun V=>finT) ?_ ?_
   ·exact Xr
   ·intro V u hg hs;have HG2:=hid (HG.out.trans hg);clear hs hg HG x4 y4 z4 x5 y5 z5 c6 z6;go_simp;go_wp2;exact⟨⟨j+1+1,Yj,Yi,by rw[HN.out];simp,HG2.out⟩,by simp[intOf];omega⟩
 have hil':¬(i:Int) < Q1.length:=Yi;rw[List.take_of_length_le (by have:=HKL.out;omega)];rw[HME.out];have hne:((E.length:Int) !=l.length)=false:=by simp[HEL.out]
 obtain⟨x0,y0,z0⟩:=bw S2.out.a;obtain⟨x1,y1,z1⟩:=bw S2.out.x;obtain⟨wb,rfl⟩:∃u,u=wr:=⟨_,rfl⟩;clear S1 gr hi hil;go_wp2_with fail;clear x0 y0 z0 x1 y1 z1 hne hil';have HW:=hid S2.out.g;go_loopw [18,19] (fun c u wr=>∃k:Nat,u= .int .i64 k∧k≤l.length∧c= .int .i64 (zcL (l.take k) xs:Nat)∧Hid (xb (l.take k) ⟨xs,xk,xd,xt⟩)∧Gr wb wr) (fun _ u _=>l.length - (intOf u).toNat)
 case atStart=>exact⟨0,rfl,Nat.zero_le _,by simp[zcL],hid (fun y hy=>by cases hy),Yu _⟩
 obtain⟨k,rfl,hk,rfl,HB,gr⟩:=hrel
 by_cases hil:k < l.length
 case pos=>
  have hil':(k:Int) < l.length:=Yi;have hi0:(0:Int)≤k:=Yi;have hN:=hid (zdG xs hil);have hel:=zdm (l.take k) xs;rw[List.length_take]at hel;have hw1:=IntWalk.i64_in ((zcL (l.take k) xs:Int)+1) Yi;have HBN:=hid (fun h=>zda hil HB.out h);dsimp only at HBN;obtain⟨g,o,rfl,hgl,c0,c1,c2,c3⟩:=HC.out k hil;have S3:=hid (S2.out.gr gr);have hgz:g < wr.heap.size:=Nat.lt_of_lt_of_le hgl S3.out.g.b.size;replace c0:=(S3.out.g.cells.1 g _ hgl).trans c0;replace c2:=(S3.out.g.cells.1 g _ hgl).trans c2;obtain⟨x1,y1,z1⟩:=bw S3.out.x;generalize l[k].s=s at *;generalize l[k].d=d at *;clear c1 c3 hgl hel S3 HC HR HTX TG HST HMW HKQ HKL HQ1 HEL HME HGD HID HLK HP HMB;refine dite (s=xs) (fun hs0=>?ra) (fun hs0=>?rb)
  case' ra=>
   have hs1:(s == xs)=true:=by simpa using hs0
   have HS0:=hid hs0;clear hs0;go_wp2_with fail
  case' rb=>
   have hs1:(s == xs)=false:=by simpa using hs0
   have HS0:=hid hs0;clear hs0;go_wp2_with fail
  all_goals
  rcases road4 d xd s xs with h | h | h | h
  ·have h1:decide (xd < d)=true:=by simpa using h
   refine ah [.val (.slice (some ⟨g,o,none⟩) l.length cl),.val (Yp k),.val (.pointer (some ⟨g,o+k * 4,none⟩)),.val (.pointer (some ⟨g,o+k * 4+2,none⟩)),.val (Yp d),.val (.pointer (some ⟨p,2,none⟩)),.val (Yp xd),.val (.bool true),.val (.bool true),.off,.off,.off,.off,.off,.off,.off,.off,.off,.off,.off,.off,.off,.off,.off,.off,.off,.val (.bool true)] Yh Yh (fun V=>finT) ?_ ?_
   ·exact Xq
   ·intro V u hg hs;have HG2:=hid (HW.out.trans (gr.trans hg));clear hs hg c0 c2 x1 y1 z1 HBN HB gr S2 hw1;go_simp;go_wp2_with fail;refine(LE.out _ HG2.out).mono ?_;rintro e w4 ⟨rfl,g4⟩;go_wp2;go_ret;exact⟨rfl,HG2.out.trans g4⟩
  ·obtain⟨h,h2,h3⟩:=h;have h1:decide (xd < d)=false:=by simpa using h
   have h4:decide (xs < s)=true:=by simpa using h3
   subst h2;refine ah [.val (.slice (some ⟨g,o,none⟩) l.length cl),.val (Yp k),.val (.pointer (some ⟨g,o+k * 4,none⟩)),.val (.pointer (some ⟨g,o+k * 4+2,none⟩)),.val (Yp d),.val (.pointer (some ⟨p,2,none⟩)),.val (Yp d),.val (.bool false),.val (.bool false),.val (.slice (some ⟨g,o,none⟩) l.length cl),.val (Yp k),.val (.pointer (some ⟨g,o+k * 4,none⟩)),.val (.pointer (some ⟨g,o+k * 4+2,none⟩)),.val (Yp d),.val (.pointer (some ⟨p,2,none⟩)),.val (Yp d),.val (.bool true),.val (.bool true),.val (.slice (some ⟨g,o,none⟩) l.length cl),.val (Yp k),.val (.pointer (some ⟨g,o+k * 4,none⟩)),.val (.pointer (some ⟨g,o+k * 4,none⟩)),.val (Yp s),.val (Yp xs),.val (.bool true),.val (.bool true),.val (.bool true)] Yh Yh (fun V=>finT) ?_ ?_
   ·exact Xq
   ·intro V u hg hs;have HG2:=hid (HW.out.trans (gr.trans hg));clear hs hg c0 c2 x1 y1 z1 HBN HB gr S2 hw1;go_simp;go_wp2_with fail;refine(LE.out _ HG2.out).mono ?_;rintro e w4 ⟨rfl,g4⟩;go_wp2;go_ret;exact⟨rfl,HG2.out.trans g4⟩
  ·obtain⟨h,h2,h3⟩:=h;have h1:decide (xd < d)=false:=by simpa using h
   have h4:decide (xs < s)=false:=by simpa using h3
   subst h2;refine ah [.val (.slice (some ⟨g,o,none⟩) l.length cl),.val (Yp k),.val (.pointer (some ⟨g,o+k * 4,none⟩)),.val (.pointer (some ⟨g,o+k * 4+2,none⟩)),.val (Yp d),.val (.pointer (some ⟨p,2,none⟩)),.val (Yp d),.val (.bool false),.val (.bool false),.val (.slice (some ⟨g,o,none⟩) l.length cl),.val (Yp k),.val (.pointer (some ⟨g,o+k * 4,none⟩)),.val (.pointer (some ⟨g,o+k * 4+2,none⟩)),.val (Yp d),.val (.pointer (some ⟨p,2,none⟩)),.val (Yp d),.val (.bool true),.val (.bool true),.val (.slice (some ⟨g,o,none⟩) l.length cl),.val (Yp k),.val (.pointer (some ⟨g,o+k * 4,none⟩)),.val (.pointer (some ⟨g,o+k * 4,none⟩)),.val (Yp s),.val (Yp xs),.val (.bool false),.val (.bool false),.val (.bool false)] Yh Yh (fun V=>finT) ?_ ?_
   ·exact Xq
   ·intro V u hg hs;have HG2:=hid (gr.trans hg);have HB2:=hid (HBN.out Yi);clear hs hg c0 c2 x1 y1 z1 HBN HB gr S2 LE;go_simp;go_wp2;exact⟨⟨k+1,Yj,Yi,by rw[hN.out];simp[HS0.out],HB2,HG2.out⟩,by simp[intOf];omega⟩
  ·obtain⟨h,h2⟩:=h;have h1:decide (xd < d)=false:=by simpa using h
   have h4:(d == xd)=false:=by simpa using h2
   refine ah [.val (.slice (some ⟨g,o,none⟩) l.length cl),.val (Yp k),.val (.pointer (some ⟨g,o+k * 4,none⟩)),.val (.pointer (some ⟨g,o+k * 4+2,none⟩)),.val (Yp d),.val (.pointer (some ⟨p,2,none⟩)),.val (Yp xd),.val (.bool false),.val (.bool false),.val (.slice (some ⟨g,o,none⟩) l.length cl),.val (Yp k),.val (.pointer (some ⟨g,o+k * 4,none⟩)),.val (.pointer (some ⟨g,o+k * 4+2,none⟩)),.val (Yp d),.val (.pointer (some ⟨p,2,none⟩)),.val (Yp xd),.val (.bool false),.val (.bool false),.off,.off,.off,.off,.off,.off,.off,.val (.bool false),.val (.bool false)] Yh Yh (fun V=>finT) ?_ ?_
   ·exact Xq
   ·intro V u hg hs;have HG2:=hid (gr.trans hg);have HB2:=hid (HBN.out Yi);clear hs hg c0 c2 x1 y1 z1 HBN HB gr S2 LE;go_simp;go_wp2;exact⟨⟨k+1,Yj,Yi,by rw[hN.out];simp[HS0.out],HB2,HG2.out⟩,by simp[intOf];omega⟩
 have hil':¬(k:Int) < l.length:=Yi;have HBA:=hid HB.out;rw[List.take_of_length_le Yi]at HBA ⊢;clear HB hil hk;obtain⟨wc,rfl⟩:∃u,u=wr:=⟨_,rfl⟩;have S3:=hid (S2.out.gr gr);clear S2 gr HW;have hcn:=zdm l xs;have hw1:=IntWalk.i64_in ((zcL l xs:Int)+1) Yi;have S4:=hid (S3.out.num (by rw[HP.out];exact Yv _) ((zcL l xs:Int)+1));obtain⟨x1,y1,z1⟩:=bw S3.out.x;go_upto_region 33 with (fail);clear x1 y1 z1 S3;generalize wc.setCell (Yo p 1) (Yp ((zcL l xs:Int)+1))=wd at *;dsimp only at S4;obtain⟨X,hXe⟩:∃X:Rc,X=⟨xs,(zcL l xs:Int)+1,xd,xt⟩:=⟨_,rfl⟩;have hXs:X.s=xs:=by rw[hXe]
 have hXd:X.d=xd:=by rw[hXe]
 have hXt:X.t=xt:=by rw[hXe]
 have WI:=hid (zdF (.slice a l.length cl) l X wd (HR.out.gr S4.out.g) Yi);have HBX:=hid (show xb l X from zdf HBA.out hXd hXs);have hwt:∀y∈nc l X,y.t.size≤1000:=fun y hy=>by
  rcases(zcR l X y).1 hy with hy | rfl
  ·exact HTX.out y hy
  ·rw[hXt];omega
 have hwl:=zdr l X;have MG:=hid (fun u (g:Gr w u) v5 (h5:dr u v5 (nc l X))=>Mrg_is n (.slice a l.length cl) v5 l (nc l X) u (HR.out.gr g) h5 Yi Yi HTX.out hwt);have HWT:=hid hwt;have HWL:=hid hwl;have HXT:=hid hXt;rw[hXe]at WI;unfold Rc.v at WI;dsimp only at WI;rw[←hXe]at WI;clear hwt hwl hXs hXd hXt HBA hcn hXe;obtain⟨x1,y1,z1⟩:=bw S4.out.x;go_wp2_with fail;clear x1 y1 z1;refine(WI.out).mono ?_;rintro e w5 ⟨v5,rfl,ho5,g5⟩;have S5:=hid (S4.out.gr g5);have R5:=hid (qe ho5);clear ho5 g5 S4 WI;generalize hmr:mR n l (nc l X)=rm at MG;obtain⟨e2,m⟩:=rm;go_wp2_with fail;refine(MG.out _ S5.out.g _ R5.out).mono ?_;rintro e w6 ⟨v6,rfl,ho6,g6⟩;have S6:=hid (S5.out.gr g6);have R6:=hid (qe ho6);clear ho6 g6 S5 MG R5
 by_cases he2:e2=0
 case neg=>
  have he2b:(e2 == 0)=false:=by simpa using he2
  clear HC HR HTX TG HST HMW HKQ HKL HQ1 HEL HME HGD HID HLK HP HMB hmr R6 HBX HWT HWL HXT;go_wp2_with fail;refine(LE.out _ S6.out.g).mono ?_;rintro e w7 ⟨rfl,g7⟩;go_wp2;go_ret;exact⟨rfl,S6.out.g.trans g7⟩
 subst he2;have hmw:=HMW.out (by trivial) m X hmr;obtain⟨K2,E2,e3,hT,hE2,hnew,hold⟩:=HST.out (by trivial) m X hmr HBX.out;have T2:=hid (TG.out w6 S6.out.g v6 m R6.out (by rw[hmw,HWL.out];omega) (by rw[hmw];exact HWT.out));rw[hT]at T2;have HM2:=hid (zc4 (n:=n) (l:=m) (by rw[hT]));rw[hT]at HM2;have hlen:(E2 ++ [e3]).length=E.length+1:=by rw[List.length_append,hE2,HEL.out];rfl
 have HE2:=hid (show E2.length=E.length by rw[hE2,HEL.out]);rw[HXT.out]at hnew hold;have HNEW:=hid hnew;have HOLD:=hid hold;clear hmw hT hE2 hnew hold hmr HBX HWT HWL HST HMW TG HTX HR HC R6;go_wp2_with fail;refine(T2.out).mono ?_;rintro e w7 ⟨bv2,ev2,Q2,rfl,hb2,hq2,he2,g7⟩;clear T2;obtain⟨bb,bd,rfl,_⟩:=aj hb2.r;have ea2:=zdl he2;obtain⟨eb,ed,hev,hed, -⟩:=id ea2;dsimp only at hev hed hq2;rw[hlen]at hev hed;subst hev;obtain⟨b2,hbb⟩:∃q,w6.heap.size=q:=⟨_,rfl⟩;rw[hbb]at hb2;clear hbb he2;have gA:=(Yu w7).alloc (.cells #[.slice bb Q2.length bd] 27);have hA:=ae w7 (.cells #[.slice bb Q2.length bd] 27);have S8:=hid (S6.out.gr (g7.trans gA));have HA2:=hid hA;have HB2:=hid (hb2.gr gA);have EA2:=hid (ea2.gr gA);have HQ2:=hid hq2;clear gA hA hb2 ea2 g7 S6 hq2;go_wp2_with fail;generalize w7.alloc (.cells #[.slice bb Q2.length bd] 27)=w8 at *;obtain⟨pB,hpB⟩:∃q,w7.heap.size=q:=⟨_,rfl⟩;rw[hpB]at HA2
 try simp only[hpB]
 clear hpB;have hw2:=IntWalk.i64_in ((E.length:Int)+1) Yi;have hsl:∀u,(Instr.sliceAt 28 (.slice eb (E.length+1) ed) none (some (.int .i64 E.length)) none).run prog u= .ok (.slice eb E.length ed) u:=fun u=>by
  rw[run_sliceAt_slice _ _ _ _ _ _ Yh,run_slice_h _ _ _ _ _ Yh _ _ Yi Yi];cases eb <;> simp[sliced,show prog.elem 28=29 by kernel_rfl,Tryz.sizeOf29,Addr.add]
 have EA1:=hid (zdl S8.out.e);have SE:=hid (zcx (.slice eb E.length ed) (.slice ea E.length ec) E2 E w8 (by have:=EA2.out.take (E.length) (by rw[hlen];omega);rw[List.take_left' HE2.out]at this;exact this) EA1.out HE2.out (by have:=HE2.out;omega));clear hlen;go_wp2_with fail;refine(SE.out).mono ?_;rintro e w9 ⟨rfl,g9⟩;have S9:=hid (S8.out.gr g9);have HA3:=hid (g9.heap HA2.out);have HB3:=hid (HB2.out.gr g9);have EA3:=hid (EA2.out.gr g9);clear g9 S8 HA2 HB2 EA2 EA1 SE hsl hed
 by_cases hEE:E2=E
 case neg=>
  have hd:decide (E2=E)=false:=decide_eq_false hEE;have HNW:=hid (show zbg (ee xt)=true from by
   cases h:zbg (ee xt)with
   | true=>rfl
   | false=>exact absurd (HOLD.out h).1 hEE)
  clear hEE HOLD HNEW HM2 HQ2 HKQ HKL HQ1 HEL HME HGD HID HLK HP HMB HA3 HB3 EA3;go_wp2_with fail;refine(LE.out _ S9.out.g).mono ?_;rintro e w10 ⟨rfl,g10⟩;have S10:=hid (S9.out.gr g10);clear g10 S9 LE;have FO:=hid (fun u (g:Gr w10 u)=>Qm xt Yi u);obtain⟨wl,nn,s,x,hEn,hFm⟩:=Rq (ee xt);rw[hEn]at FO;have hwl:(wl == [110,101,119])=true:=by
   rcases hFm with ⟨_,_,_,h⟩ | ⟨h,_⟩
   ·exact h
   ·rw[HNW.out]at h;cases h
  have HWL:=hid hwl;clear hwl hFm hEn;obtain⟨x1,y1,z1⟩:=bw S10.out.x;go_wp2_with fail;clear x1 y1 z1;refine(FO.out _ (Yu _)).mono ?_;rintro e w11 ⟨rfl,g11⟩;have hwl:=HWL.out;have hfd:=zcY (sv wl) nn s.a0 s.a1 s.a2 s.a3 s.a4 s.a5 s.a6 s.a7 x.k x.p x.c.a0 x.c.a1 x.c.a2 x.c.a3 x.c.a4 x.c.a5 x.c.a6 x.c.a7;go_wp2;go_ret;exact⟨rfl,S10.out.g.trans g11⟩
 have hd:decide (E2=E)=true:=decide_eq_true hEE;obtain⟨gb,rfl,hgb,hcb⟩:∃gb,eb=some ⟨gb,0,none⟩∧gb < w9.heap.size∧w9.cell? ⟨gb,E.length,none⟩=some (.int .i64 (e3:Nat)):=by
  obtain⟨a,c,hv,hc,hh⟩:=EA3.out;injection hv with h1 h2 h3
  obtain⟨gb,h4,h5,h6⟩:=hh E.length (by rw[←h2];omega);refine⟨gb,h1.trans h4,h5,?_⟩;rw[h6,List.getElem_append_right (by rw[HE2.out];exact Yv _)];simp[HE2.out]
 have hEl:(E.length:Int) < (E.length:Int)+1:=Yi;have hEl0:(0:Int)≤E.length:=Yi
 by_cases h3:e3=0
 case neg=>
  have h3b:((e3:Int) !=0)=true:=by simp;omega
  have HNW:=hid (show zbg (ee xt)=false from by
   cases h:zbg (ee xt)with
   | false=>rfl
   | true=>exact absurd (HNEW.out h) h3)
  have HKK:=hid ((HOLD.out HNW.out).2.1 h3);have SB:=hid (fun u (g:Gr w9 u)=>Hp _ _ _ _ Q1 Q2 u (S9.out.bk.gr g) (HB3.out.gr g) (HQ1.out.trans (HKK.out.symm.trans HQ2.out.symm)) (by
   have h1:=HKL.out;have h2:=HME.out;have h4:=q9 E;have h5:=zcq K;omega) (fun q hq=>HLK.out q.k (by rw[←HQ1.out];exact List.mem_map_of_mem hq)))
  clear HOLD HNEW HM2 HQ2 HKQ HKL HQ1 HEL HME HGD HID HLK HP HMB EA3 hEE HKK HNW;go_wp2_with fail;clear hcb hgb;refine(LE.out _ S9.out.g).mono ?_;rintro e w10 ⟨rfl,g10⟩;have S10:=hid (S9.out.gr g10);have HG10:=hid g10;obtain⟨x1,y1,z1⟩:=bw S10.out.a;obtain⟨x2,y2,z2⟩:=bw (g10.heap HA3.out);clear g10 S9 LE HB3 HA3;go_wp2_with fail;clear x1 y1 z1 x2 y2 z2;refine(SB.out _ HG10.out).mono ?_;rintro e w11 ⟨rfl,g11⟩;go_wp2;go_ret;exact⟨rfl,S10.out.g.trans g11⟩
 subst h3;have HKL2:=hid (show K2.length=Q2.length by rw[←HQ2.out,List.length_map]);have HKQ2:=hid (show∀i (h:i < Q2.length),∃h':i < K2.length,K2[i]=Q2[i].k from fun i h=>⟨by rw[HKL2.out];exact h,by simp[←HQ2.out]⟩);have HMB2:=hid (fun i=>zcU K2 i);have HMX:=hid (show b9 K2≤31 from by
  have h1:=HM2.out.2.1;rw[h1];have h2:=q9 (E2 ++ [0]);rw[List.length_append,HE2.out]at h2;have h4:[0].length=1:=rfl;omega)
 have hQ2:Q2.length≤31:=by
  have h1:=HMX.out;have h2:=HKL2.out;have h3:=zcq K2;omega
 clear HKQ HQ1 HLK HGD HID EA3 HM2 hEE;obtain⟨x2,y2,z2⟩:=bw HA3.out;go_wp2_with fail;clear hcb hgb x2 y2 z2;go_loopw [25,26] (fun c u wr=>∃i:Nat,u= .int .i64 i∧i≤Q2.length∧c= .int .i64 (b9 (K2.take i):Nat)∧Gr w9 wr) (fun _ u _=>Q2.length - (intOf u).toNat)
 case atStart=>exact⟨0,rfl,Nat.zero_le _,by simp[b9],Yu _⟩
 obtain⟨i,rfl,hi,rfl,gr⟩:=hrel
 by_cases hil:i < Q2.length
 case pos=>
  have hil':(i:Int) < Q2.length:=Yi;have hi0:(0:Int)≤i:=Yi;obtain⟨hiK,hKi⟩:=HKQ2.out i hil;have hN:=zcV hiK;have hM1:=HMB2.out (i+1);have hM2:=HMX.out;have hB:=HB3.out.gr gr;obtain⟨gq,c0,e1,_,_,_⟩:=hB.form Yi;cases e1;have hm1:=List.getElem_mem hil;obtain⟨pa1,pc1,hp1⟩:=(hB.q _ hm1).p_form;obtain⟨aa1,ac1,ha1⟩:=(hB.q _ hm1).a_form;have d1:wr.rangeAt gq (i * 13) Q2[i].cs:=E0 (Q:=Q2) hB i hil _ rfl;rw[hKi]at hN;unfold Q3.cs at d1;rw[hp1,ha1]at d1;have c11:=d1 11 _ rfl;have c12:=d1 12 _ rfl;have hgz:=World.block_lt_of_cell? _ _ c11;generalize Q2[i].k=kk at *;have hw1:=IntWalk.i64_in ((b9 (K2.take i):Int)+1) Yi;have hw2:=IntWalk.i64_in ((b9 (K2.take i):Int)+1+kk.acts.length) Yi;have hw3:=IntWalk.i64_in ((b9 (K2.take i):Int)+1+kk.acts.length+kk.pieces.length) Yi;have hw4:=IntWalk.i64_in ((i:Int)+1) Yi;have HN:=hid hN;obtain⟨x2,y2,z2⟩:=bw (gr.heap HA3.out);clear hB hm1 hp1 ha1 d1 hN hM1 hM2 hKi hiK HKL2 HKQ2 HMB2 HMX HKL HEL HME HNEW HOLD HMB HB3 HA3 LE S9 HP HQ2 HE2;go_wp2_with fail;refine bz [21] [.val (Yp (b9 (K2.take i))),.val (Yp (b9 (K2.take i)+1)),.val (Ym pB),.val (.slice (Yn gq) Q2.length bd),.val (Yp i),.val (.pointer (some ⟨gq,i * 13,none⟩)),.val (.pointer (some ⟨gq,i * 13+3,none⟩)),.val (.pointer (some ⟨gq,i * 13+12,none⟩)),.val (.slice aa1 kk.acts.length ac1),.val (Yp kk.acts.length),.val (Yp (b9 (K2.take i)+1+kk.acts.length)),.val (Ym pB),.val (.slice (Yn gq) Q2.length bd),.val (Yp i),.val (.pointer (some ⟨gq,i * 13,none⟩)),.val (.pointer (some ⟨gq,i * 13+3,none⟩)),.val (.pointer (some ⟨gq,i * 13+3,none⟩)),.val (.pointer (some ⟨gq,i * 13+11,none⟩)),.val (.slice pa1 kk.pieces.length pc1),.val (Yp kk.pieces.length),.val (Yp (b9 (K2.take i)+1+kk.acts.length+kk.pieces.length)),.later] Yh Yh (fun V=>finT) ?_ ?_
  ·refine⟨?_,?_,?_,?_,?_,?_,?_,?_,?_,?_,?_,?_,?_,?_,?_,?_,?_,?_,?_,?_,?_,?_,trivial⟩ <;> (first | exact trivial | exact osGr | (refine⟨osK,?_⟩;intro V u hu hk;refine⟨Yh,aw Yh ?_⟩;obtain⟨hc,hf,hz⟩:=hu.cells;go_simp;skip) | (refine⟨osK,?_⟩;intro V u hu hk;refine⟨Yh,?_⟩;obtain⟨hc,hf,hz⟩:=hu.cells;go_simp;skip) | (intro V u hu hk;refine⟨Yh,?_⟩;obtain⟨hc,hf,hz⟩:=hu.cells;go_simp;first | exact⟨rfl,Yu _⟩ | skip) | (intro V u hu hk;show _=false;kernel_rfl))
  ·intro V u hg hs;have HG2:=hid (gr.trans hg);clear hs hg x2 y2 z2 c11 c12 hw1 hw2 hw3 gr;refine⟨⟨some 25,_,_,_,_,_⟩,rfl,rfl,?_⟩;go_simp;refine Fa.fin ?_;go_simp;go_wp2;exact⟨⟨i+1,Yj,Yi,by rw[HN.out];simp,HG2.out⟩,by simp[intOf];omega⟩
 have hil':¬(i:Int) < Q2.length:=Yi;rw[List.take_of_length_le (by have:=HKL2.out;omega)];have S10:=hid (S9.out.gr gr);obtain⟨x2,y2,z2⟩:=bw (gr.heap HA3.out);have hmx:=HMX.out;rw[←HME.out]
 by_cases hmm:b9 K2=b9 K+1
 case pos=>
  have hw5:=IntWalk.i64_in ((b9 K:Int)+1) Yi;rw[hmm];clear HNEW HOLD HB3 HA3 S9 gr HMX HMB2 HKQ2 HKL2 HE2 HQ2 HKL HEL HME HMB HP hi hil;go_wp2_with fail;refine(LE.out _ S10.out.g).mono ?_;rintro e w10 ⟨rfl,g10⟩;go_wp2;go_ret;exact⟨rfl,S10.out.g.trans g10⟩
 have HNW:=hid (show zbg (ee xt)=true from by
  cases h:zbg (ee xt)with
  | true=>rfl
  | false=>exact absurd ((HOLD.out h).2.2 (by trivial)) hmm)
 have hmE:b9 K≤30:=by rw[HME.out];exact Nat.le_trans (q9 E) hE30
 have hw5:=IntWalk.i64_in ((b9 K:Int)+1) Yi;have hmb:((b9 K2:Int) == (b9 K:Int)+1)=false:=by simp;omega
 clear HNEW HOLD HB3 HA3 S9 gr HMX HMB2 HKQ2 HKL2 HE2 HQ2 HKL HEL HME HMB HP hi hil hmm;go_wp2_with fail;clear x2 y2 z2;refine(LE.out _ S10.out.g).mono ?_;rintro e w10 ⟨rfl,g10⟩;have S11:=hid (S10.out.gr g10);clear g10 S10 LE;have FO:=hid (fun u (g:Gr w10 u)=>Qm xt Yi u);obtain⟨wl,nn,s,x,hEn,hFm⟩:=Rq (ee xt);rw[hEn]at FO;have hwl:(wl == [110,101,119])=true:=by
  rcases hFm with ⟨_,_,_,h⟩ | ⟨h,_⟩
  ·exact h
  ·rw[HNW.out]at h;cases h
 have HWL:=hid hwl;clear hwl hFm hEn;obtain⟨x1,y1,z1⟩:=bw S11.out.x;go_wp2_with fail;clear x1 y1 z1;refine(FO.out _ (Yu _)).mono ?_;rintro e w11 ⟨rfl,g11⟩;have hwl:=HWL.out;have hfd:=zcY (sv wl) nn s.a0 s.a1 s.a2 s.a3 s.a4 s.a5 s.a6 s.a7 x.k x.p x.c.a0 x.c.a1 x.c.a2 x.c.a3 x.c.a4 x.c.a5 x.c.a6 x.c.a7;go_wp2;go_ret;exact⟨rfl,S11.out.g.trans g11⟩
end Go.Proofs.YtimcfaoabaflkaaGreatDoor
