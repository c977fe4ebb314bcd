/- The walk of LoftMemory. -/
import Derived.Test.YtimcfaoabaflkaaGreatDoorTTdE
namespace Go.Proofs.YtimcfaoabaflkaaGreatDoor
open AbBase
open AbA AbI
set_option maxHeartbeats 32000000
set_option maxRecDepth 100000
open Go.Proofs.Tryz
open Go.RowKit Go.Shelf Go.Lib
theorem zeD (n:Int) (v:Value) (l:List Rc) (c0 c1 c2 c3 c4:Int) (w:World) (hr:ij w v l) (ht:RX.Tables w) (tw:TW w) (htb:w.cell? ⟨7,15,none⟩=some (.int .u8 4)) (htz:7 < w.heap.size):
  Calls prog 5 #[Yp n,v,zeM c0 c1 c2 c3 c4] w λe w'=>e= .returned (.bool true)/\Gr w w':=by
 have LE:=hid (λw' (g:Gr w w')=>lent_g w' (ht.gr g));have FA:=hid (λu (g:Gr w u)=>Few_any v l 30 u (hr.gr g) Yi);have gX:=(Yu w).alloc (.cells #[Yp c0,Yp c1,Yp c2,Yp c3,Yp c4] 61);have hX:=ae w (.cells #[Yp c0,Yp c1,Yp c2,Yp c3,Yp c4] 61);clear ht;cases hfa:Ee l 30 with
 | false=>
  rw[hfa]at FA;clear hr hfa tw htb htz hX;unfold zeM;go_enter func5,ntmps5;go_wp2_with fail;generalize w.alloc (.cells #[Yp c0,Yp c1,Yp c2,Yp c3,Yp c4] 61)=W at *;refine(FA.out _ gX).mono ?_;rintro e w1 ⟨rfl,hw⟩;obtain rfl:W=w1:=hw.symm;go_wp2_with fail;refine(LE.out _ gX).mono ?_;rintro e w1 ⟨rfl,g1⟩;go_wp2;go_ret;exact⟨rfl,gX.trans g1⟩
 | true=>
 rw[hfa]at FA;obtain⟨hl,htx⟩:=fewB_is hfa;have htx':∀x∈l,x.t.size<=1000:=λx hx=>by have:=htx x hx;omega
 have TG:=hid (λu (g:Gr w u)=>Told_is n v l u (hr.gr g) Yi htx' (tw.gr g) ((g.cells.1 _ _ htz).trans htb) (Nat.lt_of_lt_of_le htz g.b.size));have RT:=hid (λu v7 (h7:ij u v7 l)=>zal n v7 l u h7 Yi htx');have OG:=hid (λu (g:Gr w u)=>Ord_is n v l u (hr.gr g) Yi htx');have RO:=hid (λu v7 (h7:ij u v7 l)=>rOrd_is n v7 l u h7 Yi htx');have MG:=hid (λu (g:Gr w u)=>MrgS_is n v l u (hr.gr g) Yi htx');have SG:=hid (λu (g:Gr w u)=>Mis_is n v l c0 c1 c2 c3 c4 u (hr.gr g) Yi htx');obtain⟨er,her⟩:∃e,(cR n l).2=e:=⟨_,rfl⟩;obtain⟨A,hA⟩:∃A,oR n l=(er,A):=⟨(oR n l).2,Prod.ext (oR_err.trans her) rfl⟩;obtain⟨B,hB⟩:∃A,(if (cR n l).2=0 then l else [])=A:=⟨_,rfl⟩;have hBl:B.length<=l.length:=by rw[<-hB];split <;> simp
 obtain⟨C,hC⟩:∃A,sR n l (hav c0 c1 c2 c3 c4)=(er,A):=⟨(sR n l (hav c0 c1 c2 c3 c4)).2,Prod.ext ((sR_err _).trans her) rfl⟩;have hAl:=oR_len n l;have hCl:=sR_len n l (hav c0 c1 c2 c3 c4);rw[hA]at OG RO hAl;rw[hB,her]at MG;rw[hC]at SG hCl;have HLN:=tR_len n l;obtain⟨⟨et,K,E⟩,hTR⟩:∃r,tR n l=r:=⟨_,rfl⟩;rw[hTR]at TG RT HLN;dsimp only at hAl hCl HLN;have HLN:=hid HLN;have HR:=hid hr;have HAL:=hid (show A.length<=1000 by omega);have hA1:A.length<=100:=Yi;have hB1:B.length<=100:=Yi;have hC1:C.length<=100:=Yi;clear hA hB hC hTR her;obtain⟨a,cl,rfl,hcl, -⟩:=id hr;clear hr hfa tw htb htz htx htx' hAl hBl hCl;unfold zeM at SG ⊢;go_enter func5,ntmps5;go_wp2_with fail;generalize w.alloc (.cells #[Yp c0,Yp c1,Yp c2,Yp c3,Yp c4] 61)=W at *;obtain⟨p,hp⟩:∃p,w.heap.size=p:=⟨_,rfl⟩;rw[hp]at hX
 try simp only[hp]
 have HP:=hid hp;clear hp;refine(FA.out _ gX).mono ?_;rintro e w1 ⟨rfl,hw⟩;obtain rfl:W=w1:=hw.symm;clear FA;go_upto_region 3 with (fail);apply wp_region_lit;(iterate 2 refine wpList_plain rfl λ_ hK=>?_;go_simp;refine hK _ _ ?_;clear hK);have gZ:=(Yu W).alloc (.cells #[] 36 (0,0));have hZ:=ae W (.cells #[] 36 (0,0));obtain⟨v7,w1,hr7,h7,g7⟩:=zd2 (W.alloc (.cells #[] 36 (0,0))) W.heap.size 22 W.heap.size (Yv _) hZ _ l (HR.out.gr (gX.trans gZ)) Yi gZ.b.size;refine tf _ rfl _ _ _ _ rfl _ _ rfl rfl hr7 ?_;refine wpList_plain rfl λ_ hK=>?_;go_simp;refine hK _ _ ?_;clear hK;have R7:=hid (qe h7);have G1:=hid (gX.trans (gZ.trans g7));have HX:=hid (g7.heap (gZ.heap hX));clear hr7 h7 g7 gZ hZ gX hX;go_wp2_with fail;refine(OG.out _ G1.out).mono ?_;rintro e w2 ⟨va,rfl,hoa,g2⟩;obtain⟨aa,ca,rfl,_⟩:=aj hoa;have RA:=Rw.of_own (w:=w1) hoa (Yv _);clear hoa;go_wp2_with fail;refine(MG.out _ (G1.out.trans g2)).mono ?_;rintro e w3 ⟨vb,rfl,hob,g3⟩;obtain⟨ab,cb,rfl,_⟩:=aj hob;have RB:=Rw.of_own (w:=w1) hob g2.b.size;have RA:=RA.gr g3;have g3:=g2.trans g3;clear hob g2 MG;obtain⟨x0,y0,z0⟩:=ed (g3.heap HX.out);go_wp2_with fail;clear x0 y0 z0;refine(SG.out _ (G1.out.trans g3)).mono ?_;rintro e w4 ⟨vc,rfl,hoc,g4⟩;obtain⟨ac,cc,rfl,_⟩:=aj hoc;have RC:=Rw.of_own (w:=w1) hoc g3.b.size;have M0:ze4 w1 w4 (.slice aa A.length ca) (.slice ab B.length cb) (.slice ac C.length cc) A.length B.length C.length:=⟨g3.trans g4,RA.gr g4,RB.gr g4,RC⟩;dsimp only at *;clear hoc g3 g4 RA RB RC SG HX;go_wp2_with fail;go_loopw [14] (λu wr=>∃i:Nat,u= .int .i64 i/\i<=A.length/\ze4 w1 wr (.slice aa A.length ca) (.slice ab B.length cb) (.slice ac C.length cc) A.length B.length C.length) (λu _=>A.length - (intOf u).toNat)
 case atStart=>exact⟨0,rfl,Nat.zero_le _,M0⟩
 obtain⟨i,rfl,hi,M1⟩:=hrel;clear M0
 by_cases hil:i < A.length
 case pos=>
  have hil':(i:Int) < A.length:=Yi;have hi0:(0:Int)<=i:=Yi;obtain⟨a',c',hv,hcc,hh⟩:=M1.a;injection hv with e1 _ e3
  subst e1;subst e3;obtain⟨g,cur,rfl,hg,hcur,hsz⟩:=hh i hil;have hw4:=IntWalk.i64_in ((i:Int)+1) Yi;have M2:=M1.sets g (i * 4) [Yp 0,Yp 0,Yp 0,.string ⟨#[]⟩] hg;have HTH:=hid (R5 hcur hsz i hil 4 rfl);clear hh M1 hcur hsz hg LE TG RT OG RO HR R7;go_upto_region 10 with (fail);apply wp_region_lit;(iterate 4 refine wpList_plain rfl λ_ hK=>?_;go_simp;refine hK _ _ ?_;clear hK);refine wpList_store_mid rfl _ _ _ rfl g (i * 4) #[Yp 0,Yp 0,Yp 0,.string ⟨#[]⟩] rfl rfl HTH.out Yh (by simp[Value.oneCell']) ?_
  try simp only[Act.put]
  generalize wr.setCells g (i * 4) _=w5 at *;go_wp2;exact⟨⟨i+1,Yj,Yi,M2⟩,by simp[intOf];omega⟩
 have hil':¬(i:Int) < A.length:=Yi;obtain⟨w4a,rfl⟩:∃u,u=wr:=⟨_,rfl⟩;have M0:=M1;clear M1 hi hil;go_wp2_with fail;go_loopw [15] (λu wr=>∃i:Nat,u= .int .i64 i/\i<=B.length/\ze4 w1 wr (.slice aa A.length ca) (.slice ab B.length cb) (.slice ac C.length cc) A.length B.length C.length) (λu _=>B.length - (intOf u).toNat)
 case atStart=>exact⟨0,rfl,Nat.zero_le _,M0⟩
 obtain⟨i,rfl,hi,M1⟩:=hrel;clear M0
 by_cases hil:i < B.length
 case pos=>
  have hil':(i:Int) < B.length:=Yi;have hi0:(0:Int)<=i:=Yi;obtain⟨a',c',hv,hcc,hh⟩:=M1.b;injection hv with e1 _ e3
  subst e1;subst e3;obtain⟨g,cur,rfl,hg,hcur,hsz⟩:=hh i hil;have hw4:=IntWalk.i64_in ((i:Int)+1) Yi;have M2:=M1.sets g (i * 4) [Yp 0,Yp 0,Yp 0,.string ⟨#[]⟩] hg;have HTH:=hid (R5 hcur hsz i hil 4 rfl);clear hh M1 hcur hsz hg LE TG RT OG RO HR R7;go_upto_region 14 with (fail);apply wp_region_lit;(iterate 4 refine wpList_plain rfl λ_ hK=>?_;go_simp;refine hK _ _ ?_;clear hK);refine wpList_store_mid rfl _ _ _ rfl g (i * 4) #[Yp 0,Yp 0,Yp 0,.string ⟨#[]⟩] rfl rfl HTH.out Yh (by simp[Value.oneCell']) ?_
  try simp only[Act.put]
  generalize wr.setCells g (i * 4) _=w5 at *;go_wp2;exact⟨⟨i+1,Yj,Yi,M2⟩,by simp[intOf];omega⟩
 have hil':¬(i:Int) < B.length:=Yi;obtain⟨w4b,rfl⟩:∃u,u=wr:=⟨_,rfl⟩;have M0:=M1;clear M1 hi hil;go_wp2_with fail;go_loopw [16] (λu wr=>∃i:Nat,u= .int .i64 i/\i<=C.length/\ze4 w1 wr (.slice aa A.length ca) (.slice ab B.length cb) (.slice ac C.length cc) A.length B.length C.length) (λu _=>C.length - (intOf u).toNat)
 case atStart=>exact⟨0,rfl,Nat.zero_le _,M0⟩
 obtain⟨i,rfl,hi,M1⟩:=hrel;clear M0
 by_cases hil:i < C.length
 case pos=>
  have hil':(i:Int) < C.length:=Yi;have hi0:(0:Int)<=i:=Yi;obtain⟨a',c',hv,hcc,hh⟩:=M1.c;injection hv with e1 _ e3
  subst e1;subst e3;obtain⟨g,cur,rfl,hg,hcur,hsz⟩:=hh i hil;have hw4:=IntWalk.i64_in ((i:Int)+1) Yi;have M2:=M1.sets g (i * 4) [Yp 0,Yp 0,Yp 0,.string ⟨#[]⟩] hg;have HTH:=hid (R5 hcur hsz i hil 4 rfl);clear hh M1 hcur hsz hg LE TG RT OG RO HR R7;go_upto_region 18 with (fail);apply wp_region_lit;(iterate 4 refine wpList_plain rfl λ_ hK=>?_;go_simp;refine hK _ _ ?_;clear hK);refine wpList_store_mid rfl _ _ _ rfl g (i * 4) #[Yp 0,Yp 0,Yp 0,.string ⟨#[]⟩] rfl rfl HTH.out Yh (by simp[Value.oneCell']) ?_
  try simp only[Act.put]
  generalize wr.setCells g (i * 4) _=w5 at *;go_wp2;exact⟨⟨i+1,Yj,Yi,M2⟩,by simp[intOf];omega⟩
 have hil':¬(i:Int) < C.length:=Yi;obtain⟨w4c,rfl⟩:∃u,u=wr:=⟨_,rfl⟩;have M0:=M1;clear M1 hi hil;have G5:=hid (G1.out.trans M0.g);have G15:=hid M0.g;clear M0;go_wp2_with fail;clear hil';refine(TG.out _ G5.out).mono ?_;rintro e w6 ⟨bv1,ev1,Q1,rfl,hb1,hq1,he1,g6⟩;obtain⟨ba,bc,rfl,hbc⟩:=aj hb1.r;obtain⟨ea,ec,rfl,hec⟩:=aj he1;have gA:=(Yu w6).alloc (.cells #[.slice ba Q1.length bc] 27);have hA:=ae w6 (.cells #[.slice ba Q1.length bc] 27);dsimp only at hq1 he1;have S0:zev w1 (w6.alloc (.cells #[.slice ba Q1.length bc] 27)) w6.heap.size (.slice ba Q1.length bc) (.slice ea E.length ec) E.length Q1 0:=by
  have hb2:=hb1.gr gA;have hz:=G15.out.b.size;refine⟨(G15.out.trans g6).trans gA,hA,⟨ba,bc,rfl,hbc,λj hj=>?_⟩,λq hq=>⟨Rw.of_own (hb2.q q hq).p hz,Rw.of_own (hb2.q q hq).a hz⟩,Rw.of_own (he1.gr1 gA) hz⟩;have hr2:=hb2.r;rcases hr2.2 with ⟨_,hn⟩ | ⟨g,cap,cur,hv,hbg,hg,hcap,_,hsz,_⟩
  ·omega
  ·injection hv with e1 _ e3
   subst e1;subst e3;exact⟨g,cur,rfl,Nat.le_trans hz hbg,hg,by rw[hsz];exact Nat.mul_le_mul_right 13 hcap,λj' _ hl'=>E0 (Q:=Q1) hb2 j' hl' _ rfl⟩
 have hQ30:Q1.length<=30:=by
  have h1:=congrArg List.length hq1;rw[List.length_map]at h1;have:=HLN.out.2.1;omega
 have HKB:=hid (show∀q∈Q1,q.k.pieces.length<=1000/\q.k.acts.length<=1000 from λq hq=>HLN.out.2.2 q.k (by rw[<-hq1];exact List.mem_map_of_mem hq));have hE30:E.length<=30:=by have:=HLN.out.1;omega
 clear hb1 hq1 he1 g6 gA hA G5 G15;go_wp2_with fail;generalize w6.alloc (.cells #[.slice ba Q1.length bc] 27)=w7 at *;obtain⟨pA,hpA⟩:∃q,w6.heap.size=q:=⟨_,rfl⟩;rw[hpA]at S0
 try simp only[hpA]
 clear hpA;go_loopw [20] (λu wr=>∃i:Nat,u= .int .i64 i/\i<=Q1.length/\zev w1 wr pA (.slice ba Q1.length bc) (.slice ea E.length ec) E.length Q1 i) (λu _=>Q1.length - (intOf u).toNat)
 case atStart=>exact⟨0,rfl,Nat.zero_le _,S0⟩
 obtain⟨i,rfl,hi,S1⟩:=hrel;clear S0
 by_cases hil:i < Q1.length
 case pos=>
  have hil':(i:Int) < Q1.length:=Yi;have hi0:(0:Int)<=i:=Yi;have hw4:=IntWalk.i64_in ((i:Int)+1) Yi;obtain⟨a',c',hv,hcc,hh⟩:=S1.k;injection hv with e1 _ e3
  subst e1;subst e3;obtain⟨gb,cur,rfl,hgb,hcur,hsz,hrg⟩:=hh i hil;have hm1:=List.getElem_mem hil;obtain⟨pa,pc,hp1,_,_⟩:=(S1.q _ hm1).1;obtain⟨aa1,ac1,ha1,_,_⟩:=(S1.q _ hm1).2;have hkb:=HKB.out _ hm1;have d1:=hrg i (Yv _) hil;unfold Q3.cs at d1;rw[hp1,ha1]at d1;have HQP:=hid (λu (h:zev w1 u pA (.slice (Yn gb) Q1.length bc) (.slice ea E.length ec) E.length Q1 i)=>by
   have:=(h.q _ hm1).1;rw[hp1]at this;exact this)
  have HQA:=hid (λu (h:zev w1 u pA (.slice (Yn gb) Q1.length bc) (.slice ea E.length ec) E.length Q1 i)=>by
   have:=(h.q _ hm1).2;rw[ha1]at this;exact this)
  generalize Q1[i].k=kk at *;have D1:=hid (show wr.rangeAt gb (i * 13+3) [kk.blank.a0,kk.blank.a1,kk.blank.a2,kk.blank.a3,kk.blank.a4,kk.blank.a5,kk.blank.a6,kk.blank.a7,.slice pa kk.pieces.length pc,.slice aa1 kk.acts.length ac1]from λm x hm=>by
   have:=d1 (3+m) x (by rw[<-hm];simp[Nat.add_comm 3 m]);rw[<-this];congr 2;omega)
  clear hh hrg d1 hm1 hp1 ha1 hcur hsz LE TG RT OG RO HR R7 HLN;obtain⟨x0,y0,z0⟩:=ed S1.a;go_upto_region 23 with (fail);apply wp_region_lit;(iterate 5 refine wpList_plain rfl λ_ hK=>?_;go_simp;refine hK _ _ ?_;clear hK);refine wpList_load_mid rfl 45 _ rfl gb (i * 13+3) rfl [kk.blank.a0,kk.blank.a1,kk.blank.a2,kk.blank.a3,kk.blank.a4,kk.blank.a5,kk.blank.a6,kk.blank.a7,.slice pa kk.pieces.length pc,.slice aa1 kk.acts.length ac1] _ D1.out underlying45 rfl Yh ?_;refine wpList_plain rfl λ_ hK=>?_;go_simp;refine hK _ _ ?_;clear hK;obtain⟨w8,h8,hq8,ga⟩:=Bo wr Zd #[kk.blank.a0,kk.blank.a1,kk.blank.a2,kk.blank.a3,kk.blank.a4,kk.blank.a5,kk.blank.a6,kk.blank.a7,.slice pa kk.pieces.length pc,.slice aa1 kk.acts.length ac1] 45;refine wpList_store_row rfl _ _ _ rfl wr.heap.size #[kk.blank.a0,kk.blank.a1,kk.blank.a2,kk.blank.a3,kk.blank.a4,kk.blank.a5,kk.blank.a6,kk.blank.a7,.slice pa kk.pieces.length pc,.slice aa1 kk.acts.length ac1] rfl rfl _ Zd (ae wr _) Yh rfl (by simp[Value.oneCell']) ?_
  try simp only[Act.put]
  rw[h8];have S2:=S1.gr ga;have HQ:=hq8;clear h8 hq8 ga S1 D1 x0 y0 z0;obtain⟨q,hq⟩:∃q,wr.heap.size=q:=⟨_,rfl⟩;rw[hq]at HQ;rw[hq];clear hq;go_wp2_with fail;go_loopw [22] (λu wr=>∃k:Nat,u= .int .i64 k/\k<=kk.acts.length/\zev w1 wr pA (.slice (Yn gb) Q1.length bc) (.slice ea E.length ec) E.length Q1 i/\wr.heap[q]?=some (.cells #[kk.blank.a0,kk.blank.a1,kk.blank.a2,kk.blank.a3,kk.blank.a4,kk.blank.a5,kk.blank.a6,kk.blank.a7,.slice pa kk.pieces.length pc,.slice aa1 kk.acts.length ac1] 45 (0,0))) (λu _=>kk.acts.length - (intOf u).toNat)
  case atStart=>exact⟨0,rfl,Nat.zero_le _,S2,HQ⟩
  obtain⟨k,rfl,hk,S3,HQ3⟩:=hrel;clear S2 HQ
  by_cases hkl:k < kk.acts.length
  case pos=>
   have hkl':(k:Int) < kk.acts.length:=Yi;have hk0:(0:Int)<=k:=Yi;have hw5:=IntWalk.i64_in ((k:Int)+1) Yi;obtain⟨a',c',hv,hcc,hh⟩:=HQA.out _ S3;injection hv with e1 _ e3
   subst e1;subst e3;obtain⟨g,cur,rfl,hg,hcur,hsz⟩:=hh k hkl;have hqg:q≠g:=λe=>by
    rw[e,hcur]at HQ3;simp only[Option.some.injEq,Obj.cells.injEq]at HQ3;exact absurd HQ3.2.1 Yk
   have S4:=S3.sets g (k * 10) [Ys 0,Yp 0,Yq 0,Yq 0,Yq 0,Yq 0,Yq 0,Yq 0,Yq 0,Yq 0] hg hcur Yk Yk;have HQ4:=R6 g hqg [Ys 0,Yp 0,Yq 0,Yq 0,Yq 0,Yq 0,Yq 0,Yq 0,Yq 0,Yq 0] (k * 10) wr HQ3;have HTH:=hid (R5 hcur hsz k hkl 10 rfl);obtain⟨x0,y0,z0⟩:=ed HQ3;clear hh S3 hcur hsz hg HQA HQP;go_upto_region 27 with (fail);apply wp_region_lit;(iterate 5 refine wpList_plain rfl λ_ hK=>?_;go_simp;refine hK _ _ ?_;clear hK);refine wpList_store_mid rfl _ _ _ rfl g (k * 10) Zf rfl rfl HTH.out Yh (by simp[Value.oneCell']) ?_
   try simp only[Act.put]
   clear x0 y0 z0;generalize wr.setCells g (k * 10) _=w9 at *;go_wp2;exact⟨⟨k+1,Yj,Yi,S4,HQ4⟩,by simp[intOf];omega⟩
  have hkl':¬(k:Int) < kk.acts.length:=Yi;obtain⟨x0,y0,z0⟩:=ed HQ3;have S2:=S3;have HQ:=HQ3;clear S3 HQ3 hk hkl;obtain⟨w8b,rfl⟩:∃u,u=wr:=⟨_,rfl⟩;go_wp2_with fail;clear x0 y0 z0 hkl';go_loopw [23] (λu wr=>∃k:Nat,u= .int .i64 k/\k<=kk.pieces.length/\zev w1 wr pA (.slice (Yn gb) Q1.length bc) (.slice ea E.length ec) E.length Q1 i/\wr.heap[q]?=some (.cells #[kk.blank.a0,kk.blank.a1,kk.blank.a2,kk.blank.a3,kk.blank.a4,kk.blank.a5,kk.blank.a6,kk.blank.a7,.slice pa kk.pieces.length pc,.slice aa1 kk.acts.length ac1] 45 (0,0))) (λu _=>kk.pieces.length - (intOf u).toNat)
  case atStart=>exact⟨0,rfl,Nat.zero_le _,S2,HQ⟩
  obtain⟨k,rfl,hk,S3,HQ3⟩:=hrel;clear S2 HQ
  by_cases hkl:k < kk.pieces.length
  case pos=>
   have hkl':(k:Int) < kk.pieces.length:=Yi;have hk0:(0:Int)<=k:=Yi;have hw5:=IntWalk.i64_in ((k:Int)+1) Yi;obtain⟨a',c',hv,hcc,hh⟩:=HQP.out _ S3;injection hv with e1 _ e3
   subst e1;subst e3;obtain⟨g,cur,rfl,hg,hcur,hsz⟩:=hh k hkl;have hqg:q≠g:=λe=>by
    rw[e,hcur]at HQ3;simp only[Option.some.injEq,Obj.cells.injEq]at HQ3;exact absurd HQ3.2.1 Yk
   have S4:=S3.sets g (k * 8) [Yq 0,Yq 0,Yq 0,Yq 0,Yq 0,Yq 0,Yq 0,Yq 0] hg hcur Yk Yk;have HQ4:=R6 g hqg [Yq 0,Yq 0,Yq 0,Yq 0,Yq 0,Yq 0,Yq 0,Yq 0] (k * 8) wr HQ3;have HTH:=hid (R5 hcur hsz k hkl 8 rfl);obtain⟨x0,y0,z0⟩:=ed HQ3;clear hh S3 hcur hsz hg HQA HQP;go_upto_region 31 with (fail);apply wp_region_lit;(iterate 6 refine wpList_plain rfl λ_ hK=>?_;go_simp;refine hK _ _ ?_;clear hK);refine wpList_store_mid rfl _ _ _ rfl g (k * 8) Zc rfl rfl HTH.out Yh (by simp[Value.oneCell']) ?_
   try simp only[Act.put]
   clear x0 y0 z0;generalize wr.setCells g (k * 8) _=w9 at *;go_wp2;exact⟨⟨k+1,Yj,Yi,S4,HQ4⟩,by simp[intOf];omega⟩
  have hkl':¬(k:Int) < kk.pieces.length:=Yi;obtain⟨x0,y0,z0⟩:=ed HQ3;have S2:=S3;have HQ:=HQ3;clear S3 HQ3 hk hkl;obtain⟨w8c,rfl⟩:∃u,u=wr:=⟨_,rfl⟩;obtain⟨x1,y1,z1⟩:=ed S2.a;obtain⟨a',c',hv,hcc,hh⟩:=S2.k;injection hv with e1 _ e3
  obtain⟨gb',cur,e4,_,hcur,hsz,_⟩:=hh i hil;rw[<-e1]at e4;injection e4 with e4
  injection e4 with e4
  subst e4;have HTH:=hid (R5 hcur hsz i hil 13 rfl);have S5:=S2.next gb bc rfl hil [Yp 0,Yp 0,Yp 0,Yq 0,Yq 0,Yq 0,Yq 0,Yq 0,Yq 0,Yq 0,Yq 0,.slice none 0 0,.slice none 0 0] rfl;clear hh hcur hsz S2 HQ HQA HQP e1 e3 hcc;go_upto_region 32 with (fail);clear x0 y0 z0 hkl';apply wp_region_lit;(iterate 5 refine wpList_plain rfl λ_ hK=>?_;go_simp;refine hK _ _ ?_;clear hK);refine wpList_store_mid rfl _ _ _ rfl gb (i * 13) Ze rfl rfl HTH.out Yh (by simp[Value.oneCell']) ?_
  try simp only[Act.put]
  clear x1 y1 z1;generalize w8c.setCells gb (i * 13) _=w9 at *;go_wp2;exact⟨⟨i+1,Yj,Yi,S5⟩,by simp[intOf];omega⟩
 have hil':¬(i:Int) < Q1.length:=Yi;obtain⟨x0,y0,z0⟩:=ed S1.a;obtain⟨w9,rfl⟩:∃u,u=wr:=⟨_,rfl⟩;go_wp2_with fail;clear x0 y0 z0 hil';go_loopw [24] (λu wr=>∃k:Nat,u= .int .i64 k/\k<=E.length/\zev w1 wr pA (.slice ba Q1.length bc) (.slice ea E.length ec) E.length Q1 i) (λu _=>E.length - (intOf u).toNat)
 case atStart=>exact⟨0,rfl,Nat.zero_le _,S1⟩
 obtain⟨k,rfl,hk,S3⟩:=hrel;clear S1
 by_cases hkl:k < E.length
 case pos=>
  have hkl':(k:Int) < E.length:=Yi;have hk0:(0:Int)<=k:=Yi;have hw5:=IntWalk.i64_in ((k:Int)+1) Yi;obtain⟨a',c',hv,hcc,hh⟩:=S3.e;injection hv with e1 _ e3
  subst e1;subst e3;obtain⟨g,cur,rfl,hg,hcur,hsz⟩:=hh k hkl;have S4:=S3.sets g k [Yp (-7)] hg hcur Yk Yk;obtain⟨hx1,hf1⟩:=R5 hcur hsz k hkl 1 rfl 0 Yi;rw[Nat.mul_one,Nat.add_zero]at hx1 hf1;obtain⟨xv,hxv⟩:=Option.isSome_iff_exists.1 hx1;have hz:=ai hcur;clear hh S3 hcur hsz hg hx1 LE TG RT OG RO HR R7 HLN;change zev w1 (wr.setCell (Yo g k) (Yp (-7))) _ _ _ _ _ _ at S4;go_wp2;exact⟨⟨k+1,Yj,Yi,S4⟩,by simp[intOf];omega⟩
 have hkl':¬(k:Int) < E.length:=Yi;obtain⟨wz,rfl⟩:∃u,u=wr:=⟨_,rfl⟩;have G9:=hid S3.g;have GW:=hid (G1.out.trans S3.g);clear S3 hk hkl HKB hQ30;go_wp2_with fail;clear hkl';refine(OG.out _ GW.out).mono ?_;rintro e u1 ⟨vx,rfl,hox,g1⟩;have RX1:=hid (qe hox);have G9:=hid (G9.out.trans g1);clear hox g1 OG;dsimp only at *;go_wp2_with fail;refine(RO.out _ _ (R7.out.gr G9.out)).mono ?_;rintro e u2 ⟨vy,rfl,hoy,g2⟩;have RY1:=hid (qe hoy);have RX1:=hid (RX1.out.gr g2);have G9:=hid (G9.out.trans g2);clear hoy g2 RO GW;dsimp only at *;go_wp2_with fail;refine(TG.out _ (G1.out.trans G9.out)).mono ?_;rintro e u3 ⟨bv3,ev3,Q3a,rfl,hb3,hq3,he3,g3⟩;obtain⟨b3,d3,rfl,_⟩:=aj hb3.r;have gA:=(Yu u3).alloc (.cells #[.slice b3 Q3a.length d3] 27);have hA:=ae u3 (.cells #[.slice b3 Q3a.length d3] 27);have X3:=hid (And.intro hA (And.intro (hb3.gr gA) (And.intro hq3 (he3.gr1 gA))));have RX1:=hid (RX1.out.gr (g3.trans gA));have RY1:=hid (RY1.out.gr (g3.trans gA));have G9:=hid (G9.out.trans (g3.trans gA));clear hb3 hq3 he3 g3 gA hA TG;dsimp only at *;go_wp2_with fail;generalize u3.alloc (.cells #[.slice b3 Q3a.length d3] 27)=u4 at *;obtain⟨pB,hpB⟩:∃q,u3.heap.size=q:=⟨_,rfl⟩;rw[hpB]at X3
 try simp only[hpB]
 clear hpB;refine(RT.out _ _ (R7.out.gr G9.out)).mono ?_;rintro e u5 ⟨bv4,ev4,Q4,rfl,hb4,hq4,he4,g4⟩;obtain⟨b4,d4,rfl,_⟩:=aj hb4.r;have gA:=(Yu u5).alloc (.cells #[.slice b4 Q4.length d4] 27);have hA:=ae u5 (.cells #[.slice b4 Q4.length d4] 27);have X4:=hid (And.intro hA (And.intro (hb4.gr gA) (And.intro hq4 (he4.gr1 gA))));have gB:=g4.trans gA;have X3:=hid (show _/\_/\_/\_ from⟨gB.heap X3.out.1,X3.out.2.1.gr gB,X3.out.2.2.1,X3.out.2.2.2.gr1 gB⟩);have RX1:=hid (RX1.out.gr gB);have RY1:=hid (RY1.out.gr gB);have G9:=hid (G9.out.trans gB);clear hb4 hq4 he4 g4 gA hA RT gB;dsimp only at *;go_wp2_with fail;generalize u5.alloc (.cells #[.slice b4 Q4.length d4] 27)=u6 at *;obtain⟨pC,hpC⟩:∃q,u5.heap.size=q:=⟨_,rfl⟩;rw[hpC]at X4
 try simp only[hpC]
 clear hpC;have GU:=hid (G1.out.trans G9.out);refine(LE.out _ GU.out).mono ?_;rintro e u7 ⟨rfl,g7⟩;have SA:=hid (zeJ _ _ l u7 (HR.out.gr (GU.out.trans g7)) (R7.out.gr (G9.out.trans g7)) Yi);have SB:=hid (λu (g:Gr u7 u)=>zeJ _ _ A u ((RX1.out.gr g7).gr g) ((RY1.out.gr g7).gr g) HAL.out);have hlen1:Q3a.length<=1000:=by
  have h1:=HLN.out.2.1;have h3:=congrArg List.length X3.out.2.2.1;rw[List.length_map]at h3;omega
 have SK:=hid (λu (g:Gr u7 u)=>Hp _ _ _ _ Q3a Q4 u ((X3.out.2.1.gr g7).gr g) ((X4.out.2.1.gr g7).gr g) (X3.out.2.2.1.trans X4.out.2.2.1.symm) hlen1 (λq hq=>HLN.out.2.2 q.k (by have:=List.mem_map_of_mem (f:=Q3.k) hq;rw[X3.out.2.2.1]at this;exact this)));have SE:=hid (λu (g:Gr u7 u)=>Cn _ _ ev3 ev4 E u ((X3.out.2.2.2.gr1 g7).gr1 g) ((X4.out.2.2.2.gr1 g7).gr1 g) Yi);have Y3:=hid (g7.heap X3.out.1);have Y4:=hid (g7.heap X4.out.1);have GZ:=hid (GU.out.trans g7);clear X3 X4 g7 LE HR R7 RX1 RY1 GU G9 G1 HAL HLN hlen1;go_wp2_with fail;refine(SA.out).mono ?_;rintro e u8 ⟨rfl,g8⟩;go_wp2_with fail;refine(SB.out _ g8).mono ?_;rintro e u9 ⟨rfl,g9⟩;have g9:=g8.trans g9;obtain⟨x3,y3,z3⟩:=ed (g9.heap Y3.out);obtain⟨x4,y4,z4⟩:=ed (g9.heap Y4.out);clear g8 SA SB Y3 Y4;go_wp2_with fail;clear x3 y3 z3 x4 y4 z4;refine(SK.out _ g9).mono ?_;rintro e v1 ⟨rfl,k1⟩;have g10:=g9.trans k1;clear g9 k1 SK;go_wp2_with fail;refine(SE.out _ g10).mono ?_;rintro e v2 ⟨rfl,k2⟩;have GF:=hid ((GZ.out.trans g10).trans k2);clear g10 k2 SE;go_wp2;go_ret;exact⟨rfl,GF.out⟩
end Go.Proofs.YtimcfaoabaflkaaGreatDoor
