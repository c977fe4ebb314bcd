/- reference 02: Read. -/
import Derived.Test.YtimcfaoabaflkaaGreatDoorRDg
namespace Go.Proofs.YtimcfaoabaflkaaGreatDoor
open AbBase AbTrV
open AbA AbI
set_option maxHeartbeats 4000000
set_option maxRecDepth 100000
open Go.Proofs.Tryz
theorem Xv {P:Prop} (h:P:=by
 by_cases heq:dg s.l=l
 ·have hb:(dg s.l == l)=true:=by simpa using heq
  generalize hT:dg s.l=T at *;have HP:=hid (ja (x0:= .int .u64 s.a0) (x1:= .int .u64 s.a1) (x2:= .int .u64 s.a2) (x3:= .int .u64 s.a3) (x4:= .int .u64 s.a4) (x5:= .int .u64 s.a5) (x6:= .int .u64 s.a6) (x7:= .int .u64 s.a7) (show w2.heap[b]?=some (.cells Zc 39 (0,0))from C0.out));have HG9:=hid (ld s.a0 s.a1 s.a2 s.a3 s.a4 s.a5 s.a6 s.a7 GC.out (show w.heap.size<=b by have:=HB.out;omega));obtain⟨x0,y0,z0⟩:=ed (show w2.heap[b]?=some (.cells Zc 39 (0,0))from C0.out);go_wp2;clear x0 y0 z0;have hp:=HP.out;have hg:=HG9.out;clear HP HG9;generalize (((((((w2.setCell (Yo b 0) s.a0).setCell (Yo b 1) s.a1).setCell (Yo b 2) s.a2).setCell (Yo b 3) s.a3).setCell (Yo b 4) s.a4).setCell (Yo b 5) s.a5).setCell (Yo b 6) s.a6).setCell (Yo b 7) s.a7=V at *;obtain⟨s9,t9,z9⟩:=ed hp;exact bodyPost_ret (v:= .tuple #[.agg (Yc s),Yp 0]) (by simp[results,results47,go_sem,s9,t9,z9]) rfl ⟨Pv.yes hso (hT.trans heq),hg⟩
 ·have hb:(dg s.l == l)=false:=by simpa using heq
  generalize hT:dg s.l=T at *;have HP:=hid (ja (x0:= .int .u64 0) (x1:= .int .u64 0) (x2:= .int .u64 0) (x3:= .int .u64 0) (x4:= .int .u64 0) (x5:= .int .u64 0) (x6:= .int .u64 0) (x7:= .int .u64 0) (show w2.heap[b]?=some (.cells Zc 39 (0,0))from C0.out));have HG9:=hid (ld (Yq 0) (Yq 0) (Yq 0) (Yq 0) (Yq 0) (Yq 0) (Yq 0) (Yq 0) GC.out (show w.heap.size<=b by have:=HB.out;omega));obtain⟨x0,y0,z0⟩:=ed (show w2.heap[b]?=some (.cells Zc 39 (0,0))from C0.out);go_wp2;clear x0 y0 z0;have hp:=HP.out;have hg:=HG9.out;clear HP HG9;generalize (((((((w2.setCell (Yo b 0) (Yq 0)).setCell (Yo b 1) (Yq 0)).setCell (Yo b 2) (Yq 0)).setCell (Yo b 3) (Yq 0)).setCell (Yo b 4) (Yq 0)).setCell (Yo b 5) (Yq 0)).setCell (Yo b 6) (Yq 0)).setCell (Yo b 7) (Yq 0)=V at *;obtain⟨s9,t9,z9⟩:=ed hp;exact bodyPost_ret (v:= .tuple #[.agg Zc,Yp 4]) (by simp[results,results47,go_sem,s9,t9,z9]) rfl ⟨NOE.out heq,hg⟩):P:=h
section
open Go.RowKit Go.Shelf Go.Lib
theorem plA_at (Q:List Nat) (j:Nat) (hj:j < Q.length):(plA Q)[j]?=some (.int .u64 (Q.getD j 0:Nat)):=by
 simp[plA,List.getD,hj]
theorem S8.plA (s:S8):plA s.l=s.cs.toArray:=rfl
def li:List Nat:=[0,0,0,0,0,0,0,0]
theorem Pv.yes {l:List UInt8} {s:S8} (hs:s.ok) (h:dg s.l=l):Pv l (.returned (.tuple #[.agg s.cs.toArray,Yp 0])):=⟨s,0,rfl,hs,Or.inl ⟨rfl,h⟩⟩
theorem ld {w u:World} {g:Nat} (x0 x1 x2 x3 x4 x5 x6 x7:Value) (h:Gr w u) (hg:w.heap.size<=g):Gr w ((((((((u.setCell (Yo g 0) x0).setCell (Yo g 1) x1).setCell (Yo g 2) x2).setCell (Yo g 3) x3).setCell (Yo g 4) x4).setCell (Yo g 5) x5).setCell (Yo g 6) x6).setCell (Yo g 7) x7):=
 (((((((h.set _ _ hg).set _ _ hg).set _ _ hg).set _ _ hg).set _ _ hg).set _ _ hg).set _ _ hg).set _ _ hg
theorem vg (l:List UInt8) (hl:l.length<=100000) (w:World):
  Calls prog 47 #[sv l] w λe w'=>Pv l e/\Gr w w':=by
 have gI:=((Yu w).alloc (.cells (plA li) 39)).alloc (.cells (plA li) 39);have h1:=ae (w.alloc (.cells (plA li) 39)) (.cells (plA li) 39);have h0:=((Yu _).alloc (.cells (plA li) 39)).heap (ae w (.cells (plA li) 39));rw[World.size_alloc]at h1;have GI:=hid gI;have H0:=hid h0;have H1:=hid h1;have HX:=hid (fun(i:Nat) (h:i < l.length)=>show(⟨l.toArray⟩:ByteArray)[i]'(by show i < l.toArray.size;simpa using h)=l[i]from rfl);have hsz:(⟨l.toArray⟩:ByteArray).size=l.length:=rfl;have HS:=hid (show(⟨l.toArray⟩:ByteArray)=⟨l.toArray⟩from rfl);have DG:=hid Gm;clear gI h0 h1;go_enter func47,ntmps47;go_wp2;change Hid (Gr w ((w.alloc (.cells Zc 39)).alloc (.cells Zc 39)))at GI;change Hid (((w.alloc (.cells Zc 39)).alloc (.cells Zc 39)).heap[w.heap.size]?=some (.cells (plA li) 39 (0,0)))at H0;change Hid (((w.alloc (.cells Zc 39)).alloc (.cells Zc 39)).heap[w.heap.size+1]?=some (.cells (plA li) 39 (0,0)))at H1;generalize (w.alloc (.cells Zc 39)).alloc (.cells Zc 39)=W at *;obtain⟨b,hb⟩:∃b,w.heap.size=b:=⟨_,rfl⟩;have HB:=hid hb;rw[hb]at H0 H1;rw[hb];clear hb;go_loopw [5,6] (λzz u wr=>∃(i z:Nat) (Q:List Nat),u= .int .i64 i/\i<=l.length/\zz= .int .i64 z/\z<=i/\Hid (ib (some (0,li)) (l.take i)=some (z,Q)/\Q.length=8/\∀n∈Q,n < 2 ^ 64)/\Hid (wr.heap[b]?=some (.cells (plA li) 39 (0,0)))/\Hid (wr.heap[b+1]?=some (.cells (plA Q) 39 (0,0)))/\Gr w wr) (λ_ u _=>l.length - (intOf u).toNat)
 case atStart=>exact⟨0,0,li,rfl,Yi,rfl,Yi,hid ⟨by simp[ib],rfl,λn hn=>by simp[li]at hn;subst hn;decide⟩,H0,H1,GI.out⟩
 case round=>
  obtain⟨i,z,Q,rfl,hi,rfl,hz,HQ,B0,B1,gr⟩:=hrel;have HG:=hid gr
  by_cases hil:i < l.length/\l.length<=150
  ·obtain⟨hil,h150⟩:=hil;have hil':(i:Int) < l.length:=Yi;have h150':(l.length:Int)<=150:=Yi;have hi0:(0:Int)<=i:=Yi;have hx:=HX.out i hil;have HN:=hid (Oi (l:=l) hil (some (0,li)));rw[HQ.out.1]at HN;obtain⟨c,hc⟩:∃c,l[i]=c:=⟨_,rfl⟩;rw[hc]at hx HN;clear gr hc
   by_cases hdot:c=46
   ·have hct:((⟨l.toArray⟩:ByteArray)[i]'(by show i < l.toArray.size;simpa using hil)).toNat=46:=by rw[hx,hdot];rfl
    subst hdot;clear hx;have hw:=IntWalk.i64_in ((z:Int)+1) Yi;go_wp2_with fail;exact⟨⟨i+1,z+1,Q,Yj,Yi,Yj,Yi,hid ⟨HN.out,HQ.out.2⟩,B0,B1,HG.out⟩,by simp[intOf];omega⟩
   ·have hcn:¬c.toNat=46:=λe=>hdot (UInt8.toNat_inj.1 e);have hct:((⟨l.toArray⟩:ByteArray)[i]'(by show i < l.toArray.size;simpa using hil)).toNat=c.toNat:=by rw[hx]
    have hcn':¬(c.toNat:Int)=46:=Yi;have hdg:=Gm c;obtain⟨d,is,hd⟩:∃d is,Ei c=(d,is):=⟨_,_,rfl⟩;rw[hd]at hdg;have HDG:=hid hdg;have HD:=hid hd;generalize hk:c.toNat=k at *;clear hx hd hdg hk;go_wp2_with fail;refine(HDG.out _).mono ?_;rintro e w1 ⟨rfl,rfl⟩;have ST:Hid (jw (z,Q) c=if is=false\/7 < z\/2 ^ 60<=Q.getD z 0 then none else some (z,Q.set z (16 * Q.getD z 0+d.toNat))):=hid (by
     unfold jw;rw[if_neg hdot,HD.out])
    have bad:Hid (is=false\/7 < z\/2 ^ 60<=Q.getD z 0->ib (some (0,li)) l=none):=hid (λh=>Oh (i:=i+1) Yi (by rw[HN.out];show jw (z,Q) c=none;rw[ST.out,if_pos h]));clear DG HX;cases is with
    | false=>
     have HP:=hid (ja (x0:= .int .u64 0) (x1:= .int .u64 0) (x2:= .int .u64 0) (x3:= .int .u64 0) (x4:= .int .u64 0) (x5:= .int .u64 0) (x6:= .int .u64 0) (x7:= .int .u64 0) (show w1.heap[b]?=some (.cells Zc 39 (0,0))from B0.out));have HG9:=hid (ld (Yq 0) (Yq 0) (Yq 0) (Yq 0) (Yq 0) (Yq 0) (Yq 0) (Yq 0) HG.out (show w.heap.size<=b by have:=HB.out;omega));obtain⟨x0,y0,z0⟩:=ed (show w1.heap[b]?=some (.cells Zc 39 (0,0))from B0.out);go_wp2;clear x0 y0 z0;have hp:=HP.out;have hg:=HG9.out;clear HP HG9;generalize (((((((w1.setCell (Yo b 0) (Yq 0)).setCell (Yo b 1) (Yq 0)).setCell (Yo b 2) (Yq 0)).setCell (Yo b 3) (Yq 0)).setCell (Yo b 4) (Yq 0)).setCell (Yo b 5) (Yq 0)).setCell (Yo b 6) (Yq 0)).setCell (Yo b 7) (Yq 0)=V at *;obtain⟨s9,t9,z9⟩:=ed hp;exact bodyPost_ret (v:= .tuple #[.agg Zc,Yp 4]) (by simp[results,results47,go_sem,s9]) rfl ⟨Pv.none (bad.out Yj),hg⟩
    | true=>
     by_cases h7:7 < z
     ·have h7':(7:Int) < z:=Yi;have HP:=hid (ja (x0:= .int .u64 0) (x1:= .int .u64 0) (x2:= .int .u64 0) (x3:= .int .u64 0) (x4:= .int .u64 0) (x5:= .int .u64 0) (x6:= .int .u64 0) (x7:= .int .u64 0) (show w1.heap[b]?=some (.cells Zc 39 (0,0))from B0.out));have HG9:=hid (ld (Yq 0) (Yq 0) (Yq 0) (Yq 0) (Yq 0) (Yq 0) (Yq 0) (Yq 0) HG.out (show w.heap.size<=b by have:=HB.out;omega));obtain⟨x0,y0,z0⟩:=ed (show w1.heap[b]?=some (.cells Zc 39 (0,0))from B0.out);go_wp2;clear x0 y0 z0;have hp:=HP.out;have hg:=HG9.out;clear HP HG9;generalize (((((((w1.setCell (Yo b 0) (Yq 0)).setCell (Yo b 1) (Yq 0)).setCell (Yo b 2) (Yq 0)).setCell (Yo b 3) (Yq 0)).setCell (Yo b 4) (Yq 0)).setCell (Yo b 5) (Yq 0)).setCell (Yo b 6) (Yq 0)).setCell (Yo b 7) (Yq 0)=V at *;obtain⟨s9,t9,z9⟩:=ed hp;exact bodyPost_ret (v:= .tuple #[.agg Zc,Yp 4]) (by simp[results,results47,go_sem,s9]) rfl ⟨Pv.none (bad.out (Or.inr (Or.inl h7))),hg⟩
     ·have h7':¬(7:Int) < z:=Yi;have hz0:(0:Int)<=z:=Yi;have hz8:(z:Int) < 8:=Yi;have hQl:Q.length=8:=HQ.out.2.1;obtain⟨dd,hdd,rfl⟩:∃dd:Nat,dd < 16/\d=dd:=by
       have:=Rs (c:=c) (by rw[HD.out]);rw[HD.out]at this;exact this
      have k1:=((ed B1.out).1 z).trans (plA_at Q z Yi);obtain⟨qz,hqz⟩:∃x,Q.getD z 0=x:=⟨_,rfl⟩;rw[hqz]at k1 ST bad
      by_cases h60:2 ^ 60<=qz
      ·have h60':(1152921504606846976:Int)<=qz:=Yi;have HP:=hid (ja (x0:= .int .u64 0) (x1:= .int .u64 0) (x2:= .int .u64 0) (x3:= .int .u64 0) (x4:= .int .u64 0) (x5:= .int .u64 0) (x6:= .int .u64 0) (x7:= .int .u64 0) (show w1.heap[b]?=some (.cells Zc 39 (0,0))from B0.out));have HG9:=hid (ld (Yq 0) (Yq 0) (Yq 0) (Yq 0) (Yq 0) (Yq 0) (Yq 0) (Yq 0) HG.out (show w.heap.size<=b by have:=HB.out;omega));obtain⟨x0,y0,z0⟩:=ed (show w1.heap[b]?=some (.cells Zc 39 (0,0))from B0.out);go_wp2;clear x0 y0 z0;have hp:=HP.out;have hg:=HG9.out;clear HP HG9;generalize (((((((w1.setCell (Yo b 0) (Yq 0)).setCell (Yo b 1) (Yq 0)).setCell (Yo b 2) (Yq 0)).setCell (Yo b 3) (Yq 0)).setCell (Yo b 4) (Yq 0)).setCell (Yo b 5) (Yq 0)).setCell (Yo b 6) (Yq 0)).setCell (Yo b 7) (Yq 0)=V at *;obtain⟨s9,t9,z9⟩:=ed hp;exact bodyPost_ret (v:= .tuple #[.agg Zc,Yp 4]) (by simp[results,results47,go_sem,s9]) rfl ⟨Pv.none (bad.out (Or.inr (Or.inr h60))),hg⟩
      ·have h60':¬(1152921504606846976:Int)<=qz:=Yi;have m1:IntKind.u64.wrap (16 * (qz:Int))=16 * qz:=by rw[w64];omega
       have m2:IntKind.u64.wrap (16 * (qz:Int)+dd)=((16 * qz+dd:Nat):Int):=by rw[w64];omega
       have ST2:=hid (show jw (z,Q) c=some (z,Q.set z (16 * qz+dd)) by rw[ST.out,if_neg (by simp only[not_or];exact⟨Yj,h7,h60⟩)];rfl);have u1:=af (i:=z) ((16 * qz+dd:Nat):Int) B1.out;rw[Hv]at u1;have U1:=hid u1;have U0:=hid (show(w1.setCell (Yo (b+1) z) ((16 * qz+dd:Nat):Int)).heap[b]?=some (.cells (plA li) 39 (0,0)) by rw[Below.heap_setCell _ ⟨b+1,z,none⟩ _ _ (show b≠b+1 by omega)];exact B0.out);have UG:=hid (HG.out.set ⟨b+1,z,none⟩ ((16 * qz+dd:Nat):Int) (show w.heap.size<=b+1 by have:=HB.out;omega));have y1:=(ed B1.out).2.1 z;have z1:=(ed B1.out).2.2;obtain⟨nn,hnn⟩:∃x,16 * qz+dd=x:=⟨_,rfl⟩;rw[hnn]at m2 ST2 U1 U0 UG;have OK:=hid (Z2 HQ.out.2.1 HQ.out.2.2 ST2.out);clear u1 B0 B1 HG ST bad hnn hqz h60 h7 hdd hQl HDG HD HB;have h60d:decide ((1152921504606846976:Int)<=(qz:Int))=false:=decide_eq_false h60';clear h60';go_upto_region 11 with (fail);go_wp2_with fail;exact⟨⟨i+1,z,Q.set z nn,Yj,Yi,rfl,Yi,hid ⟨HN.out.trans ST2.out,OK.out⟩,U0,U1,UG.out⟩,by simp[intOf];omega⟩
  ·obtain⟨s,rfl⟩:=s8_of HQ.out.2.1;have hso:s.ok:=HQ.out.2.2;have WR:=hid (λu=>mn s hso u);change Hid (∀u,Calls prog 48 #[.agg (Yc s)] u λe w'=>e= .returned (sv (dg s.l))/\Gr u w')at WR;change Hid (wr.heap[b+1]?=some (.cells (Yc s) 39 (0,0)))at B1;have NOE:=hid (fun(hn:dg s.l≠l)=>show Pv l (.returned (.tuple #[.agg S8.zero.cs.toArray,Yp 4])) by
    by_cases h150:l.length<=150
    ·have hi2:i=l.length:=by
      have:¬i < l.length:=λh=>hil ⟨h,h150⟩;omega
     have h1:=HQ.out.1;rw[hi2,List.take_length]at h1;exact Pv.other h1 hn
    ·exact Pv.long Yi)
   clear DG HX gr;obtain⟨x1,y1,z1⟩:=ed B1.out
   by_cases hil2:i < l.length
   ·have hil2':(i:Int) < l.length:=Yi;have h150:¬(l.length:Int)<=150:=λh=>hil ⟨hil2,Yi⟩;go_wp2_with fail;refine(WR.out _).mono ?_;rintro e w2 ⟨rfl,g2⟩;have C0:=hid (g2.heap B0.out);have C1:=hid (g2.heap B1.out);have GC:=hid (HG.out.trans g2);clear g2 B0 B1 HG;obtain⟨x1,y1,z1⟩:=ed C1.out
    exact Xv
   ·have hil2':¬(i:Int) < l.length:=Yi;go_wp2_with fail;refine(WR.out _).mono ?_;rintro e w2 ⟨rfl,g2⟩;have C0:=hid (g2.heap B0.out);have C1:=hid (g2.heap B1.out);have GC:=hid (HG.out.trans g2);clear g2 B0 B1 HG;obtain⟨x1,y1,z1⟩:=ed C1.out
    exact Xv
abbrev kpC (k:Nat) (p:Int):Array Value:=#[Ys k,Yp p,Yq 0,Yq 0,Yq 0,Yq 0,Yq 0,Yq 0,Yq 0,Yq 0]
theorem zaK {k i:Nat} (hk:k=2\/k=3) (hi:i < 8):okA 8 k (i:Nat) aq=true:=by
 unfold okA;have h1:(i:Int) < 8:=Yi;have h2:(0:Int)<=i:=Yi;rcases hk with rfl | rfl <;> simp[h1,h2]
theorem Zh.kp {l:List UInt8} {k i:Nat} (hk:k=2\/k=3) (hi:i < 8) (h:dl k (i:Nat) aq=l):Zh l (.returned (.tuple #[.agg (kpC k (i:Nat)),Yp 0])):=
 ⟨⟨k,i,S8.zero⟩,0,rfl,S8.zero_ok,Or.inl ⟨rfl,⟨S8.zero_ok,zaK hk hi⟩,h⟩⟩
theorem Zh.cut {l:List UInt8} {s:S8} (hs:s.ok) (hz:okA 8 1 0 s.l=true) (h:dl 1 0 s.l=l):Zh l (.returned (.tuple #[.agg (Ac.cs ⟨1,0,s⟩).toArray,Yp 0])):=
 ⟨⟨1,0,s⟩,0,rfl,hs,Or.inl ⟨rfl,⟨hs,hz⟩,h⟩⟩
theorem Zh.no {l:List UInt8} (h1:∀k i:Nat,i < 8->(k=2\/k=3)->dl k (i:Nat) aq≠l) (h2:∀s:S8,s.ok->okA 8 1 0 s.l=true->dl 1 0 s.l≠l):Zh l (.returned (.tuple #[.agg (kpC 0 0),Yp 4])):=
 ⟨n5,4,rfl,S8.zero_ok,Or.inr ⟨rfl,rfl,λb hb=>by
  obtain⟨hb8,hbo⟩:=hb;obtain⟨bk,bp,bc⟩:=b;dsimp only at *;rcases jc hbo with ⟨rfl,rfl⟩ | ⟨hk,i,hi,rfl⟩
  ·exact h2 bc hb8 hbo
  ·have hc:bc.l=aq:=by
    unfold okA at hbo;rcases hk with rfl | rfl <;> simpa using (by simpa using hbo:_/\_).2
   rw[hc];exact h1 bk i hi hk⟩⟩
theorem qm {w u:World} {g:Nat} (x0 x1 x2 x3 x4 x5 x6 x7 x8 x9:Value) (h:Gr w u) (hg:w.heap.size<=g):Gr w ((((((((((u.setCell (Yo g 0) x0).setCell (Yo g 1) x1).setCell (Yo g 2) x2).setCell (Yo g 3) x3).setCell (Yo g 4) x4).setCell (Yo g 5) x5).setCell (Yo g 6) x6).setCell (Yo g 7) x7).setCell (Yo g 8) x8).setCell (Yo g 9) x9):=
 ((ld x0 x1 x2 x3 x4 x5 x6 x7 h hg).set _ _ hg).set _ _ hg
theorem Z7 (s:S8):1<=(dg s.l).length:=by
 unfold dg;have hk:=qr (P:=s.l) 8 Yi;have h1:∀ws:List (List UInt8),ws≠[]->(∀w∈ws,1<=w.length)->1<=(Lib.join ws [46]).length:=λws h0 h=>by
  cases ws with
  | nil=>exact absurd rfl h0
  | cons x r=>
   have:=h x Yj;cases r with
   | nil=>rw[join_one];exact this
   | cons y r=>rw[m5];simp;omega
 refine h1 _ ?_ ?_
 ·intro e;have:=congrArg List.length e;simp only[List.length_map,List.length_take,List.length_nil]at this;have h8:s.l.length=8:=rfl;omega
 ·intro w hw;obtain⟨n,_,rfl⟩:=List.mem_map.1 hw;unfold cf;rw[zd0];split <;> simp
theorem Kb (l:List UInt8) (hl:l.length<=1000) (w:World):
  Calls prog 49 #[sv l] w λe w'=>Zh l e/\Gr w w':=by
 have h0:=ae w (.cells (kpC 0 0) 54);have g0:=(Yu w).alloc (.cells (kpC 0 0) 54);have H0:=hid h0;have GI:=hid g0;have hsz:(⟨l.toArray⟩:ByteArray).size=l.length:=rfl;have WK:=hid (fun(k i:Nat) (hk:k=2\/k=3) (hi:i < 8) (u:World)=>show Calls prog 50 #[.agg (kpC k (i:Nat))] u λe w'=>e= .returned (.tuple #[sv (dl k (i:Nat) aq),Yp 0])/\Gr u w' by
  have:=nv k (i:Nat) 0 0 0 0 0 0 0 0 (by intro p hp;simp at hp;subst hp;decide) u;unfold wrV at this;rw[if_pos (zaK hk hi)]at this;exact this)
 clear h0 g0;go_enter func49,ntmps49;go_wp2;generalize w.alloc (.cells (kpC 0 0) 54)=W at *;obtain⟨b,hb⟩:∃b,w.heap.size=b:=⟨_,rfl⟩;have HB:=hid hb;rw[hb]at H0;rw[hb];clear hb;go_loopw [4] (λu wr=>∃i:Nat,u= .int .i64 i/\i<=8/\Hid (∀k j:Nat,j < i->(k=2\/k=3)->dl k (j:Nat) aq≠l)/\Hid (wr.heap[b]?=some (.cells (kpC 0 0) 54 (0,0)))/\Gr w wr) (λu _=>8 - (intOf u).toNat)
 case atStart=>exact⟨0,rfl,Yi,hid (λk j hj=>absurd hj (Nat.not_lt_zero _)),H0,GI.out⟩
 case round=>
  obtain⟨i,rfl,hi,HA,B0,gr⟩:=hrel;have HG:=hid gr;clear gr
  by_cases h8:i < 8
  ·have h8':(i:Int) < 8:=Yi;go_wp2_with fail;go_loopw [5] (λu wi=>∃k:Nat,u= .int .u8 k/\2<=k/\k<=4/\Hid (∀k':Nat,2<=k'->k' < k->dl k' (i:Nat) aq≠l)/\Hid (wi.heap[b]?=some (.cells (kpC 0 0) 54 (0,0)))/\Gr w wi) (λu _=>4 - (intOf u).toNat)
   case atStart=>exact⟨2,rfl,Yi,Yi,hid (λk h1 h2=>by omega),B0,HG.out⟩
   case round=>
    obtain⟨k,rfl,hk2,hk4,HK,C0,gr⟩:=hrel;have HG2:=hid gr;clear gr
    by_cases h3:k<=3
    ·have h3':(k:Int)<=3:=Yi;have ga:=(Yu wr).alloc (.cells #[Ys k,Yp (i:Nat),Yq 0,Yq 0,Yq 0,Yq 0,Yq 0,Yq 0,Yq 0,Yq 0] 54);have HA1:=hid (ae wr (.cells #[Ys k,Yp (i:Nat),Yq 0,Yq 0,Yq 0,Yq 0,Yq 0,Yq 0,Yq 0,Yq 0] 54));have C1:=hid (ga.heap C0.out);have GA:=hid (HG2.out.trans ga);have WKi:=hid (WK.out k i Yi h8);obtain⟨T,hT⟩:∃T,dl k (i:Nat) aq=T:=⟨_,rfl⟩;rw[hT]at WKi;have HT:=hid hT;clear ga C0 hT;go_upto_region 8 with (fail);generalize wr.alloc (.cells #[Ys k,Yp (i:Nat),Yq 0,Yq 0,Yq 0,Yq 0,Yq 0,Yq 0,Yq 0,Yq 0] 54)=wa at *;obtain⟨q,hq⟩:∃q,wr.heap.size=q:=⟨_,rfl⟩;rw[hq]at HA1;rw[hq];clear hq;obtain⟨xa,ya,za⟩:=ed HA1.out;go_wp2_with fail;refine(WKi.out _).mono ?_;rintro e w2 ⟨rfl,g2⟩;have A2:=hid (g2.heap HA1.out);have C2:=hid (g2.heap C1.out);have G2:=hid (GA.out.trans g2);clear g2 xa ya za HA1 C1 GA WKi
     by_cases heq:T=l
     ·have hb:(T == l)=true:=by simpa using heq
      obtain⟨xa,ya,za⟩:=ed A2.out;have HP:=hid (fi (x0:= .int .u8 k) (x1:= .int .i64 (i:Nat)) (x2:= .int .u64 0) (x3:= .int .u64 0) (x4:= .int .u64 0) (x5:= .int .u64 0) (x6:= .int .u64 0) (x7:= .int .u64 0) (x8:= .int .u64 0) (x9:= .int .u64 0) (show w2.heap[b]?=some (.cells Zf 54 (0,0))from C2.out));have HG9:=hid (qm (Ys k) (Yp (i:Nat)) (Yq 0) (Yq 0) (Yq 0) (Yq 0) (Yq 0) (Yq 0) (Yq 0) (Yq 0) G2.out (show w.heap.size<=b by have:=HB.out;omega));obtain⟨x0,y0,z0⟩:=ed (show w2.heap[b]?=some (.cells Zf 54 (0,0))from C2.out);go_wp2;clear x0 y0 z0;have hp:=HP.out;have hg:=HG9.out;clear HP HG9;generalize (((((((((w2.setCell (Yo b 0) (Ys k)).setCell (Yo b 1) (Yp (i:Nat))).setCell (Yo b 2) (Yq 0)).setCell (Yo b 3) (Yq 0)).setCell (Yo b 4) (Yq 0)).setCell (Yo b 5) (Yq 0)).setCell (Yo b 6) (Yq 0)).setCell (Yo b 7) (Yq 0)).setCell (Yo b 8) (Yq 0)).setCell (Yo b 9) (Yq 0)=V at *;obtain⟨s9,t9,z9⟩:=ed hp;exact bodyPost_ret (v:= .tuple #[.agg #[Ys k,Yp (i:Nat),Yq 0,Yq 0,Yq 0,Yq 0,Yq 0,Yq 0,Yq 0,Yq 0],Yp 0]) (by simp[results,results49,go_sem,s9]) rfl ⟨Zh.kp Yi h8 (HT.out.trans heq),hg⟩
     ·have hb:(T == l)=false:=by simpa using heq
      have hw:=IntWalk.u8_in ((k:Int)+1) Yi;go_wp2_with fail;exact⟨⟨k+1,Yj,Yi,Yi,hid (λk' h1 h2=>by
       by_cases e:k'=k
       ·rw[e,HT.out];exact heq
       ·exact HK.out k' h1 Yi),C2,G2.out⟩,by simp[intOf];omega⟩
    ·have h3':¬(k:Int)<=3:=Yi;go_wp2_with fail;exact⟨⟨i+1,Yj,Yi,hid (λk' j hj hk=>by
      by_cases e:j=i
      ·rw[e];exact HK.out k' Yi Yi
      ·exact HA.out k' j Yi hk),C0,HG2.out⟩,by simp[intOf];omega⟩
  ·have h8':¬(i:Int) < 8:=Yi;obtain rfl:i=8:=Yi
   by_cases h4:4 < l.length
   ·have h4':(4:Int) < l.length:=Yi;have hx:(⟨l.toArray⟩:ByteArray).extract 4 l.length=⟨(l.drop 4).toArray⟩:=by apply ByteArray.ext;simp;exact List.take_of_length_le Yj
    have RD:=hid (vg (l.drop 4) (by simp;omega));have HD:=hid (List.take_append_drop 4 l);obtain⟨m,hm⟩:∃m,l.drop 4=m:=⟨_,rfl⟩;rw[hm]at hx RD HD;clear hm;go_wp2_with fail;refine(RD.out _).mono ?_;rintro e w2 ⟨⟨s,er,he,hso,hs⟩,g2⟩;rw[show s.cs.toArray=(Yc s)from rfl]at he;subst he;have HS:=hid hs;have C2:=hid (g2.heap B0.out);have G2:=hid (HG.out.trans g2);clear g2 hs B0 HG RD hx;change (∀p∈s.l,p < 2 ^ 64)at hso;have WR:=hid (λu=>nv 1 0 s.a0 s.a1 s.a2 s.a3 s.a4 s.a5 s.a6 s.a7 hso u);have ga:=(Yu w2).alloc (.cells (Yc s) 39);have ha:=ae w2 (.cells (Yc s) 39);have A3:=hid ha;have C3:=hid (ga.heap C2.out);have G3:=hid (G2.out.trans ga);clear ga ha C2 G2;go_upto_region 13 with (fail);generalize w2.alloc (.cells (Yc s) 39)=w3 at *;obtain⟨q,hq⟩:∃q,w2.heap.size=q:=⟨_,rfl⟩;rw[hq]at A3;rw[hq];clear hq;have gb:=(Yu w3).alloc (.cells #[Ys 1,Yp 0,s.a0,s.a1,s.a2,s.a3,s.a4,s.a5,s.a6,s.a7] 54);have A4:=hid (ae w3 (.cells #[Ys 1,Yp 0,s.a0,s.a1,s.a2,s.a3,s.a4,s.a5,s.a6,s.a7] 54));have C4:=hid (gb.heap C3.out);have G4:=hid (G3.out.trans gb);obtain⟨xa,ya,za⟩:=ed A3.out;clear gb;go_upto_region 14 with (fail);clear xa ya za A3 C3 G3;generalize w3.alloc (.cells #[Ys 1,Yp 0,s.a0,s.a1,s.a2,s.a3,s.a4,s.a5,s.a6,s.a7] 54)=w4 at *;obtain⟨r,hr⟩:∃r,w3.heap.size=r:=⟨_,rfl⟩;rw[hr]at A4;rw[hr];clear hr;have NO:=hid (fun(hn:okA 8 1 0 s.l=true->dl 1 0 s.l≠l)=>show Zh l (.returned (.tuple #[.agg (kpC 0 0),Yp 4]))from Zh.no (λk i hi hk=>HA.out k i hi hk) (λs2 hs2 ho2 e=>by
     have hsol:dg s2.l=m:=by
      have h1:=HD.out;rw[<-e]at h1;simpa[dl]using h1.symm
     rcases HS.out with ⟨_,h2⟩ | ⟨_,_,h2⟩
     ·have:=S8.l_inj (kh rfl hs2 rfl hso (hsol.trans h2.symm));rw[this]at ho2 e;exact hn ho2 e
     ·exact h2 s2 hs2 hsol))
    have YES:=hid (fun(ho:okA 8 1 0 s.l=true) (he:dl 1 0 s.l=l)=>show Zh l (.returned (.tuple #[.agg #[Ys 1,Yp 0,s.a0,s.a1,s.a2,s.a3,s.a4,s.a5,s.a6,s.a7],Yp 0]))from Zh.cut hso ho he);unfold wrV at WR;change Hid (∀u,Calls prog 50 #[.agg #[Ys 1,Yp 0,s.a0,s.a1,s.a2,s.a3,s.a4,s.a5,s.a6,s.a7]] u λe w'=>e= .returned (if okA 8 1 0 s.l=true then .tuple #[sv (dl 1 0 s.l),Yp 0]else .tuple #[.string ⟨#[]⟩,Yp 1])/\Gr u w')at WR;obtain⟨T,hT⟩:∃T,dl 1 0 s.l=T:=⟨_,rfl⟩;rw[hT]at WR NO YES;clear hT;obtain⟨xa,ya,za⟩:=ed A4.out;cases hok:okA 8 1 0 s.l with
    | false=>
     rw[hok]at WR NO YES;clear hok;go_wp2_with fail;refine(WR.out _).mono ?_;rintro e w5 ⟨rfl,g5⟩;have A5:=hid (g5.heap A4.out);have C5:=hid (g5.heap C4.out);have G5:=hid (G4.out.trans g5);clear g5 xa ya za;obtain⟨xa,ya,za⟩:=ed A5.out;simp only[Bool.false_eq_true,if_false];have HP:=hid (fi (x0:= .int .u8 0) (x1:= .int .i64 0) (x2:= .int .u64 0) (x3:= .int .u64 0) (x4:= .int .u64 0) (x5:= .int .u64 0) (x6:= .int .u64 0) (x7:= .int .u64 0) (x8:= .int .u64 0) (x9:= .int .u64 0) (show w5.heap[b]?=some (.cells Zf 54 (0,0))from C5.out));have HG9:=hid (qm (Ys 0) (Yp 0) (Yq 0) (Yq 0) (Yq 0) (Yq 0) (Yq 0) (Yq 0) (Yq 0) (Yq 0) G5.out (show w.heap.size<=b by have:=HB.out;omega));obtain⟨x0,y0,z0⟩:=ed (show w5.heap[b]?=some (.cells Zf 54 (0,0))from C5.out);go_wp2;clear x0 y0 z0;have hp:=HP.out;have hg:=HG9.out;clear HP HG9;generalize (((((((((w5.setCell (Yo b 0) (Ys 0)).setCell (Yo b 1) (Yp 0)).setCell (Yo b 2) (Yq 0)).setCell (Yo b 3) (Yq 0)).setCell (Yo b 4) (Yq 0)).setCell (Yo b 5) (Yq 0)).setCell (Yo b 6) (Yq 0)).setCell (Yo b 7) (Yq 0)).setCell (Yo b 8) (Yq 0)).setCell (Yo b 9) (Yq 0)=V at *;obtain⟨s9,t9,z9⟩:=ed hp;exact bodyPost_ret (v:= .tuple #[.agg Zf,Yp 4]) (by simp[results,results49,go_sem,s9]) rfl ⟨NO.out (λh=>by cases h),hg⟩
    | true=>
     rw[hok]at WR NO YES;clear hok;go_wp2_with fail;refine(WR.out _).mono ?_;rintro e w5 ⟨rfl,g5⟩;have A5:=hid (g5.heap A4.out);have C5:=hid (g5.heap C4.out);have G5:=hid (G4.out.trans g5);clear g5 xa ya za;obtain⟨xa,ya,za⟩:=ed A5.out;simp only[if_true]
     by_cases heq:T=l
     ·have hb:(T == l)=true:=by simpa using heq
      have HP:=hid (fi (x0:= .int .u8 1) (x1:= .int .i64 0) (x2:= .int .u64 s.a0) (x3:= .int .u64 s.a1) (x4:= .int .u64 s.a2) (x5:= .int .u64 s.a3) (x6:= .int .u64 s.a4) (x7:= .int .u64 s.a5) (x8:= .int .u64 s.a6) (x9:= .int .u64 s.a7) (show w5.heap[b]?=some (.cells Zf 54 (0,0))from C5.out));have HG9:=hid (qm (Ys 1) (Yp 0) s.a0 s.a1 s.a2 s.a3 s.a4 s.a5 s.a6 s.a7 G5.out (show w.heap.size<=b by have:=HB.out;omega));obtain⟨x0,y0,z0⟩:=ed (show w5.heap[b]?=some (.cells Zf 54 (0,0))from C5.out);go_wp2;clear x0 y0 z0;have hp:=HP.out;have hg:=HG9.out;clear HP HG9;generalize (((((((((w5.setCell (Yo b 0) (Ys 1)).setCell (Yo b 1) (Yp 0)).setCell (Yo b 2) s.a0).setCell (Yo b 3) s.a1).setCell (Yo b 4) s.a2).setCell (Yo b 5) s.a3).setCell (Yo b 6) s.a4).setCell (Yo b 7) s.a5).setCell (Yo b 8) s.a6).setCell (Yo b 9) s.a7=V at *;obtain⟨s9,t9,z9⟩:=ed hp;exact bodyPost_ret (v:= .tuple #[.agg #[Ys 1,Yp 0,s.a0,s.a1,s.a2,s.a3,s.a4,s.a5,s.a6,s.a7],Yp 0]) (by simp[results,results49,go_sem,s9]) rfl ⟨YES.out (by trivial) heq,hg⟩
     ·have hb:(T == l)=false:=by simpa using heq
      have HP:=hid (fi (x0:= .int .u8 0) (x1:= .int .i64 0) (x2:= .int .u64 0) (x3:= .int .u64 0) (x4:= .int .u64 0) (x5:= .int .u64 0) (x6:= .int .u64 0) (x7:= .int .u64 0) (x8:= .int .u64 0) (x9:= .int .u64 0) (show w5.heap[b]?=some (.cells Zf 54 (0,0))from C5.out));have HG9:=hid (qm (Ys 0) (Yp 0) (Yq 0) (Yq 0) (Yq 0) (Yq 0) (Yq 0) (Yq 0) (Yq 0) (Yq 0) G5.out (show w.heap.size<=b by have:=HB.out;omega));obtain⟨x0,y0,z0⟩:=ed (show w5.heap[b]?=some (.cells Zf 54 (0,0))from C5.out);go_wp2;clear x0 y0 z0;have hp:=HP.out;have hg:=HG9.out;clear HP HG9;generalize (((((((((w5.setCell (Yo b 0) (Ys 0)).setCell (Yo b 1) (Yp 0)).setCell (Yo b 2) (Yq 0)).setCell (Yo b 3) (Yq 0)).setCell (Yo b 4) (Yq 0)).setCell (Yo b 5) (Yq 0)).setCell (Yo b 6) (Yq 0)).setCell (Yo b 7) (Yq 0)).setCell (Yo b 8) (Yq 0)).setCell (Yo b 9) (Yq 0)=V at *;obtain⟨s9,t9,z9⟩:=ed hp;exact bodyPost_ret (v:= .tuple #[.agg Zf,Yp 4]) (by simp[results,results49,go_sem,s9]) rfl ⟨NO.out (λ_=>heq),hg⟩
   ·have h4':¬(4:Int) < l.length:=Yi;have HP:=hid (fi (x0:= .int .u8 0) (x1:= .int .i64 0) (x2:= .int .u64 0) (x3:= .int .u64 0) (x4:= .int .u64 0) (x5:= .int .u64 0) (x6:= .int .u64 0) (x7:= .int .u64 0) (x8:= .int .u64 0) (x9:= .int .u64 0) (show wr.heap[b]?=some (.cells Zf 54 (0,0))from B0.out));have HG9:=hid (qm (Ys 0) (Yp 0) (Yq 0) (Yq 0) (Yq 0) (Yq 0) (Yq 0) (Yq 0) (Yq 0) (Yq 0) HG.out (show w.heap.size<=b by have:=HB.out;omega));obtain⟨x0,y0,z0⟩:=ed (show wr.heap[b]?=some (.cells Zf 54 (0,0))from B0.out);go_wp2;clear x0 y0 z0;have hp:=HP.out;have hg:=HG9.out;clear HP HG9;generalize (((((((((wr.setCell (Yo b 0) (Ys 0)).setCell (Yo b 1) (Yp 0)).setCell (Yo b 2) (Yq 0)).setCell (Yo b 3) (Yq 0)).setCell (Yo b 4) (Yq 0)).setCell (Yo b 5) (Yq 0)).setCell (Yo b 6) (Yq 0)).setCell (Yo b 7) (Yq 0)).setCell (Yo b 8) (Yq 0)).setCell (Yo b 9) (Yq 0)=V at *;obtain⟨s9,t9,z9⟩:=ed hp;exact bodyPost_ret (v:= .tuple #[.agg Zf,Yp 4]) (by simp[results,results49,go_sem,s9]) rfl ⟨Zh.no (λk i hi hk=>HA.out k i hi hk) (λs hs _ e=>by
     have:=congrArg List.length e;have h1:=(show 1<=(dg s.l).length from Z7 s);simp[dl]at this;omega),hg⟩
end
end Go.Proofs.YtimcfaoabaflkaaGreatDoor
