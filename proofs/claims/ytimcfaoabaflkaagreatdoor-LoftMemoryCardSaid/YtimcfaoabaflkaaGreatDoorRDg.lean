/- reference 02: digit. -/
import Derived.Test.YtimcfaoabaflkaaGreatDoorRSP
import Derived.Laws.BitsAllLaws
namespace Go.Proofs.YtimcfaoabaflkaaGreatDoor
open AbBase AbTrV
open AbA AbI
set_option maxHeartbeats 2000000
set_option maxRecDepth 100000
open Go.Proofs.Tryz
theorem Xt {P:Prop} (h:P:=by
 by_cases h3:0<=pc
 ·by_cases h4:pc < n
  ·go_enter func102,ntmps102;go_wp2;go_ret;exact⟨sf (by simp[h3,h4] <;> (intros;omega)),(Yu w).alloc _⟩
  ·go_enter func102,ntmps102;go_wp2;go_ret;exact⟨sf (by simp[h3,h4] <;> (intros;omega)),(Yu w).alloc _⟩
 ·go_enter func102,ntmps102;go_wp2;go_ret;exact⟨sf (by simp[h3] <;> (intros;omega)),(Yu w).alloc _⟩):P:=h
section
open Go.RowKit Go.Shelf Go.Lib
theorem w8 (m:Int):IntKind.u8.wrap m=m % 256:=by simp[IntKind.wrap,IntKind.signed,IntKind.bits]
theorem w64 (m:Int):IntKind.u64.wrap m=m % 18446744073709551616:=by simp[IntKind.wrap,IntKind.signed,IntKind.bits]
theorem Cl {k:IntKind} {a b:Int} {x y:Bool} (h:a=b) (h2:x=y):Ending.returned (.tuple #[.int k a,.bool x])= .returned (.tuple #[.int k b,.bool y]):=by rw[h,h2]
theorem Gm (c:UInt8) (w:World):Calls prog 100 #[Ys c.toNat] w λe w'=>e= .returned (.tuple #[Yq (Ei c).1,.bool (Ei c).2])/\w'=w:=by
 have hc:(c.toNat:Int) < 256:=by have:=c.toNat_lt;omega
 have hc0:(0:Int)<=c.toNat:=Yi;unfold Ei;generalize c.toNat=n at *
 by_cases h1:48<=n
 ·have h1':(48:Int)<=n:=Yi
  by_cases h2:n<=57
  ·have h2':(n:Int)<=57:=Yi;rw[if_pos ⟨h1,h2⟩];go_enter func100,ntmps100;go_wp2;go_ret2;exact⟨Cl rfl rfl,rfl⟩
  ·have h2':¬(n:Int)<=57:=Yi;rw[if_neg (λh=>h2 h.2)]
   by_cases h3:97<=n
   ·have h3':(97:Int)<=n:=Yi
    by_cases h4:n<=102
    ·have h4':(n:Int)<=102:=Yi;go_enter func100,ntmps100;go_wp2;go_ret2;exact⟨Cl (by rw[w8,w64];omega) (by simp <;> omega),rfl⟩
    ·have h4':¬(n:Int)<=102:=Yi;go_enter func100,ntmps100;go_wp2;go_ret2;exact⟨Cl (by rw[w8,w64];omega) (by simp <;> omega),rfl⟩
   ·have h3':¬(97:Int)<=n:=Yi;go_enter func100,ntmps100;go_wp2;go_ret2;exact⟨Cl (by rw[w8,w64];omega) (by simp <;> omega),rfl⟩
 ·have h1':¬(48:Int)<=n:=Yi;have h3':¬(97:Int)<=n:=Yi;rw[if_neg (λh=>h1 h.1)];go_enter func100,ntmps100;go_wp2;go_ret2;exact⟨Cl (by rw[w8,w64];omega) (by simp <;> omega),rfl⟩
theorem sf {a b:Bool} (h:a=b):Ending.returned (.bool a)= .returned (.bool b):=by rw[h]
theorem lstF_eq {f g:Nat->Int}:km f=km g↔∀j,j < 8->f j=g j:=by
 constructor
 ·intro h j hj;have h':(am f)[j]?=(am g)[j]?\/True:=Or.inr trivial;unfold km at h;simp only[List.cons.injEq,and_true]at h;rcases j with _ | _ | _ | _ | _ | _ | _ | _ | j
  all_goals first | omega | simp_all
 ·intro h;unfold km;simp only[h 0 Yi,h 1 Yi,h 2 Yi,h 3 Yi,h 4 Yi,h 5 Yi,h 6 Yi,h 7 Yi]
theorem zdy (p q:Nat->Int) (w:World):
  Calls prog 157 #[.agg (am p),.agg (am q)] w λe w'=>e= .returned (.bool (yg p q))/\Gr w w':=by
 have gI:=((Yu w).alloc (.cells (am p) 39)).alloc (.cells (am q) 39);have h1:=ae (w.alloc (.cells (am p) 39)) (.cells (am q) 39);have h0:=((Yu _).alloc (.cells (am q) 39)).heap (ae w (.cells (am p) 39));rw[World.size_alloc]at h1;have GI:=hid gI;have H0:=hid h0;have H1:=hid h1;clear gI h0 h1;go_enter func157,ntmps157;go_wp2;generalize (w.alloc (.cells (am p) 39)).alloc (.cells (am q) 39)=W at *;obtain⟨b0,hb0⟩:∃b,w.heap.size=b:=⟨_,rfl⟩;rw[hb0]at H0 H1;rw[hb0];clear hb0;go_loopw [5] (λu wr=>∃z:Nat,u= .int .i64 z/\z<=8/\Hid (∀j,j < z->bits .and .u64 (p j) (q j)=0)/\Gr W wr) (λu _=>8 - (intOf u).toNat)
 case atStart=>exact⟨0,rfl,Yi,hid (λj hj=>absurd hj (Nat.not_lt_zero _)),Yu _⟩
 case round=>
  obtain⟨z,rfl,hz,hall,gr⟩:=hrel
  by_cases h8:z < 8
  ·have h8':(z:Int) < 8:=Yi;have hz0:(0:Int)<=z:=Yi;have e0:=hid (kg p z h8);have e1:=hid (kg q z h8);go_upto_region 4 with (fail);have HG:=hid gr;clear gr;obtain⟨pz,hpz⟩:∃x,p z=x:=⟨_,rfl⟩;obtain⟨qz,hqz⟩:∃x,q z=x:=⟨_,rfl⟩;rw[hpz]at e0;rw[hqz]at e1;refine ah [.val (Yp z),.val (.pointer (some ⟨b0,z,none⟩)),.val pz,.val (Yp z),.val (.pointer (some ⟨b0+1,z,none⟩)),.val qz,.val (bits .and .u64 pz qz),.val (.bool (!decide (bits .and .u64 pz qz=0)))] Yh Yh (λV=>finT) ?_ ?_
   ·refine⟨?_,?_,?_,?_,?_,?_,?_,?_,trivial⟩
    all_goals (intro V u hu hk;refine⟨Yh,?_⟩;have k0:=((ed (hu.heap (HG.out.heap H0.out))).1 z).trans e0.out;have k1:=((ed (hu.heap (HG.out.heap H1.out))).1 z).trans e1.out;go_simp;first | exact⟨rfl,Yu _⟩ | skip)
   ·intro V u hg hs;have HG2:=hid (HG.out.trans hg);clear hs hg;go_wp2_with fail
    ·have hc:¬bits .and .u64 pz qz=0:=by simp_all
     go_ret;refine⟨sf ?_,GI.out.trans HG2.out⟩;unfold yg;have:¬km (λj=>bits .and .u64 (p j) (q j))=km λ_=>0:=λh=>hc (by rw[<-hpz,<-hqz];exact lstF_eq.1 h z h8);simp[this]
    ·have hc:bits .and .u64 pz qz=0:=by simp_all
     exact⟨⟨z+1,Yj,Yi,hid (λj hj=>by
      by_cases e:j=z
      ·rw[e,hpz,hqz];exact hc
      ·exact hall.out j Yi),HG2.out⟩,by simp[intOf];omega⟩
  ·have h8':¬(z:Int) < 8:=Yi;obtain rfl:z=8:=Yi;go_wp2_with fail;go_ret;refine⟨sf ?_,GI.out.trans gr⟩;unfold yg;have:km (λj=>bits .and .u64 (p j) (q j))=km λ_=>0:=lstF_eq.2 λj hj=>hall.out j hj;simp[this]
theorem Ag (p q:Nat->Int) (w:World):
  Calls prog 158 #[.agg (am p),.agg (am q)] w λe w'=>e= .returned (.bool (inB p q))/\Gr w w':=by
 have gI:=((Yu w).alloc (.cells (am p) 39)).alloc (.cells (am q) 39);have h1:=ae (w.alloc (.cells (am p) 39)) (.cells (am q) 39);have h0:=((Yu _).alloc (.cells (am q) 39)).heap (ae w (.cells (am p) 39));rw[World.size_alloc]at h1;have GI:=hid gI;have H0:=hid h0;have H1:=hid h1;clear gI h0 h1;go_enter func158,ntmps158;go_wp2;generalize (w.alloc (.cells (am p) 39)).alloc (.cells (am q) 39)=W at *;obtain⟨b0,hb0⟩:∃b,w.heap.size=b:=⟨_,rfl⟩;rw[hb0]at H0 H1;rw[hb0];clear hb0;go_loopw [5] (λu wr=>∃z:Nat,u= .int .i64 z/\z<=8/\Hid (∀j,j < z->bits .and .u64 (p j) (q j)=p j)/\Gr W wr) (λu _=>8 - (intOf u).toNat)
 case atStart=>exact⟨0,rfl,Yi,hid (λj hj=>absurd hj (Nat.not_lt_zero _)),Yu _⟩
 case round=>
  obtain⟨z,rfl,hz,hall,gr⟩:=hrel
  by_cases h8:z < 8
  ·have h8':(z:Int) < 8:=Yi;have hz0:(0:Int)<=z:=Yi;have e0:=hid (kg p z h8);have e1:=hid (kg q z h8);go_upto_region 4 with (fail);have HG:=hid gr;clear gr;obtain⟨pz,hpz⟩:∃x,p z=x:=⟨_,rfl⟩;obtain⟨qz,hqz⟩:∃x,q z=x:=⟨_,rfl⟩;rw[hpz]at e0;rw[hqz]at e1;refine ah [.val (Yp z),.val (.pointer (some ⟨b0,z,none⟩)),.val pz,.val (Yp z),.val (.pointer (some ⟨b0+1,z,none⟩)),.val qz,.val (bits .and .u64 pz qz),.val (Yp z),.val (.pointer (some ⟨b0,z,none⟩)),.val pz,.val (.bool (!decide (bits .and .u64 pz qz=pz)))] Yh Yh (λV=>finT) ?_ ?_
   ·refine⟨?_,?_,?_,?_,?_,?_,?_,?_,?_,?_,?_,trivial⟩
    all_goals (intro V u hu hk;refine⟨Yh,?_⟩;have k0:=((ed (hu.heap (HG.out.heap H0.out))).1 z).trans e0.out;have k1:=((ed (hu.heap (HG.out.heap H1.out))).1 z).trans e1.out;go_simp;first | exact⟨rfl,Yu _⟩ | skip)
   ·intro V u hg hs;have HG2:=hid (HG.out.trans hg);clear hs hg;go_wp2_with fail
    ·have hc:¬bits .and .u64 pz qz=pz:=by simp_all
     go_ret;refine⟨sf ?_,GI.out.trans HG2.out⟩;unfold inB;have:¬km (λj=>bits .and .u64 (p j) (q j))=km p:=λh=>hc (by rw[<-hpz,<-hqz];exact lstF_eq.1 h z h8);simp[this]
    ·have hc:bits .and .u64 pz qz=pz:=by simp_all
     exact⟨⟨z+1,Yj,Yi,hid (λj hj=>by
      by_cases e:j=z
      ·rw[e,hpz,hqz];exact hc
      ·exact hall.out j Yi),HG2.out⟩,by simp[intOf];omega⟩
  ·have h8':¬(z:Int) < 8:=Yi;obtain rfl:z=8:=Yi;go_wp2_with fail;go_ret;refine⟨sf ?_,GI.out.trans gr⟩;unfold inB;have:km (λj=>bits .and .u64 (p j) (q j))=km p:=lstF_eq.2 λj hj=>hall.out j hj;simp[this]
theorem xu (n k:Nat) (pc:Int) (c0 c1 c2 c3 c4 c5 c6 c7:Nat) (w:World):
  Calls prog 102 #[Yp n,.agg #[Ys k,Yp pc,c0,c1,c2,c3,c4,c5,c6,c7]] w λe w'=>e= .returned (.bool (okA n k pc [c0,c1,c2,c3,c4,c5,c6,c7]))/\Gr w w':=by
 unfold okA;have he:∀u,(Op.equalIn 10000 39 (.agg #[c0,c1,c2,c3,c4,c5,c6,c7]) (.agg Zc)).run prog u= .ok (decide ([c0,c1,c2,c3,c4,c5,c6,c7]=aq)) u:=λu=>ge c0 c1 c2 c3 c4 c5 c6 c7 0 0 0 0 0 0 0 0 u;generalize decide ([c0,c1,c2,c3,c4,c5,c6,c7]=aq)=b at *
 by_cases h1:k=1
 ·subst h1
  by_cases h2:pc=0
  ·subst h2;go_enter func102,ntmps102;go_wp2;go_ret;exact⟨sf (by simp[] <;> (intros;omega)),(Yu w).alloc _⟩
  ·have h2':(pc == 0)=false:=by simpa using h2
   go_enter func102,ntmps102;go_wp2;go_ret;exact⟨sf (by simp[h2] <;> (intros;omega)),(Yu w).alloc _⟩
 ·have h1':¬(k:Int)=1:=Yi
  by_cases h2:k=2
  ·subst h2
   exact Xt
  ·have h2':¬(k:Int)=2:=Yi
   by_cases h5:k=3
   ·subst h5
    exact Xt
   ·have h5':¬(k:Int)=3:=Yi;go_enter func102,ntmps102;go_wp2;go_ret;exact⟨sf (by simp[h1,h2,h5] <;> (intros;omega)),(Yu w).alloc _⟩
theorem vh (p0 p1 p2 p3 p4 p5 p6 p7:Nat) (v:Value) (L:List (List Nat)) (w:World) (hv:ef w v L):
  Calls prog 94 #[.agg #[p0,p1,p2,p3,p4,p5,p6,p7,v]] w λe w'=>e= .returned (Yp (ci [p0,p1,p2,p3,p4,p5,p6,p7] L))/\Gr w w':=by
 have h0:=ae w (.cells #[p0,p1,p2,p3,p4,p5,p6,p7,v] 42);have g0:=(Yu w).alloc (.cells #[p0,p1,p2,p3,p4,p5,p6,p7,v] 42);have GI:=hid g0;have HV:=hid (hv.gr g0);have he:∀u,(Op.equalIn 10000 39 (.agg #[p0,p1,p2,p3,p4,p5,p6,p7]) (.agg Zc)).run prog u= .ok (decide ([p0,p1,p2,p3,p4,p5,p6,p7]=aq)) u:=λu=>ge p0 p1 p2 p3 p4 p5 p6 p7 0 0 0 0 0 0 0 0 u;obtain⟨a,cap,hsl,hcap,_⟩:=hv;subst hsl;obtain⟨c_,f_,z_⟩:=ed h0;unfold ci
 by_cases h8:8 < L.length
 ·have h8':(8:Int) < L.length:=Yi;rw[if_pos h8];go_enter func94,ntmps94;go_wp2;go_ret;exact⟨rfl,GI.out⟩
 ·have h8':¬(8:Int) < L.length:=Yi;rw[if_neg h8]
  by_cases hp:[p0,p1,p2,p3,p4,p5,p6,p7]=aq
  ·rw[decide_eq_true hp]at he;rw[if_pos (Or.inl hp)];go_enter func94,ntmps94;go_wp2;go_ret;exact⟨rfl,GI.out⟩
  ·rw[decide_eq_false hp]at he;obtain⟨R,hR⟩:∃R:Nat,(if [p0,p1,p2,p3,p4,p5,p6,p7]=aq\/aq∈L then 1 else 0)=R:=⟨_,rfl⟩;have HR1:Hid (aq∈L->R=1):=hid (λh=>by rw[<-hR,if_pos (Or.inr h)]);have HR0:Hid (aq∉L->R=0):=hid (λh=>by rw[<-hR,if_neg (λx=>x.elim hp h)]);rw[hR];clear hR;have H0:=hid h0;clear h0 g0 hp;go_enter func94,ntmps94;go_wp2;clear he c_ f_ z_;generalize w.alloc (.cells #[p0,p1,p2,p3,p4,p5,p6,p7,.slice a L.length cap] 42)=W at *;obtain⟨pb,hpb⟩:∃b,w.heap.size=b:=⟨_,rfl⟩;rw[hpb]at H0;rw[hpb];clear hpb;go_loopw [3] (λu wr=>∃i:Nat,u= .int .i64 i/\i<=L.length/\Hid (∀j (hj:j < L.length),j < i->L[j]≠aq)/\Gr W wr) (λu _=>L.length - (intOf u).toNat)
   case atStart=>exact⟨0,rfl,Yi,hid (λj hj h=>absurd h (Nat.not_lt_zero _)),Yu _⟩
   case round=>
    obtain⟨i,rfl,hi,hall,gr⟩:=hrel;have G:=hid (GI.out.trans gr);have HG:=hid gr;obtain⟨c_,f_,z_⟩:=ed (gr.heap H0.out)
    by_cases hil:i < L.length
    ·have hil':(i:Int) < L.length:=Yi;have hi0:(0:Int)<=i:=Yi;obtain⟨a',cap',e',_,hcell⟩:=HV.out.gr gr;cases e';obtain⟨g,o,rfl,hg,q0,q1,q2,q3,q4,q5,q6,q7,hq,_,d0,d1,d2,d3,d4,d5,d6,d7⟩:=hcell i hil;have hq2:∀u,(Op.equalIn 10000 39 (.agg #[q0,q1,q2,q3,q4,q5,q6,q7]) (.agg Zc)).run prog u= .ok (decide (L[i]=aq)) u:=λu=>by rw[hq];exact ge q0 q1 q2 q3 q4 q5 q6 q7 0 0 0 0 0 0 0 0 u
     clear gr hcell hq
     by_cases hn:L[i]=aq
     ·rw[decide_eq_true hn]at hq2;go_wp2;go_ret;refine⟨?_,G.out⟩;rw[HR1.out (hn▸List.getElem_mem hil)];rfl
     ·rw[decide_eq_false hn]at hq2;have HN:=hid hn;clear hn;go_wp2;exact⟨⟨i+1,Yj,Yi,hid (λj hj h=>by
       by_cases e:j=i
       ·subst e;exact HN.out
       ·exact hall.out j hj Yi),HG.out⟩,by simp[intOf];omega⟩
    ·have hil':¬(i:Int) < L.length:=Yi;clear gr;go_wp2;go_ret;refine⟨?_,G.out⟩;rw[HR0.out (λh=>by
      obtain⟨j,hj,e⟩:=List.mem_iff_getElem.1 h;exact hall.out j hj Yi e)]
     rfl
theorem Kl (n a c:Nat) (ha:a < 2 ^ n) (hc:c < 2 ^ n) (h:a &&& c=c):a - c=a &&& (2 ^ n - 1 - c):=by
 have e:BitVec.ofNat n c+(BitVec.ofNat n a &&& ~~~BitVec.ofNat n c)=BitVec.ofNat n a:=by
  rw[BitVec.add_eq_or_of_and_eq_zero _ _ (by ext i;simp;intro h1 _;exact h1)];ext i hi;have hb:(a &&& c).testBit i=c.testBit i:=by rw[h]
  rw[Nat.testBit_and]at hb;have q1:(BitVec.ofNat n c)[i]=c.testBit i:=by rw[BitVec.getElem_eq_testBit_toNat,BitVec.toNat_ofNat,Nat.mod_eq_of_lt hc]
  have q2:(BitVec.ofNat n a)[i]=a.testBit i:=by rw[BitVec.getElem_eq_testBit_toNat,BitVec.toNat_ofNat,Nat.mod_eq_of_lt ha]
  simp only[BitVec.getElem_or,BitVec.getElem_and,BitVec.getElem_not,q1,q2];cases h1:a.testBit i <;> cases h2:c.testBit i <;> simp_all
 have e2:=congrArg BitVec.toNat e;rw[BitVec.toNat_add,BitVec.toNat_and,BitVec.toNat_not,BitVec.toNat_ofNat,BitVec.toNat_ofNat,Nat.mod_eq_of_lt ha,Nat.mod_eq_of_lt hc]at e2;have h3:a &&& (2 ^ n - 1 - c)<=2 ^ n - 1 - c:=Nat.and_le_right;rw[Nat.mod_eq_of_lt Yi]at e2;omega
theorem Kv {a c:Int} (a0:0<=a) (a1:a < 18446744073709551616) (c0:0<=c) (c1:c < 18446744073709551616) (h:bits .and .u64 c a=c):IntKind.u64.wrap (a - c)=bits .andNot .u64 a c:=by
 obtain⟨A,rfl⟩:=Int.eq_ofNat_of_zero_le a0;obtain⟨C,rfl⟩:=Int.eq_ofNat_of_zero_le c0;rw[u64_and_nat C A Yi Yi]at h;have h2:A &&& C=C:=by rw[Nat.and_comm];exact_mod_cast h
 have hle:C<=A:=by rw[<-h2];exact Nat.and_le_left
 rw[u64_andNot_nat A C Yi Yi];have h3:=Kl 64 A C Yi Yi h2;rw[show 18446744073709551615 - C=2 ^ 64 - 1 - C from rfl,<-h3,w64];omega
theorem less_u8 {a c:Int} (a0:0<=a) (a1:a < 256) (c0:0<=c) (c1:c < 256) (h:bits .and .u8 c a=c):IntKind.u8.wrap (a - c)=bits .andNot .u8 a c:=by
 obtain⟨A,rfl⟩:=Int.eq_ofNat_of_zero_le a0;obtain⟨C,rfl⟩:=Int.eq_ofNat_of_zero_le c0;rw[u8_and_nat C A Yi Yi]at h;have h2:A &&& C=C:=by rw[Nat.and_comm];exact_mod_cast h
 have hle:C<=A:=by rw[<-h2];exact Nat.and_le_left
 rw[u8_andNot_nat A C Yi Yi];have h3:=Kl 8 A C Yi Yi h2;rw[show 255 - C=2 ^ 8 - 1 - C from rfl,<-h3,w8];omega
theorem E4 (op:BinOp) (h:op= .or\/op= .andNot) (a b:Int):0<=bits op .u64 a b/\bits op .u64 a b < 18446744073709551616:=by
 rcases h with rfl | rfl <;> exact⟨by show 0<=IntKind.u64.wrap _;rw[w64];omega,by show IntKind.u64.wrap _ < _;rw[w64];omega⟩
theorem Rv (op:BinOp) (h:op= .or\/op= .andNot) (a b:Int):0<=bits op .u8 a b/\bits op .u8 a b < 256:=by
 rcases h with rfl | rfl <;> exact⟨by show 0<=IntKind.u8.wrap _;rw[w8];omega,by show IntKind.u8.wrap _ < _;rw[w8];omega⟩
def Gy (s:Std):Prop:=(∀j,0<=s.1 j/\s.1 j < 18446744073709551616)/\0<=s.2/\s.2 < 256
theorem S8.f_ok {s:S8} (h:s.ok) (j:Nat):0<=s.f j/\s.f j < 18446744073709551616:=by
 obtain⟨a0,a1,a2,a3,a4,a5,a6,a7⟩:=s;simp only[S8.ok,S8.l,List.mem_cons,List.not_mem_nil,or_false,forall_eq_or_imp,forall_eq]at h;rcases j with _ | _ | _ | _ | _ | _ | _ | j <;> simp only[S8.f] <;> omega
theorem nxt_ok {L:List S8} {s:Std} {a:Ac} (h:Gy s):Gy (nxt L s a).1:=by
 unfold nxt;split
 ·exact h
 ·split
  ·split
   ·exact⟨λj=>E4 .andNot (Or.inr rfl) _ _,h.2⟩
   ·exact h
  ·split
   ·split
    ·split
     ·exact h
     ·exact⟨λj=>E4 .or (Or.inl rfl) _ _,Rv .or (Or.inl rfl) _ _⟩
    ·exact h
   ·split
    ·exact h
    ·split
     ·exact⟨λj=>E4 .andNot (Or.inr rfl) _ _,Rv .andNot (Or.inr rfl) _ _⟩
     ·exact h
theorem Wy {p:Nat} (h:p < 8):ks (p:Int)=1\/ks (p:Int)=2\/ks (p:Int)=4\/ks (p:Int)=8\/ks (p:Int)=16\/ks (p:Int)=32\/ks (p:Int)=64\/ks (p:Int)=128:=by
 rcases(by omega:p=0\/p=1\/p=2\/p=3\/p=4\/p=5\/p=6\/p=7)with rfl | rfl | rfl | rfl | rfl | rfl | rfl | rfl <;> simp[ks]
theorem Mg (i:Nat):ks (i:Int)=((2 ^ i:Nat):Int):=by
 unfold ks;rw[Int.toNat_natCast];push_cast;rfl
theorem By {i:Nat} (hi:i < 8):0<=ks (i:Int)/\ks (i:Int) < 256:=by
 rcases Wy hi with h | h | h | h | h | h | h | h <;> rw[h] <;> omega
theorem and_bit {n:Int} {i:Nat} (n0:0<=n) (n1:n < 256) (hi:i < 8) (h:¬bits .and .u8 n (ks (i:Nat))=0):bits .and .u8 (ks (i:Nat)) n=ks (i:Nat):=by
 obtain⟨N,rfl⟩:=Int.eq_ofNat_of_zero_le n0;have hb:=(By hi).2;rw[Mg]at h hb ⊢;rw[u8_and_nat N (2 ^ i) Yi Yi,nat_bit]at h;rw[u8_and_nat (2 ^ i) N Yi Yi,Nat.and_comm,nat_bit];have h2:N / 2 ^ i % 2=1:=by
  rcases Nat.mod_two_eq_zero_or_one (N / 2 ^ i)with e | e
  ·rw[e]at h;simp at h
  ·exact e
 rw[h2,Nat.one_mul]
theorem hex16 {r:Nat} (h:r < 16):(⟨#[48,49,50,51,52,53,54,55,56,57,97,98,99,100,101,102]⟩:ByteArray).extract r (r+1)=⟨#[j0 r]⟩:=by
 have:∀k:Fin 16,(⟨#[48,49,50,51,52,53,54,55,56,57,97,98,99,100,101,102]⟩:ByteArray).extract k.1 (k.1+1)=⟨#[j0 k.1]⟩:=Yk;exact this ⟨r,h⟩
theorem Cp (n:Nat) (w:World) (h:n < 16):
  Calls prog 101 #[n] w λe w'=>e= .returned (sv (cf n))/\Gr w w':=by
 rw[lp h];have q2:((n:Int)).tmod 16=(n:Int):=by rw[Int.tmod_eq_emod_of_nonneg Yi];omega
 have q3:IntKind.u64.wrap (n:Int)=n:=by rw[w64];omega
 have q4:IntKind.u64.wrap ((n:Int)+1)=((n+1:Nat):Int):=by rw[w64];omega
 have h':(n:Int) < 16:=Yi;have hs:=hex16 h;obtain⟨S,hS⟩:∃S:ByteArray,⟨#[48,49,50,51,52,53,54,55,56,57,97,98,99,100,101,102]⟩=S:=⟨_,rfl⟩;have hz:S.size=16:=by rw[<-hS];rfl
 rw[hS]at hs;have hn1:n+1<=16:=Yi;go_enter func101,ntmps101;go_wp2;go_ret;exact⟨by simp,grT⟩
theorem zap (k:Nat):∀(n:Nat) (w:World),n<=k->n < 2 ^ 64->
  Calls prog 101 #[n] w λe w'=>e= .returned (sv (cf n))/\Gr w w':=by
 induction k with
 | zero=>intro n w h _;exact Cp n w Yi
 | succ k ih=>
  intro n w h hb
  by_cases h16:n < 16
  ·exact Cp n w h16
  have IH:=hid (λw=>ih (n/16) w Yi Yi);have hl:=(gf (n:=n / 16) Yi).2;rw[m6 Yi hb];have q1:((n:Int)).tdiv 16=((n / 16:Nat):Int):=by rw[Int.tdiv_eq_ediv_of_nonneg Yi];omega
  have q2:((n:Int)).tmod 16=((n % 16:Nat):Int):=by rw[Int.tmod_eq_emod_of_nonneg Yi];omega
  have q3:IntKind.u64.wrap ((n / 16:Nat):Int)=((n / 16:Nat):Int):=by rw[w64];omega
  have q5:IntKind.u64.wrap ((n % 16:Nat):Int)=((n % 16:Nat):Int):=by rw[w64];omega
  have q4:IntKind.u64.wrap (((n % 16:Nat):Int)+1)=((n % 16+1:Nat):Int):=by rw[w64];omega
  have h':¬(n:Int) < 16:=Yi;have hs:=hex16 (r:=n % 16) Yi;obtain⟨S,hS⟩:∃S:ByteArray,⟨#[48,49,50,51,52,53,54,55,56,57,97,98,99,100,101,102]⟩=S:=⟨_,rfl⟩;have hz:S.size=16:=by rw[<-hS];rfl
  rw[hS]at hs;have hn1:n % 16+1<=16:=Yi;obtain⟨c,hc⟩:∃c,j0 (n % 16)=c:=⟨_,rfl⟩;rw[hc]at hs ⊢;generalize n % 16=r at *;generalize cf (n / 16)=A at *;generalize n / 16=m at *;have l1:¬9223372036854775807 < A.length+1:=Yi;clear ih hc;go_enter func101,ntmps101;go_wp2_with fail;refine(IH.out _).mono ?_;rintro e w1 ⟨rfl,g1⟩;go_wp2;exact bodyPost_ret (v:=sv (A ++ [c])) (by simp[results,results101,go_sem];exact(cat_one A c).symm) rfl ⟨rfl,g1⟩
theorem zaq (n:Nat) (w:World) (h:n < 2 ^ 64):
  Calls prog 101 #[n] w λe w'=>e= .returned (sv (cf n))/\Gr w w':=zap n n w (Yv _) h
theorem Gg (x:List UInt8):∀(ws:List (List UInt8)),ws≠[]->Lib.join (ws ++ [x]) [46]=Lib.join ws [46] ++ 46 :: x
 | [],h=>absurd rfl h
 | [a],_=>by rw[List.singleton_append,m5,join_one,join_one]
 | a :: b :: r,_=>by
  rw[List.cons_append,List.cons_append,m5,<-List.cons_append,Gg x (b :: r) Yj,m5];simp
theorem V4 {P:List Nat} {z:Nat}:gj P (z+1)=if P.getD z 0=0/\1<=z then gj P z else z+1:=by
 cases z with
 | zero=>rw[if_neg Yi];rfl
 | succ z=>
  show(if P.getD (z+1) 0=0 then gj P (z+1)else z+2)=_
  by_cases h:P.getD (z+1) 0=0
  ·rw[if_pos h,if_pos ⟨h,Yi⟩]
  ·rw[if_neg h,if_neg (λx=>h x.1)]
theorem T7 {P:List Nat} {z:Nat} (hz:1<=z) (h:z < P.length):Lib.join ((P.take (z+1)).map cf) [46]=Lib.join ((P.take z).map cf) [46] ++ 46 :: cf (P.getD z 0):=by
 rw[List.take_succ_eq_append_getElem h,List.map_append,List.map_singleton,Gg _ _ (by
  intro e;have:=congrArg List.length e;simp only[List.length_map,List.length_take,List.length_nil]at this;omega),kc h]
theorem zbe {P:List Nat} (hl:P.length=8) (hp:∀n∈P,n < 2 ^ 64) (z:Nat):(Lib.join ((P.take z).map cf) [46]).length<=150:=by
 have h1:=zes 16 ((P.take z).map cf) (λl h=>by
  obtain⟨n,hn,rfl⟩:=List.mem_map.1 h;exact(gf (hp n (List.mem_of_mem_take hn))).2)
 have h2:((P.take z).map cf).length<=8:=by
  rw[List.length_map,List.length_take];omega
 generalize (P.take z).map cf=ws at *;cases ws with
 | nil=>simp[Lib.join]
 | cons x r=>
  rw[Lib.join_length];simp only[List.length_cons,List.length_nil]at *;omega
def Am (P:List Nat) (z:Nat):List UInt8:=Lib.join ((P.take z).map cf) [46]
theorem cs_at (s:S8) (i:Nat) (hi:i < 8):s.cs.toArray[i]?=some (.int .u64 (s.l.getD i 0:Nat)):=by
 rcases i with _ | _ | _ | _ | _ | _ | _ | _ | i
 all_goals first | rfl | omega
theorem mn (s:S8) (hs:s.ok) (w:World):
  Calls prog 48 #[.agg s.cs.toArray] w λe w'=>e= .returned (sv (dg s.l))/\Gr w w':=by
 have h0:=ae w (.cells s.cs.toArray 39);have g0:=(Yu w).alloc (.cells s.cs.toArray 39);have H0:=hid h0;have GI:=hid g0;have HC:=hid (cs_at s);have HB:=hid (λi (hi:i < 8)=>show s.l.getD i 0 < 2 ^ 64 by
  rw[kc (show i < s.l.length from hi)];exact hs _ (List.getElem_mem _))
 have H150:=hid (λz=>show(Am s.l z).length<=150 from zbe (P:=s.l) rfl hs z);have hs8:s.cs.toArray=(Yc s):=rfl;have hl8:s.l.length=8:=rfl;rw[hs8];rw[hs8]at H0 GI HC;change Calls _ _ _ _ λe w'=>e= .returned (sv (Am s.l (gj s.l 8)))/\Gr w w';generalize s.l=P at *;clear h0 g0 hs8 hs;go_enter func48,ntmps48;go_wp2;generalize w.alloc (.cells (Yc s) 39)=W at *;obtain⟨pb,hpb⟩:∃b,w.heap.size=b:=⟨_,rfl⟩;rw[hpb]at H0;rw[hpb];clear hpb;go_loopw [3,4] (λla u wr=>∃z:Nat,u= .int .i64 z/\z<=8/\la= .int .i64 ((gj P z - 1:Nat):Int)/\Gr W wr) (λ_ u _=>8 - (intOf u).toNat)
 case atStart=>exact⟨0,rfl,Yi,rfl,Yu _⟩
 case round=>
  obtain⟨z,rfl,hz,rfl,gr⟩:=hrel;have HG:=hid gr
  by_cases h8:z < 8
  ·have h8':(z:Int) < 8:=Yi;have hz0:(0:Int)<=z:=Yi;have c0:=((ed (gr.heap H0.out)).1 z).trans (HC.out z h8);obtain⟨n,hn⟩:∃n,P.getD z 0=n:=⟨_,rfl⟩;rw[hn]at c0;have HN:=hid (show gj P (z+1)=_ from V4 (P:=P) (z:=z));rw[hn]at HN;clear gr
   by_cases h0:n=0
   ·subst h0;go_wp2_with fail;refine⟨⟨z+1,Yj,Yi,?_,HG.out⟩,by simp[intOf];omega⟩;rw[HN.out];congr 2;split
    ·rfl
    ·rename_i hc;have:z=0:=by
      have:=rs P z
      by_cases e:z=0
      ·exact e
      ·exact absurd ⟨rfl,Yi⟩ hc
     subst this;rfl
   ·have h0':¬(n:Int)=0:=Yi;go_wp2_with fail;refine⟨⟨z+1,Yj,Yi,?_,HG.out⟩,by simp[intOf];omega⟩;rw[HN.out,if_neg (λx=>h0 x.1)];rfl
  ·have h8':¬(z:Int) < 8:=Yi;obtain rfl:z=8:=Yi;have hk8:=rs P 8;have hk1:=qr (P:=P) 8 Yi;have c0:=((ed (gr.heap H0.out)).1 0).trans (HC.out 0 Yi);obtain⟨k,hk⟩:∃k,gj P 8=k:=⟨_,rfl⟩;rw[hk]at hk8 hk1 ⊢;have HKK:=hid hk;have HX:=hid (λi hi w=>zaq (P.getD i 0) w (HB.out i hi));have e1:P.take 1=[P.getD 0 0]:=by
    match P,hl8 with
    | a :: r,_=>rfl
   have E1:=hid (show Am P 1=cf (P.getD 0 0) by unfold Am;rw[e1,List.map_singleton,join_one]);have HJ:=hid (λz (h1:1<=z) (h2:z < 8)=>show Am P (z+1)=Am P z ++ 46 :: cf (P.getD z 0)from T7 (P:=P) (z:=z) h1 Yi);have HX0:=hid (HX.out 0 Yi);obtain⟨n0,hn0⟩:∃n,P.getD 0 0=n:=⟨_,rfl⟩;rw[hn0]at c0 HX0 E1;clear gr e1 hk hn0;go_wp2_with fail;refine(HX0.out _).mono ?_;rintro e w1 ⟨rfl,g1⟩;have HG1:=hid (HG.out.trans g1);rw[<-E1.out];clear g1 c0 HG E1;go_wp2;go_loopw [5,6] (λo u wr=>∃z:Nat,u= .int .i64 z/\1<=z/\z<=k/\o=sv (Am P z)/\Gr W wr) (λ_ u _=>k - (intOf u).toNat)
   case atStart=>exact⟨1,rfl,Yi,Yi,rfl,HG1.out⟩
   case round=>
    obtain⟨z,rfl,hz1,hzk,rfl,gr⟩:=hrel;have HG:=hid gr
    by_cases h8:z < k
    ·have h8':(z:Int)<=((k - 1:Nat):Int):=Yi;have hz0:(0:Int)<=z:=Yi;have hz8:(z:Int) < 8:=Yi;have c0:=((ed (gr.heap H0.out)).1 z).trans (HC.out z Yi);have l1:=H150.out z;have hx:=HX.out z Yi;have l3:=(gf (HB.out z Yi)).2;have HJ2:=hid (HJ.out z hz1 Yi);generalize Am P z=A at *;have l2:¬9223372036854775807 < A.length+1:=Yi;generalize cf (P.getD z 0)=B at *;generalize P.getD z 0=nz at *;have l4:¬9223372036854775807 < A.length+1+B.length:=Yi;have HX2:=hid hx;clear gr hx;go_wp2_with fail;refine(HX2.out _).mono ?_;rintro e w2 ⟨rfl,g2⟩;have HG2:=hid (HG.out.trans g2);clear g2 c0;go_wp2_with fail;refine⟨⟨z+1,Yj,Yi,Yi,?_,HG2.out⟩,by simp[intOf];omega⟩;rw[HJ2.out];congr 1;apply ByteArray.ext;simp
    ·obtain rfl:z=k:=Yi;have h8':¬(z:Int)<=((z - 1:Nat):Int):=Yi;go_wp2_with fail;go_ret;exact⟨by simp[HKK.out],GI.out.trans HG.out⟩
theorem zbf {i:Nat} (h:i < 8):Lib.itoa (i:Int)=[UInt8.ofNat (48+i)]:=by
 rw[Lib.itoa_nonneg,Lib.decDigits,dif_pos Yi]
theorem nv (k:Nat) (pc:Int) (c0 c1 c2 c3 c4 c5 c6 c7:Nat) (hP:∀p∈[c0,c1,c2,c3,c4,c5,c6,c7],p < 2 ^ 64) (w:World):
  Calls prog 50 #[zb3 k pc c0 c1 c2 c3 c4 c5 c6 c7] w λe w'=>e= .returned (wrV k pc [c0,c1,c2,c3,c4,c5,c6,c7])/\Gr w w':=by
 have h0:=ae w (.cells #[Ys k,Yp pc,c0,c1,c2,c3,c4,c5,c6,c7] 54);have g0:=(Yu w).alloc (.cells #[Ys k,Yp pc,c0,c1,c2,c3,c4,c5,c6,c7] 54);have H0:=hid h0;have GI:=hid g0;have FI:=hid (λw=>xu 8 k pc c0 c1 c2 c3 c4 c5 c6 c7 w);have WR:=hid (λw=>mn ⟨c0,c1,c2,c3,c4,c5,c6,c7⟩ hP w);have HL:=hid (Bj [c0,c1,c2,c3,c4,c5,c6,c7] rfl hP);change Hid (∀w,Calls prog 48 #[.agg #[c0,c1,c2,c3,c4,c5,c6,c7]] w λe w'=>e= .returned (sv (dg [c0,c1,c2,c3,c4,c5,c6,c7]))/\Gr w w')at WR;have HO:=hid (fun(h:okA 8 k pc [c0,c1,c2,c3,c4,c5,c6,c7]=true)=>jc h);unfold wrV;obtain⟨b,hb⟩:∃b,okA 8 k pc [c0,c1,c2,c3,c4,c5,c6,c7]=b:=⟨_,rfl⟩;unfold dl;rw[hb]at FI HO ⊢;generalize dg [c0,c1,c2,c3,c4,c5,c6,c7]=T at *;clear h0 hP hb;obtain⟨c_,f_,z_⟩:=ed H0.out;go_enter func50,ntmps50;go_wp2_with fail;refine(FI.out _).mono ?_;rintro e w1 ⟨rfl,g1⟩;have B1:=hid (g1.heap H0.out);have G1:=hid (GI.out.trans g1);clear c_ f_ z_ g0 g1 H0 GI FI;obtain⟨pb,hpb⟩:∃b,w.heap.size=b:=⟨_,rfl⟩;rw[hpb]at B1;rw[hpb];clear hpb;obtain⟨c_,f_,z_⟩:=ed B1.out;cases b
 ·go_wp2;exact bodyPost_ret (v:= .tuple #[.string ⟨#[]⟩,Yp 1]) (by simp[results,results50,go_sem]) rfl ⟨Yj,G1.out⟩
 ·rcases HO.out (by trivial)with ⟨h1,h2⟩ | ⟨h1,i,hi,h2⟩
  ·subst h1 h2;have l1:¬9223372036854775807 < 4+T.length:=by have:=HL.out;omega
   go_wp2_with fail;refine(WR.out _).mono ?_;rintro e w2 ⟨rfl,g2⟩;have G2:=hid (G1.out.trans g2);clear c_ f_ z_ g2;go_wp2;exact bodyPost_ret (v:= .tuple #[sv ([99,117,116,32] ++ T),Yp 0]) (by simp[results,results50,go_sem];apply ByteArray.ext;simp) rfl ⟨Yj,G2.out⟩
  ·subst h2;have cv:=conv_one (w1.alloc (.cells #[Ys (48+(i:Int))] 5)) w1.heap.size (48+(i:Int)) ((ed (ae w1 _)).1 0);rw[one_nums]at cv;have E:=hid (zbf hi);have q4:IntKind.i64.wrap (48+(i:Int))=48+(i:Int):=IntWalk.i64_in _ Yi;have q5:IntKind.u8.wrap (48+(i:Int))=48+(i:Int):=IntWalk.u8_in _ Yi;have G3:=hid (G1.out.alloc (.cells #[Ys (48+(i:Int))] 5));have B3:=hid (((Yu w1).alloc (.cells #[Ys (48+(i:Int))] 5)).heap B1.out);obtain⟨cw,fw,zw⟩:=ed B3.out;obtain⟨x,hx⟩:∃c,UInt8.ofNat (48+i)=c:=⟨_,rfl⟩;rw[hx]at cv E;rcases h1 with rfl | rfl
   ·go_wp2;exact bodyPost_ret (v:= .tuple #[sv ([102,105,116,32] ++ [x]),Yp 0]) (by simp[results,results50,go_sem];apply ByteArray.ext;simp) rfl ⟨by simp[E.out],G3.out⟩
   ·go_wp2;exact bodyPost_ret (v:= .tuple #[sv ([116,97,107,101,32] ++ [x]),Yp 0]) (by simp[results,results50,go_sem];apply ByteArray.ext;simp) rfl ⟨by simp[E.out],G3.out⟩
theorem Z8 {P:List Nat} (hl:P.length=8) (hp:∀n∈P,n < 2 ^ 64):(dg P).length<=150:=by
 unfold dg;have h1:=zes 16 ((P.take (gj P 8)).map cf) (λl h=>by
  obtain⟨n,hn,rfl⟩:=List.mem_map.1 h;exact(gf (hp n (List.mem_of_mem_take hn))).2)
 have h2:((P.take (gj P 8)).map cf).length<=8:=by
  rw[List.length_map,List.length_take];omega
 generalize (P.take (gj P 8)).map cf=ws at *;cases ws with
 | nil=>simp[Lib.join]
 | cons x r=>
  rw[Lib.join_length];simp only[List.length_cons,List.length_nil]at *;omega
theorem Rs {c:UInt8} (h:(Ei c).2=true):∃d:Nat,d < 16/\(Ei c).1=d:=by
 unfold Ei at h ⊢;split
 ·exact⟨c.toNat - 48,Yi,by dsimp only;omega⟩
 ·rename_i hc;rw[if_neg hc]at h;have:=of_decide_eq_true h;refine⟨c.toNat - 97+10,Yi,?_⟩;show IntKind.u64.wrap (IntKind.u8.wrap ((c.toNat:Int) - 97)+10)=_;rw[show IntKind.u8.wrap ((c.toNat:Int) - 97)=((c.toNat:Int) - 97)from by simp[IntKind.wrap,IntKind.signed,IntKind.bits];omega];simp[IntKind.wrap,IntKind.signed,IntKind.bits];omega
theorem Z2 {z z':Nat} {Q Q':List Nat} {c:UInt8} (hQ:Q.length=8) (hq:∀n∈Q,n < 2 ^ 64) (h:jw (z,Q) c=some (z',Q')):Q'.length=8/\∀n∈Q',n < 2 ^ 64:=by
 unfold jw at h;split at h
 ·cases h;exact⟨hQ,hq⟩
 ·split at h
  ·cases h
  ·rename_i h2;cases h;simp only[not_or,Bool.not_eq_false,Nat.not_lt,Nat.not_le]at h2;obtain⟨d,hd,e⟩:=Rs h2.1;refine⟨by simpa using hQ,λn hn=>?_⟩;rcases List.mem_or_eq_of_mem_set hn with hn | rfl
   ·exact hq n hn
   ·have:=h2.2.2;rw[e];dsimp only at *;omega
theorem Oi {l:List UInt8} {i:Nat} (hi:i < l.length) (o:Option (Nat×List Nat)):ib o (l.take (i+1))=(ib o (l.take i)).bind λq=>jw q l[i]:=by
 rw[List.take_succ_eq_append_getElem hi,jl];cases ib o (l.take i)with
 | none=>rfl
 | some q=>
  show ib (jw q l[i]) []=jw q l[i];cases jw q l[i] <;> rfl
theorem Oh {l:List UInt8} {i:Nat} (_hi:i<=l.length) {o:Option (Nat×List Nat)} (h:ib o (l.take i)=none):ib o l=none:=by
 rw[<-List.take_append_drop i l,jl,h,od]
def Pv (l:List UInt8) (e:Ending):Prop:=∃(s:S8) (er:Nat),e= .returned (.tuple #[.agg s.cs.toArray,Yp er])/\s.ok/\((er=0/\dg s.l=l)\/(er=4/\s=S8.zero/\∀P:S8,P.ok->dg P.l≠l))
theorem S8.zero_ok:S8.zero.ok:=by
 intro p hp;simp[S8.zero,S8.l]at hp;subst hp
 decide
theorem Pv.no {l:List UInt8} (h:∀P:S8,P.ok->dg P.l≠l):Pv l (.returned (.tuple #[.agg S8.zero.cs.toArray,Yp 4])):=⟨S8.zero,4,rfl,S8.zero_ok,Or.inr ⟨rfl,rfl,h⟩⟩
theorem Pv.none {l:List UInt8} (h:ib (some (0,[0,0,0,0,0,0,0,0])) l=none):Pv l (.returned (.tuple #[.agg S8.zero.cs.toArray,Yp 4])):=Pv.no λP hP e=>by
 obtain⟨z,hz⟩:=zee (P:=P.l) rfl hP;rw[e,h]at hz;cases hz
theorem Pv.other {l:List UInt8} {z:Nat} {Q:S8} (h:ib (some (0,[0,0,0,0,0,0,0,0])) l=some (z,Q.l)) (hn:dg Q.l≠l):Pv l (.returned (.tuple #[.agg S8.zero.cs.toArray,Yp 4])):=Pv.no λP hP e=>by
 obtain⟨z',hz⟩:=zee (P:=P.l) rfl hP;rw[e,h]at hz;have:=(Prod.mk.inj (Yt hz)).2;rw[this]at hn;exact hn e
theorem Pv.long {l:List UInt8} (h:150 < l.length):Pv l (.returned (.tuple #[.agg S8.zero.cs.toArray,Yp 4])):=Pv.no λP hP e=>by
 have:=Z8 (P:=P.l) rfl hP;rw[e]at this;omega
def Ac.ok (a:Ac):Prop:=a.c.ok/\okA 8 a.k a.p a.c.l=true
def Zh (l:List UInt8) (e:Ending):Prop:=∃(a:Ac) (er:Nat),e= .returned (.tuple #[.agg a.cs.toArray,Yp er])/\a.c.ok/\((er=0/\a.ok/\dl a.k a.p a.c.l=l)\/(er=4/\a=n5/\∀b:Ac,b.ok->dl b.k b.p b.c.l≠l))
theorem Fm.inj {f g:Fm} (hf:f.ok) (hg:g.ok) (h:f.text=g.text):f=g:=by
 have e:=f.split;rw[h,g.split]at e;simp only[List.cons.injEq,and_true]at e;obtain⟨e1,e2,e3⟩:=e;have e4:=Rt (by have:=(Fm.num_ok hg).2;omega) (by have:=(Fm.num_ok hf).2;omega) e2;cases f with
 | new n s=>cases g with
  | new m t=>
   simp only[Fm.num]at e4;rw[S8.l_inj (kh rfl hg.2.2.1 rfl hf.2.2.1 e3),e4]
  | keep m t=>simp[Fm.word]at e1
  | act m t=>simp[Fm.word]at e1
 | keep n s=>cases g with
  | new m t=>simp[Fm.word]at e1
  | keep m t=>
   simp only[Fm.num]at e4;rw[S8.l_inj (kh rfl hg.2.2.1 rfl hf.2.2.1 e3),e4]
  | act m t=>simp[Fm.word]at e1
 | act n s=>cases g with
  | new m t=>simp[Fm.word]at e1
  | keep m t=>simp[Fm.word]at e1
  | act m t=>
   simp only[Fm.num]at e4;rw[Jn hg.2.2.2 hg.2.2.1 hf.2.2.2 hf.2.2.1 e3,e4]
theorem fmOf_is {t:ByteArray} {f:Fm} (hf:f.ok) (h:f.text=t.data.toList):ee t=some f:=by
 cases hx:ee t with
 | none=>exact absurd h (Gl hx f hf)
 | some g=>rw[Fm.inj (cu hx).1 hf ((cu hx).2.trans h.symm)]
theorem fmOf_no {t:ByteArray} (h:∀f:Fm,f.ok->f.text≠t.data.toList):ee t=none:=by
 cases hx:ee t with
 | none=>rfl
 | some f=>exact absurd (cu hx).2 (h f (cu hx).1)
def Ov:Option Fm->En
 | none=>⟨⟨#[]⟩,0,S8.zero,n5⟩
 | some f=>f.ent
abbrev En.v (x:En):Value:= .agg (wh x.wd x.n x.s x.a)
end
end Go.Proofs.YtimcfaoabaflkaaGreatDoor
