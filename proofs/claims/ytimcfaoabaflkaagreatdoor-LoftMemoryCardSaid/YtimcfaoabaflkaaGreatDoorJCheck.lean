/- loft: CheckRecords at records at any address. -/
import Derived.Test.YtimcfaoabaflkaaGreatDoorLNum
import Derived.Deep.Onto
namespace Go.Proofs.YtimcfaoabaflkaaGreatDoor
open AbA AbI
set_option maxHeartbeats 8000000
set_option maxRecDepth 100000
open Go.Proofs.Tryz
theorem Xj {P:Prop} (h:P:=by
 refine⟨?_,?_,?_,?_,?_,?_,?_,?_,?_,?_,?_,?_,?_,trivial⟩ <;> (first | exact trivial | exact osGr | (refine⟨osK,?_⟩;intro V u hu hk;refine⟨Yh,aw Yh ?_⟩;obtain⟨hc,hf,hz⟩:=hu.cells;go_simp;skip) | (refine⟨osK,?_⟩;intro V u hu hk;refine⟨Yh,?_⟩;obtain⟨hc,hf,hz⟩:=hu.cells;go_simp;skip) | (intro V u hu hk;refine⟨Yh,?_⟩;obtain⟨hc,hf,hz⟩:=hu.cells;go_simp;first | exact⟨rfl,Yu _⟩ | skip) | (intro V u hu hk;show _=false;kernel_rfl));exact CR.out _):P:=h
theorem Xk {P:Prop} (h:P:=by
 refine⟨?_,?_,?_,?_,?_,?_,?_,?_,?_,?_,?_,?_,?_,trivial⟩ <;> (first | exact trivial | exact osGr | (refine⟨osK,?_⟩;intro V u hu hk;refine⟨Yh,aw Yh ?_⟩;obtain⟨hc,hf,hz⟩:=hu.cells;go_simp;skip) | (refine⟨osK,?_⟩;intro V u hu hk;refine⟨Yh,?_⟩;obtain⟨hc,hf,hz⟩:=hu.cells;go_simp;skip) | (intro V u hu hk;refine⟨Yh,?_⟩;obtain⟨hc,hf,hz⟩:=hu.cells;go_simp;first | exact⟨rfl,Yu _⟩ | skip) | (intro V u hu hk;show _=false;kernel_rfl))):P:=h
theorem Xm {P:Prop} (h:P:=by
 intro V u5 hg5 hs;have gu:=gu.trans hg5;have bx:=hg5.heap bx;clear cx fx zx;obtain⟨cx,fx,zx⟩:=ed bx;go_simp;go_wp2;go_ret2;obtain⟨rfl,rfl⟩:=Prod.ext_iff.1 (HR.out.symm.trans (jp HZ.out hil (e:=6) (by rw[HA.out];simp[j5,HB.out,HQ.out,hd]) Yk));exact⟨Yj,gu⟩):P:=h
section
open Go.RowKit Go.Shelf
def ij (w:World) (v:Value) (l:List Rc):Prop:=∃a cap,v= .slice a l.length cap/\l.length<=cap/\∀j (hj:j < l.length),∃g o,a=some ⟨g,o,none⟩/\g < w.heap.size/\
  w.cell? ⟨g,o+j * 4,none⟩=some (.int .i64 l[j].s)/\w.cell? ⟨g,o+j * 4+1,none⟩=some (.int .i64 l[j].k)/\w.cell? ⟨g,o+j * 4+2,none⟩=some (.int .i64 l[j].d)/\w.cell? ⟨g,o+j * 4+3,none⟩=some (.string l[j].t)
theorem ij.gr {w w':World} {v:Value} {l:List Rc} (h:ij w v l) (g:Gr w w'):ij w' v l:=by
 obtain⟨a,cap,hv,hc,hr⟩:=h;refine⟨a,cap,hv,hc,λj hj=>?_⟩;obtain⟨b,o,ha,hb,c0,c1,c2,c3⟩:=hr j hj;exact⟨b,o,ha,Nat.lt_of_lt_of_le hb g.b.size,(g.cells.1 b _ hb).trans c0,(g.cells.1 b _ hb).trans c1,(g.cells.1 b _ hb).trans c2,(g.cells.1 b _ hb).trans c3⟩
theorem RowR.recs {w:World} {v:Value} {l:List Rc} (h:RowR w v l):ij w v l:=by
 obtain⟨a,cap,hv,hc,hr⟩:=h.form;refine⟨a,cap,hv,hc,λj hj=>?_⟩;obtain⟨b,ha,hb,c0,c1,c2,c3⟩:=hr j hj;refine⟨b,0,ha,hb,?_⟩;rw[Nat.zero_add];exact⟨c0,c1,c2,c3⟩
theorem ij.nil (w:World) (cap:Nat) (a:Option Addr):ij w (.slice a 0 cap) []:=⟨a,cap,rfl,Nat.zero_le _,λ_j hj=>absurd hj (Nat.not_lt_zero _)⟩
theorem Y8 (n:Int) (v:Value) (w:World) (hc:(decide (n=3) || decide (n=5))=false):
  Calls prog 39 #[Yp n,v] w λe w'=>e= .returned (.tuple #[Yp 0,Yp 1])/\Gr w w':=by
 have IC:=hid (An n w);rw[hc]at IC;go_enter func39,ntmps39;go_wp2_with fail;refine IC.out.mono ?_;rintro e w1 ⟨rfl,hg1⟩;go_wp2;go_ret2;exact⟨rfl,hg1⟩
theorem Fb (n:Int) (v:Value) (l:List Rc) (w:World) (hn1: -1000000<=n) (hn2:n<=1000000) (hr:ij w v l) (hl:l.length<=1000000) (ht:∀x∈l,x.t.size<=100000) (hc:(decide (n=3) || decide (n=5))=true):
  Calls prog 39 #[Yp n,v] w λe w'=>e= .returned (.tuple #[Yp (ot n l).1,Yp (ot n l).2])/\Gr w w':=by
 obtain⟨a,cap,rfl,hcap,hcell⟩:=hr;have HC:=hid hcell;have IC:=hid (λw=>An n w);rw[hc]at IC;have FO:=hid (fun(j:Nat) (h:j < l.length) w=>Li n l[j] w hn1 hn2 (ht _ (List.getElem_mem h)));obtain⟨R1,R2,hR⟩:∃R1 R2,ot n l=(R1,R2):=⟨_,_,rfl⟩;rw[hR];have HR:=hid hR;clear hcell hc hR ht;go_enter func39,ntmps39;go_wp2_with fail;refine(IC.out _).mono ?_;rintro e w1 ⟨rfl,hg1⟩;clear IC;go_wp2;go_loopw [6,7,8,9,15] (λ_ _ _ _ q wr=>∃i:Nat,q= .int .i64 i/\i<=l.length/\Hid (∀j,j < i->j < l.length->kw n l j=0)/\Gr w wr) (λ_ _ _ _ q _=>l.length - (intOf q).toNat)
 case atStart=>exact⟨0,rfl,Yi,hid (λj hj=>by omega),hg1⟩
 case round=>
  obtain⟨i,rfl,hi,HZ,gr⟩:=hrel
  by_cases hil:i < l.length
  ·have hil':(i:Int) < l.length:=Yi;have hi0:(0:Int)<=i:=Yi;obtain⟨g,o,rfl,hg,c0,c1,c2,c3⟩:=HC.out i hil;rw[<-gr.cells.1 g _ hg]at c0 c1 c2 c3;have hz:g < wr.heap.size:=Nat.lt_of_lt_of_le hg gr.b.size;have FX:=hid (FO.out i hil);rcases Nat.eq_zero_or_pos i with rfl | hpos
   ·have HA:=hid (Pb (n:=n) hil);simp only[Nat.zero_mul,Nat.add_zero]at c0 c1 c2 c3;generalize l[0]=x at *;have bx:=ae wr (.cells #[Yp x.s,Yp x.k,Yp x.d,.string x.t] 36);have gu:=gr.alloc (.cells #[Yp x.s,Yp x.k,Yp x.d,.string x.t] 36);go_wp2_with fail;generalize wr.alloc (.cells #[Yp x.s,Yp x.k,Yp x.d,.string x.t] 36)=W at *;obtain⟨px,hpx⟩:∃p,wr.heap.size=p:=⟨_,rfl⟩;rw[hpx]at bx;rw[hpx];clear hpx c0 c1 c2 c3;obtain⟨cx,fx,zx⟩:=ed bx;refine ah [.val (Yp 0),.val (.bool false),.val (.bool false),.off,.off,.off,.off,.off,.off,.off,.off,.off,.val (.bool false)] Yh Yh (λV=>finT) ?_ ?_
    ·exact Xk
    ·intro V u3 hg3 hs;have gu:=gu.trans hg3;have bx:=hg3.heap bx;clear cx fx zx;obtain⟨cx,fx,zx⟩:=ed bx;go_simp;go_wp2_with fail;refine(FX.out _).mono ?_;rintro e w4 ⟨rfl,hg4⟩;have gu:=gu.trans hg4;have bx:=hg4.heap bx;clear hg4 cx fx zx;obtain⟨cx,fx,zx⟩:=ed bx;obtain⟨b,hb⟩:∃b,okR n x=b:=⟨_,rfl⟩;rw[hb];have HB:=hid hb;clear hb;cases b
     ·go_wp2;go_ret2;obtain⟨rfl,rfl⟩:=Prod.ext_iff.1 (HR.out.symm.trans (jp HZ.out hil (e:=1) (by rw[HA.out];simp[j5,HB.out]) Yk));exact⟨Yj,gu⟩
     ·go_wp2_with fail;refine ah [.val (Yp 0),.val (.bool false),.val (.bool false),.off,.off,.off,.off,.off,.off,.off,.off,.val (.bool false),.val (.bool false)] Yh Yh (λV=>finT) ?_ ?_
      ·exact Xk
      ·intro V u5 hg5 hs;have gu:=gu.trans hg5;have bx:=hg5.heap bx;clear cx fx zx;obtain⟨cx,fx,zx⟩:=ed bx;go_simp
       by_cases h93:x.k=1
       ·have e93:decide (x.k=1)=true:=by simpa using h93
        by_cases h7:x.d < 0
        ·go_wp2;go_ret2;obtain⟨rfl,rfl⟩:=Prod.ext_iff.1 (HR.out.symm.trans (jp HZ.out hil (e:=7) (by rw[HA.out];simp[j5,HB.out,h93,h7]) Yk));exact⟨Yj,gu⟩
        ·go_wp2;have NX:kw n l (0)=0:=by rw[HA.out];simp[j5,HB.out,h93,h7]
         exact⟨⟨1,Yj,Yi,hid (λj hj hjl=>by
          rcases Nat.lt_or_ge j (0)with h | h
          ·exact HZ.out j h hjl
          ·obtain rfl:j=0:=Yi;exact NX),gu⟩,by simp[intOf];omega⟩
       ·have e93:decide (x.k=1)=false:=by simpa using h93
        go_wp2;go_ret2;obtain⟨rfl,rfl⟩:=Prod.ext_iff.1 (HR.out.symm.trans (jp HZ.out hil (e:=93) (by rw[HA.out];simp[j5,HB.out,h93]) Yk));exact⟨Yj,gu⟩
   ·obtain⟨i,rfl⟩:∃k,i=k+1:=⟨i - 1,Yi⟩;clear hpos;have HA:=hid (Ja (n:=n) hil);obtain⟨g2,o2,hge,_,d0,d1,d2,d3⟩:=HC.out i Yi;obtain⟨rfl,rfl⟩:g2=g/\o2=o:=by injection hge with h;injection h with h h2;exact⟨h.symm,h2.symm⟩
    clear hge;rw[<-gr.cells.1 g2 _ hg]at d0 d1 d2 d3;obtain⟨k1,k2⟩:=okR_k (Jb (show i < l.length by omega) (HZ.out i Yi Yi));generalize l[i+1]=x at *;generalize l[i]=p at *;have C0:=hid c0;have q1:IntKind.i64.wrap ((i:Int)+1)=(i:Int)+1:=IntWalk.i64_in _ Yi;have q2:IntKind.i64.wrap (i:Int)=i:=IntWalk.i64_in _ Yi;have q3:(0:Int) < (i:Int)+1:=Yi;have q4:(i:Int) < l.length:=Yi;have q5:(0:Int)<=i:=Yi;have q6:((i:Int)+1).toNat=i+1:=Yi;have bx:=ae wr (.cells #[Yp x.s,Yp x.k,Yp x.d,.string x.t] 36);have gu:=gr.alloc (.cells #[Yp x.s,Yp x.k,Yp x.d,.string x.t] 36);go_wp2_with fail;generalize wr.alloc (.cells #[Yp x.s,Yp x.k,Yp x.d,.string x.t] 36)=W at *;obtain⟨px,hpx⟩:∃p,wr.heap.size=p:=⟨_,rfl⟩;rw[hpx]at bx;rw[hpx];clear hpx c0 c1 c2 c3 C0;obtain⟨cx,fx,zx⟩:=ed bx;have D0:=hid (fun(u:World) (h:Gr w u)=>show u.cell? ⟨g2,o2+i * 4,none⟩=some (.int .i64 p.s)/\u.cell? ⟨g2,o2+i * 4+1,none⟩=some (.int .i64 p.k)/\u.cell? ⟨g2,o2+i * 4+2,none⟩=some (.int .i64 p.d)/\u.cell? ⟨g2,o2+i * 4+3,none⟩=some (.string p.t)/\g2 < u.heap.size from by
     rw[gr.cells.1 g2 _ hg]at d0 d1 d2 d3;refine⟨(h.cells.1 g2 _ hg).trans d0,(h.cells.1 g2 _ hg).trans d1,(h.cells.1 g2 _ hg).trans d2,(h.cells.1 g2 _ hg).trans d3,Nat.lt_of_lt_of_le hg h.b.size⟩)
    clear d0 d1 d2 d3 hz;obtain⟨d0,d1,d2,d3,hz⟩:=D0.out _ gu
    by_cases hs:p.s=x.s
    ·have hd:decide (p.s=x.s)=true:=by simpa using hs
     have hd2:(p.s == x.s)=true:=by simpa using hs
     have hC:kr n (some p) x=j5 n p.k p.d (some p) x:=by unfold kr;simp only[hs,if_true]
     rw[hC]at HA;clear hC hs;refine ah [.val (Yp ((i:Int)+1)),.val (.bool true),.val (.bool true),.val (.slice (some ⟨g2,o2,none⟩) l.length cap),.val (Yp ((i:Int)+1)),.val (Yp i),.val (.pointer (some ⟨g2,o2+i * 4,none⟩)),.val (.pointer (some ⟨g2,o2+i * 4,none⟩)),.val (Yp p.s),.val (Ym px),.val (Yp x.s),.val (.bool true),.val (.bool true)] Yh Yh (λV=>finT) ?_ ?_
     ·exact Xk
     ·intro V u3 hg3 hs3;have gu:=gu.trans hg3;have bx:=hg3.heap bx;clear cx fx zx d0 d1 d2 d3 hz;obtain⟨cx,fx,zx⟩:=ed bx;obtain⟨d0,d1,d2,d3,hz⟩:=D0.out _ gu;go_simp;go_wp2_with fail;refine ah [.val (.slice (some ⟨g2,o2,none⟩) l.length cap),.val (Yp ((i:Int)+1)),.val (Yp i),.val (.pointer (some ⟨g2,o2+i * 4,none⟩)),.val (.pointer (some ⟨g2,o2+i * 4+1,none⟩)),.val (Yp p.k),.val (.slice (some ⟨g2,o2,none⟩) l.length cap),.val (Yp ((i:Int)+1)),.val (Yp i),.val (.pointer (some ⟨g2,o2+i * 4,none⟩)),.val (.pointer (some ⟨g2,o2+i * 4+2,none⟩)),.val (Yp p.d),.val (Yp p.k),.val (Yp p.d)] Yh Yh (λV=>finT) ?_ ?_
      ·refine⟨?_,?_,?_,?_,?_,?_,?_,?_,?_,?_,?_,?_,?_,?_,trivial⟩ <;> exact osA
      ·intro V u7 hg7 hs7;have gu:=gu.trans hg7;have bx:=hg7.heap bx;clear cx fx zx d0 d1 d2 d3 hz;obtain⟨cx,fx,zx⟩:=ed bx;obtain⟨d0,d1,d2,d3,hz⟩:=D0.out _ gu;go_simp;go_wp2_with fail;refine(FX.out _).mono ?_;rintro e w4 ⟨rfl,hg4⟩;have gu:=gu.trans hg4;have bx:=hg4.heap bx;clear hg4 cx fx zx;obtain⟨cx,fx,zx⟩:=ed bx;clear d0 d1 d2 d3 hz;obtain⟨d0,d1,d2,d3,hz⟩:=D0.out _ gu;obtain⟨b,hb⟩:∃b,okR n x=b:=⟨_,rfl⟩;rw[hb];have HB:=hid hb;clear hb;cases b
       ·go_wp2;go_ret2;obtain⟨rfl,rfl⟩:=Prod.ext_iff.1 (HR.out.symm.trans (jp HZ.out hil (e:=1) (by rw[HA.out];simp[j5,HB.out]) Yk));exact⟨Yj,gu⟩
       ·go_wp2_with fail;have CR:=hid (λw=>As p x w);obtain⟨q,hq⟩:∃q,ul p x=q:=⟨_,rfl⟩;rw[hq]at CR;have HQ:=hid hq;clear hq
        by_cases h6:0<=q
        ·have hd:decide (0<=q)=true:=by simpa using h6
         refine ah [.val (Yp ((i:Int)+1)),.val (.bool true),.val (.bool true),.val (.slice (some ⟨g2,o2,none⟩) l.length cap),.val (Yp ((i:Int)+1)),.val (Yp i),.val (.pointer (some ⟨g2,o2+i * 4,none⟩)),.val p.v,.val x.v,.val (Yp q),.val (.bool true),.val (.bool true),.val (.bool true)] Yh Yh (λV=>finT) ?_ ?_
         ·exact Xj
         ·exact Xm
        ·have hd:decide (0<=q)=false:=by simpa using h6
         refine ah [.val (Yp ((i:Int)+1)),.val (.bool true),.val (.bool true),.val (.slice (some ⟨g2,o2,none⟩) l.length cap),.val (Yp ((i:Int)+1)),.val (Yp i),.val (.pointer (some ⟨g2,o2+i * 4,none⟩)),.val p.v,.val x.v,.val (Yp q),.val (.bool false),.val (.bool false),.val (.bool false)] Yh Yh (λV=>finT) ?_ ?_
         ·exact Xj
         ·intro V u5 hg5 hs;have gu:=gu.trans hg5;have bx:=hg5.heap bx;clear cx fx zx;obtain⟨cx,fx,zx⟩:=ed bx;go_simp
          by_cases h93:x.k=p.k+1
          ·have e93:decide (x.k=p.k+1)=true:=by simpa using h93
           by_cases h7:x.d < p.d
           ·go_wp2;go_ret2;obtain⟨rfl,rfl⟩:=Prod.ext_iff.1 (HR.out.symm.trans (jp HZ.out hil (e:=7) (by rw[HA.out];simp[j5,HB.out,HQ.out,hd,h93,h7]) Yk));exact⟨Yj,gu⟩
           ·go_wp2;have NX:kw n l (i+1)=0:=by rw[HA.out];simp[j5,HB.out,HQ.out,hd,h93,h7]
            exact⟨⟨i+1+1,Yj,Yi,hid (λj hj hjl=>by
             rcases Nat.lt_or_ge j (i+1)with h | h
             ·exact HZ.out j h hjl
             ·obtain rfl:j=i+1:=Yi;exact NX),gu⟩,by simp[intOf];omega⟩
          ·have e93:decide (x.k=p.k+1)=false:=by simpa using h93
           go_wp2;go_ret2;obtain⟨rfl,rfl⟩:=Prod.ext_iff.1 (HR.out.symm.trans (jp HZ.out hil (e:=93) (by rw[HA.out];simp[j5,HB.out,HQ.out,hd,h93]) Yk));exact⟨Yj,gu⟩
    ·have hd:decide (p.s=x.s)=false:=by simpa using hs
     have hd2:(p.s == x.s)=false:=by simpa using hs
     have hC:kr n (some p) x=j5 n 0 0 (some p) x:=by unfold kr;simp only[hs,if_false]
     rw[hC]at HA;clear hC hs;refine ah [.val (Yp ((i:Int)+1)),.val (.bool true),.val (.bool true),.val (.slice (some ⟨g2,o2,none⟩) l.length cap),.val (Yp ((i:Int)+1)),.val (Yp i),.val (.pointer (some ⟨g2,o2+i * 4,none⟩)),.val (.pointer (some ⟨g2,o2+i * 4,none⟩)),.val (Yp p.s),.val (Ym px),.val (Yp x.s),.val (.bool false),.val (.bool false)] Yh Yh (λV=>finT) ?_ ?_
     ·exact Xk
     ·intro V u3 hg3 hs3;have gu:=gu.trans hg3;have bx:=hg3.heap bx;clear cx fx zx d0 d1 d2 d3 hz;obtain⟨cx,fx,zx⟩:=ed bx;obtain⟨d0,d1,d2,d3,hz⟩:=D0.out _ gu;go_simp;go_wp2_with fail;refine(FX.out _).mono ?_;rintro e w4 ⟨rfl,hg4⟩;have gu:=gu.trans hg4;have bx:=hg4.heap bx;clear hg4 cx fx zx;obtain⟨cx,fx,zx⟩:=ed bx;clear d0 d1 d2 d3 hz;obtain⟨d0,d1,d2,d3,hz⟩:=D0.out _ gu;obtain⟨b,hb⟩:∃b,okR n x=b:=⟨_,rfl⟩;rw[hb];have HB:=hid hb;clear hb;cases b
      ·go_wp2;go_ret2;obtain⟨rfl,rfl⟩:=Prod.ext_iff.1 (HR.out.symm.trans (jp HZ.out hil (e:=1) (by rw[HA.out];simp[j5,HB.out]) Yk));exact⟨Yj,gu⟩
      ·go_wp2_with fail;have CR:=hid (λw=>As p x w);obtain⟨q,hq⟩:∃q,ul p x=q:=⟨_,rfl⟩;rw[hq]at CR;have HQ:=hid hq;clear hq
       by_cases h6:0<=q
       ·have hd:decide (0<=q)=true:=by simpa using h6
        refine ah [.val (Yp ((i:Int)+1)),.val (.bool true),.val (.bool true),.val (.slice (some ⟨g2,o2,none⟩) l.length cap),.val (Yp ((i:Int)+1)),.val (Yp i),.val (.pointer (some ⟨g2,o2+i * 4,none⟩)),.val p.v,.val x.v,.val (Yp q),.val (.bool true),.val (.bool true),.val (.bool true)] Yh Yh (λV=>finT) ?_ ?_
        ·exact Xj
        ·exact Xm
       ·have hd:decide (0<=q)=false:=by simpa using h6
        refine ah [.val (Yp ((i:Int)+1)),.val (.bool true),.val (.bool true),.val (.slice (some ⟨g2,o2,none⟩) l.length cap),.val (Yp ((i:Int)+1)),.val (Yp i),.val (.pointer (some ⟨g2,o2+i * 4,none⟩)),.val p.v,.val x.v,.val (Yp q),.val (.bool false),.val (.bool false),.val (.bool false)] Yh Yh (λV=>finT) ?_ ?_
        ·exact Xj
        ·intro V u5 hg5 hs;have gu:=gu.trans hg5;have bx:=hg5.heap bx;clear cx fx zx;obtain⟨cx,fx,zx⟩:=ed bx;go_simp
         by_cases h93:x.k=1
         ·have e93:decide (x.k=1)=true:=by simpa using h93
          by_cases h7:x.d < 0
          ·go_wp2;go_ret2;obtain⟨rfl,rfl⟩:=Prod.ext_iff.1 (HR.out.symm.trans (jp HZ.out hil (e:=7) (by rw[HA.out];simp[j5,HB.out,HQ.out,hd,h93,h7]) Yk));exact⟨Yj,gu⟩
          ·go_wp2;have NX:kw n l (i+1)=0:=by rw[HA.out];simp[j5,HB.out,HQ.out,hd,h93,h7]
           exact⟨⟨i+1+1,Yj,Yi,hid (λj hj hjl=>by
            rcases Nat.lt_or_ge j (i+1)with h | h
            ·exact HZ.out j h hjl
            ·obtain rfl:j=i+1:=Yi;exact NX),gu⟩,by simp[intOf];omega⟩
         ·have e93:decide (x.k=1)=false:=by simpa using h93
          go_wp2;go_ret2;obtain⟨rfl,rfl⟩:=Prod.ext_iff.1 (HR.out.symm.trans (jp HZ.out hil (e:=93) (by rw[HA.out];simp[j5,HB.out,HQ.out,hd,h93]) Yk));exact⟨Yj,gu⟩
  ·have hil':¬(i:Int) < l.length:=Yi;obtain rfl:i=l.length:=Yi;go_wp2;go_ret2;obtain⟨rfl,rfl⟩:=Prod.ext_iff.1 (HR.out.symm.trans (Bw (λj hj=>HZ.out j hj hj)));exact⟨rfl,gr⟩
theorem Dw:(prog.info? 36).map (λi=>(i.zero,i.size,i.bytes))=some (some (.agg #[Yp 0,Yp 0,Yp 0,.string ⟨#[]⟩]),4,40):=Yh
theorem Ho (l:List Rc):∀u∈rcs l,u.oneCell'=true:=by
 intro u hu;obtain⟨r,_,hr⟩:=List.mem_flatMap.1 hu;simp only[Rc.cells,List.mem_cons,List.not_mem_nil,or_false]at hr;rcases hr with rfl | rfl | rfl | rfl <;> rfl
theorem RowR.cells {w:World} {v:Value} {l:List Rc} {g cap:Nat} (h:RowR w v l) (hv:v= .slice (Yn g) l.length cap):∀j u,(rcs l)[j]?=some u->w.cell? ⟨g,0+j,none⟩=some u:=by
 subst hv;intro j u hu;have hj:j < l.length * 4:=by
  have:=(List.getElem?_eq_some_iff.1 hu).1
  rwa [vf]at this
 rw[Nat.zero_add,World.ownsRow.cellAt h j hj,hu]
end
section
section
open Go.RowKit Go.Shelf
structure GD (w w':World):Prop where
 g:Gr w w'
 d:w.drawn<=w'.drawn
theorem GD.refl (w:World):GD w w:=⟨Yu w,Yv _⟩
theorem GD.trans {a b c:World} (h:GD a b) (k:GD b c):GD a c:=⟨h.g.trans k.g,Nat.le_trans h.d k.d⟩
theorem GD.drew {w w':World} (h:GD w w'):GD w w'.drew:=⟨h.g.drew,Nat.le_trans h.d (Nat.le_succ _)⟩
theorem GD.alloc {w w':World} (h:GD w w') (o:Obj):GD w (w'.alloc o):=⟨h.g.alloc o,h.d⟩
theorem GD.cells {W w1:World} (h:GD W w1):(∀b o,b < W.heap.size->w1.cell? ⟨b,o,none⟩=W.cell? ⟨b,o,none⟩)/\(∀b o,b < W.heap.size->w1.frozen? ⟨b,o,none⟩=W.frozen? ⟨b,o,none⟩)/\W.heap.size<=w1.heap.size:=h.g.cells
theorem GD.heap {u u':World} (g:GD u u') {k:Nat} {o:Obj} (h:u.heap[k]?=some o):u'.heap[k]?=some o:=g.g.heap h
theorem GD.grow {w w':World} (h:GD w w'):∃q os,w'=Sort.grow (w.drewN q) os:=by
 refine⟨w'.drawn - w.drawn,w'.heap.extract w.heap.size w'.heap.size,?_⟩;have hd:=h.d;have e1:w'.heap=w.heap ++ w'.heap.extract w.heap.size w'.heap.size:=by
  apply Array.ext_getElem?;intro i
  by_cases hi:i < w.heap.size
  ·rw[Array.getElem?_append_left hi];exact h.g.b.block i hi
  ·rw[Array.getElem?_append_right Yi,Array.getElem?_extract]
   by_cases hj:i < w'.heap.size
   ·rw[if_pos Yi];congr 1;omega
   ·rw[if_neg Yi,Array.getElem?_eq_none Yi]
 have e2:w'.drawn=w.drawn+(w'.drawn - w.drawn):=Yi;cases w';simp only[Sort.grow,World.drewN]at *;rw[<-e1];have h1:=h.g.b.os;have h2:=h.g.b.tape;have h3:=h.g.b.output;simp only at h1 h2 h3;rw[h1,h2,h3,<-e2]
variable {P:Program} {ops:Array Oper} {Q:Exit->Act->World->Prop}
theorem l9 {id:Nat} {w:World} {a0:Act} (pl:List Step) {F:(Nat->Value)->Act} (hm:P.follows .mixedOrders=true) (hok:(H5 ops pl && ji pl && (Region.ready .any ops (fd pl)).isEmpty)=true)
  (hE:∀V,finS V a0 0 ops.toList pl=F V)
  (hO:re P GD ops pl w F 0 ops.toList pl)
  (hF:∀V u,GD w u->(∀(i:Nat) (F:Value->World->Prop),ic pl i=some F->F (V i) u)->Q .normal (F V) u):
  (Code.region id ops true).wp P Q a0 w:=by
 rw[Bool.and_eq_true,Bool.and_eq_true]at hok;refine mt GD.refl (λ_ _ _ h g=>h.trans g) (GD.refl w).drew pl hm hok.1.1 hE hO (λk chain hk=>?_) λ_ V u hg hb fuel _=>wpAny_done (by simpa using hok.2) (hF V u hg hb) fuel;have h:=hok.1.2;unfold ji at h;rw[List.all_eq_true]at h;simpa using h _ (List.mem_of_getElem? hk)
end
end
section
open Go.RowKit Go.Shelf Go.Lib Go.Sort
theorem V8 (a b:Rc) (w:World):Calls prog 42 #[a.v,b.v] w λe w'=>e= .returned (Yp (ul a b))/\GD w w':=by
 obtain⟨s,k,d,t⟩:=a;obtain⟨s2,k2,d2,t2⟩:=b;unfold ul Rc.v;dsimp only;have bx:=ae w (.cells #[Yp s,Yp k,Yp d,.string t] 36);have by_:=ae (w.alloc (.cells #[Yp s,Yp k,Yp d,.string t] 36)) (.cells #[Yp s2,Yp k2,Yp d2,.string t2] 36);have bx:=((Yu _).alloc (.cells #[Yp s2,Yp k2,Yp d2,.string t2] 36)).heap bx;have g0:GD w ((w.alloc (.cells #[Yp s,Yp k,Yp d,.string t] 36)).alloc (.cells #[Yp s2,Yp k2,Yp d2,.string t2] 36)):=((GD.refl w).alloc _).alloc _;simp only[World.size_alloc]at by_;go_enter func42,ntmps42;go_wp2;generalize (w.alloc (.cells #[Yp s,Yp k,Yp d,.string t] 36)).alloc (.cells #[Yp s2,Yp k2,Yp d2,.string t2] 36)=W at *;obtain⟨p2,h2⟩:∃p2,w.heap.size+1=p2:=⟨_,rfl⟩;rw[h2]at by_;rw[h2];clear h2;generalize w.heap.size=p1 at *;obtain⟨cx,fx,zx⟩:=ed bx;obtain⟨cy,fy,zy⟩:=ed by_;refine l9 [.val (Ym p1),.val (Yp s),.val (Ym p2),.val (Yp s2),.val (Yp (jo s s2)),.val (.pointer (some ⟨p1,1,none⟩)),.val (Yp k),.val (.pointer (some ⟨p2,1,none⟩)),.val (Yp k2),.val (Yp (jo k k2)),.sat (λv u=>∃g,v= .slice (Yn g) 2 2/\u.heap[g]?=some (.cells #[Yp (jo s s2),Yp (jo k k2)] 3 (0,0))),.val (Yp (orI (jo s s2) (jo k k2))),.val (Yp (orI (jo s s2) (jo k k2)))] Yh Yh (λV=>finT) ?_ ?_
 ·refine⟨?_,?_,?_,?_,?_,?_,?_,?_,?_,?_,?_,?_,?_,trivial⟩ <;> (first | exact trivial | exact osGD | (refine⟨osK,?_⟩;intro V u hu hk;refine⟨Yh,aw Yh ?_⟩;obtain⟨hc,hf,hz⟩:=hu.cells;go_simp;skip) | (refine⟨osK,?_⟩;intro V u hu hk;refine⟨Yh,?_⟩;obtain⟨hc,hf,hz⟩:=hu.cells;go_simp;skip) | (intro V u hu hk;refine⟨Yh,?_⟩;obtain⟨hc,hf,hz⟩:=hu.cells;go_simp;first | exact⟨rfl,GD.refl _⟩ | skip) | (intro V u hu hk;show _=false;kernel_rfl))
  iterate 2 ·exact(ml _ _ _).mono λe w' ⟨h,e'⟩=>⟨h,e'▸GD.refl _⟩
  ·obtain⟨g,hv,hb⟩:=hk 10 _ rfl Yh;rw[hv];obtain⟨cg,fg,zg⟩:=ed hb;exact(Px g 2 _ _ _ (cg 0) (cg 1)).mono λe w' ⟨h,e'⟩=>⟨h,e'▸GD.refl _⟩
 ·intro V u hg hs;go_simp;go_wp2;go_ret;exact⟨rfl,g0.trans hg⟩
def Bb (a b:Rc):Int:=orI (jo a.d b.d) (ul a b)
theorem zaD (a b:Rc) (w:World):Calls prog 52 #[a.v,b.v] w λe w'=>e= .returned (Yp (Bb a b))/\GD w w':=by
 have CR:=hid (λw=>V8 a b w);unfold Bb;generalize ul a b=q at *;obtain⟨s,k,d,t⟩:=a;obtain⟨s2,k2,d2,t2⟩:=b;unfold Rc.v;dsimp only;have bx:=ae w (.cells #[Yp s,Yp k,Yp d,.string t] 36);have by_:=ae (w.alloc (.cells #[Yp s,Yp k,Yp d,.string t] 36)) (.cells #[Yp s2,Yp k2,Yp d2,.string t2] 36);have bx:=((Yu _).alloc (.cells #[Yp s2,Yp k2,Yp d2,.string t2] 36)).heap bx;have g0:GD w ((w.alloc (.cells #[Yp s,Yp k,Yp d,.string t] 36)).alloc (.cells #[Yp s2,Yp k2,Yp d2,.string t2] 36)):=((GD.refl w).alloc _).alloc _;simp only[World.size_alloc]at by_;go_enter func52,ntmps52;go_wp2;generalize (w.alloc (.cells #[Yp s,Yp k,Yp d,.string t] 36)).alloc (.cells #[Yp s2,Yp k2,Yp d2,.string t2] 36)=W at *;obtain⟨p2,h2⟩:∃p2,w.heap.size+1=p2:=⟨_,rfl⟩;rw[h2]at by_;rw[h2];clear h2;generalize w.heap.size=p1 at *;obtain⟨cx,fx,zx⟩:=ed bx;obtain⟨cy,fy,zy⟩:=ed by_;refine l9 [.val (.pointer (some ⟨p1,2,none⟩)),.val (Yp d),.val (.pointer (some ⟨p2,2,none⟩)),.val (Yp d2),.val (Yp (jo d d2)),.val (rcd s k d t),.val (rcd s2 k2 d2 t2),.val (Yp q),.sat (λv u=>∃g,v= .slice (Yn g) 2 2/\u.heap[g]?=some (.cells #[Yp (jo d d2),Yp q] 3 (0,0))),.val (Yp (orI (jo d d2) q)),.val (Yp (orI (jo d d2) q))] Yh Yh (λV=>finT) ?_ ?_
 ·refine⟨?_,?_,?_,?_,?_,?_,?_,?_,?_,?_,?_,trivial⟩ <;> (first | exact trivial | exact osGD | (refine⟨osK,?_⟩;intro V u hu hk;refine⟨Yh,aw Yh ?_⟩;obtain⟨hc,hf,hz⟩:=hu.cells;go_simp;skip) | (refine⟨osK,?_⟩;intro V u hu hk;refine⟨Yh,?_⟩;obtain⟨hc,hf,hz⟩:=hu.cells;go_simp;skip) | (intro V u hu hk;refine⟨Yh,?_⟩;obtain⟨hc,hf,hz⟩:=hu.cells;go_simp;first | exact⟨rfl,GD.refl _⟩ | skip) | (intro V u hu hk;show _=false;kernel_rfl))
  ·exact(ml _ _ _).mono λe w' ⟨h,e'⟩=>⟨h,e'▸GD.refl _⟩
  ·exact CR.out _
  ·obtain⟨g,hv,hb⟩:=hk 8 _ rfl Yh;rw[hv];obtain⟨cg,fg,zg⟩:=ed hb;exact(Px g 2 _ _ _ (cg 0) (cg 1)).mono λe w' ⟨h,e'⟩=>⟨h,e'▸GD.refl _⟩
 ·intro V u hg hs;go_simp;go_wp2;go_ret;exact⟨rfl,g0.trans hg⟩
section
variable {α:Type} (enc:α->List Value) (k:Nat) (hk:∀x,(enc x).length=k)
include hk
theorem Lj (l:List α):(l.flatMap enc).length=l.length * k:=by
 induction l with
 | nil=>simp
 | cons x l ih=>rw[List.flatMap_cons,List.length_append,ih,hk,List.length_cons,Nat.succ_mul];omega
theorem Ro:∀(l:List α) (j c:Nat) (hj:j < l.length) (_:c < k),(l.flatMap enc)[j * k+c]?=(enc l[j])[c]?
 | [],j,c,hj,_=>by simp at hj
 | x :: l,0,c,_,hc=>by
  rw[List.flatMap_cons,List.getElem?_append_left (by rw[hk];omega)];simp
 | x :: l,j+1,c,hj,hc=>by
  have e:(j+1) * k=j * k+k:=Nat.succ_mul _ _;rw[List.flatMap_cons,List.getElem?_append_right (by rw[hk];omega)];have:=Ro l j c (by simpa using hj) hc;simp only[List.getElem_cons_succ];rw[<-this,hk];congr 1;omega
end
section
variable {α:Type} [Inhabited α] (enc:α->List Value) (k:Nat) (hk:∀x,(enc x).length=k)
include hk
theorem Eb (hk0:0 < k) (d:Array α):(flatK enc k d).toList=d.toList.flatMap enc:=by
 apply List.ext_getElem?;intro t
 by_cases ht:t < d.size * k
 ·have h1:t / k < d.size:=Nat.div_lt_of_lt_mul (by rw[Nat.mul_comm];exact ht);have h2:t % k < k:=Nat.mod_lt _ hk0;have h3:t / k * k+t % k=t:=by rw[Nat.mul_comm];exact Nat.div_add_mod t k
  have f:=Ro enc k hk d.toList (t / k) (t % k) (by simpa using h1) h2;rw[h3]at f;rw[f];have g:=get_flatK enc k d t ht;have hs:t < (flatK enc k d).size:=by simpa using ht
  rw[getElem!_pos _ t hs]at g;have e1:(flatK enc k d).toList[t]?=some ((flatK enc k d)[t]):=by simp
  rw[e1,g];have e2:d[t / k]! =d.toList[t / k]'(by simpa using h1):=by rw[getElem!_pos d _ h1];simp
  rw[e2,getElem!_pos _ _ (by rw[hk];exact h2),List.getElem?_eq_getElem (by rw[hk];exact h2)]
 ·rw[List.getElem?_eq_none (by simpa using ht),List.getElem?_eq_none (by rw[Lj enc k hk];simpa using ht)]
theorem sq (hk0:0 < k) {w:World} {base:Nat} {T:TypeId} {g cap:Nat} {l:List α} (h:w.ownsRow base T k (.slice (Yn g) l.length cap) l.length (l.flatMap enc)):HoldsK enc k w g 0 l.toArray:=by
 intro j hj;have hj':j < l.length * k:=by simpa using hj
 have h1:=h.cellAt j hj';rw[Nat.zero_add,h1];refine⟨?_,h.frozenAt j⟩;rw[getElem!_pos _ j hj];have e:=Eb enc k hk hk0 l.toArray;rw[show(l.flatMap enc)=(flatK enc k l.toArray).toList from e.symm];simp[id]
theorem Ai (hk0:0 < k) {w:World} {base:Nat} {T:TypeId} {g cap:Nat} {l:List α} (h:w.ownsRow base T k (.slice (Yn g) l.length cap) l.length (l.flatMap enc)) (d:Array α) (hd:d.size=l.length) (n:Nat) (os:Array Obj):
  (sortWorldK enc k w g 0 n d os).ownsRow base T k (.slice (Yn g) l.length cap) l.length (d.toList.flatMap enc)/\GrL [g] w (sortWorldK enc k w g 0 n d os):=by
 rcases h.2 with ⟨hv,_⟩ | ⟨g',cap',cur,hv,hb,hg,hcap,hmax,hsz,htk⟩
 ·cases hv
 injection hv with ha _ hc
 subst hc;injection ha with ha
 injection ha with ha
 subst ha;have hlt:=ai hg;have hbl:(sortWorldK enc k w g 0 n d os).heap[g]?=some (.cells (putCells id 0 (flatK enc k d) cur) T (0,0)):=by
  have:(sortWorldK enc k w g 0 n d os).heap=(w.heap.modify g (onCells (putCells id 0 (flatK enc k d)))) ++ os:=rfl;rw[this,Array.getElem?_append_left (by simpa using hlt),Array.getElem?_modify,if_pos rfl,hg];rfl
 have hsz':(putCells id 0 (flatK enc k d) cur).size=cap * k:=by simp[putCells,hsz]
 refine⟨⟨by rw[Lj enc k hk];simp[hd],.inr ⟨g,cap,_,rfl,hb,hbl,hcap,hmax,hsz',?_⟩⟩,?_⟩
 ·rw[<-Eb enc k hk hk0 d];apply List.ext_getElem?;intro t
  by_cases ht:t < l.length * k
  ·have hle:l.length * k<=cap * k:=Nat.mul_le_mul_right _ hcap;have hs:t < (flatK enc k d).size:=by simpa[hd]using ht
   rw[List.getElem?_take_of_lt ht];have hc:t < cur.size:=Yi;simp only[putCells,Array.toList_mapIdx,List.getElem?_mapIdx,Array.getElem?_toList,Array.getElem?_eq_getElem hc,Array.getElem?_eq_getElem hs,Option.map_some];rw[if_pos (by constructor;omega;omega)];rw[Nat.sub_zero,getElem!_pos _ t hs];rfl
  ·rw[List.getElem?_eq_none (by simp;omega),List.getElem?_eq_none (by simp[hd];omega)]
 ·refine⟨rfl,rfl,rfl,?_,?_,trivial⟩
  ·show w.heap.size<=((w.heap.modify g (onCells (putCells id 0 (flatK enc k d)))) ++ os).size;simp
  ·intro j hj hn;show((w.heap.modify g (onCells (putCells id 0 (flatK enc k d)))) ++ os)[j]?=_;rw[Array.getElem?_append_left (by simpa using hj),Array.getElem?_modify,if_neg (λe=>hn (by simp[e]))]
end
end
section
open Go.RowKit Go.Shelf Go.Lib Go.Sort
theorem Bu (x y:Rc):ul x y < 0↔x.s < y.s\/x.s=y.s/\x.k < y.k:=by
 unfold ul orI jo
 repeat' split
 all_goals omega
theorem zdn (x y:Rc):ul x y=0↔x.s=y.s/\x.k=y.k:=by
 unfold ul orI jo
 repeat' split
 all_goals omega
theorem Bv (x y:Rc):Bb x y < 0↔x.d < y.d\/x.d=y.d/\(x.s < y.s\/x.s=y.s/\x.k < y.k):=by
 have h:=Bu x y;unfold Bb orI jo
 repeat' split
 all_goals omega
theorem H9 (x y:Rc):ltOf Bb x y=decide (x.d < y.d\/x.d=y.d/\(x.s < y.s\/x.s=y.s/\x.k < y.k)):=by
 unfold ltOf;exact decide_eq_decide.2 (Bv x y)
theorem Zv:SWO (ltOf Bb) where
 irrefl x:=by rw[H9];simp
 trans x y z h1 h2:=by rw[H9]at *;simp only[decide_eq_true_eq]at *;omega
 ntrans x y z h1 h2:=by rw[H9]at *;simp only[decide_eq_false_iff_not]at *;omega
theorem Fs (g size:Nat) (w:World):CmpLays prog 52 #[] Rc.cells 4 Bb g 0 size w:=
 λ_ _ _ _ x y=>(zaD x y _).mono λ_ _ ⟨he,hg⟩=>⟨he,hg.grow⟩
abbrev Bz (l:List Rc):Prop:=l.Pairwise λa b=>¬Bb b a < 0
theorem Cw {α:Type} [Inhabited α] {l:List α} {d:Array α} (h:PermIn 0 l.toArray.size l.toArray d):d.toList.Perm l:=by
 have h1:=h.1;have h2:=h.2.2;simp only[List.size_toArray]at h1 h2;have e1:d.extract 0 l.length=d:=by rw[<-h1];simp
 have e2:l.toArray.extract 0 l.length=l.toArray:=Yj;rw[e1,e2]at h2;simpa using h2
theorem uz {α:Type} [Inhabited α] {lt:α->α->Bool} {d:Array α} (h:SortedIn lt 0 d.size d):d.toList.Pairwise λa b=>lt b a=false:=by
 rw[List.pairwise_iff_getElem];intro i j hi hj hij;have:=h i j (Nat.zero_le _) hij (by simpa using hj);rw[getElem!_pos d j (by simpa using hj),getElem!_pos d i (by simpa using hi)]at this;simpa using this
theorem Yl (base g cap:Nat) (l:List Rc) (w:World) (hr:w.ownsRow base 36 4 (.slice (Yn g) l.length cap) l.length (rcs l)) (hl:l.length<=1000000):
  Calls prog 51 #[.slice (Yn g) l.length cap,.func (.func 52) #[] #[]] w λe w'=>e= .returned (.tuple #[])/\∃l',l'.Perm l/\Bz l'/\w'.ownsRow base 36 4 (.slice (Yn g) l.length cap) l'.length (rcs l')/\GrL [g] w w':=by
 have hk:∀x:Rc,(Rc.cells x).length=4:=λ_=>rfl;have h1:∀x:Rc,∀v∈Rc.cells x,v.oneCell'=true:=λx v hv=>Ho [x] v (by simpa[rcs]using hv);have eg:∀args w,(callFunc 52 args).run prog w= .ok (.enter 52 args) w:=enters_of func52 Yh rfl;have hg:g < w.heap.size:=(hr.lt g rfl).2;have hH:=sq Rc.cells 4 hk Yi hr;have C:=AnyQ.slices_SortFunc Tryz.sortRec 4 Tryz.isAgg36 Tryz.sizeOf36 Rc.cells hk h1 Bb Zv 52 #[] g 0 cap l.toArray w eg (Fs g _ w) hH hg (by simp;omega);rw[List.size_toArray]at C;refine C.mono ?_;rintro e w' ⟨rfl,d',n,os,hp,hs,rfl⟩;have hp':PermIn 0 l.toArray.size l.toArray d':=by simpa using hp
 have hd:d'.size=l.length:=by simpa using hp'.1
 obtain⟨o1,o2⟩:=Ai Rc.cells 4 hk Yi hr d' hd n os;refine⟨rfl,d'.toList,Cw hp',?_,?_,o2⟩
 ·have hs':SortedIn (ltOf Bb) 0 d'.size d':=by rw[hd];exact hs
  refine(uz hs').imp ?_;intro a b h;simpa[ltOf]using h
 ·have:d'.toList.length=l.length:=by simpa using hd
  rw[this];exact o1
theorem Yd (base:Nat) (v:Value) (l:List Rc) (w:World) (hr:w.ownsRow base 36 4 v l.length (rcs l)) (hl:l.length<=1000000):
  Calls prog 51 #[v,.func (.func 52) #[] #[]] w λe w'=>e= .returned (.tuple #[])/\∃l',l'.Perm l/\Bz l'/\w'.ownsRow base 36 4 v l'.length (rcs l')/\GrL v.ownBlock.toList w w':=by
 have hr':=hr;rcases hr.2 with ⟨rfl,hz⟩ | ⟨g,cap,cur,rfl,_⟩
 ·obtain rfl:=List.eq_nil_of_length_eq_zero hz;refine(AnyF.slices_SortFunc_none Tryz.sortRec none 0 _ w).mono ?_;rintro e w' ⟨rfl,rfl⟩;exact⟨rfl,[],List.Perm.refl _,List.Pairwise.nil,World.ownsRow_nil _ _ _ _,GrL.of_gr (Yu _)⟩
 ·exact(Yl base g cap l w hr' hl).mono λe w' ⟨h,l',h1,h2,h3,h4⟩=>⟨h,l',h1,h2,h3,h4⟩
end
end Go.Proofs.YtimcfaoabaflkaaGreatDoor
