/- strickleref09: refused, CheckRecords. -/
import Derived.Test.YtimcfaoabaflkaaGreatDoorJCheck
import Derived.OwnWalk
import Derived.Deep.Slices
import Derived.ReadAgain
import Derived.Laws.CopyOwn
import Derived.Great.Walk
namespace Go.Proofs.YtimcfaoabaflkaaGreatDoor
open AbA AbI
set_option maxHeartbeats 8000000
set_option maxRecDepth 100000
open Go.Proofs.Tryz
theorem Xp {P:Prop} (h:P:=by
 refine⟨?_,?_,?_,?_,?_,?_,?_,?_,?_,trivial⟩ <;> (first | exact trivial | exact osGr | (refine⟨osK,?_⟩;intro V u hu hk;refine⟨Yh,aw Yh ?_⟩;obtain⟨hc,hf,hz⟩:=hu.cells;go_simp;skip) | (refine⟨osK,?_⟩;intro V u hu hk;refine⟨Yh,?_⟩;obtain⟨hc,hf,hz⟩:=hu.cells;go_simp;skip) | (intro V u hu hk;refine⟨Yh,?_⟩;obtain⟨hc,hf,hz⟩:=hu.cells;go_simp;first | exact⟨rfl,Yu _⟩ | skip) | (intro V u hu hk;show _=false;kernel_rfl));exact zdU x y _ _ NE.out):P:=h
section
open Go.RowKit Go.Shelf
theorem Ki {n:Int} {x:Rc} (h:okR n x=true):0<=x.d/\1<=x.k/\x.k<=400/\0<=x.s/\x.s<=n - 1:=by
 unfold okR ob at h;simp only[Bool.and_eq_true,decide_eq_true_eq]at h;omega
theorem Ep {n:Int} {p:Option Rc} {x:Rc} (h:okR n x=false):kr n p x=1:=by
 unfold kr;cases p with
 | none=>simp[j5,h]
 | some q=>dsimp only;split <;> simp[j5,h]
theorem zbL {n:Int} {x:Rc} (h:okR n x=true):kr n none x=if x.k=1 then 0 else 93:=by
 have:=Ki h;have h1:¬x.d < 0:=Yi;unfold kr j5
 by_cases hk:x.k=1
 ·simp[h,hk,h1]
 ·simp[h,hk]
theorem Eo {n:Int} {q x:Rc} (h:okR n x=true) (c:x.s < q.s\/x.s=q.s/\x.k<=q.k):kr n (some q) x=6:=by
 have hc:0<=ul q x:=by
  rcases Int.lt_or_le (ul q x) 0 with h | h
  ·rw[Bu]at h;omega
  ·exact h
 unfold kr;dsimp only;split <;> simp[j5,h,hc]
theorem zbN {n:Int} {q x:Rc} (h:okR n x=true) (c:q.s < x.s):kr n (some q) x=if x.k=1 then 0 else 93:=by
 have hc:¬0<=ul q x:=by
  have:=(Bu q x).2 (Or.inl c);omega
 have h2:¬q.s=x.s:=Yi;have:=Ki h;have h1:¬x.d < 0:=Yi;unfold kr j5
 by_cases hk:x.k=1
 ·simp[h,hk,h1,h2,hc]
 ·simp[h,hk,h2,hc]
theorem O5 {n:Int} {q x:Rc} (h:okR n x=true) (c:x.s=q.s) (c2:q.k < x.k):kr n (some q) x=if x.k=q.k+1 then if x.d < q.d then 7 else 0 else 93:=by
 have hc:¬0<=ul q x:=by
  have:=(Bu q x).2 (Or.inr ⟨c.symm,c2⟩);omega
 unfold kr j5
 by_cases hk:x.k=q.k+1
 iterate 2 ·simp[h,hk,hc,c]
theorem ve (n:Int) (x:Rc) (w:World) (hn1: -1000000<=n) (hn2:n<=1000000) (ht:x.t.size<=100000):
  Calls prog 169 #[Yp n,x.v] w λe w'=>e= .returned (.bool (okR n x))/\Gr w w':=J7 n x.s x.k x.d x.t w hn1 hn2 ht
theorem Hn (n:Int) (x:Rc) (a:Option Addr) (cap:Nat) (w:World) (hn1: -1000000<=n) (hn2:n<=1000000) (ht:x.t.size<=100000):
  Calls prog 107 #[Yp n,.slice a 0 cap,x.v] w λe w'=>e= .returned (Yp (kr n none x))/\Gr w w':=by
 have FO:=Hd (λw=>ve n x w hn1 hn2 ht);have P1:=Hd (λh=>Ep (n:=n) (p:=none) (x:=x) h);have P2:=Hd (λh=>zbL (n:=n) (x:=x) h);generalize kr n none x=E at *;have HX:x.v= .agg #[Yp x.s,Yp x.k,Yp x.d,.string x.t]:=rfl;rw[HX]at FO ⊢;clear HX ht;generalize x.s=s at *;generalize x.k=k at *;generalize x.d=d at *;generalize x.t=t at *;have bx:=ae w (.cells #[Yp s,Yp k,Yp d,.string t] 36);have gu:Gr w (w.alloc (.cells #[Yp s,Yp k,Yp d,.string t] 36)):=(Yu w).alloc _;obtain⟨b,hb⟩:∃b,okR n x=b:=⟨_,rfl⟩;rw[hb]at FO P1 P2;clear hb;go_enter func107,ntmps107;go_wp2_with fail;generalize w.alloc (.cells #[Yp s,Yp k,Yp d,.string t] 36)=W at *;obtain⟨px,hpx⟩:∃p,w.heap.size=p:=⟨_,rfl⟩;rw[hpx]at bx;rw[hpx];clear hpx;refine(FO.out _).mono ?_;rintro e w4 ⟨rfl,hg4⟩;have gu:=gu.trans hg4;have bx:=hg4.heap bx;clear hg4 FO;obtain⟨cx,fx,zx⟩:=ed bx;cases b
 ·have hE:=P1.out rfl;go_wp2;go_ret;exact⟨iy hE.symm,gu⟩
 ·have hE:=P2.out rfl
  by_cases hk:k=1
  ·rw[if_pos hk]at hE;have e1:decide (k=1)=true:=by simpa using hk
   go_wp2;go_ret;exact⟨iy hE.symm,gu⟩
  ·rw[if_neg hk]at hE;have e1:decide (k=1)=false:=by simpa using hk
   go_wp2;go_ret;exact⟨iy hE.symm,gu⟩
theorem Hm (n:Int) (q x:Rc) (g o i cap:Nat) (w:World) (hn1: -1000000<=n) (hn2:n<=1000000) (ht:x.t.size<=100000) (hi:i<=1000000) (_hc:i+1<=cap) (hk1: -1000000<=q.k) (hk2:q.k<=1000000) (hg:g < w.heap.size)
  (c0:w.cell? ⟨g,o+i * 4,none⟩=some (.int .i64 q.s)) (c1:w.cell? ⟨g,o+i * 4+1,none⟩=some (.int .i64 q.k)) (c2:w.cell? ⟨g,o+i * 4+2,none⟩=some (.int .i64 q.d)) (c3:w.cell? ⟨g,o+i * 4+3,none⟩=some (.string q.t)):
  Calls prog 107 #[Yp n,.slice (some ⟨g,o,none⟩) (i+1) cap,x.v] w λe w'=>e= .returned (Yp (kr n (some q) x))/\Gr w w':=by
 have FO:=Hd (λw=>ve n x w hn1 hn2 ht);have P1:=Hd (λh=>Ep (n:=n) (p:=some q) (x:=x) h);have P6:=Hd (λh=>Eo (n:=n) (q:=q) (x:=x) h);have PF:=Hd (λh=>zbN (n:=n) (q:=q) (x:=x) h);have PG:=Hd (λh=>O5 (n:=n) (q:=q) (x:=x) h);generalize kr n (some q) x=E at *;have HX:x.v= .agg #[Yp x.s,Yp x.k,Yp x.d,.string x.t]:=rfl;rw[HX]at FO ⊢;obtain⟨b,hb⟩:∃b,okR n x=b:=⟨_,rfl⟩;rw[hb]at FO P1 P6 PF PG;clear HX ht hb;generalize x.s=s at *;generalize x.k=k at *;generalize x.d=d at *;generalize x.t=t at *;generalize q.s=s2 at *;generalize q.k=k2 at *;generalize q.d=d2 at *;generalize q.t=t2 at *;have bx:=ae w (.cells #[Yp s,Yp k,Yp d,.string t] 36);have gu:Gr w (w.alloc (.cells #[Yp s,Yp k,Yp d,.string t] 36)):=(Yu w).alloc _;have i1:((i+1:Nat):Int)=(i:Int)+1:=Yi;have i2:(0:Int)<=i:=Yi;go_enter func107,ntmps107;go_wp2_with fail;generalize w.alloc (.cells #[Yp s,Yp k,Yp d,.string t] 36)=W at *;obtain⟨px,hpx⟩:∃p,w.heap.size=p:=⟨_,rfl⟩;rw[hpx]at bx hg;rw[hpx];have HC:=Hd (λu (G:Gr w u)=>show u.cell? ⟨g,o+i * 4,none⟩=some (.int .i64 s2)/\u.cell? ⟨g,o+i * 4+1,none⟩=some (.int .i64 k2)/\u.cell? ⟨g,o+i * 4+2,none⟩=some (.int .i64 d2)/\u.cell? ⟨g,o+i * 4+3,none⟩=some (.string t2)/\g < u.heap.size from
  ⟨(G.cells.1 g _ Yi).trans c0,(G.cells.1 g _ Yi).trans c1,(G.cells.1 g _ Yi).trans c2,(G.cells.1 g _ Yi).trans c3,Nat.lt_of_lt_of_le Yi G.b.size⟩)
 clear hpx c0 c1 c2 c3 hg;refine(FO.out _).mono ?_;rintro e w4 ⟨rfl,hg4⟩;have gu:=gu.trans hg4;have bx:=hg4.heap bx;clear hg4 FO;obtain⟨cx,fx,zx⟩:=ed bx;obtain⟨c0,c1,c2,c3,hz⟩:=HC.out _ gu;cases b
 ·have hE:=P1.out rfl;go_wp2;go_ret;exact⟨iy hE.symm,gu⟩
 ·replace P6:=P6.out rfl;replace PF:=PF.out rfl;replace PG:=PG.out rfl;rcases Int.lt_trichotomy s s2 with h | h | h
  ·have hE:=P6 (Or.inl h);clear P6 PF PG;go_wp2;go_ret;exact⟨iy hE.symm,gu.alloc _⟩
  ·subst h
   by_cases h1:k<=k2
   ·have hE:=P6 (Or.inr ⟨rfl,h1⟩);clear P6 PF PG;go_wp2;go_ret;exact⟨iy hE.symm,gu.alloc _⟩
   ·have hE:=PG rfl Yi;clear P6 PF PG
    by_cases h2:k=k2+1
    ·rw[if_pos h2]at hE;have e1:decide (k=k2+1)=true:=by simpa using h2
     by_cases h3:d < d2
     ·rw[if_pos h3]at hE;go_wp2;go_ret;exact⟨iy hE.symm,gu.alloc _⟩
     ·rw[if_neg h3]at hE;go_wp2;go_ret;exact⟨iy hE.symm,gu.alloc _⟩
    ·rw[if_neg h2]at hE;have e1:decide (k=k2+1)=false:=by simpa using h2
     go_wp2;go_ret;exact⟨iy hE.symm,gu.alloc _⟩
  ·have hE:=PF h;have n1:¬s < s2:=Yi;have n2:¬s=s2:=Yi;have n3:decide (s=s2)=false:=by simpa using n2
   clear P6 PF PG
   by_cases h2:k=1
   ·rw[if_pos h2]at hE;have e1:decide (k=1)=true:=by simpa using h2
    go_wp2;go_ret;exact⟨iy hE.symm,gu.alloc _⟩
   ·rw[if_neg h2]at hE;have e1:decide (k=1)=false:=by simpa using h2
    go_wp2;go_ret;exact⟨iy hE.symm,gu.alloc _⟩
theorem Ns (n:Int) (v:Value) (w:World) (hc:(decide (n=3) || decide (n=5))=false):
  Calls prog 55 #[Yp n,v] w λe w'=>e= .returned (.tuple #[Yp 0,Yp 1])/\Gr w w':=by
 have IC:=Hd (Mt n w);rw[hc]at IC;go_enter func55,ntmps55;go_wp2_with fail;refine IC.out.mono ?_;rintro e w1 ⟨rfl,hg1⟩;go_wp2;go_ret2;exact⟨rfl,hg1⟩
theorem Kd (n:Int) (v:Value) (l:List Rc) (w:World) (hn1: -1000000<=n) (hn2:n<=1000000) (hr:ij w v l) (hl:l.length<=1000000) (ht:∀x∈l,x.t.size<=100000) (hc:(decide (n=3) || decide (n=5))=true):
  Calls prog 55 #[Yp n,v] w λe w'=>e= .returned (.tuple #[Yp (ot n l).1,Yp (ot n l).2])/\Gr w w':=by
 obtain⟨a,cap,rfl,hcap,hcell⟩:=hr;have HC:=Hd hcell;have IC:=Hd (Mt n w);rw[hc]at IC;have FN:=Hd (fun(j:Nat) (h:j < l.length) a cap w=>Hn n l[j] a cap w hn1 hn2 (ht _ (List.getElem_mem h)));have FS:=Hd (fun(j:Nat) (h:j < l.length) (q:Rc) g o i cap w=>Hm n q l[j] g o i cap w hn1 hn2 (ht _ (List.getElem_mem h)));obtain⟨R1,R2,hR⟩:∃R1 R2,ot n l=(R1,R2):=⟨_,_,rfl⟩;rw[hR];have HR:=Hd hR;clear hcell hc hR ht;go_enter func55,ntmps55;go_wp2_with fail;refine IC.out.mono ?_;rintro e w1 ⟨rfl,hg1⟩;clear IC;go_wp2;go_loopw [6] (λq wr=>∃i:Nat,q= .int .i64 i/\i<=l.length/\Hid (∀j,j < i->j < l.length->kw n l j=0)/\Gr w wr) (λq _=>l.length - (intOf q).toNat)
 case atStart=>exact⟨0,rfl,Yi,Hd (λj hj=>by omega),hg1⟩
 case round=>
  obtain⟨i,rfl,hi,HZ,gr⟩:=hrel
  by_cases hil:i < l.length
  ·have hil':(i:Int) < l.length:=Yi;have hi0:(0:Int)<=i:=Yi;have hic:i<=cap:=Yi;obtain⟨g,o,rfl,hg,c0,c1,c2,c3⟩:=HC.out i hil;rw[<-gr.cells.1 g _ hg]at c0 c1 c2 c3;have hz:g < wr.heap.size:=Nat.lt_of_lt_of_le hg gr.b.size;have CALL:∃E,kw n l i=E/\Hid (∀u,Gr wr u->Calls prog 107 #[Yp n,.slice (some ⟨g,o,none⟩) i cap,l[i].v] u λe w'=>e= .returned (Yp E)/\Gr u w'):=by
    refine⟨_,rfl,Hd (λu hu=>?_)⟩;rcases Nat.eq_zero_or_pos i with rfl | hpos
    ·have:=FN.out 0 hil (some ⟨g,o,none⟩) cap u;rw[show kw n l 0=kr n none l[0]from Pb hil];exact this
    ·obtain⟨k,rfl⟩:∃k,i=k+1:=⟨i - 1,Yi⟩;rw[Ja hil];obtain⟨g2,o2,hge,_,d0,d1,d2,d3⟩:=HC.out k Yi;obtain⟨rfl,rfl⟩:g2=g/\o2=o:=by injection hge with h;injection h with h h2;exact⟨h.symm,h2.symm⟩
     have G:=gr.trans hu;have hk:=Ki (Jb (show k < l.length by omega) (HZ.out k Yi Yi));exact FS.out (k+1) hil _ g2 o2 k cap u Yi hic Yi Yi (Nat.lt_of_lt_of_le hg G.b.size) ((G.cells.1 g2 _ hg).trans d0) ((G.cells.1 g2 _ hg).trans d1) ((G.cells.1 g2 _ hg).trans d2) ((G.cells.1 g2 _ hg).trans d3)
   obtain⟨E,hE,CR⟩:=CALL;have HE:=Hd hE;clear hE;generalize l[i]=x at *;go_wp2_with fail;refine ah [.val (Yp n),.val (.slice (some ⟨g,o,none⟩) l.length cap),.val (Yp i),.val (.slice (some ⟨g,o,none⟩) i cap),.val (.slice (some ⟨g,o,none⟩) l.length cap),.val (Yp i),.val (.pointer (some ⟨g,o+i * 4,none⟩)),.val x.v,.val (Yp E),.val (Yp E)] Yh Yh (λV=>finT) ?_ ?_
   ·refine⟨?_,?_,?_,?_,?_,?_,?_,?_,?_,?_,trivial⟩ <;> (first | exact trivial | exact osGr | (refine⟨osK,?_⟩;intro V u hu hk;refine⟨Yh,aw Yh ?_⟩;obtain⟨hc,hf,hz⟩:=hu.cells;go_simp;skip) | (refine⟨osK,?_⟩;intro V u hu hk;refine⟨Yh,?_⟩;obtain⟨hc,hf,hz⟩:=hu.cells;go_simp;skip) | (intro V u hu hk;refine⟨Yh,?_⟩;obtain⟨hc,hf,hz⟩:=hu.cells;go_simp;first | exact⟨rfl,Yu _⟩ | skip) | (intro V u hu hk;show _=false;kernel_rfl));exact CR.out _ hu
   ·intro V u3 hg3 hs;have gu:=gr.trans hg3;clear c0 c1 c2 c3 hz
    by_cases h0:E=0
    ·have e0:decide (E=0)=true:=by simpa using h0
     go_simp;go_wp2;exact⟨⟨i+1,Yj,Yi,Hd (λj hj hjl=>by
      rcases Nat.lt_or_ge j i with h | h
      ·exact HZ.out j h hjl
      ·obtain rfl:j=i:=Yi;exact HE.out.trans h0),gu⟩,by simp[intOf];omega⟩
    ·have e0:decide (E=0)=false:=by simpa using h0
     go_simp;go_wp2;go_ret2;obtain⟨r1,r2⟩:=Prod.ext_iff.1 (HR.out.symm.trans (jp HZ.out hil (e:=E) HE.out h0));replace r1:R1=(i:Int):=r1;replace r2:R2=E:=r2;rw[r1,r2];exact⟨rfl,gu⟩
  ·have hil':¬(i:Int) < l.length:=Yi;obtain rfl:i=l.length:=Yi;go_wp2;go_ret2;obtain⟨rfl,rfl⟩:=Prod.ext_iff.1 (HR.out.symm.trans (Bw (λj hj=>HZ.out j hj hj)));exact⟨rfl,gr⟩
theorem zdV {a b:ByteArray} (h:a.toList=b.toList):a=b:=by
 rw[ByteArray.toList_eq,ByteArray.toList_eq]at h;obtain⟨⟨x⟩⟩:=a;obtain⟨⟨y⟩⟩:=b;simp at h;rw[h]
theorem rc_eq (a b:Rc):(decide (a=b))=(decide (a.s=b.s) && (decide (a.k=b.k) && (decide (a.d=b.d) && decide (a.t=b.t)))):=by
 obtain⟨s,k,d,t⟩:=a;obtain⟨s2,k2,d2,t2⟩:=b;simp[Rc.mk.injEq]
theorem zdU (x y:Rc) (b:Bool) (u:World) (h:b= !decide (x=y)):
  Mx prog (.bool b) (Gr u) (if x.s=y.s then if x.k=y.k then if x.d=y.d then if x.t.toList=y.t.toList then Result.ok (Next.value (.bool false)) u else Result.ok (Next.value (.bool true)) u else Result.ok (Next.value (.bool true)) u else Result.ok (Next.value (.bool true)) u else Result.ok (Next.value (.bool true)) u):=by
 subst h;rw[rc_eq];have h5:x.t.toList=y.t.toList->x.t=y.t:=zdV
 by_cases h1:x.s=y.s
 ·by_cases h2:x.k=y.k
  ·by_cases h3:x.d=y.d
   ·by_cases h4:x.t=y.t
    ·rw[if_pos h1,if_pos h2,if_pos h3,if_pos (by rw[h4]),decide_eq_true h1,decide_eq_true h2,decide_eq_true h3,decide_eq_true h4];exact⟨rfl,Yu _⟩
    ·rw[if_pos h1,if_pos h2,if_pos h3,if_neg (λh=>h4 (h5 h)),decide_eq_true h1,decide_eq_true h2,decide_eq_true h3,decide_eq_false h4];exact⟨rfl,Yu _⟩
   ·rw[if_pos h1,if_pos h2,if_neg h3,decide_eq_true h1,decide_eq_true h2,decide_eq_false h3];exact⟨rfl,Yu _⟩
  ·rw[if_pos h1,if_neg h2,decide_eq_true h1,decide_eq_false h2];exact⟨rfl,Yu _⟩
 ·rw[if_neg h1,decide_eq_false h1];exact⟨rfl,Yu _⟩
def Ee (l:List Rc) (m:Nat):Bool:=decide (l.length<=m) && l.all λx=>decide (x.t.size<=300)
theorem fewB_no {l:List Rc} {m i:Nat} (hi:i < l.length) (h:¬l[i].t.size<=300):Ee l m=false:=by
 unfold Ee;have:(l.all λx=>decide (x.t.size<=300))=false:=by
  cases e:l.all λx=>decide (x.t.size<=300)with
  | false=>rfl
  | true=>exact absurd (of_decide_eq_true (List.all_eq_true.1 e _ (List.getElem_mem hi))) h
 rw[this,Bool.and_false]
theorem zbs {l:List Rc} {m:Nat} (h:l.length<=m) (k:∀j (hj:j < l.length),l[j].t.size<=300):Ee l m=true:=by
 unfold Ee;rw[decide_eq_true h,Bool.true_and,List.all_eq_true];intro x hx;obtain⟨j,hj,rfl⟩:=List.mem_iff_getElem.1 hx;exact decide_eq_true (k j hj)
theorem fewB_is {l:List Rc} {m:Nat} (h:Ee l m=true):l.length<=m/\∀x∈l,x.t.size<=300:=by
 unfold Ee at h;rw[Bool.and_eq_true,List.all_eq_true]at h;exact⟨of_decide_eq_true h.1,λx hx=>of_decide_eq_true (h.2 x hx)⟩
theorem Few_any (v:Value) (l:List Rc) (m:Nat) (w:World) (hv:ij w v l) (hm:m<=1000):
  Calls prog 6 #[v,Yp m] w λe w'=>e= .returned (.bool (Ee l m))/\w'=w:=by
 obtain⟨a,cap,rfl,hcap,hcell⟩:=hv
 by_cases hlm:l.length<=m
 ·have HC:=Hd hcell;have h1:¬(m:Int) < l.length:=Yi;obtain⟨q,hq⟩:∃q,Ee l m=q:=⟨_,rfl⟩;have HQ:=Hd hq;rw[hq];clear hcell hq;go_enter func6,ntmps6;go_wp2;go_loopw [5] (λr wr=>∃i:Nat,r= .int .i64 i/\i<=l.length/\Hid (∀j (hj:j < l.length),j < i->l[j].t.size<=300)/\wr=w) (λr _=>l.length - (intOf r).toNat)
  case atStart=>exact⟨0,rfl,Yi,Hd (λj hj h=>absurd h (Nat.not_lt_zero _)),rfl⟩
  case round=>
   obtain⟨i,rfl,hi,HS,rfl⟩:=hrel
   by_cases hil:i < l.length
   ·have hil':(i:Int) < l.length:=Yi;obtain⟨g,o,rfl,hgl, -, -, -,c3⟩:=HC.out i hil;have HN:=Hd (λh=>fewB_no (m:=m) hil h)
    by_cases hs:l[i].t.size<=300
    ·have hs':¬(300:Int) < l[i].t.size:=Yi;have HI:Hid (∀j (hj:j < l.length),j < i+1->l[j].t.size<=300):=Hd (λj hj hji=>by
      rcases Nat.lt_or_ge j i with h | h
      ·exact HS.out j hj h
      ·obtain rfl:j=i:=Yi;exact hs)
     generalize l[i].t=t at *;go_wp2;exact⟨⟨i+1,Yj,Yi,HI,trivial⟩,by simp[intOf];omega⟩
    ·have hs':(300:Int) < l[i].t.size:=Yi;have hE:=HN.out hs;generalize l[i].t=t at *;go_wp2;go_ret;exact⟨cn (hE.symm.trans HQ.out),rfl⟩
   ·have hil':¬(i:Int) < l.length:=Yi;obtain rfl:i=l.length:=Yi;go_wp2;go_ret;exact⟨cn ((zbs hlm (λj hj=>HS.out j hj hj)).symm.trans HQ.out),rfl⟩
 ·have hE:Ee l m=false:=by unfold Ee;rw[decide_eq_false hlm,Bool.false_and]
  rw[hE];have h1:(m:Int) < l.length:=Yi;clear hcell hE;go_enter func6,ntmps6;go_wp2;go_ret;exact⟨rfl,rfl⟩
theorem ze6 (v v2:Value) (l m:List Rc) (w:World) (hv:ij w v l) (hv2:ij w v2 m) (hl:l.length<=1000000) (_:m.length<=1000000):
  Calls prog 19 #[v,v2] w λe w'=>e= .returned (.bool (decide (l=m)))/\Gr w w':=by
 obtain⟨a,cap,rfl,hcap,hcell⟩:=hv;obtain⟨a2,cap2,rfl,hcap2,hcell2⟩:=hv2
 by_cases hlm:l.length=m.length
 ·have HC:=Hd hcell;have HC2:=Hd hcell2;obtain⟨k,hk⟩:∃k,l.length=k:=⟨_,rfl⟩;have hk2:m.length=k:=Yi;rw[hk,hk2];have HK:=Hd hk;have HK2:=Hd hk2;have HLM:=Hd hlm;obtain⟨q,hq⟩:∃q,decide (l=m)=q:=⟨_,rfl⟩;have HQ:=Hd hq;rw[hq];clear hcell hcell2 hq hlm;rw[hk]at hl;clear hk hk2 hcap hcap2;go_enter func19,ntmps19;go_wp2;go_loopw [5] (λr wr=>∃i:Nat,r= .int .i64 i/\i<=k/\Hid (∀j (hj:j < l.length) (hj2:j < m.length),j < i->l[j]=m[j])/\Gr w wr) (λr _=>k - (intOf r).toNat)
  case atStart=>exact⟨0,rfl,Yi,Hd (λj hj _ h=>absurd h (Nat.not_lt_zero _)),Yu _⟩
  case round=>
   obtain⟨i,rfl,hi,HS,gr⟩:=hrel
   by_cases hik:i < k
   ·have hil':(i:Int) < k:=Yi;have hil:i < l.length:=by rw[HK.out];exact hik
    have him:i < m.length:=by rw[HK2.out];exact hik
    obtain⟨g,o,rfl,hgl,c0,c1,c2,c3⟩:=HC.out i hil;obtain⟨g2,o2,rfl,hgl2,d0,d1,d2,d3⟩:=HC2.out i him;rw[<-gr.cells.1 g _ hgl]at c0 c1 c2 c3;rw[<-gr.cells.1 g2 _ hgl2]at d0 d1 d2 d3;have hz:g < wr.heap.size:=Nat.lt_of_lt_of_le hgl gr.b.size;have hz2:g2 < wr.heap.size:=Nat.lt_of_lt_of_le hgl2 gr.b.size;obtain⟨bq,hbq⟩:∃b,(!decide (l[i]=m[i]))=b:=⟨_,rfl⟩;have NE:=Hd hbq.symm
    by_cases hs:l[i]=m[i]
    ·have HI:Hid (∀j (hj:j < l.length) (hj2:j < m.length),j < i+1->l[j]=m[j]):=Hd (λj hj hj2 hji=>by
      rcases Nat.lt_or_ge j i with h | h
      ·exact HS.out j hj hj2 h
      ·obtain rfl:j=i:=Yi;exact hs)
     obtain rfl:false=bq:=by rw[<-hbq,decide_eq_true hs];rfl
     generalize l[i]=x at *;generalize m[i]=y at *;clear hs hbq hil him;go_wp2_with fail;refine ah [.val (.slice (some ⟨g,o,none⟩) k cap),.val (Yp i),.val (.pointer (some ⟨g,o+i * 4,none⟩)),.val x.v,.val (.slice (some ⟨g2,o2,none⟩) k cap2),.val (Yp i),.val (.pointer (some ⟨g2,o2+i * 4,none⟩)),.val y.v,.val (.bool false)] Yh Yh (λV=>finT) ?_ ?_
     ·exact Xp
     ·intro V u hg hsx;have gu:=gr.trans hg;go_simp;go_wp2;refine⟨?_,by simp[intOf];omega⟩
      (repeat apply Exists.intro)
      exact⟨(show Value.int .i64 ((i:Int)+1)= .int .i64 ((i+1:Nat):Int) by simp),Yi,HI,gu⟩
    ·have hE:decide (l=m)=false:=decide_eq_false (λh=>hs (by subst h;rfl));have HE:=Hd (hE.symm.trans HQ.out);obtain rfl:true=bq:=by rw[<-hbq,decide_eq_false hs];rfl
     generalize l[i]=x at *;generalize m[i]=y at *;clear hs hbq hE hil him;go_wp2_with fail;refine ah [.val (.slice (some ⟨g,o,none⟩) k cap),.val (Yp i),.val (.pointer (some ⟨g,o+i * 4,none⟩)),.val x.v,.val (.slice (some ⟨g2,o2,none⟩) k cap2),.val (Yp i),.val (.pointer (some ⟨g2,o2+i * 4,none⟩)),.val y.v,.val (.bool true)] Yh Yh (λV=>finT) ?_ ?_
     ·exact Xp
     ·intro V u hg hsx;have gu:=gr.trans hg;go_simp;go_wp2;go_ret;exact⟨cn HE.out,gu⟩
   ·have hil':¬(i:Int) < k:=Yi;obtain rfl:i=k:=Yi;go_wp2;go_ret;refine⟨cn (Eq.trans (decide_eq_true ?_).symm HQ.out),gr⟩;exact List.ext_getElem HLM.out (λj h1 h2=>HS.out j h1 h2 (by rw[HK.out]at h1;exact h1))
 ·have hE:decide (l=m)=false:=decide_eq_false (λh=>hlm (by rw[h]));rw[hE];have h1:¬(l.length:Int)=m.length:=Yi;have h2:((l.length:Int) == m.length)=false:=by simpa using h1
  clear hcell hcell2 hE;go_enter func19,ntmps19;go_wp2;go_ret;exact⟨rfl,Yu _⟩
theorem lst5 {α:Type} {l:List α} (h:l.length=5):∃a b c d e,l=[a,b,c,d,e]:=by
 match l,h with
 | [a,b,c,d,e],_=>exact⟨a,b,c,d,e,rfl⟩
abbrev zeM (a0 a1 a2 a3 a4:Int):Value:= .agg #[Yp a0,Yp a1,Yp a2,Yp a3,Yp a4]
def hav (a0 a1 a2 a3 a4:Int):Nat->Int
 | 0=>a0 | 1=>a1 | 2=>a2 | 3=>a3 | _=>a4
theorem hav_at (a0 a1 a2 a3 a4:Int) {s:Nat} (h:s < 5):(#[Yp a0,Yp a1,Yp a2,Yp a3,Yp a4]:Array Value)[s]?=some (.int .i64 (hav a0 a1 a2 a3 a4 s)):=by
 match s,h with
 | 0,_=>rfl
 | 1,_=>rfl
 | 2,_=>rfl
 | 3,_=>rfl
 | 4,_=>rfl
def zeb (f:Nat->Int) (l:List Rc):List Rc:=l.filter λr=>decide (f r.s.toNat < r.k)
theorem ze5 (f:Nat->Int) (l:List Rc):(zeb f l).length<=l.length:=List.length_filter_le _ _
theorem qe {w:World} {base:Nat} {v:Value} {l:List Rc} (h:w.ownsRow base 36 4 v l.length (rcs l)):ij w v l:=
 RowR.recs (World.ownsRow.mono (base':=0) h (Nat.zero_le _))
end
section
open Go.ChangeShapes Go.WideShapes Go.ChangeAt Go.RowKit Go.Joins Go.Deep
theorem J2:∀t e,t < prog.types.size->prog.underlying t=some (.slice e)->0 < prog.cellsOf e:=slices_full_of _ Yh
theorem zdW {H:Type} {enc:TypeId×Value->H} {W W':World} {t:TypeId} {v:Value} {d:DataW H} {p:List MemPlace} (h:DataW.Trod enc prog W 0 (λ_=>true) true t v d p) (g:Gr W W') (ht:t < prog.types.size):
  DataW.Trod enc prog W' 0 (λb=>decide (b < W.heap.size)) true t v d p:=by
 obtain⟨n,hn⟩:=h;have hl:=DataW.trod_lt n _ _ _ hn;have h2:=DataW.trod_carry n _ _ _ hn (λq hq=>g.b.same (hl q hq));have h3:DataW.Trod enc prog W' 0 (λ_=>true) true t v d p:=⟨n,h2⟩;exact h3.respare (kids_rows laidOut mapsRow) J2 ht (λq hq=>decide_eq_true (hl q hq))
section
variable {H:Type} {enc:TypeId×Value->H} {W:World}
theorem Pc:prog.cellsOf 36=4:=Yh
theorem zbP:prog.cellsOf 9=1:=Yh
theorem Et:prog.cellsOf 3=1:=Yh
theorem list4 {α:Type} {l:List α} (h:l.length=4):∃a b c d,l=[a,b,c,d]:=by
 match l,h with
 | [a,b,c,d],_=>exact⟨a,b,c,d,rfl⟩
theorem rec_of {n:Nat} {cs:List Value} {x:DataW H×List MemPlace} (h:DataW.trod enc prog W 0 (λ_=>true) true n 36 cs=some x):∃r:Rc,cs=r.cells:=by
 obtain⟨xs,m, -, -,hl,hlen,hf⟩:=DataW.trod_struct underlying36 h;rw[Pc]at hl;obtain⟨c0,c1,c2,c3,rfl⟩:=list4 hl;obtain⟨y0,y1,y2,y3,rfl⟩:=list4 (show xs.length=4 from hlen);have q0:DataW.trod enc prog W 0 (λ_=>true) true m 3 (([c0,c1,c2,c3].drop 0).take (prog.cellsOf 3))=some y0:=hf 0 _ rfl;rw[Et]at q0;have q1:DataW.trod enc prog W 0 (λ_=>true) true m 3 (([c0,c1,c2,c3].drop 1).take (prog.cellsOf 3))=some y1:=hf 1 _ rfl;rw[Et]at q1;have q2:DataW.trod enc prog W 0 (λ_=>true) true m 3 (([c0,c1,c2,c3].drop 2).take (prog.cellsOf 3))=some y2:=hf 2 _ rfl;rw[Et]at q2;have q3:DataW.trod enc prog W 0 (λ_=>true) true m 9 (([c0,c1,c2,c3].drop 3).take (prog.cellsOf 9))=some y3:=hf 3 _ rfl;rw[zbP]at q3;obtain⟨s,e0, -, -⟩:=DataW.trod_int underlying3 q0;obtain⟨k,e1, -, -⟩:=DataW.trod_int underlying3 q1;obtain⟨d,e2, -, -⟩:=DataW.trod_int underlying3 q2;obtain⟨t,e3, -, -⟩:=DataW.trod_string underlying9 q3;replace e0:[c0]=_:=e0;replace e1:[c1]=_:=e1;replace e2:[c2]=_:=e2;replace e3:[c3]=_:=e3;simp only[List.cons.injEq,and_true]at e0 e1 e2 e3;subst e0;subst e1;subst e2;subst e3;exact⟨⟨s,k,d,t⟩,rfl⟩
theorem Ti {b0:Nat} {r:Reach} {v:Value} {d:DataW H} {p:List MemPlace} (hv:Value.okWide prog W r b0 22 v) (h:DataW.Trod enc prog W 0 (λ_=>true) true 22 v d p):
  ∃l:List Rc,ij W v l:=by
 obtain⟨a0,len,cap,rfl⟩:=okWide_slice underlying22 hv;obtain⟨fuel,hf⟩:=h;rcases open_slice underlying22 hf with ⟨hcs, -⟩ | ⟨a,len',cap',m,n,D,Pl,hcs,hb,hl,hm,hmm, -,hx⟩
 ·simp[Value.cells]at hcs;obtain⟨rfl,rfl,rfl⟩:=hcs;exact⟨[],ij.nil _ _ _⟩
 ·simp[Value.cells]at hcs;obtain⟨rfl,rfl,rfl⟩:=hcs;simp only[if_true]at hmm;subst hmm;have each:∀i,i < len->∃r:Rc,∃g off,a=⟨g,off,none⟩/\g < W.heap.size/\W.cell? ⟨g,off+i * 4,none⟩=some (.int .i64 r.s)/\W.cell? ⟨g,off+i * 4+1,none⟩=some (.int .i64 r.k)/\W.cell? ⟨g,off+i * 4+2,none⟩=some (.int .i64 r.d)/\
    W.cell? ⟨g,off+i * 4+3,none⟩=some (.string r.t):=λi hi=>by
   obtain⟨cs',h1,h2⟩:=hx i Yi;rw[Pc]at h1;obtain⟨-, -,hc⟩:=World.cells?_some h1;obtain⟨r,rfl⟩:=rec_of h2;have c0:=hc 0 Yi;have c1:=hc 1 Yi;have c2:=hc 2 Yi;have c3:=hc 3 Yi;obtain⟨b,off,spot⟩:=a;have hspot:spot=none:=by
    obtain⟨cs0,h0, -⟩:=hx 0 Yi;rw[Pc]at h0;have:=World.cell?_spot (((World.cells?_some h0).2.2 0 Yi).trans (List.getElem?_eq_getElem (by rw[(World.cells?_some h0).2.1];omega)));simpa[Addr.add]using this
   subst hspot;rw[add_plain,add_plain]at c0 c1 c2 c3;refine⟨r,b,off,rfl,?_,c0,c1,c2,c3⟩;exact World.block_lt_of_cell? _ _ c0
  have:Inhabited Rc:=⟨⟨0,0,0,ByteArray.empty⟩⟩;obtain⟨F,hF⟩:=choose_lt each;have hlen:((List.range len).map F).length=len:=Yj;refine⟨(List.range len).map F,some a,_,by rw[hlen],by rw[hlen];omega,λj hj=>?_⟩;rw[hlen]at hj;have ej:((List.range len).map F)[j]=F j:=Yj;rw[ej];obtain⟨g,off,rfl,hg,c0,c1,c2,c3⟩:=hF j hj;exact⟨g,off,rfl,hg,c0,c1,c2,c3⟩
theorem cellsH:prog.cellsOf 61=5:=Yh
theorem zeY {b0:Nat} {r:Reach} {v:Value} {d:DataW H} {p:List MemPlace} (hv:Value.okWide prog W r b0 61 v) (h:DataW.Trod enc prog W 0 (λ_=>true) true 61 v d p):
  ∃a0 a1 a2 a3 a4:Int,v=zeM a0 a1 a2 a3 a4:=by
 obtain⟨cs,rfl,hsz⟩:=okWide_struct underlying61 hv;rw[cellsH]at hsz;obtain⟨fuel,hf⟩:=h;obtain⟨xs,m, -, -,hl,hlen,hfd⟩:=DataW.trod_struct underlying61 hf;obtain⟨cs⟩:=cs;obtain⟨c0,c1,c2,c3,c4,rfl⟩:=lst5 (show cs.length=5 from hsz);obtain⟨y,rfl⟩:=List.length_eq_one_iff.1 (show xs.length=1 from hlen);have q:DataW.trod enc prog W 0 (λ_=>true) true m 59 [c0,c1,c2,c3,c4]=some y:=hfd 0 _ rfl;obtain⟨ys,k, -, -, -,hyl,hat⟩:=DataW.trod_array underlying59 q;obtain⟨y0,y1,y2,y3,y4,rfl⟩:=lst5 hyl;rw[Et]at hat;have q0:DataW.trod enc prog W 0 (λ_=>true) true k 3 [c0]=some y0:=hat 0 Yi;have q1:DataW.trod enc prog W 0 (λ_=>true) true k 3 [c1]=some y1:=hat 1 Yi;have q2:DataW.trod enc prog W 0 (λ_=>true) true k 3 [c2]=some y2:=hat 2 Yi;have q3:DataW.trod enc prog W 0 (λ_=>true) true k 3 [c3]=some y3:=hat 3 Yi;have q4:DataW.trod enc prog W 0 (λ_=>true) true k 3 [c4]=some y4:=hat 4 Yi;obtain⟨a0,e0, -, -⟩:=DataW.trod_int underlying3 q0;obtain⟨a1,e1, -, -⟩:=DataW.trod_int underlying3 q1;obtain⟨a2,e2, -, -⟩:=DataW.trod_int underlying3 q2;obtain⟨a3,e3, -, -⟩:=DataW.trod_int underlying3 q3;obtain⟨a4,e4, -, -⟩:=DataW.trod_int underlying3 q4;simp only[List.cons.injEq,and_true]at e0 e1 e2 e3 e4;subst e0;subst e1;subst e2;subst e3;subst e4;exact⟨a0,a1,a2,a3,a4,rfl⟩
end
end
section
open Go.ChangeShapes Go.WideShapes Go.ChangeAt Go.RowKit Go.Joins
theorem Ej {W:World} (h:laidMetH prog laid7 W):W.cell? ⟨7,15,none⟩=some (.int .u8 4)/\7 < W.heap.size:=by
 rw[MakeChecks.laidMetH_plain _ _ _ Yh]at h;obtain⟨ps,⟨g0,t0,cs0,f0,p0,q0,hg0,ht0,hv0,hd0,⟨g1,t1,cs1,f1,p1,q1,hg1,ht1,hv1,hd1,_,_⟩,_⟩,_,_⟩:=h;obtain rfl:=Yt ((show prog.globalNamed "math/bits.deBruijn64tab" =some 7 by kernel_rfl).symm.trans hg1)
 obtain rfl:=Yt ((show(prog.globals[7]?).map (·.type)=some 211 by kernel_rfl).symm.trans ht1);have hd:DataW.trod _ prog W 0 _ _ f1 211 cs1.toList=some (Lib.tabData .u8 (intsOf RX.t7),p1):=hd1;have hc:=Lib.cells_of_tab (n:=64) (e:=5) underlying211 underlying5 Yh Yh hd;have h1:=World.var?_cell hg1 hv1 15;have h2:cs1[15]?=some (.int .u8 4):=by
  rw[<-Array.getElem?_toList];have:cs1.toList=(intsOf RX.t7).map (Value.int .u8):=by first | exact hc | (rw[hc];done) | (rw[<-hc];done) | (have:=congrArg Array.toList hc;simpa using this)
  rw[this];rfl
 obtain⟨e,fz,hh⟩:=heap_of_var hg1 hv1;exact⟨h1.trans h2,(Array.getElem?_eq_some_iff.1 hh).1⟩
end
section
open Go.RowKit Go.Shelf
def YB (w:World) (b n:Nat) (T:TypeId):Prop:=∃Z:List Int,Z.length=n/\w.heap[b]?=some (.cells (Z.map (Value.int .u8)).toArray T (0,0))
theorem YB.gr {w w':World} {b n:Nat} {T:TypeId} (h:YB w b n T) (g:Gr w w'):YB w' b n T:=by
 obtain⟨Z,h1,h2⟩:=h;exact⟨Z,h1,g.heap h2⟩
theorem YB.grl {w w':World} {b n:Nat} {T:TypeId} {l:List Nat} (h:YB w b n T) (g:GrL l w w') (hb:b∉l):YB w' b n T:=by
 obtain⟨Z,h1,h2⟩:=h;exact⟨Z,h1,(g.block b (ai h2) hb).trans h2⟩
theorem YB.lt {w:World} {b n:Nat} {T:TypeId} (h:YB w b n T):b < w.heap.size:=by
 obtain⟨Z,h1,h2⟩:=h;exact ai h2
theorem YB.cell {w:World} {b n:Nat} {T:TypeId} (h:YB w b n T) {i:Nat} (hi:i < n):∃x,w.cell? ⟨b,i,none⟩=some (.int .u8 x):=by
 obtain⟨Z,rfl,h2⟩:=h;refine⟨Z[i],?_⟩;rw[(ed h2).1];simp[hi]
theorem YB.fr {w:World} {b n:Nat} {T:TypeId} (h:YB w b n T) (i:Nat):w.frozen? ⟨b,i,none⟩=false:=by
 obtain⟨Z,rfl,h2⟩:=h;exact(ed h2).2.1 i
theorem YB.set {w:World} {b n:Nat} {T:TypeId} (h:YB w b n T) (i:Nat) (x:Int):YB (w.setCell (Yo b i) (Ys x)) b n T:=by
 obtain⟨Z,h1,h2⟩:=h;refine⟨Z.set i x,by simp[h1],?_⟩;rw[dz h2];congr 2;apply Array.ext';simp[List.map_set]
theorem YB.row {w:World} {b:Nat} {T:TypeId} {Z:List Int} (h:w.heap[b]?=some (.cells (Z.map (Value.int .u8)).toArray T (0,0))) (o:Nat) (zs:List Int) (ho:o+zs.length<=Z.length):
  YB (w.setRow b ((Z.map (Value.int .u8)).toArray.toList.take o ++ (zs.map (Value.int .u8) ++ (Z.map (Value.int .u8)).toArray.toList.drop (o+(zs.map (Value.int .u8)).length))).toArray) b Z.length T:=by
 refine⟨Z.take o ++ (zs ++ Z.drop (o+zs.length)),by simp;omega,?_⟩;rw[setRow_heap w b _ _ _ _ h];simp
theorem YB.cells {w:World} {b n:Nat} {T:TypeId} {Z:List Int} (h:w.heap[b]?=some (.cells (Z.map (Value.int .u8)).toArray T (0,0))) (hZ:Z.length=n) (o:Nat) (zs:List Int) (ho:o+zs.length<=n):YB (w.setCells b o (zs.map (Value.int .u8))) b n T:=by
 refine⟨Z.take o ++ (zs ++ Z.drop (o+zs.length)),by simp;omega,?_⟩;rw[ss b T _ o w _ h (by simp;omega)];simp
theorem Jc {P:Program} {F:Value->World->Prop} {R:World->Prop} {o:Oper} {a:Act} {w:World} (s x:Operand) (t:TypeId)
  (ho:o.op= .call {callee:= .builtin .append,args:=#[s,x],argTypes:=#[t,t]})
  (base:Nat) (e:TypeId) (i:TypeInfo) (z:Value) (size bytes:Nat) (ht:P.underlying t=some (.slice e)) (hi:P.info? e=some i) (hz:i.zero=some z)
  (hsize:i.size=size) (hby:i.bytes=bytes) (hzs:z.cells.size=size) (hsz:0 < size)
  (v:Value) (n:Nat) (xs:List Value) (hs:a.eval s=v) (hown:w.ownsRow base e size v n xs)
  (ad:Addr) (m c:Nat) (news:List Value) (hx:a.eval x= .slice (some ad) m c) (hl:news.length=m * size) (hnews:∀j u,news[j]?=some u->w.cell? (ad.add j)=some u) (h1:∀u∈news,u.oneCell'=true)
  (h63:n+m<=maxLen) (hbytes:(n+m) * bytes<=140737488355328) (hbase:base<=w.heap.size)
  (h:∀v' w',w'.ownsRow base e size v' (n+m) (xs ++ news)->w.grownBy w' v.ownBlock->F v' w'/\R w'):ii P F R ((execOp a.eval o).run P w):=by
 obtain⟨v',w',hr,h2,h3,_⟩:=run_append_own (P:=P) w base t o.type e i z size bytes ht hi hz hsize hby hzs hsz v n xs hown ad m c news hl hnews h1 h63 hbytes hbase;unfold execOp;simp only[ho,resolve,invoke,builtin,Sem.run_bind,Sem.run_pure,Result.andThen_ok,List.map_toArray,List.map_cons,List.map_nil,hs,hx,hr];exact h v' w' h2 h3
theorem fold_set:∀(l:List Value) (k off:Nat) (Z:Array Value),off+k+l.length<=Z.size->
  ((l.zipIdx k).foldl (fun(cs:Array Value) (x:Value×Nat)=>cs.setIfInBounds (off+x.2) x.1) Z).toList=Z.toList.take (off+k) ++ l ++ Z.toList.drop (off+k+l.length)
 | [],k,off,Z,h=>by simp
 | v :: r,k,off,Z,h=>by
  simp only[List.length_cons]at h;rw[List.zipIdx_cons,List.foldl_cons,fold_set r (k+1) off _ (by simp;omega)];simp only[Array.toList_setIfInBounds,List.length_cons];have hz:Z.toList.length=Z.size:=rfl;generalize Z.toList=L at *;rw[List.set_eq_take_append_cons_drop,if_pos Yi];have ht:(L.take (off+k)).length=off+k:=by rw[List.length_take];omega
  have e1:(L.take (off+k) ++ v :: L.drop (off+k+1)).take (off+(k+1))=L.take (off+k) ++ [v]:=by
   rw[List.take_append,ht,show off+(k+1) - (off+k)=1 by omega];simp[List.take_take]
  have e2:(L.take (off+k) ++ v :: L.drop (off+k+1)).drop (off+(k+1)+r.length)=L.drop (off+k+(r.length+1)):=by
   rw[List.drop_append,ht,show(L.take (off+k)).drop (off+(k+1)+r.length)=[]from List.drop_eq_nil_of_le Yi,show off+(k+1)+r.length - (off+k)=r.length+1 by omega];simp[List.drop_drop];congr 1;omega
  rw[e1,e2];simp
theorem fill_fold (C Z:Array Value) (off:Nat) (h:off+C.size<=Z.size):
  C.zipIdx.foldl (fun(cs:Array Value) (x:Value×Nat)=>cs.setIfInBounds (off+x.2) x.1) Z=(Z.toList.take off ++ C.toList ++ Z.toList.drop (off+C.size)).toArray:=by
 apply Array.ext';rw[<-Array.foldl_toList,Array.toList_zipIdx,fold_set C.toList 0 off Z (by have:C.toList.length=C.size:=rfl;omega)];simp
end
end Go.Proofs.YtimcfaoabaflkaaGreatDoor
