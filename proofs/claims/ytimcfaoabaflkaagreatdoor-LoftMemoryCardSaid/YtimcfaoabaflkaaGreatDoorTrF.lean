/- trace: a fit, a take. -/
import Derived.Test.YtimcfaoabaflkaaGreatDoorHex
import Derived.Laws.EntriesVeiled
import Derived.Lib.Split
import Derived.Lib.Join
namespace Go.Proofs.YtimcfaoabaflkaaGreatDoor
open AbA AbI
set_option maxHeartbeats 4000000
set_option maxRecDepth 100000
open Go.Proofs.Tryz
theorem Uj {P:Prop} (h:P:=by
 refine⟨?_,?_,?_,?_,?_,?_,?_,?_,trivial⟩
 ·refine⟨λv u u1 h g=>?_,λV u hu hk=>⟨Yh,?_⟩⟩
  ·obtain⟨q,T,nf,h1,h2⟩:=h;exact⟨q,T,nf,h1,g.heap h2⟩
  ·go_simp;rw[ii.enter];refine(Dg _).mono ?_;rintro e w2 ⟨q,T,nf,rfl,hq,hg⟩;exact⟨_,rfl,⟨q,T,nf,rfl,hq⟩,hg⟩
 iterate 2 ·exact osA
 ·refine⟨λv u u1 h g=>?_,λV u hu hk=>⟨Yh,?_⟩⟩
  ·obtain⟨q,T,h1,h2⟩:=h;exact⟨q,T,h1,g.heap h2⟩
  ·obtain⟨q,T,nf,hv,hq⟩:=hk 0 _ rfl Yh;go_simp;exact⟨⟨q,T,rfl,hq⟩,Yu _⟩
 iterate 2 ·exact osA
 ·intro V u hu hk;obtain⟨q,T,hv,hq⟩:=hk 3 _ rfl Yh;refine⟨Yh,?_⟩;go_simp;exact HC.out q T _ (G0.out.trans hu) hq
 ·(first | exact trivial | exact osGr | (refine⟨osK,?_⟩;intro V u hu hk;refine⟨Yh,aw Yh ?_⟩;obtain⟨hc,hf,hz⟩:=hu.cells;go_simp;skip) | (refine⟨osK,?_⟩;intro V u hu hk;refine⟨Yh,?_⟩;obtain⟨hc,hf,hz⟩:=hu.cells;go_simp;skip) | (intro V u hu hk;refine⟨Yh,?_⟩;obtain⟨hc,hf,hz⟩:=hu.cells;go_simp;first | exact⟨rfl,Yu _⟩ | skip) | (intro V u hu hk;show _=false;kernel_rfl))):P:=h
section
open Go.RowKit Go.Shelf Go.Lib
theorem fitD_no (p0 p1 p2 p3 p4 p5 p6 p7 k:Nat) (pc:Int) (c0 c1 c2 c3 c4 c5 c6 c7:Nat) (v:Value) (L:List (List Nat)) (w:World) (q:Nat) (T:TypeId) (hq:w.heap[q]?=some (.cells #[.func (.func 305) #[] #[]] T (0,0))) (hv:ef w v L) (h:pc < 0\/(L.length:Int)<=pc\/[c0,c1,c2,c3,c4,c5,c6,c7]≠aq):
  Calls prog 307 #[.agg #[p0,p1,p2,p3,p4,p5,p6,p7,v],.agg #[Ys k,Yp pc,c0,c1,c2,c3,c4,c5,c6,c7],Ym q] w λe w'=>e= .returned .nilIface/\Gr w w':=by
 have g0:Gr w ((w.alloc (.cells #[p0,p1,p2,p3,p4,p5,p6,p7,v] 42)).alloc (.cells #[Ys k,Yp pc,c0,c1,c2,c3,c4,c5,c6,c7] 54)):=((Yu w).alloc _).alloc _;have HK:=hid (Rh p0 p1 p2 p3 p4 p5 p6 p7 k pc c0 c1 c2 c3 c4 c5 c6 c7 v L _ (hv.gr g0) h);have r1:=ae (w.alloc (.cells #[p0,p1,p2,p3,p4,p5,p6,p7,v] 42)) (.cells #[Ys k,Yp pc,c0,c1,c2,c3,c4,c5,c6,c7] 54);have r0:=((Yu _).alloc (.cells #[Ys k,Yp pc,c0,c1,c2,c3,c4,c5,c6,c7] 54)).heap (ae w (.cells #[p0,p1,p2,p3,p4,p5,p6,p7,v] 42));have rq:=g0.heap hq;obtain⟨s0,t0,z0⟩:=ed r0;obtain⟨s1,t1,z1⟩:=ed r1;obtain⟨s2,t2,z2⟩:=ed rq;have G0:=hid g0;have hqw:q < w.heap.size:=(ed hq).2.2;clear r0 r1 rq hv g0;clear h;go_enter func307,ntmps307;go_wp2_with fail;refine HK.out.mono ?_;rintro e w1 ⟨rfl,g1⟩;have G1:=hid (G0.out.trans g1);clear g1 s0 t0 z0 s1 t1 z1 s2 t2 z2;go_wp2;go_ret;refine⟨rfl,?_⟩;exact G1.out.alloc _
theorem zbr (p0 p1 p2 p3 p4 p5 p6 p7 k i:Nat) (v:Value) (L:List (List Nat)) (w:World) (q:Nat) (T:TypeId) (hq:w.heap[q]?=some (.cells #[.func (.func 305) #[] #[]] T (0,0))) (hv:ef w v L) (hi:i < L.length) (hl:L.length<=8) (x0 x1 x2 x3 x4 x5 x6 x7:Nat) (hx:L[i]=[x0,x1,x2,x3,x4,x5,x6,x7]):
  Calls prog 307 #[.agg #[p0,p1,p2,p3,p4,p5,p6,p7,v],.agg #[Ys k,Yp i,Yq 0,Yq 0,Yq 0,Yq 0,Yq 0,Yq 0,Yq 0,Yq 0],Ym q] w λe w'=>e= .returned (.iface 416 (.agg #[Ys ((2:Int) ^ i),x0,x1,x2,x3,x4,x5,x6,x7]))/\Gr w w':=by
 have g0:Gr w ((w.alloc (.cells #[p0,p1,p2,p3,p4,p5,p6,p7,v] 42)).alloc (.cells #[Ys k,Yp i,Yq 0,Yq 0,Yq 0,Yq 0,Yq 0,Yq 0,Yq 0,Yq 0] 54)):=((Yu w).alloc _).alloc _;have HK:=hid (Ky p0 p1 p2 p3 p4 p5 p6 p7 k i v L _ (hv.gr g0) hi hl x0 x1 x2 x3 x4 x5 x6 x7 hx);have r1:=ae (w.alloc (.cells #[p0,p1,p2,p3,p4,p5,p6,p7,v] 42)) (.cells #[Ys k,Yp i,Yq 0,Yq 0,Yq 0,Yq 0,Yq 0,Yq 0,Yq 0,Yq 0] 54);have r0:=((Yu _).alloc (.cells #[Ys k,Yp i,Yq 0,Yq 0,Yq 0,Yq 0,Yq 0,Yq 0,Yq 0,Yq 0] 54)).heap (ae w (.cells #[p0,p1,p2,p3,p4,p5,p6,p7,v] 42));have rq:=g0.heap hq;obtain⟨s0,t0,z0⟩:=ed r0;obtain⟨s1,t1,z1⟩:=ed r1;obtain⟨s2,t2,z2⟩:=ed rq;have G0:=hid g0;have hqw:q < w.heap.size:=(ed hq).2.2;clear r0 r1 rq hv g0;clear hx hi hl;go_enter func307,ntmps307;go_wp2_with fail;refine HK.out.mono ?_;rintro e w1 ⟨rfl,g1⟩;have G1:=hid (G0.out.trans g1);clear g1 s0 t0 z0 s1 t1 z1 s2 t2 z2;go_wp2;go_ret;refine⟨rfl,?_⟩;exact G1.out.alloc _
theorem Zu (p0 p1 p2 p3 p4 p5 p6 p7 k:Nat) (pc:Int) (c0 c1 c2 c3 c4 c5 c6 c7:Nat) (v:Value) (L:List (List Nat)) (w:World) (q:Nat) (T:TypeId) (hq:w.heap[q]?=some (.cells #[.func (.func 305) #[] #[]] T (0,0))) (hv:ef w v L) (h:pc < 0\/(L.length:Int)<=pc\/[c0,c1,c2,c3,c4,c5,c6,c7]≠aq):
  Calls prog 308 #[.agg #[p0,p1,p2,p3,p4,p5,p6,p7,v],.agg #[Ys k,Yp pc,c0,c1,c2,c3,c4,c5,c6,c7],Ym q] w λe w'=>e= .returned .nilIface/\Gr w w':=by
 have g0:Gr w ((w.alloc (.cells #[p0,p1,p2,p3,p4,p5,p6,p7,v] 42)).alloc (.cells #[Ys k,Yp pc,c0,c1,c2,c3,c4,c5,c6,c7] 54)):=((Yu w).alloc _).alloc _;have HK:=hid (Rh p0 p1 p2 p3 p4 p5 p6 p7 k pc c0 c1 c2 c3 c4 c5 c6 c7 v L _ (hv.gr g0) h);have r1:=ae (w.alloc (.cells #[p0,p1,p2,p3,p4,p5,p6,p7,v] 42)) (.cells #[Ys k,Yp pc,c0,c1,c2,c3,c4,c5,c6,c7] 54);have r0:=((Yu _).alloc (.cells #[Ys k,Yp pc,c0,c1,c2,c3,c4,c5,c6,c7] 54)).heap (ae w (.cells #[p0,p1,p2,p3,p4,p5,p6,p7,v] 42));have rq:=g0.heap hq;obtain⟨s0,t0,z0⟩:=ed r0;obtain⟨s1,t1,z1⟩:=ed r1;obtain⟨s2,t2,z2⟩:=ed rq;have G0:=hid g0;have hqw:q < w.heap.size:=(ed hq).2.2;clear r0 r1 rq hv g0;clear h;go_enter func308,ntmps308;go_wp2_with fail;refine HK.out.mono ?_;rintro e w1 ⟨rfl,g1⟩;have G1:=hid (G0.out.trans g1);clear g1 s0 t0 z0 s1 t1 z1 s2 t2 z2;go_wp2;go_ret;refine⟨rfl,?_⟩;exact G1.out.alloc _
theorem Si (p0 p1 p2 p3 p4 p5 p6 p7 k i:Nat) (v:Value) (L:List (List Nat)) (w:World) (q:Nat) (T:TypeId) (hq:w.heap[q]?=some (.cells #[.func (.func 305) #[] #[]] T (0,0))) (hv:ef w v L) (hi:i < L.length) (hl:L.length<=8) (x0 x1 x2 x3 x4 x5 x6 x7:Nat) (hx:L[i]=[x0,x1,x2,x3,x4,x5,x6,x7]):
  Calls prog 308 #[.agg #[p0,p1,p2,p3,p4,p5,p6,p7,v],.agg #[Ys k,Yp i,Yq 0,Yq 0,Yq 0,Yq 0,Yq 0,Yq 0,Yq 0,Yq 0],Ym q] w λe w'=>e= .returned (.iface 417 (.agg #[Ys ((2:Int) ^ i),x0,x1,x2,x3,x4,x5,x6,x7]))/\Gr w w':=by
 have g0:Gr w ((w.alloc (.cells #[p0,p1,p2,p3,p4,p5,p6,p7,v] 42)).alloc (.cells #[Ys k,Yp i,Yq 0,Yq 0,Yq 0,Yq 0,Yq 0,Yq 0,Yq 0,Yq 0] 54)):=((Yu w).alloc _).alloc _;have HK:=hid (Ky p0 p1 p2 p3 p4 p5 p6 p7 k i v L _ (hv.gr g0) hi hl x0 x1 x2 x3 x4 x5 x6 x7 hx);have r1:=ae (w.alloc (.cells #[p0,p1,p2,p3,p4,p5,p6,p7,v] 42)) (.cells #[Ys k,Yp i,Yq 0,Yq 0,Yq 0,Yq 0,Yq 0,Yq 0,Yq 0,Yq 0] 54);have r0:=((Yu _).alloc (.cells #[Ys k,Yp i,Yq 0,Yq 0,Yq 0,Yq 0,Yq 0,Yq 0,Yq 0,Yq 0] 54)).heap (ae w (.cells #[p0,p1,p2,p3,p4,p5,p6,p7,v] 42));have rq:=g0.heap hq;obtain⟨s0,t0,z0⟩:=ed r0;obtain⟨s1,t1,z1⟩:=ed r1;obtain⟨s2,t2,z2⟩:=ed rq;have G0:=hid g0;have hqw:q < w.heap.size:=(ed hq).2.2;clear r0 r1 rq hv g0;clear hx hi hl;go_enter func308,ntmps308;go_wp2_with fail;refine HK.out.mono ?_;rintro e w1 ⟨rfl,g1⟩;have G1:=hid (G0.out.trans g1);clear g1 s0 t0 z0 s1 t1 z1 s2 t2 z2;go_wp2;go_ret;refine⟨rfl,?_⟩;exact G1.out.alloc _
theorem Dg (w:World):
  Calls prog 291 #[] w λe w'=>∃(q:Nat) (T:TypeId) (nf:Value),e= .returned (.agg #[nf,.func (.func 306) #[] #[],.func (.func 307) #[] #[Ym q],.func (.func 308) #[] #[Ym q]])/\
   w'.heap[q]?=some (.cells #[.func (.func 305) #[] #[]] T (0,0))/\Gr w w':=by
 have hmf:∀(fn:Fn) (first cap:Array Value) (w:World),(Instr.makeFunc fn first cap).run prog w= .ok (.func fn first cap) w:=λ_ _ _ _=>rfl;go_enter func291,ntmps291;go_wp2;have hb:=ae (w.alloc (.cells #[.nilFunc,.func (.func 306) #[] #[],.func (.func 307) #[] #[Ym (w.heap.size+1)],.func (.func 308) #[] #[Ym (w.heap.size+1)]] 388)) (.cells #[.func (.func 305) #[] #[]] 411);rw[World.size_alloc]at hb;have hg:Gr w ((w.alloc (.cells #[.nilFunc,.func (.func 306) #[] #[],.func (.func 307) #[] #[Ym (w.heap.size+1)],.func (.func 308) #[] #[Ym (w.heap.size+1)]] 388)).alloc (.cells #[.func (.func 305) #[] #[]] 411)):=((Yu w).alloc _).alloc _;exact bodyPost_ret (v:= .agg #[.nilFunc,.func (.func 306) #[] #[],.func (.func 307) #[] #[Ym (w.heap.size+1)],.func (.func 308) #[] #[Ym (w.heap.size+1)]]) (by simp[results,results291,go_sem]) rfl ⟨_,_,_,rfl,hb,hg⟩
def Jo (v:Value) (u:World):Prop:=∃(q:Nat) (T:TypeId) (nf:Value),v=(.agg #[nf,.func (.func 306) #[] #[],.func (.func 307) #[] #[Ym q],.func (.func 308) #[] #[Ym q]])/\u.heap[q]?=some (.cells #[.func (.func 305) #[] #[]] T (0,0))
def KeptF (f:FuncId) (v:Value) (u:World):Prop:=∃(q:Nat) (T:TypeId),v= .func (.func f) #[] #[Ym q]/\u.heap[q]?=some (.cells #[.func (.func 305) #[] #[]] T (0,0))
theorem Ty (p0 p1 p2 p3 p4 p5 p6 p7 k:Nat) (pc:Int) (c0 c1 c2 c3 c4 c5 c6 c7:Nat) (v:Value) (w:World) (h:k=0\/3 < k):
  Calls prog 262 #[.agg #[p0,p1,p2,p3,p4,p5,p6,p7,v],.agg #[Ys k,Yp pc,c0,c1,c2,c3,c4,c5,c6,c7]] w λe w'=>e= .returned .nilIface/\Gr w w':=by
 have g0:Gr w ((w.alloc (.cells #[p0,p1,p2,p3,p4,p5,p6,p7,v] 42)).alloc (.cells #[Ys k,Yp pc,c0,c1,c2,c3,c4,c5,c6,c7] 54)):=((Yu w).alloc _).alloc _;have HG:=hid g0;clear g0;rcases h with rfl | h
 ·go_enter func262,ntmps262;go_wp2;go_ret;exact⟨rfl,HG.out⟩
 ·have h1:¬(k:Int) < 1:=Yi;have h2:(3:Int) < k:=Yi;go_enter func262,ntmps262;go_wp2;go_ret;exact⟨rfl,HG.out⟩
theorem zaZ (p0 p1 p2 p3 p4 p5 p6 p7:Nat) (pc:Int) (c0 c1 c2 c3 c4 c5 c6 c7:Nat) (v D:Value) (w:World) (HC:Hid (∀u,Gr w u->Calls prog 306 #[.agg #[p0,p1,p2,p3,p4,p5,p6,p7,v],.agg #[Ys 1,Yp pc,c0,c1,c2,c3,c4,c5,c6,c7]] u λe w'=>e= .returned D/\Gr u w')):
  Calls prog 262 #[.agg #[p0,p1,p2,p3,p4,p5,p6,p7,v],.agg #[Ys 1,Yp pc,c0,c1,c2,c3,c4,c5,c6,c7]] w λe w'=>e= .returned D/\Gr w w':=by
 have g0:Gr w ((w.alloc (.cells #[p0,p1,p2,p3,p4,p5,p6,p7,v] 42)).alloc (.cells #[Ys 1,Yp pc,c0,c1,c2,c3,c4,c5,c6,c7] 54)):=((Yu w).alloc _).alloc _;have r1:=ae (w.alloc (.cells #[p0,p1,p2,p3,p4,p5,p6,p7,v] 42)) (.cells #[Ys 1,Yp pc,c0,c1,c2,c3,c4,c5,c6,c7] 54);have r0:=((Yu _).alloc (.cells #[Ys 1,Yp pc,c0,c1,c2,c3,c4,c5,c6,c7] 54)).heap (ae w (.cells #[p0,p1,p2,p3,p4,p5,p6,p7,v] 42));have G0:=hid g0;obtain⟨s0,t0,z0⟩:=ed r0;obtain⟨s1,t1,z1⟩:=ed r1;clear g0;go_enter func262,ntmps262;go_wp2_with fail;rw[World.size_alloc]at r1 s1 t1 z1;have hsz:((w.alloc (.cells #[p0,p1,p2,p3,p4,p5,p6,p7,v] 42)).alloc (.cells #[Ys 1,Yp pc,c0,c1,c2,c3,c4,c5,c6,c7] 54)).heap.size=w.heap.size+1+1:=Yj;generalize (w.alloc (.cells #[p0,p1,p2,p3,p4,p5,p6,p7,v] 42)).alloc (.cells #[Ys 1,Yp pc,c0,c1,c2,c3,c4,c5,c6,c7] 54)=U at *;generalize hn0:w.heap.size=n0 at *;refine ah [.sat Jo,
  .val (Ym (n0+1)),.val (Ys 1),.val (.func (.func 306) #[] #[]),.val (.agg #[p0,p1,p2,p3,p4,p5,p6,p7,v]),.val (.agg #[Ys 1,Yp pc,c0,c1,c2,c3,c4,c5,c6,c7]),.val D,.val D] Yh Yh (λV=>finT) ?_ ?_
 ·refine⟨?_,?_,?_,?_,?_,?_,?_,?_,trivial⟩
  ·refine⟨λv u u1 h g=>?_,λV u hu hk=>⟨Yh,?_⟩⟩
   ·obtain⟨q,T,nf,h1,h2⟩:=h;exact⟨q,T,nf,h1,g.heap h2⟩
   ·go_simp;rw[ii.enter];refine(Dg _).mono ?_;rintro e w2 ⟨q,T,nf,rfl,hq,hg⟩;exact⟨_,rfl,⟨q,T,nf,rfl,hq⟩,hg⟩
  iterate 2 ·exact osA
  ·intro V u hu hk;obtain⟨q,T,nf,hv,hq⟩:=hk 0 _ rfl Yh;refine⟨Yh,?_⟩;go_simp;exact⟨rfl,Yu _⟩
  iterate 2 ·exact osA
  ·intro V u hu hk;refine⟨Yh,?_⟩;go_simp;exact HC.out _ (G0.out.trans hu)
  ·exact osA
 ·intro V u hg hs;go_simp;go_wp2;go_ret;exact⟨rfl,G0.out.trans hg⟩
theorem zaY (p0 p1 p2 p3 p4 p5 p6 p7:Nat) (pc:Int) (c0 c1 c2 c3 c4 c5 c6 c7:Nat) (v D:Value) (w:World) (HC:Hid (∀(q:Nat) (T:TypeId) u,Gr w u->u.heap[q]?=some (.cells #[.func (.func 305) #[] #[]] T (0,0))->Calls prog 307 #[.agg #[p0,p1,p2,p3,p4,p5,p6,p7,v],.agg #[Ys 2,Yp pc,c0,c1,c2,c3,c4,c5,c6,c7],Ym q] u λe w'=>e= .returned D/\Gr u w')):
  Calls prog 262 #[.agg #[p0,p1,p2,p3,p4,p5,p6,p7,v],.agg #[Ys 2,Yp pc,c0,c1,c2,c3,c4,c5,c6,c7]] w λe w'=>e= .returned D/\Gr w w':=by
 have g0:Gr w ((w.alloc (.cells #[p0,p1,p2,p3,p4,p5,p6,p7,v] 42)).alloc (.cells #[Ys 2,Yp pc,c0,c1,c2,c3,c4,c5,c6,c7] 54)):=((Yu w).alloc _).alloc _;have r1:=ae (w.alloc (.cells #[p0,p1,p2,p3,p4,p5,p6,p7,v] 42)) (.cells #[Ys 2,Yp pc,c0,c1,c2,c3,c4,c5,c6,c7] 54);have r0:=((Yu _).alloc (.cells #[Ys 2,Yp pc,c0,c1,c2,c3,c4,c5,c6,c7] 54)).heap (ae w (.cells #[p0,p1,p2,p3,p4,p5,p6,p7,v] 42));have G0:=hid g0;obtain⟨s0,t0,z0⟩:=ed r0;obtain⟨s1,t1,z1⟩:=ed r1;clear g0;go_enter func262,ntmps262;go_wp2_with fail;rw[World.size_alloc]at r1 s1 t1 z1;have hsz:((w.alloc (.cells #[p0,p1,p2,p3,p4,p5,p6,p7,v] 42)).alloc (.cells #[Ys 2,Yp pc,c0,c1,c2,c3,c4,c5,c6,c7] 54)).heap.size=w.heap.size+1+1:=Yj;generalize (w.alloc (.cells #[p0,p1,p2,p3,p4,p5,p6,p7,v] 42)).alloc (.cells #[Ys 2,Yp pc,c0,c1,c2,c3,c4,c5,c6,c7] 54)=U at *;generalize hn0:w.heap.size=n0 at *;refine ah [.sat Jo,
  .val (Ym (n0+1)),.val (Ys 2),.sat (KeptF 307),.val (.agg #[p0,p1,p2,p3,p4,p5,p6,p7,v]),.val (.agg #[Ys 2,Yp pc,c0,c1,c2,c3,c4,c5,c6,c7]),.val D,.val D] Yh Yh (λV=>finT) ?_ ?_
 ·exact Uj
 ·intro V u hg hs;go_simp;go_wp2;go_ret;exact⟨rfl,G0.out.trans hg⟩
theorem zaX (p0 p1 p2 p3 p4 p5 p6 p7:Nat) (pc:Int) (c0 c1 c2 c3 c4 c5 c6 c7:Nat) (v D:Value) (w:World) (HC:Hid (∀(q:Nat) (T:TypeId) u,Gr w u->u.heap[q]?=some (.cells #[.func (.func 305) #[] #[]] T (0,0))->Calls prog 308 #[.agg #[p0,p1,p2,p3,p4,p5,p6,p7,v],.agg #[Ys 3,Yp pc,c0,c1,c2,c3,c4,c5,c6,c7],Ym q] u λe w'=>e= .returned D/\Gr u w')):
  Calls prog 262 #[.agg #[p0,p1,p2,p3,p4,p5,p6,p7,v],.agg #[Ys 3,Yp pc,c0,c1,c2,c3,c4,c5,c6,c7]] w λe w'=>e= .returned D/\Gr w w':=by
 have g0:Gr w ((w.alloc (.cells #[p0,p1,p2,p3,p4,p5,p6,p7,v] 42)).alloc (.cells #[Ys 3,Yp pc,c0,c1,c2,c3,c4,c5,c6,c7] 54)):=((Yu w).alloc _).alloc _;have r1:=ae (w.alloc (.cells #[p0,p1,p2,p3,p4,p5,p6,p7,v] 42)) (.cells #[Ys 3,Yp pc,c0,c1,c2,c3,c4,c5,c6,c7] 54);have r0:=((Yu _).alloc (.cells #[Ys 3,Yp pc,c0,c1,c2,c3,c4,c5,c6,c7] 54)).heap (ae w (.cells #[p0,p1,p2,p3,p4,p5,p6,p7,v] 42));have G0:=hid g0;obtain⟨s0,t0,z0⟩:=ed r0;obtain⟨s1,t1,z1⟩:=ed r1;clear g0;go_enter func262,ntmps262;go_wp2_with fail;rw[World.size_alloc]at r1 s1 t1 z1;have hsz:((w.alloc (.cells #[p0,p1,p2,p3,p4,p5,p6,p7,v] 42)).alloc (.cells #[Ys 3,Yp pc,c0,c1,c2,c3,c4,c5,c6,c7] 54)).heap.size=w.heap.size+1+1:=Yj;generalize (w.alloc (.cells #[p0,p1,p2,p3,p4,p5,p6,p7,v] 42)).alloc (.cells #[Ys 3,Yp pc,c0,c1,c2,c3,c4,c5,c6,c7] 54)=U at *;generalize hn0:w.heap.size=n0 at *;refine ah [.sat Jo,
  .val (Ym (n0+1)),.val (Ys 3),.sat (KeptF 308),.val (.agg #[p0,p1,p2,p3,p4,p5,p6,p7,v]),.val (.agg #[Ys 3,Yp pc,c0,c1,c2,c3,c4,c5,c6,c7]),.val D,.val D] Yh Yh (λV=>finT) ?_ ?_
 ·exact Uj
 ·intro V u hg hs;go_simp;go_wp2;go_ret;exact⟨rfl,G0.out.trans hg⟩
def okA (n k:Nat) (pc:Int) (c:List Nat):Bool:=(decide (k=1) && decide (pc=0) && !decide (c=aq)) || ((decide (k=2) || decide (k=3)) && decide (0<=pc) && decide (pc < n) && decide (c=aq))
theorem Re (p0 p1 p2 p3 p4 p5 p6 p7 k:Nat) (pc:Int) (c0 c1 c2 c3 c4 c5 c6 c7:Nat) (v:Value) (L:List (List Nat)) (w:World) (hv:ef w v L) (h:okA L.length k pc [c0,c1,c2,c3,c4,c5,c6,c7]=false):
  Calls prog 262 #[.agg #[p0,p1,p2,p3,p4,p5,p6,p7,v],.agg #[Ys k,Yp pc,c0,c1,c2,c3,c4,c5,c6,c7]] w λe w'=>e= .returned .nilIface/\Gr w w':=by
 by_cases h1:k=1
 ·subst h1;refine zaZ p0 p1 p2 p3 p4 p5 p6 p7 pc c0 c1 c2 c3 c4 c5 c6 c7 v .nilIface w (hid λu hu=>cutD_no p0 p1 p2 p3 p4 p5 p6 p7 1 pc c0 c1 c2 c3 c4 c5 c6 c7 v u ?_)
  by_cases hp:pc=0
  ·exact .inr (Decidable.byContradiction λk=>by simp[okA,hp,k]at h)
  ·exact .inl hp
 ·by_cases h23:k=2\/k=3
  ·have hz:pc < 0\/(L.length:Int)<=pc\/[c0,c1,c2,c3,c4,c5,c6,c7]≠aq:=by
    by_cases a:pc < 0
    ·exact .inl a
    ·by_cases b:(L.length:Int)<=pc
     ·exact .inr (.inl b)
     ·refine .inr (.inr λk=>?_);have a':0<=pc:=Yi;have b':pc < L.length:=Yi;rw[okA,k]at h;rcases h23 with rfl | rfl <;> simp[a',b']at h
   rcases h23 with rfl | rfl
   ·exact zaY p0 p1 p2 p3 p4 p5 p6 p7 pc c0 c1 c2 c3 c4 c5 c6 c7 v .nilIface w (hid λq T u hu hq=>fitD_no p0 p1 p2 p3 p4 p5 p6 p7 2 pc c0 c1 c2 c3 c4 c5 c6 c7 v L u q T hq (hv.gr hu) hz)
   ·exact zaX p0 p1 p2 p3 p4 p5 p6 p7 pc c0 c1 c2 c3 c4 c5 c6 c7 v .nilIface w (hid λq T u hu hq=>Zu p0 p1 p2 p3 p4 p5 p6 p7 3 pc c0 c1 c2 c3 c4 c5 c6 c7 v L u q T hq (hv.gr hu) hz)
  ·exact Ty p0 p1 p2 p3 p4 p5 p6 p7 k pc c0 c1 c2 c3 c4 c5 c6 c7 v w Yi
theorem Kq (p0 p1 p2 p3 p4 p5 p6 p7:Nat) (c0 c1 c2 c3 c4 c5 c6 c7:Nat) (v:Value) (w:World) (hz:[c0,c1,c2,c3,c4,c5,c6,c7]≠aq):
  Calls prog 262 #[.agg #[p0,p1,p2,p3,p4,p5,p6,p7,v],.agg #[Ys 1,Yp 0,c0,c1,c2,c3,c4,c5,c6,c7]] w λe w'=>e= .returned (.iface 413 (.agg #[c0,c1,c2,c3,c4,c5,c6,c7]))/\Gr w w':=
 zaZ p0 p1 p2 p3 p4 p5 p6 p7 0 c0 c1 c2 c3 c4 c5 c6 c7 v _ w (hid λu _=>zbD p0 p1 p2 p3 p4 p5 p6 p7 1 c0 c1 c2 c3 c4 c5 c6 c7 v u hz)
theorem Ko (p0 p1 p2 p3 p4 p5 p6 p7 i:Nat) (v:Value) (L:List (List Nat)) (w:World) (hv:ef w v L) (hi:i < L.length) (hl:L.length<=8) (x0 x1 x2 x3 x4 x5 x6 x7:Nat) (hx:L[i]=[x0,x1,x2,x3,x4,x5,x6,x7]):
  Calls prog 262 #[.agg #[p0,p1,p2,p3,p4,p5,p6,p7,v],.agg #[Ys 2,Yp i,Yq 0,Yq 0,Yq 0,Yq 0,Yq 0,Yq 0,Yq 0,Yq 0]] w λe w'=>e= .returned (.iface 416 (.agg #[Ys ((2:Int) ^ i),x0,x1,x2,x3,x4,x5,x6,x7]))/\Gr w w':=
 zaY p0 p1 p2 p3 p4 p5 p6 p7 i 0 0 0 0 0 0 0 0 v _ w (hid λq T u hu hq=>zbr p0 p1 p2 p3 p4 p5 p6 p7 2 i v L u q T hq (hv.gr hu) hi hl x0 x1 x2 x3 x4 x5 x6 x7 hx)
theorem Gd (p0 p1 p2 p3 p4 p5 p6 p7 i:Nat) (v:Value) (L:List (List Nat)) (w:World) (hv:ef w v L) (hi:i < L.length) (hl:L.length<=8) (x0 x1 x2 x3 x4 x5 x6 x7:Nat) (hx:L[i]=[x0,x1,x2,x3,x4,x5,x6,x7]):
  Calls prog 262 #[.agg #[p0,p1,p2,p3,p4,p5,p6,p7,v],.agg #[Ys 3,Yp i,Yq 0,Yq 0,Yq 0,Yq 0,Yq 0,Yq 0,Yq 0,Yq 0]] w λe w'=>e= .returned (.iface 417 (.agg #[Ys ((2:Int) ^ i),x0,x1,x2,x3,x4,x5,x6,x7]))/\Gr w w':=
 zaX p0 p1 p2 p3 p4 p5 p6 p7 i 0 0 0 0 0 0 0 0 v _ w (hid λq T u hu hq=>Si p0 p1 p2 p3 p4 p5 p6 p7 3 i v L u q T hq (hv.gr hu) hi hl x0 x1 x2 x3 x4 x5 x6 x7 hx)
theorem zaW (p0 p1 p2 p3 p4 p5 p6 p7 k:Nat) (pc:Int) (c0 c1 c2 c3 c4 c5 c6 c7:Nat) (v:Value) (L:List (List Nat)) (w:World) (hv:ef w v L) (hl:L.length<=8) (h:okA L.length k pc [c0,c1,c2,c3,c4,c5,c6,c7]=true):
  ∃(T:TypeId) (x:Value),∀u,Gr w u->Calls prog 262 #[.agg #[p0,p1,p2,p3,p4,p5,p6,p7,v],.agg #[Ys k,Yp pc,c0,c1,c2,c3,c4,c5,c6,c7]] u λe w'=>e= .returned (.iface T x)/\Gr u w':=by
 unfold okA at h;rw[Bool.or_eq_true]at h;rcases h with h | h
 ·simp only[Bool.and_eq_true,decide_eq_true_eq,Bool.not_eq_true',decide_eq_false_iff_not]at h;obtain⟨⟨rfl,rfl⟩,hz⟩:=h;exact⟨_,_,λu _=>Kq p0 p1 p2 p3 p4 p5 p6 p7 c0 c1 c2 c3 c4 c5 c6 c7 v u hz⟩
 ·simp only[Bool.and_eq_true,Bool.or_eq_true,decide_eq_true_eq]at h;obtain⟨⟨⟨hk,h0⟩,h1⟩,hz⟩:=h;obtain⟨i,rfl⟩:∃i:Nat,pc=i:=⟨pc.toNat,Yi⟩;simp only[List.cons.injEq,and_true]at hz;obtain⟨rfl,rfl,rfl,rfl,rfl,rfl,rfl,rfl⟩:=hz;have hi:i < L.length:=Yi;obtain⟨a,cap,rfl,hcap,hc⟩:=id hv;obtain⟨g,o,rfl,hgl,x0,x1,x2,x3,x4,x5,x6,x7,hp, -⟩:=hc i hi;rcases hk with rfl | rfl
  ·exact⟨_,_,λu hu=>Ko p0 p1 p2 p3 p4 p5 p6 p7 i _ L u (hv.gr hu) hi hl x0 x1 x2 x3 x4 x5 x6 x7 hp⟩
  ·exact⟨_,_,λu hu=>Gd p0 p1 p2 p3 p4 p5 p6 p7 i _ L u (hv.gr hu) hi hl x0 x1 x2 x3 x4 x5 x6 x7 hp⟩
def Er (P:List Nat) (L:List (List Nat)) (k:Nat) (pc:Int) (c:List Nat):Nat:=if ci P L≠0 then ci P L else if okA L.length k pc c then 0 else 1
theorem Bh (p0 p1 p2 p3 p4 p5 p6 p7 k:Nat) (pc:Int) (c0 c1 c2 c3 c4 c5 c6 c7:Nat) (v:Value) (L:List (List Nat)) (w:World) (hv:ef w v L):
  Calls prog 217 #[.agg #[p0,p1,p2,p3,p4,p5,p6,p7,v],.agg #[Ys k,Yp pc,c0,c1,c2,c3,c4,c5,c6,c7]] w λe w'=>e= .returned (Yp (Er [p0,p1,p2,p3,p4,p5,p6,p7] L k pc [c0,c1,c2,c3,c4,c5,c6,c7]))/\Gr w w':=by
 have g0:Gr w ((w.alloc (.cells #[p0,p1,p2,p3,p4,p5,p6,p7,v] 42)).alloc (.cells #[Ys k,Yp pc,c0,c1,c2,c3,c4,c5,c6,c7] 54)):=((Yu w).alloc _).alloc _;have r1:=ae (w.alloc (.cells #[p0,p1,p2,p3,p4,p5,p6,p7,v] 42)) (.cells #[Ys k,Yp pc,c0,c1,c2,c3,c4,c5,c6,c7] 54);have r0:=((Yu _).alloc (.cells #[Ys k,Yp pc,c0,c1,c2,c3,c4,c5,c6,c7] 54)).heap (ae w (.cells #[p0,p1,p2,p3,p4,p5,p6,p7,v] 42));rw[World.size_alloc]at r1;have G0:=hid g0;have R0:=hid r0;have R1:=hid r1;obtain⟨s0,t0,z0⟩:=ed r0;have CP:=hid (λu (g:Gr w u)=>im p0 p1 p2 p3 p4 p5 p6 p7 v L u (hv.gr g));have MN:=hid (λh u (g:Gr w u)=>Re p0 p1 p2 p3 p4 p5 p6 p7 k pc c0 c1 c2 c3 c4 c5 c6 c7 v L u (hv.gr g) h);have MY:=hid (λhl h=>zaW p0 p1 p2 p3 p4 p5 p6 p7 k pc c0 c1 c2 c3 c4 c5 c6 c7 v L w hv hl h);have HL:Hid (ci [p0,p1,p2,p3,p4,p5,p6,p7] L=0->L.length<=8):=hid λh=>by
  unfold ci at h;split at h
  ·cases h
  ·omega
 clear r0 r1 g0 hv;obtain⟨q,hq⟩:∃q,Er [p0,p1,p2,p3,p4,p5,p6,p7] L k pc [c0,c1,c2,c3,c4,c5,c6,c7]=q:=⟨_,rfl⟩;have HQ:=hid hq;rw[hq];unfold Er at HQ;clear hq;generalize okA L.length k pc [c0,c1,c2,c3,c4,c5,c6,c7]=ok at *;generalize ci [p0,p1,p2,p3,p4,p5,p6,p7] L=r at *;go_enter func217,ntmps217;go_wp2_with fail;refine(CP.out _ G0.out).mono ?_;rintro e w1 ⟨rfl,g1⟩;have G1:=hid (G0.out.trans g1);obtain⟨s0',t0',z0'⟩:=ed (g1.heap R0.out);obtain⟨s1',t1',z1'⟩:=ed (g1.heap R1.out);clear g1 s0 t0 z0
 by_cases hr:r=0
 ·subst hr;have HL8:=HL.out rfl;have HQ:Hid ((if ok=true then 0 else 1)=q):=hid (by simpa using HQ.out);clear HL CP;cases ok
  ·obtain rfl:=HQ.out;have MM:=hid (MN.out rfl);clear MY MN;go_wp2_with fail;refine(MM.out _ G1.out).mono ?_;rintro e w2 ⟨rfl,g2⟩;have G2:=hid (G1.out.trans g2);clear g2;go_wp2;go_ret;exact⟨rfl,G2.out⟩
  ·obtain rfl:=HQ.out;clear MN;obtain⟨T,x,hm⟩:=MY.out HL8 rfl;have HM:=hid hm;clear hm MY HL8;go_wp2_with fail;refine(HM.out _ G1.out).mono ?_;rintro e w2 ⟨rfl,g2⟩;have G2:=hid (G1.out.trans g2);clear g2;go_wp2;go_ret;exact⟨rfl,G2.out⟩
 ·have hr':¬(r:Int)=0:=Yi;have e1:q=r:=by
   have:=HQ.out;rw[if_pos hr]at this;exact this.symm
  subst e1;clear HL CP MN MY HQ;go_wp2;go_ret;exact⟨rfl,G1.out⟩
end
section
open Go.Lib
theorem Ao:∀(x:List UInt8),46∉x->index x [46]= -1
 | [],_=>rfl
 | a :: x,h=>by
  have h1:a≠46:=λe=>h (by rw[e];exact List.mem_cons_self);have h2:=Ao x (λhm=>h (List.mem_cons_of_mem _ hm));have e:List.isPrefixOf [46] (a :: x)=false:=by simp[List.isPrefixOf,Ne.symm h1]
  rw[index,e,h2];rfl
theorem Gj:∀(x r:List UInt8),46∉x->index (x ++ 46 :: r) [46]=x.length
 | [],r,_=>by
  show index (46 :: r) [46]=0;rw[index];simp[List.isPrefixOf]
 | a :: x,r,h=>by
  have h1:a≠46:=λe=>h (by rw[e];exact List.mem_cons_self);have h2:=Gj x r (λhm=>h (List.mem_cons_of_mem _ hm));have e:List.isPrefixOf [46] (a :: (x ++ 46 :: r))=false:=by simp[List.isPrefixOf,Ne.symm h1]
  rw[List.cons_append,index,e,h2];have h3:((x.length:Int) == -1)=false:=beq_eq_false_iff_ne.2 Yi;rw[h3];simp
theorem m5 (x y:List UInt8) (r:List (List UInt8)):join (x :: y :: r) [46]=x ++ 46 :: join (y :: r) [46]:=by
 simp[join,List.intercalate,List.intersperse]
theorem Cg:∀(ws:List (List UInt8)),ws≠[]->(∀w∈ws,46∉w)->count (join ws [46]) [46]=ws.length - 1/\splitK [46] 0 (ws.length - 1) (join ws [46])=ws
 | [],h,_=>absurd rfl h
 | [x],_,h=>by
  rw[join_one];exact⟨count_miss (Ao x (h x Yj)),rfl⟩
 | x :: y :: r,_,h=>by
  have hx:=h x Yj;obtain⟨h1,h2⟩:=Cg (y :: r) Yj (λw hw=>h w (List.mem_cons_of_mem _ hw));have hi:=Gj x (join (y :: r) [46]) hx;have hd:(x ++ 46 :: join (y :: r) [46]).drop (x.length+1)=join (y :: r) [46]:=by
   rw[List.drop_append,List.drop_eq_nil_of_le Yi];simp
  have ht:(x ++ 46 :: join (y :: r) [46]).take x.length=x:=List.take_left;rw[m5];constructor
  ·rw[count_hit Yj hi];show 1+count ((x ++ 46 :: join (y :: r) [46]).drop (x.length+1)) [46]=_;rw[hd,h1];simp;omega
  ·show splitK [46] 0 (r.length+1) _=_;have h3:((x.length:Int) == -1)=false:=beq_eq_false_iff_ne.2 Yi;rw[splitK,hi,h3];simp only[Bool.false_eq_true,if_false,Int.toNat_natCast,Nat.add_zero];rw[ht];show x :: splitK [46] 0 r.length ((x ++ 46 :: join (y :: r) [46]).drop (x.length+1))=_;rw[hd];have h4:splitK [46] 0 r.length (join (y :: r) [46])=y :: r:=h2;rw[h4]
theorem J0 (ws:List (List UInt8)) (hne:ws≠[]) (h:∀w∈ws,46∉w):
  countB ⟨(join ws [46]).toArray⟩ ⟨#[46]⟩=ws.length - 1/\splitB ⟨#[46]⟩ 0 (countB ⟨(join ws [46]).toArray⟩ ⟨#[46]⟩) ⟨(join ws [46]).toArray⟩=ws.map λl=>⟨l.toArray⟩:=by
 obtain⟨h1,h2⟩:=Cg ws hne h;have e1:countB ⟨(join ws [46]).toArray⟩ ⟨#[46]⟩=ws.length - 1:=h1;refine⟨e1,?_⟩;rw[e1];have h3:=splitB_data ⟨#[46]⟩ 0 (ws.length - 1) ⟨(join ws [46]).toArray⟩;have h4:splitK ([46]:List UInt8) 0 (ws.length - 1) (join ws [46])=ws:=h2;have h5:(splitB ⟨#[46]⟩ 0 (ws.length - 1) ⟨(join ws [46]).toArray⟩).map (·.data.toList)=ws:=h3.trans h4;have h6:=congrArg (List.map λl:List UInt8=>(⟨l.toArray⟩:ByteArray)) h5;rw[List.map_map]at h6;refine Eq.trans ?_ h6;exact(List.map_id _).symm.trans (List.map_congr_left (λb _=>rfl))
theorem ug {d:Nat} (h:d < 16):j0 d≠46:=by
 have:∀k:Fin 16,j0 k.1≠46:=Yk;exact this ⟨d,h⟩
theorem Dy:∀(f n:Nat),46∉Dz f n
 | 0,n=>by simp[Dz]
 | f+1,n=>by
  rw[zd0];split
  ·rename_i h;intro hm;exact ug h (List.mem_singleton.1 hm).symm
  ·intro hm;rcases List.mem_append.1 hm with hm | hm
   ·exact Dy f _ hm
   ·exact ug (Nat.mod_lt n Yi) (List.mem_singleton.1 hm).symm
end
end Go.Proofs.YtimcfaoabaflkaaGreatDoor
