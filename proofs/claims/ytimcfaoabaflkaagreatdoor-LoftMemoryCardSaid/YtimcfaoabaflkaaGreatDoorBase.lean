/- What a call that only reckons does to the world: it lays blocks of its own and draws; what was there stays. -/
import Derived.Test.YtimcfaoabaflkaaGreatDoorProg
import Derived.KernelRfl
import Derived.WalkKit
import Derived.WalkSpells
import Derived.WalkLawsBesides
import Derived.RegionTactic
import Derived.ChangeAlike
import Derived.Lib.Hide
import Derived.Deep.QuietTactic
import Derived.BigQuiet
import Derived.Sort.Grow
import Derived.Shelf.Abstract
import Derived.Laws.StructEq
import Derived.Deep.RegionHeld3
import Derived.Defers
import Derived.Recover
import Derived.Laws.Pointers
import Derived.OrdersIn
import Derived.RangeFuncCalls
import Derived.Lib.ConvBytes
import Derived.Lib.AtoiErrMem
import Derived.Laws.AppendOwn
import Derived.Laws.OwnMore
namespace Go.Proofs.YtimcfaoabaflkaaGreatDoor
set_option maxHeartbeats 2000000
set_option maxRecDepth 100000
open Go.Proofs.Tryz
theorem Xh {P:Prop} (h:P:=by
 go_wp2_with fail;refine(W2.out _).mono ?_;rintro e w2 ⟨rfl,hg2⟩;have bx2:=hg2.heap bx1;have g2:=g1.trans hg2;clear hg2 g1 bx1 cx fx zx;obtain⟨cx,fx,zx⟩:=ed bx2;cases b2
 ·go_wp2;go_ret;exact⟨rfl,g2⟩
 ·go_wp2_with fail;refine(W3.out _).mono ?_;rintro e w3 ⟨rfl,hg3⟩;have bx3:=hg3.heap bx2;have g3:=g2.trans hg3;clear hg3 g2 bx2 cx fx zx;obtain⟨cx,fx,zx⟩:=ed bx3;cases b3
  ·go_wp2;go_ret;exact⟨rfl,g3⟩
  ·go_wp2_with fail;refine(W4.out _).mono ?_;rintro e w4 ⟨rfl,hg4⟩;go_wp2;go_ret;exact⟨Yj,g3.trans hg4⟩):P:=h
instance:Coe Nat Value:=⟨λn=> .int .u64 n⟩
instance:Coe Int Value:=⟨λn=> .int .u64 n⟩
theorem Yh {P : Prop} (h : P := by kernel_rfl) : P := h
theorem Yi {P : Prop} (h : P := by omega) : P := h
theorem Yj {P : Prop} (h : P := by simp) : P := h
theorem Yk {P : Prop} (h : P := by decide) : P := h
inductive AbA|Ym(x0:Nat)|Yn(x0:Nat)|Yo(x0 x1:Nat)
open AbA
instance{x0}:CoeDep AbA (Ym x0) Value:=⟨.pointer (some ⟨x0,0,none⟩)⟩
instance{x0}:CoeDep AbA (Yn x0) (Option Addr):=⟨some ⟨x0,0,none⟩⟩
instance{x0 x1}:CoeDep AbA (Yo x0 x1) Addr:=⟨⟨x0,x1,none⟩⟩
inductive AbI|Yp(x0:Int)|Yq(x0:Int)|Ys(x0:Int)
open AbI
instance{x0}:CoeDep AbI (Yp x0) Value:=⟨.int .i64 x0⟩
instance{x0}:CoeDep AbI (Yq x0) Value:=⟨.int .u64 x0⟩
instance{x0}:CoeDep AbI (Ys x0) Value:=⟨.int .u8 x0⟩
theorem Yt {α : Type _} {a b : α} (h : some a = some b) : a = b := Option.some.inj h
theorem Yv (n : Nat) : n <= n := Nat.le_refl n
inductive AbBase|Za|Zb|Zc|Zd|Ze|Zf|Zg|Zr(x0:List UInt8)(x1:Int)|Zy(x0:Nat->Int)(x1:Int)|Ya(x0:Int)(x1:Nat->Int)
open AbBase
instance:CoeDep AbBase (Za) (Array Value):=⟨#[.string ⟨#[]⟩, .int .i64 0, .int .u64 0, .int .u64 0, .int .u64 0, .int .u64 0, .int .u64 0, .int .u64 0, .int .u64 0, .int .u64 0, .int .u8 0, .int .i64 0, .int .u64 0, .int .u64 0, .int .u64 0, .int .u64 0, .int .u64 0, .int .u64 0, .int .u64 0, .int .u64 0]⟩
instance:CoeDep AbBase (Zb) (Array Value):=⟨#[.int .u64 0, .int .u64 0, .int .u64 0, .int .u64 0, .int .u64 0, .int .u64 0, .int .u64 0, .int .u64 0, .int .u8 0]⟩
instance:CoeDep AbBase (Zc) (Array Value):=⟨#[.int .u64 0, .int .u64 0, .int .u64 0, .int .u64 0, .int .u64 0, .int .u64 0, .int .u64 0, .int .u64 0]⟩
instance:CoeDep AbBase (Zd) (Array Value):=⟨#[.int .u64 0, .int .u64 0, .int .u64 0, .int .u64 0, .int .u64 0, .int .u64 0, .int .u64 0, .int .u64 0, .slice none 0 0, .slice none 0 0]⟩
instance:CoeDep AbBase (Ze) (Array Value):=⟨#[.int .i64 0, .int .i64 0, .int .i64 0, .int .u64 0, .int .u64 0, .int .u64 0, .int .u64 0, .int .u64 0, .int .u64 0, .int .u64 0, .int .u64 0, .slice none 0 0, .slice none 0 0]⟩
instance:CoeDep AbBase (Zf) (Array Value):=⟨#[.int .u8 0, .int .i64 0, .int .u64 0, .int .u64 0, .int .u64 0, .int .u64 0, .int .u64 0, .int .u64 0, .int .u64 0, .int .u64 0]⟩
instance:CoeDep AbBase (Zg) (Array Value):=⟨#[.int .u8 0, .int .u64 0, .int .u64 0, .int .u64 0, .int .u64 0, .int .u64 0, .int .u64 0, .int .u64 0, .int .u64 0]⟩
instance{x0:List UInt8}{x1:Int}:CoeDep AbBase (Zr x0 x1) (Array Value):=⟨#[.string ⟨x0.toArray⟩, .int .i64 x1, .int .u64 0, .int .u64 0, .int .u64 0, .int .u64 0, .int .u64 0, .int .u64 0, .int .u64 0, .int .u64 0, .int .u8 0, .int .i64 0, .int .u64 0, .int .u64 0, .int .u64 0, .int .u64 0, .int .u64 0, .int .u64 0, .int .u64 0, .int .u64 0]⟩
instance{x0:Nat->Int}{x1:Int}:CoeDep AbBase (Zy x0 x1) (Array Value):=⟨#[(x0 0), (x0 1), (x0 2), (x0 3), (x0 4), (x0 5), (x0 6), (x0 7), .int .u8 x1]⟩
instance{x0:Int}{x1:Nat->Int}:CoeDep AbBase (Ya x0 x1) (Array Value):=⟨#[.int .u8 x0, (x1 0), (x1 1), (x1 2), (x1 3), (x1 4), (x1 5), (x1 6), (x1 7)]⟩
theorem finT {P:Prop} (h:P:=by first | (simp only[finS,Step.isLater,Bool.false_eq_true,if_false,if_true,Act.put,Step.value,List.setIfInBounds_toArray,List.set_cons_zero,List.set_cons_succ];rfl) | (simp only[finS,Step.isLater,Bool.false_eq_true,if_false,if_true,Act.put,Step.value,List.setIfInBounds_toArray,List.set_cons_zero,List.set_cons_succ,Nat.zero_add,Nat.reduceAdd];rfl)):P:=h
theorem osGr {P:Prop} (h:P:=by refine⟨(by intro v u u1 h g;obtain⟨b,rfl,h⟩:=h;exact⟨b,rfl,g.heap h⟩),?_⟩;intro V u hu hk;refine⟨Yh,?_⟩;go_simp;exact⟨⟨_,rfl,ae _ _⟩,(Yu _).alloc _⟩):P:=h
theorem osGD {P:Prop} (h:P:=by refine⟨(by intro v u u1 h g;obtain⟨b,rfl,h⟩:=h;exact⟨b,rfl,g.heap h⟩),?_⟩;intro V u hu hk;refine⟨Yh,?_⟩;go_simp;exact⟨⟨_,rfl,ae _ _⟩,(GD.refl _).alloc _⟩):P:=h
theorem osK {P:Prop} (h:P:=by intro v u u1 h g;first | exact ek h g | exact st_and h g | exact h):P:=h
theorem Hd {P:Prop} (h:P):Go.RowKit.Hid P:=Go.Lib.hid h
theorem osA {P:Prop} (h:P:=by first | exact trivial | exact osGr | (refine⟨osK,?_⟩;intro V u hu hk;refine⟨Yh,aw Yh ?_⟩;obtain⟨hc,hf,hz⟩:=hu.cells;go_simp) | (refine⟨osK,?_⟩;intro V u hu hk;refine⟨Yh,?_⟩;obtain⟨hc,hf,hz⟩:=hu.cells;go_simp) | (intro V u hu hk;refine⟨Yh,?_⟩;obtain⟨hc,hf,hz⟩:=hu.cells;go_simp;first | exact⟨rfl,Yu _⟩) | (intro V u hu hk;show _=false;kernel_rfl)):P:=h
theorem grT {P:Prop} (h:P:=by repeat (first | exact Yu _ | assumption | refine Gr.alloc ?_ _ | refine Gr.drew ?_ | refine Gr.drewN ?_ _ | refine Gr.set ?_ _ _ (by first | (simp;done) | (simp;omega)) | refine Gr.trans ?_ (by assumption))):P:=h
section
open Go.RowKit
structure Gr (w w':World):Prop where
 b:Below w.heap.size w w'
 d:True
theorem Yu (w:World):Gr w w:=⟨Below.refl _ _,trivial⟩
theorem Gr.alloc {w w':World} (h:Gr w w') (o:Obj):Gr w (w'.alloc o):=⟨h.b.alloc h.b.size o,h.d⟩
theorem Gr.drew {w w':World} (h:Gr w w'):Gr w w'.drew:=⟨h.b.drew,trivial⟩
theorem Gr.drewN {w w':World} (h:Gr w w') (n:Nat):Gr w (w'.drewN n):=⟨⟨h.b.os,h.b.tape,h.b.output,h.b.size,h.b.block⟩,trivial⟩
theorem Gr.of_below {w w':World} (h:Below w.heap.size w w'):Gr w w':=⟨h,trivial⟩
theorem Gr.trans {a b c:World} (h:Gr a b) (k:Gr b c):Gr a c:=⟨h.b.trans (k.b.mono h.b.size),trivial⟩
theorem Gr.set {w w':World} (h:Gr w w') (a:Addr) (v:Value) (ha:w.heap.size<=a.block):Gr w (w'.setCell a v):=⟨h.b.setCell ha v,h.d⟩
theorem Gr.cells {W w1:World} (h:Gr W w1):(∀b o,b < W.heap.size->w1.cell? ⟨b,o,none⟩=W.cell? ⟨b,o,none⟩)/\(∀b o,b < W.heap.size->w1.frozen? ⟨b,o,none⟩=W.frozen? ⟨b,o,none⟩)/\W.heap.size<=w1.heap.size:=
 ⟨λb o hb=>h.b.cell (p:=⟨b,o,none⟩) hb,λb o hb=>h.b.frozen (p:=⟨b,o,none⟩) hb,h.b.size⟩
theorem Gr.at {W w1:World} (h:Gr W w1) {n:Nat} (hn:n<=W.heap.size):(∀b o,b < n->w1.cell? ⟨b,o,none⟩=W.cell? ⟨b,o,none⟩)/\(∀b o,b < n->w1.frozen? ⟨b,o,none⟩=W.frozen? ⟨b,o,none⟩)/\n<=w1.heap.size:=
 ⟨λb o hb=>h.b.cell (p:=⟨b,o,none⟩) (Nat.lt_of_lt_of_le hb hn),λb o hb=>h.b.frozen (p:=⟨b,o,none⟩) (Nat.lt_of_lt_of_le hb hn),Nat.le_trans hn h.b.size⟩
theorem iy {k:IntKind} {a b:Int} (h:a=b):Ending.returned (.int k a)= .returned (.int k b):=by rw[h]
theorem cn {a b:Bool} (h:a=b):Ending.returned (.bool a)= .returned (.bool b):=by rw[h]
abbrev fr (a b:Int):Value:= .agg #[Yp a,Yp b]
theorem Gr.lt {W w1:World} (h:Gr W w1):∀b,b < W.heap.size->b < w1.heap.size:=λ_ k=>Nat.lt_of_lt_of_le k h.b.size
structure GrL (l:List Nat) (w w':World):Prop where
 os:w'.os=w.os
 tape:w'.tape=w.tape
 output:w'.output=w.output
 size:w.heap.size<=w'.heap.size
 block:∀k,k < w.heap.size->k∉l->w'.heap[k]?=w.heap[k]?
 d:True
theorem GrL.of_gr {l:List Nat} {w w':World} (h:Gr w w'):GrL l w w':=⟨h.b.os,h.b.tape,h.b.output,h.b.size,λk hk _=>h.b.block k hk,h.d⟩
theorem GrL.trans {l:List Nat} {a b c:World} (h:GrL l a b) (k:GrL l b c):GrL l a c:=
 ⟨k.os.trans h.os,k.tape.trans h.tape,k.output.trans h.output,Nat.le_trans h.size k.size,λi hi hn=>(k.block i (Nat.lt_of_lt_of_le hi h.size) hn).trans (h.block i hi hn),trivial⟩
theorem GrL.gr {l:List Nat} {w w1 w2:World} (h:Gr w w1) (k:GrL l w1 w2) (hl:∀i∈l,w.heap.size<=i):Gr w w2:=
 ⟨⟨k.os.trans h.b.os,k.tape.trans h.b.tape,k.output.trans h.b.output,Nat.le_trans h.b.size k.size,λi hi=>
  (k.block i (Nat.lt_of_lt_of_le hi h.b.size) (λhm=>by have:=hl i hm;omega)).trans (h.b.block i hi)⟩,trivial⟩
theorem GrL.at {l:List Nat} {W w1:World} (h:GrL l W w1) {n:Nat} (hn:n<=W.heap.size):(∀b o,b < n->b∉l->w1.cell? ⟨b,o,none⟩=W.cell? ⟨b,o,none⟩)/\(∀b o,b < n->b∉l->w1.frozen? ⟨b,o,none⟩=W.frozen? ⟨b,o,none⟩)/\n<=w1.heap.size:=
 ⟨λb _ hb hm=>World.cell?_of_block (h.block b (Nat.lt_of_lt_of_le hb hn) hm),λb _ hb hm=>World.frozen?_of_block (h.block b (Nat.lt_of_lt_of_le hb hn) hm),Nat.le_trans hn h.size⟩
theorem GrL.set {l:List Nat} {w w':World} (h:GrL l w w') (a:Addr) (v:Value) (ha:w.heap.size<=a.block\/a.block∈l):GrL l w (w'.setCell a v):=by
 refine⟨h.os,h.tape,h.output,by simpa using h.size,λk hk hm=>?_,h.d⟩;rw[Below.heap_setCell w' a v k (by rintro rfl;rcases ha with ha | ha;omega;exact hm ha)];exact h.block k hk hm
theorem GrL.alloc {l:List Nat} {w w':World} (h:GrL l w w') (o:Obj):GrL l w (w'.alloc o):=h.trans (GrL.of_gr ((Yu _).alloc o))
theorem GrL.drew {l:List Nat} {w w':World} (h:GrL l w w'):GrL l w w'.drew:=h.trans (GrL.of_gr (Yu _).drew)
theorem GrL.mono {l m:List Nat} {w w':World} (h:GrL l w w') (k:∀i∈l,i∈m):GrL m w w':=⟨h.os,h.tape,h.output,h.size,λi hi hn=>h.block i hi (λq=>hn (k i q)),h.d⟩
end
section
section
open Go.RowKit Go.Shelf
section
variable {P:Program} {ops:Array Oper} {Q:Exit->Act->World->Prop}
def Mx (P:Program) (v:Value) (Rw:World->Prop):Result Next->Prop
 | .ok (.value u) w'=>u=v/\Rw w'
 | .ok (.enter f args) w'=>Calls P f args w' λe w''=>e= .returned v/\Rw w''
 | _=>False
theorem Mx.upon {o:Oper} {a:Act} {K:Act->World->Prop} {v:Value} {Rw:World->Prop} {r:Result Next} (h:Mx P v Rw r) (hK:∀w',Rw w'->K (a.put o.dst v) w'):
  o.upon P a K Q r:=by
 cases r with
 | halt x w'=>exact h.elim
 | ok n w'=>
  cases n with
  | value u=>obtain⟨rfl,hr⟩:=h;exact hK _ hr
  | enter f args=>
   refine Calls.mono h ?_;rintro e w'' ⟨rfl,hr⟩;exact hK _ hr
  | skip=>exact h.elim
  | defer d=>exact h.elim
  | row r args=>exact h.elim
  | _=>exact h.elim
end
theorem Mx.enter {P:Program} {v:Value} {Rw:World->Prop} {f:FuncId} {args:Array Value} {w':World}:Mx P v Rw (.ok (.enter f args) w')=Calls P f args w' (λe w''=>e= .returned v/\Rw w''):=rfl
theorem Mx.value {P:Program} {v u:Value} {Rw:World->Prop} {w':World}:Mx P v Rw (.ok (.value u) w')=(u=v/\Rw w'):=rfl
def gk (ops:Array Oper):Nat->Nat->Nat->Bool
 | 0,_,_=>false
 | n+1,k,i=>match ops[k]? with
  | none=>false
  | some o=>o.after.any λe=>Region.binds .any e && (e.on == i || gk ops n e.on i)
variable {P:Program} {ops:Array Oper} {Q:Exit->Act->World->Prop}
def Dead (P:Program) (chain:List PanicEntry) (Rw:World->Prop):Result Next->Prop
 | .ok (.enter f args) w'=>Calls P f args w' λe w''=>e= .panicked chain/\Rw w''
 | .halt (.panic v) w'=>chain=[{v,recovered:=false}]/\Rw w'
 | _=>False
theorem Dead.upon {o:Oper} {a:Act} {K:Act->World->Prop} {chain:List PanicEntry} {Rw:World->Prop} {r:Result Next} (h:Dead P chain Rw r) (hK:∀w',Rw w'->Q (.panic chain) a w'):
  o.upon P a K Q r:=by
 cases r with
 | halt x w'=>
  cases x <;> first | exact h.elim | (obtain⟨rfl,hr⟩:=h;exact hK _ hr)
 | ok n w'=>
  cases n with
  | enter f args=>
   refine Calls.mono h ?_;rintro e w'' ⟨rfl,hr⟩;exact hK _ hr
  | _=>exact h.elim
theorem ka {listed:Array Bool} {i:Nat} (h:i < listed.size):(listed.setIfInBounds i true).getD i false=true:=by simp[h]
theorem ia {listed:Array Bool} {i j:Nat} (h:(listed.setIfInBounds i true).getD j false=false):listed.getD j false=false:=by
 cases e:listed.getD j false
 ·rfl
 ·rw[getD_set_true e]at h;cases h
theorem di {listed:Array Bool} {i j:Nat} (h:(listed.setIfInBounds i true).getD j false=true):j=i\/listed.getD j false=true:=by
 by_cases e:i=j
 ·exact .inl e.symm
 ·right;rwa [getD_set_ne false e]at h
def kq (listed:Array Bool):Nat->Nat
 | 0=>0
 | n+1=>kq listed n+if listed.getD n false=true then 0 else 1
theorem Em {listed:Array Bool} {k:Nat} (hk:k < listed.size) (hl:listed.getD k false=false):∀n,kq (listed.setIfInBounds k true) n+(if k < n then 1 else 0)=kq listed n
 | 0=>by simp[kq]
 | n+1=>by
  have ih:=Em hk hl n;simp only[kq]
  by_cases e:k=n
  ·subst e;rw[ka hk,hl];simp at ih ⊢;omega
  ·rw[getD_set_ne false e]
   by_cases h:k < n
   ·rw[if_pos h]at ih;rw[if_pos (show k < n+1 by omega)];omega
   ·rw[if_neg h]at ih;rw[if_neg (show¬k < n+1 by omega)];omega
theorem zc {listed:Array Bool}:∀n,kq listed n=0->∀k,k < n->listed.getD k false=true
 | 0,_,k,hk=>by omega
 | n+1,h,k,hk=>by
  simp only[kq]at h
  by_cases e:k=n
  ·subst e;cases q:listed.getD k false
   ·rw[q]at h;simp at h
   ·rfl
  ·exact zc n Yi k Yi
theorem ae (u:World) (o:Obj):(u.alloc o).heap[u.heap.size]?=some o:=by show(u.heap.push o)[u.heap.size]?=some o;simp
theorem Gr.heap {u u':World} (g:Gr u u') {k:Nat} {o:Obj} (h:u.heap[k]?=some o):u'.heap[k]?=some o:=
 (g.b.block k (Array.getElem?_eq_some_iff.1 h).1).trans h
theorem ai {u:World} {k:Nat} {o:Obj} (h:u.heap[k]?=some o):k < u.heap.size:=(Array.getElem?_eq_some_iff.1 h).1
theorem qf {listed:Array Bool} {k:Nat} (hs:listed.size=ops.size) (hk:k < ops.size) (h:listed.getD k true=false):listed.getD k false=false:=by
 have:k < listed.size:=Yi;simp[this]at h ⊢;exact h
theorem fo {listed:Array Bool} (down:∀(k:Nat) (o:Oper),ops[k]?=some o->listed.getD k false=true->∀e∈o.after,Region.binds .any e=true->listed.getD e.on false=true):
  ∀(n k i:Nat),gk ops n k i=true->(∀o,ops[k]?=some o->∀e∈o.after,Region.binds .any e=true->listed.getD e.on false=true)->listed.getD i false=true
 | 0,_,_,h,_=>by simp[gk]at h
 | n+1,k,i,h,hk=>by
  unfold gk at h;cases ho:ops[k]? with
  | none=>rw[ho]at h;simp at h
  | some o=>
   rw[ho]at h;obtain⟨e,he,hb⟩:=Array.any_eq_true'.1 h;simp only[Bool.and_eq_true,Bool.or_eq_true,beq_iff_eq]at hb;obtain⟨hb,hc⟩:=hb;have hl:=hk o ho e he hb;rcases hc with rfl | hc
   ·exact hl
   ·exact fo down n e.on i hc λo' ho' e' he' hb'=>down e.on o' ho' hl e' he' hb'
def Lone (P:Program) (ops:Array Oper) (Q:Exit->Act->World->Prop) (i:Nat) (K:Act->World->Prop) (a:Act) (w:World):Prop:=
 ∃o,ops[i]?=some o/\o.guard=none/\o.wp P a w K Q
theorem Lone.wpOp {i:Nat} {K:Act->World->Prop} {a:Act} {w:World} (h:Lone P ops Q i K a w):wpOp P ops Q i K a w:=by
 obtain⟨o,ho,hg,hw⟩:=h;unfold Go.wpOp;rw[ho];have:Region.wanted o (yielded ops a.tmps)=true:=by unfold Region.wanted;rw[hg]
 dsimp only;rw[if_pos this];exact .inl hw
theorem ed {u:World} {g:Nat} {c:Array Value} {T:TypeId} (h:u.heap[g]?=some (.cells c T (0,0))):(∀o,u.cell? ⟨g,o,none⟩=c[o]?)/\(∀o,u.frozen? ⟨g,o,none⟩=false)/\g < u.heap.size:=by
 refine⟨λo=>?_,λo=>?_,ai h⟩
 ·unfold World.cell?;rw[h];rfl
 ·unfold World.frozen?;rw[h];simp
theorem j9 {u:World} {g:Nat} {x0 x:Value} {T:TypeId} (h:u.heap[g]?=some (.cells #[x0] T (0,0))):(u.setCell (Yo g 0) x).heap[g]?=some (.cells #[x] T (0,0)):=by
 have hl:=ai h;have:(u.setCell (Yo g 0) x).heap=u.heap.modify g fun | .cells c elem fr=> .cells (c.setIfInBounds 0 x) elem fr | o=>o:=rfl;rw[this,Array.getElem?_modify];simp[h]
end
section
open Go.RowKit Go.Shelf
section
variable {P:Program} {ops:Array Oper} {Q:Exit->Act->World->Prop}
end
end
end
section
section
open Go.RowKit Go.Shelf
theorem gz (n a b:Int) (w:World):
  Calls prog 57 #[Yp n,Yp a,Yp b] w λe w'=>e= .returned (.bool (decide (a<=n) && decide (n<=b)))/\Gr w w':=by
 by_cases h:a<=n
 ·go_enter func57,ntmps57;go_wp2;go_ret;exact⟨cn (by simp[h]),grT⟩
 ·go_enter func57,ntmps57;go_wp2;go_ret;exact⟨cn (by
   have:¬a<=n:=Yi;simp[this]),grT⟩
theorem ma (n a b:Int) (w:World):
  Calls prog 89 #[Yp n,Yp a,Yp b] w λe w'=>e= .returned (.bool (decide (a<=n) && decide (n<=b)))/\Gr w w':=by
 by_cases h:a<=n
 ·go_enter func89,ntmps89;go_wp2;go_ret;exact⟨cn (by simp[h]),grT⟩
 ·go_enter func89,ntmps89;go_wp2;go_ret;exact⟨cn (by
   have:¬a<=n:=Yi;simp[this]),grT⟩
theorem An (n:Int) (w:World):
  Calls prog 58 #[Yp n] w λe w'=>e= .returned (.bool (decide (n=3) || decide (n=5)))/\Gr w w':=by
 by_cases h:n=3
 ·subst h;go_enter func58,ntmps58;go_wp2;go_ret;exact⟨cn Yj,grT⟩
 ·go_enter func58,ntmps58;go_wp2;go_ret;exact⟨cn (by by_cases h5:n=5 <;> simp[h,h5]),grT⟩
theorem Mt (n:Int) (w:World):
  Calls prog 106 #[Yp n] w λe w'=>e= .returned (.bool (decide (n=3) || decide (n=5)))/\Gr w w':=by
 by_cases h:n=3
 ·subst h;go_enter func106,ntmps106;go_wp2;go_ret;exact⟨cn Yj,grT⟩
 ·go_enter func106,ntmps106;go_wp2;go_ret;exact⟨cn (by by_cases h5:n=5 <;> simp[h,h5]),grT⟩
theorem zar (n:Int) (w:World):
  Calls prog 230 #[Yp n] w λe w'=>e= .returned (.bool (decide (0<=n) && decide (n<=100000)))/\Gr w w':=by
 by_cases h:0<=n
 ·go_enter func230,ntmps230;go_wp2;go_ret;exact⟨cn (by simp[h]),grT⟩
 ·go_enter func230,ntmps230;go_wp2;go_ret;exact⟨cn (by
   have:¬0<=n:=Yi;simp[this]),grT⟩
def Fo (s n:Int):Int:=if 0<=s/\s<=4/\1<=n/\n<=400 then 8*n+s else 0
theorem zcn (s n:Int) (w:World):
  Calls prog 29 #[Yp s,Yp n] w λe w'=>e= .returned (Yp (Fo s n))/\Gr w w':=by
 have W1:=Hd (λw=>gz s 0 4 w);have W2:=Hd (λw=>gz n 1 400 w);unfold Fo
 by_cases h1:0<=s/\s<=4
 ·have e1:(decide (0<=s) && decide (s<=4))=true:=by simp[h1]
  rw[e1]at W1
  by_cases h2:1<=n/\n<=400
  ·have e2:(decide (1<=n) && decide (n<=400))=true:=by simp[h2]
   rw[e2]at W2;rw[if_pos ⟨h1.1,h1.2,h2.1,h2.2⟩];have q1:IntKind.i64.wrap (8*n)=8*n:=IntWalk.i64_in _ Yi;have q2:IntKind.i64.wrap (8*n+s)=8*n+s:=IntWalk.i64_in _ Yi;clear h1 h2 e1 e2;go_enter func29,ntmps29;go_wp2_with fail;refine(W1.out _).mono ?_;rintro e w1 ⟨rfl,hg1⟩;go_wp2_with fail;refine(W2.out _).mono ?_;rintro e w2 ⟨rfl,hg2⟩;go_wp2;go_ret;exact⟨rfl,grT⟩
  ·have e2:(decide (1<=n) && decide (n<=400))=false:=by simp;omega
   rw[e2]at W2;rw[if_neg Yi];clear h1 h2 e1 e2;go_enter func29,ntmps29;go_wp2_with fail;refine(W1.out _).mono ?_;rintro e w1 ⟨rfl,hg1⟩;go_wp2_with fail;refine(W2.out _).mono ?_;rintro e w2 ⟨rfl,hg2⟩;go_wp2;go_ret;exact⟨rfl,grT⟩
 ·have e1:(decide (0<=s) && decide (s<=4))=false:=by simp;omega
  rw[e1]at W1;rw[if_neg Yi];clear h1 e1 W2;go_enter func29,ntmps29;go_wp2_with fail;refine(W1.out _).mono ?_;rintro e w1 ⟨rfl,hg1⟩;go_wp2;go_ret;exact⟨rfl,grT⟩
theorem S7 (s n:Int) (w:World):
  Calls prog 35 #[Yp s,Yp n] w λe w'=>e= .returned (Yp (Fo s n))/\Gr w w':=by
 have W1:=Hd (λw=>ma s 0 4 w);have W2:=Hd (λw=>ma n 1 400 w);unfold Fo
 by_cases h1:0<=s/\s<=4
 ·have e1:(decide (0<=s) && decide (s<=4))=true:=by simp[h1]
  rw[e1]at W1
  by_cases h2:1<=n/\n<=400
  ·have e2:(decide (1<=n) && decide (n<=400))=true:=by simp[h2]
   rw[e2]at W2;rw[if_pos ⟨h1.1,h1.2,h2.1,h2.2⟩];have q1:IntKind.i64.wrap (8*n)=8*n:=IntWalk.i64_in _ Yi;have q2:IntKind.i64.wrap (8*n+s)=8*n+s:=IntWalk.i64_in _ Yi;clear h1 h2 e1 e2;go_enter func35,ntmps35;go_wp2_with fail;refine(W1.out _).mono ?_;rintro e w1 ⟨rfl,hg1⟩;go_wp2_with fail;refine(W2.out _).mono ?_;rintro e w2 ⟨rfl,hg2⟩;go_wp2;go_ret;exact⟨rfl,grT⟩
  ·have e2:(decide (1<=n) && decide (n<=400))=false:=by simp;omega
   rw[e2]at W2;rw[if_neg Yi];clear h1 h2 e1 e2;go_enter func35,ntmps35;go_wp2_with fail;refine(W1.out _).mono ?_;rintro e w1 ⟨rfl,hg1⟩;go_wp2_with fail;refine(W2.out _).mono ?_;rintro e w2 ⟨rfl,hg2⟩;go_wp2;go_ret;exact⟨rfl,grT⟩
 ·have e1:(decide (0<=s) && decide (s<=4))=false:=by simp;omega
  rw[e1]at W1;rw[if_neg Yi];clear h1 e1 W2;go_enter func35,ntmps35;go_wp2_with fail;refine(W1.out _).mono ?_;rintro e w1 ⟨rfl,hg1⟩;go_wp2;go_ret;exact⟨rfl,grT⟩
def zd7 (c:UInt8):Bool:=decide (c.toNat < 32) || decide (126 < c.toNat)
theorem Nx (k:Nat) (w:World):
  Calls prog 115 #[Ys k] w λe w'=>e= .returned (.bool (decide (k < 32) || decide (126 < k)))/\w'=w:=by
 by_cases h:k < 32
 ·have h':(k:Int) < 32:=Yi;go_enter func115,ntmps115;go_wp2;go_ret;exact⟨cn (by simp[h]),rfl⟩
 ·have h':¬(k:Int) < 32:=Yi;go_enter func115,ntmps115;go_wp2;go_ret;exact⟨cn (by simp;omega),rfl⟩
theorem td {l:List UInt8} {i:Nat} (h:i < l.length):(l.take (i+1)).any zd7=((l.take i).any zd7 || zd7 l[i]):=by
 rw[List.take_succ_eq_append_getElem h,List.any_append,List.any_cons,List.any_nil,Bool.or_false]
theorem qx {l:List UInt8} {i:Nat} (h:(l.take i).any zd7=true):l.any zd7=true:=by
 obtain⟨x,hx,hb⟩:=List.any_eq_true.1 h;exact List.any_eq_true.2 ⟨x,List.mem_of_mem_take hx,hb⟩
theorem idxB (blk cap:Nat) (l:List UInt8) (w:World) (hb:blk < w.heap.size) (hl:l.length<=1000)
  (hc:∀j,j < l.length->w.cell? ⟨blk,j,none⟩=some (.int .u8 (l.getD j 0).toNat)):
  Calls prog 183 #[.slice (Yn blk) l.length cap,.func (.func 115) #[] #[]] w λe w'=>(∃v:Int,e= .returned (Yp v)/\(0<=v↔l.any zd7=true))/\Gr w w':=by
 have HC:=Hd hc;clear hc;obtain⟨q,hq⟩:∃q,l.any zd7=q:=⟨_,rfl⟩;rw[hq];have HQ:=Hd hq;clear hq;go_enter func183,ntmps183;go_wp2;go_loopw [8] (λp wr=>∃i:Nat,p= .int .i64 i/\i<=l.length/\(l.take i).any zd7=false/\Gr w wr) (λp _=>l.length - (intOf p).toNat)
 case atStart=>exact⟨0,rfl,Yi,Yj,Yu _⟩
 case round=>
  obtain⟨i,rfl,hi,hno,gr⟩:=hrel
  by_cases hil:i < l.length
  ·have hil':(i:Int) < l.length:=Yi;have hcell:=(gr.cells.1 blk i hb).trans (HC.out i hil);have hN:=td hil;obtain⟨k,hk⟩:∃k,(l.getD i 0).toNat=k:=⟨_,rfl⟩;have hbk:zd7 l[i]=(decide (k < 32) || decide (126 < k)):=by
    rw[<-hk];simp[zd7,List.getD_eq_getElem?_getD,hil]
   rw[hk]at hcell;have P1:=Hd (λw=>Nx k w);rw[hno,hbk]at hN;generalize (decide (k < 32) || decide (126 < k))=bd at hN P1;go_wp2_with fail;refine(P1.out _).mono ?_;rintro e w1 ⟨rfl,rfl⟩;cases bd
   ·go_wp2;exact⟨⟨i+1,Yj,Yi,by simpa using hN,gr⟩,by simp[intOf];omega⟩
   ·go_wp2;go_ret;exact⟨⟨i,rfl,⟨λ_=>HQ.out.symm.trans (qx (i:=i+1) (hN.trans (by rfl))),λ_=>by omega⟩⟩,gr⟩
  ·have hil':¬(i:Int) < l.length:=Yi;obtain rfl:i=l.length:=Yi;rw[List.take_length]at hno;obtain rfl:q=false:=HQ.out.symm.trans hno;clear hno;go_wp2;go_ret;exact⟨⟨-1,rfl,by constructor <;> intro h <;> first | omega | cases h⟩,gr⟩
theorem hasB (blk cap:Nat) (l:List UInt8) (w:World) (hb:blk < w.heap.size) (hl:l.length<=1000)
  (hc:∀j,j < l.length->w.cell? ⟨blk,j,none⟩=some (.int .u8 (l.getD j 0).toNat)):
  Calls prog 114 #[.slice (Yn blk) l.length cap,.func (.func 115) #[] #[]] w λe w'=>e= .returned (.bool (l.any zd7))/\Gr w w':=by
 have IX:=Hd (idxB blk cap l w hb hl hc);generalize l.any zd7=q at *;clear hc;go_enter func114,ntmps114;go_wp2_with fail;refine IX.out.mono ?_;rintro e w1 ⟨⟨v,rfl,hv⟩,hg1⟩
 by_cases h:0<=v
 ·obtain rfl:q=true:=hv.1 h;go_wp2;go_ret;exact⟨rfl,hg1⟩
 ·obtain rfl:q=false:=by cases q;rfl;exact absurd (hv.2 rfl) h
  go_wp2;go_ret;exact⟨rfl,hg1⟩
theorem Te (s:ByteArray) (w:World) (h1:1<=s.size) (h2:s.size<=240):
  Calls prog 66 #[.string s] w λe w'=>e= .returned (.bool (!(s.data.toList.any zd7)))/\Gr w w':=by
 have W1:=Hd (λw=>gz s.size 1 240 w);have e1:(decide ((1:Int)<=s.size) && decide ((s.size:Int)<=240))=true:=by simp;omega
 rw[e1]at W1;have CV:=λw=>Lib.run_convert_string_bytes (P:=prog) w 9 205 5 s underlying9 underlying205 underlying5;have hsz:s.size=s.data.toList.length:=rfl;have CF:=Hd (λblk cap w hb hc=>hasB blk cap s.data.toList w hb Yi hc);rw[<-hsz]at CF;have HSZ:=Hd hsz;clear hsz;generalize s.data.toList.any zd7=q at CF ⊢;go_enter func66,ntmps66;go_wp2_with fail;refine(W1.out _).mono ?_;rintro e w1 ⟨rfl,hg1⟩;go_wp2_with fail;have g2:=hg1.trans (Gr.of_below (Lib.bytesWorld_below w1 5 s));refine(CF.out w1.heap.size (grownCap w1 s.size 0 5) (Lib.bytesWorld w1 5 s) (by rw[Lib.bytesWorld_size];omega) (λj hj=>Lib.bytesWorld_cell w1 5 s j (by rw[HSZ.out];exact hj))).mono ?_;rintro e w3 ⟨rfl,hg3⟩;go_wp2;go_ret;exact⟨rfl,g2.trans hg3⟩
theorem zax (s:ByteArray) (w:World) (hs:s.size<=4294967296) (h:¬(1<=s.size/\s.size<=240)):
  Calls prog 66 #[.string s] w λe w'=>e= .returned (.bool false)/\Gr w w':=by
 have W1:=Hd (λw=>gz s.size 1 240 w);have e1:(decide ((1:Int)<=s.size) && decide ((s.size:Int)<=240))=false:=by simp;omega
 rw[e1]at W1;clear h e1;go_enter func66,ntmps66;go_wp2_with fail;refine(W1.out _).mono ?_;rintro e w1 ⟨rfl,hg1⟩;go_wp2;go_ret;exact⟨rfl,grT⟩
def qg (s:ByteArray):Bool:=decide (1<=s.size/\s.size<=240) && !(s.data.toList.any zd7)
theorem Tf (s:ByteArray) (w:World) (hs:s.size<=4294967296):Calls prog 66 #[.string s] w λe w'=>e= .returned (.bool (qg s))/\Gr w w':=by
 unfold qg
 by_cases h:1<=s.size/\s.size<=240
 ·rw[decide_eq_true h,Bool.true_and];exact Te s w h.1 h.2
 ·rw[decide_eq_false h,Bool.false_and];exact zax s w hs h
abbrev rcd (s k d:Int) (t:ByteArray):Value:= .agg #[Yp s,Yp k,Yp d,.string t]
def ob (n s k d:Int) (t:ByteArray):Bool:=(decide (0<=s) && decide (s<=n - 1)) && (decide (1<=k) && decide (k<=400)) && (decide (0<=d) && decide (d<=100000)) && qg t
theorem zcc (s:ByteArray) (w:World) (hs:s.size<=100000):
  Calls prog 231 #[.string s] w λe w'=>e= .returned (.bool (qg s))/\Gr w w':=by
 obtain⟨l,hl⟩:∃l,s.data.toList=l:=⟨_,rfl⟩;have hsz:s.size=l.length:=by rw[<-hl];rfl
 have HX:=Hd (fun(i:Nat) (h:i < l.length)=>show s[i]'Yi=l[i] by subst hl;rfl);have PB:qg s=(decide (1<=l.length/\l.length<=240) && !(l.any zd7)):=by unfold qg;rw[hl,hsz]
 rw[PB];obtain⟨q,hq⟩:∃q,l.any zd7=q:=⟨_,rfl⟩;rw[hq];have HQ:=Hd hq;clear PB hl hq;go_enter func231,ntmps231;go_wp2;go_loopw [3] (λp wr=>∃i:Nat,p= .int .i64 i/\i<=l.length/\Hid ((l.take i).any zd7=false)/\Gr w wr) (λp _=>l.length - (intOf p).toNat)
 case atStart=>exact⟨0,rfl,Yi,Hd Yj,Yu _⟩
 case round=>
  obtain⟨i,rfl,hi,HN,gr⟩:=hrel
  by_cases hil:i < l.length
  ·have hil':(i:Int) < l.length:=Yi;have his:i < s.size:=Yi;have hx:=HX.out i hil;have HS:=Hd (td hil);obtain⟨k,hk⟩:∃k,l[i].toNat=k:=⟨_,rfl⟩;have hc:(s[i]'his).toNat=k:=by rw[hx];exact hk
   have HB:=Hd (show zd7 l[i]=(decide (k < 32) || decide (126 < k)) by rw[<-hk];rfl);clear hx hk
   by_cases k1:k < 32
   ·have k1':(k:Int) < 32:=Yi;go_wp2;go_ret;have:q=true:=HQ.out.symm.trans (qx (i:=i+1) (by rw[HS.out,HB.out];simp[k1]));exact⟨cn (by rw[this];simp),gr⟩
   ·have k1':¬(k:Int) < 32:=Yi
    by_cases k2:126 < k
    ·have k2':(126:Int) < k:=Yi;go_wp2;go_ret;have:q=true:=HQ.out.symm.trans (qx (i:=i+1) (by rw[HS.out,HB.out];simp[k2]));exact⟨cn (by rw[this];simp),gr⟩
    ·have k2':¬(126:Int) < k:=Yi;go_wp2;exact⟨⟨i+1,Yj,Yi,Hd (by rw[HS.out,HB.out,HN.out];simp[k1,k2]),gr⟩,by simp[intOf];omega⟩
  ·have hil':¬(i:Int) < l.length:=Yi;obtain rfl:i=l.length:=Yi;have hq':q=false:=by have:=HN.out;rw[List.take_length]at this;exact HQ.out.symm.trans this
   subst hq';clear HN
   by_cases z1:0 < l.length
   ·have z1':(0:Int) < l.length:=Yi
    by_cases z2:l.length<=240
    ·have z2':(l.length:Int)<=240:=Yi;go_wp2;go_ret;exact⟨cn (by
      have:1<=l.length/\l.length<=240:=⟨z1,z2⟩;simp[this]),gr⟩
    ·have z2':¬(l.length:Int)<=240:=Yi;go_wp2;go_ret;exact⟨cn (by simp),gr⟩
   ·have z1':¬(0:Int) < l.length:=Yi;go_wp2;go_ret;exact⟨cn (by
     have:¬1<=l.length:=Yi;simp[this]),gr⟩
theorem Og (n s k d:Int) (t:ByteArray) (w:World) (hn1: -1000000<=n) (hn2:n<=1000000) (ht:t.size<=100000):
  Calls prog 96 #[Yp n,rcd s k d t] w λe w'=>e= .returned (.bool (ob n s k d t))/\Gr w w':=by
 have W1:=Hd (λw=>gz s 0 (n-1) w);have W2:=Hd (λw=>gz k 1 400 w);have W3:=Hd (λw=>gz d 0 100000 w);have W4:=Hd (λw=>Tf t w Yi);have q1:IntKind.i64.wrap (n - 1)=n - 1:=IntWalk.i64_in _ Yi;unfold ob;generalize qg t=b4 at W4 ⊢;generalize (decide (0<=s) && decide (s<=n - 1))=b1 at W1 ⊢;generalize (decide (1<=k) && decide (k<=400))=b2 at W2 ⊢;generalize (decide (0<=d) && decide (d<=100000))=b3 at W3 ⊢;have bx:=ae w (.cells #[Yp s,Yp k,Yp d,.string t] 36);have g0:Gr w (w.alloc (.cells #[Yp s,Yp k,Yp d,.string t] 36)):=(Yu w).alloc _;clear hn1 hn2 ht;go_enter func96,ntmps96;go_wp2_with fail;refine(W1.out _).mono ?_;rintro e w1 ⟨rfl,hg1⟩;have bx1:=hg1.heap bx;have g1:=g0.trans hg1;clear hg1 g0 bx;obtain⟨cx,fx,zx⟩:=ed bx1;cases b1
 ·go_wp2;go_ret;exact⟨rfl,g1⟩
 ·exact Xh
theorem J7 (n s k d:Int) (t:ByteArray) (w:World) (hn1: -1000000<=n) (hn2:n<=1000000) (ht:t.size<=100000):
  Calls prog 169 #[Yp n,rcd s k d t] w λe w'=>e= .returned (.bool (ob n s k d t))/\Gr w w':=by
 have W1:=Hd (λw=>ma s 0 (n-1) w);have W2:=Hd (λw=>ma k 1 400 w);have W3:=Hd (λw=>zar d w);have W4:=Hd (λw=>zcc t w Yi);have q1:IntKind.i64.wrap (n - 1)=n - 1:=IntWalk.i64_in _ Yi;unfold ob;generalize qg t=b4 at W4 ⊢;generalize (decide (0<=s) && decide (s<=n - 1))=b1 at W1 ⊢;generalize (decide (1<=k) && decide (k<=400))=b2 at W2 ⊢;generalize (decide (0<=d) && decide (d<=100000))=b3 at W3 ⊢;have bx:=ae w (.cells #[Yp s,Yp k,Yp d,.string t] 36);have g0:Gr w (w.alloc (.cells #[Yp s,Yp k,Yp d,.string t] 36)):=(Yu w).alloc _;clear hn1 hn2 ht;go_enter func169,ntmps169;go_wp2_with fail;refine(W1.out _).mono ?_;rintro e w1 ⟨rfl,hg1⟩;have bx1:=hg1.heap bx;have g1:=g0.trans hg1;clear hg1 g0 bx;obtain⟨cx,fx,zx⟩:=ed bx1;cases b1
 ·go_wp2;go_ret;exact⟨rfl,g1⟩
 ·exact Xh
structure Rc where
 s:Int
 k:Int
 d:Int
 t:ByteArray
 deriving DecidableEq,Inhabited
def Rc.cells (r:Rc):List Value:=[Yp r.s,Yp r.k,Yp r.d,.string r.t]
abbrev Rc.v (r:Rc):Value:=rcd r.s r.k r.d r.t
def rcs (l:List Rc):List Value:=l.flatMap Rc.cells
theorem vf (l:List Rc):(rcs l).length=l.length * 4:=by
 unfold rcs
 induction l with
 | nil=>rfl
 | cons x l ih=>rw[List.flatMap_cons,List.length_append,ih];simp[Rc.cells];omega
theorem No:∀(l:List Rc) (j c:Nat) (hj:j < l.length) (_:c < 4),(rcs l)[j * 4+c]?=(l[j]).cells[c]?
 | [],j,c,hj,_=>by simp at hj
 | x :: l,0,c,_,hc=>by
  show(x.cells ++ rcs l)[0 * 4+c]?=_;rw[List.getElem?_append_left (by simpa[Rc.cells]using hc)];simp
 | x :: l,j+1,c,hj,hc=>by
  show(x.cells ++ rcs l)[(j+1) * 4+c]?=_;rw[List.getElem?_append_right (by simp[Rc.cells];omega)];have:=No l j c (by simpa using hj) hc;simp only[List.getElem_cons_succ];rw[<-this];congr 1;simp[Rc.cells];omega
theorem Np (a b:List Rc):rcs (a ++ b)=rcs a ++ rcs b:=by simp[rcs,List.flatMap_append]
theorem dz {u:World} {g:Nat} {c:Array Value} {T:TypeId} (h:u.heap[g]?=some (.cells c T (0,0))) (i:Nat) (x:Value):(u.setCell (Yo g i) x).heap[g]?=some (.cells (c.setIfInBounds i x) T (0,0)):=by
 have:(u.setCell (Yo g i) x).heap=u.heap.modify g fun | .cells c elem fr=> .cells (c.setIfInBounds i x) elem fr | o=>o:=rfl;rw[this,Array.getElem?_modify];simp[h]
theorem qj {u:World} {g:Nat} {o:Obj} (p i:Nat) (x:Value) (h:u.heap[g]?=some o) (hn:g≠p):(u.setCell (Yo p i) x).heap[g]?=some o:=by
 rw[Below.heap_setCell u _ x g hn];exact h
abbrev RowR (w:World) (v:Value) (l:List Rc):Prop:=w.ownsRow 0 36 4 v l.length (rcs l)
theorem Ny {W W':World} {base:Nat} {e:TypeId} {size:Nat} {v:Value} {k:Nat} {xs:List Value} {bs:List Nat} (h:W.ownsRow base e size v k xs) (g:GrL bs W W') (hb:∀i,v.ownBlock=some i->i∉bs):W'.ownsRow base e size v k xs:=by
 refine⟨h.1,?_⟩;rcases h.2 with hn | ⟨i,cap,cur,rfl,hbi,hgg,rest⟩
 ·exact .inl hn
 ·exact .inr ⟨i,cap,cur,rfl,hbi,(g.block i (ai hgg) (hb i rfl)).trans hgg,rest⟩
theorem ek {W W':World} {base:Nat} {e:TypeId} {size:Nat} {v:Value} {k:Nat} {xs:List Value} (h:W.ownsRow base e size v k xs) (g:Gr W W'):W'.ownsRow base e size v k xs:=
 Ny h (GrL.of_gr (l:=[]) g) Yj
theorem RowR.form {w:World} {v:Value} {l:List Rc} (h:RowR w v l):∃a cap,v= .slice a l.length cap/\l.length<=cap/\∀j (hj:j < l.length),∃g,a=some ⟨g,0,none⟩/\g < w.heap.size/\
  w.cell? ⟨g,j * 4,none⟩=some (.int .i64 l[j].s)/\w.cell? ⟨g,j * 4+1,none⟩=some (.int .i64 l[j].k)/\w.cell? ⟨g,j * 4+2,none⟩=some (.int .i64 l[j].d)/\w.cell? ⟨g,j * 4+3,none⟩=some (.string l[j].t):=by
 have h':=h;rcases h.2 with ⟨rfl,hn⟩ | ⟨g,cap,cur,rfl,hb,hg,hcap,hrest⟩
 ·obtain rfl:=List.eq_nil_of_length_eq_zero hn;exact⟨none,0,rfl,Yv _,λj hj=>absurd hj Yj⟩
 ·refine⟨some ⟨g,0,none⟩,cap,rfl,hcap,λj hj=>⟨g,rfl,ai hg,?_⟩⟩;have c0:=h'.cellAt (j * 4+0) Yi;have c1:=h'.cellAt (j * 4+1) Yi;have c2:=h'.cellAt (j * 4+2) Yi;have c3:=h'.cellAt (j * 4+3) Yi;rw[No l j _ hj Yi]at c0 c1 c2 c3;exact⟨c0,c1,c2,c3⟩
end
end
end Go.Proofs.YtimcfaoabaflkaaGreatDoor
