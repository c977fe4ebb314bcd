/- RX, part 1: abstract values, blocks and states of a run on known inputs, and what they say of a world. -/
import Derived.RangeFuncIn
import Derived.RangeFuncRecord
import Derived.Laws.CopyRow
import Derived.Laws.World
import Derived.Laws.Cells
import Derived.Laws.Tables
import Derived.Lib.Hide
import Derived.KernelRfl
namespace Go.Proofs.YtimcfaoabaflkaaGreatDoor
theorem Xy {P:Prop} (h:P:=by
 intro v hv;obtain⟨i,hi⟩:=List.getElem?_of_mem hv;have hlt:i < n:=by
  have:=(List.getElem?_eq_some_iff.1 hi).1;simp at this;omega
 obtain⟨v',e,h1,_⟩:=h3 (off+i) Yx;simp only[List.getElem?_take,hlt,if_true,List.getElem?_drop]at hi;have:c.toList[off+i]?=some v':=by simpa using e
 rw[this]at hi;obtain rfl:v'=v:=by simpa using hi
 exact h1):P:=h
theorem Xz {P:Prop} (h:P:=by
 obtain⟨v,rfl,hv⟩:=h1;obtain⟨ki,hk,hy⟩:=bnd (show(asInt a).bind _=some y from hy);obtain⟨n,hn,hy⟩:=bnd hy;obtain⟨_,hb,hy⟩:=bnd hy;obtain rfl:=Xa hy;rw[ew hk]at hv;obtain rfl:v=_:=hv;rw[rm hn];exact jf (db (ag hb)) w):P:=h
theorem Yw {P : Prop} (h : P := by kernel_rfl) : P := h
theorem Yx {P : Prop} (h : P := by omega) : P := h
theorem Yy {P : Prop} (h : P := by simp) : P := h
theorem Yz {P : Prop} (h : P := by decide) : P := h
theorem Xa {α : Type _} {a b : α} (h : some a = some b) : a = b := Option.some.inj h
theorem Xc (n : Nat) : n <= n := Nat.le_refl n
section
namespace RX
noncomputable section
inductive T (α:Type) where
 | nil
 | node (v:Option α) (l r:T α)
def pick {β:Type} (no yes:β) (b:Bool):β:=@Bool.rec (λ_=>β) no yes b
theorem pick_if {β:Type} {no yes:β} {b:Bool} {p:Prop} [Decidable p] (h:b=true↔p):pick no yes b=if p then yes else no:=by
 cases b with
 | true=>rw[if_pos (h.1 rfl)];rfl
 | false=>rw[if_neg λx=>by have:=h.2 x;cases this];rfl
def T.getR {α:Type} (t:T α):Nat->Option α:=@T.rec α (λ_=>Nat->Option α) (λ_=>none) (λv _ _ gl gr n=>@Bool.rec (λ_=>Option α) (@Bool.rec (λ_=>Option α) (gr (n / 2 - 1)) (gl (n / 2)) (Nat.beq (n % 2) 1)) v (Nat.beq n 0)) t
def T.get {α:Type} (t:T α) (n:Nat):Option α:=t.getR n
def T.single {α:Type} (v:Option α) (f:Nat):Nat->T α:=@Nat.rec (λ_=>Nat->T α) (λ_=> .nil) (λ_ ih n=>@Bool.rec (λ_=>T α) (@Bool.rec (λ_=>T α) (.node none .nil (ih (n / 2 - 1))) (.node none (ih (n / 2)) .nil) (Nat.beq (n % 2) 1)) (.node v .nil .nil) (Nat.beq n 0)) f
def T.setR {α:Type} (v:Option α) (t:T α):Nat->T α:=@T.rec α (λ_=>Nat->T α) (λn=>T.single v (n+1) n) (λx l r sl sr n=>@Bool.rec (λ_=>T α) (@Bool.rec (λ_=>T α) (.node x l (sr (n / 2 - 1))) (.node x (sl (n / 2)) r) (Nat.beq (n % 2) 1)) (.node v l r) (Nat.beq n 0)) t
def T.set {α:Type} (t:T α) (n:Nat) (v:Option α):T α:=T.setR v t n
@[simp] theorem T.get_nil {α:Type} (n:Nat):(T.nil:T α).get n=none:=rfl
theorem rx {β:Type} {no yes:β} {b:Bool} {p:Prop} [Decidable p] (h:b=true↔p):@Bool.rec (λ_=>β) no yes b=if p then yes else no:=pick_if h
theorem T.get_node {α:Type} (v:Option α) (l r:T α) (n:Nat):(T.node v l r).get n=if n=0 then v else if n % 2=1 then l.get (n / 2)else r.get (n / 2 - 1):=by
 show @Bool.rec (λ_=>Option α) (@Bool.rec (λ_=>Option α) (r.getR (n / 2 - 1)) (l.getR (n / 2)) (Nat.beq (n % 2) 1)) v (Nat.beq n 0)=_;rw[rx (p:=n=0) (by rw[Nat.beq_eq]),rx (p:=n % 2=1) (by rw[Nat.beq_eq])];rfl
theorem T.single_get {α:Type} (v:Option α):∀(f n:Nat),n < f->∀m,(T.single v f n).get m=if m=n then v else none
 | 0,_,h,_=>absurd h (Nat.not_lt_zero _)
 | f+1,n,h,m=>by
  have e:T.single v (f+1) n=if n=0 then .node v .nil .nil else if n % 2=1 then .node none (T.single v f (n / 2)) .nil else .node none .nil (T.single v f (n / 2 - 1)):=by
   show @Bool.rec (λ_=>T α) (@Bool.rec (λ_=>T α) (.node none .nil (T.single v f (n / 2 - 1))) (.node none (T.single v f (n / 2)) .nil) (Nat.beq (n % 2) 1)) (.node v .nil .nil) (Nat.beq n 0)=_;rw[rx (p:=n=0) (by rw[Nat.beq_eq]),rx (p:=n % 2=1) (by rw[Nat.beq_eq])]
  rw[e]
  by_cases h0:n=0
  ·subst h0;rw[if_pos rfl,T.get_node]
   by_cases hm:m=0 <;> simp[hm]
  ·rw[if_neg h0]
   by_cases h2:n % 2=1
   ·rw[if_pos h2,T.get_node,T.single_get v f (n / 2) Yx]
    by_cases hm:m=0
    ·simp[hm];intro hh;omega
    ·rw[if_neg hm]
     by_cases hm2:m % 2=1
     ·rw[if_pos hm2]
      by_cases e:m=n
      ·simp[e]
      ·rw[if_neg e,if_neg Yx]
     ·rw[if_neg hm2,if_neg Yx];simp
   ·rw[if_neg h2,T.get_node,T.single_get v f (n / 2 - 1) Yx]
    by_cases hm:m=0
    ·simp[hm];intro hh;omega
    ·rw[if_neg hm]
     by_cases hm2:m % 2=1
     ·rw[if_pos hm2,if_neg Yx];simp
     ·rw[if_neg hm2]
      by_cases e:m=n
      ·simp[e]
      ·rw[if_neg e,if_neg Yx]
theorem T.get_set {α:Type} (t:T α) (n:Nat) (v:Option α) (m:Nat):(t.set n v).get m=if m=n then v else t.get m:=by
 induction t generalizing n m with
 | nil=>
  show(T.single v (n+1) n).get m=_;rw[T.single_get v (n+1) n (Nat.lt_succ_self n),T.get_nil]
 | node x l r il ir=>
  have e:(T.node x l r).set n v=if n=0 then .node v l r else if n % 2=1 then .node x (l.set (n / 2) v) r else .node x l (r.set (n / 2 - 1) v):=by
   show @Bool.rec (λ_=>T α) (@Bool.rec (λ_=>T α) (.node x l (T.setR v r (n / 2 - 1))) (.node x (T.setR v l (n / 2)) r) (Nat.beq (n % 2) 1)) (.node v l r) (Nat.beq n 0)=_;rw[rx (p:=n=0) (by rw[Nat.beq_eq]),rx (p:=n % 2=1) (by rw[Nat.beq_eq])];rfl
  rw[e]
  by_cases h0:n=0
  ·subst h0;rw[if_pos rfl,T.get_node,T.get_node]
   by_cases hm:m=0 <;> simp[hm]
  ·rw[if_neg h0]
   by_cases h2:n % 2=1
   ·rw[if_pos h2,T.get_node,T.get_node,il]
    by_cases hm:m=0
    ·simp[hm];intro hh;omega
    ·rw[if_neg hm,if_neg hm]
     by_cases hm2:m % 2=1
     ·rw[if_pos hm2,if_pos hm2]
      by_cases e:m=n
      ·simp[e]
      ·rw[if_neg e,if_neg Yx]
     ·rw[if_neg hm2,if_neg hm2,if_neg Yx]
   ·rw[if_neg h2,T.get_node,T.get_node,ir]
    by_cases hm:m=0
    ·simp[hm];intro hh;omega
    ·rw[if_neg hm,if_neg hm]
     by_cases hm2:m % 2=1
     ·rw[if_pos hm2,if_pos hm2,if_neg Yx]
     ·rw[if_neg hm2,if_neg hm2]
      by_cases e:m=n
      ·simp[e]
      ·rw[if_neg e,if_neg Yx]
inductive AV where
 | unk
 | byte
 | bool (b:Bool)
 | int (k:IntKind) (n:Int)
 | str (s:List UInt8)
 | val (v:Value)
 | ptr (b off:Nat)
 | sl (b off len:Nat) (cap:Nat)
 | slu (b off len es:Nat)
 | map (b:Nat)
 | fn (f:Fn) (first captured:List AV)
 | yield (b:Nat)
 | iface (t:TypeId) (v:AV)
 | agg (l:List AV)
 | tup (l:List AV)
structure Ids where
 at_:Nat->Option Nat
 sz:Nat->Nat
instance:CoeFun Ids (λ_=>Nat->Option Nat):=⟨Ids.at_⟩
mutual
def VR (s:Ids):AV->Value->Prop
 | .unk,v=>v.oneCell'=true
 | .byte,v=>∃n,v= .int .u8 n
 | .bool b,v=>v= .bool b
 | .int k n,v=>v= .int k n
 | .str l,v=>v= .string ⟨⟨l⟩⟩
 | .val x,v=>v=x
 | .ptr b off,v=>∃p,s b=some p/\v= .pointer (some ⟨p,off,none⟩)
 | .sl b off len cap,v=>∃p,s b=some p/\len<=cap/\v= .slice (some ⟨p,off,none⟩) len cap
 | .slu b off len es,v=>∃p c,s b=some p/\len<=c/\off+c * es<=s.sz b/\v= .slice (some ⟨p,off,none⟩) len c
 | .map b,v=>∃p,s b=some p/\v= .map (some p)
 | .fn f first cap,v=>∃a c,VRs s first a/\VRs s cap c/\v= .func f ⟨a⟩ ⟨c⟩
 | .yield b,v=>∃p,s b=some p/\v= .func (.yield p) #[] #[]
 | .iface t x,v=>∃u,VR s x u/\v= .iface t u
 | .agg l,v=>∃a,VRs s l a/\v= .agg ⟨a⟩
 | .tup l,v=>∃a,VRs s l a/\v= .tuple ⟨a⟩
def VRs (s:Ids):List AV->List Value->Prop
 | [],l=>l=[]
 | x :: xs,l=>∃u us,l=u :: us/\VR s x u/\VRs s xs us
end
def Ext (s s':Ids):Prop:=∀b p,s b=some p->s' b=some p/\s'.sz b=s.sz b
theorem Ext.refl (s:Ids):Ext s s:=λ_ _ h=>⟨h,rfl⟩
theorem Ext.trans {a b c:Ids} (h:Ext a b) (k:Ext b c):Ext a c:=λx p e=>⟨(k x p (h x p e).1).1,(k x p (h x p e).1).2.trans (h x p e).2⟩
mutual
theorem VR.mono {s s':Ids} (h:Ext s s'):∀(x:AV) (v:Value),VR s x v->VR s' x v
 | .unk,_,r=>r
 | .byte,_,r=>r
 | .bool _,_,r=>r
 | .int _ _,_,r=>r
 | .str _,_,r=>r
 | .val _,_,r=>r
 | .ptr _ _,_,⟨p,e,r⟩=>⟨p,(h _ _ e).1,r⟩
 | .sl _ _ _ _,_,⟨p,e,r⟩=>⟨p,(h _ _ e).1,r⟩
 | .slu _ _ _ _,_,⟨p,c,e,e1,e2,r⟩=>⟨p,c,(h _ _ e).1,e1,by rw[(h _ _ e).2];exact e2,r⟩
 | .map _,_,⟨p,e,r⟩=>⟨p,(h _ _ e).1,r⟩
 | .fn _ f c,_,⟨a,b,h1,h2,r⟩=>⟨a,b,VRs.mono h f a h1,VRs.mono h c b h2,r⟩
 | .yield _,_,⟨p,e,r⟩=>⟨p,(h _ _ e).1,r⟩
 | .iface _ x,_,⟨u,h1,r⟩=>⟨u,VR.mono h x u h1,r⟩
 | .agg l,_,⟨a,h1,r⟩=>⟨a,VRs.mono h l a h1,r⟩
 | .tup l,_,⟨a,h1,r⟩=>⟨a,VRs.mono h l a h1,r⟩
theorem VRs.mono {s s':Ids} (h:Ext s s'):∀(l:List AV) (v:List Value),VRs s l v->VRs s' l v
 | [],_,r=>r
 | x :: xs,_,⟨u,us,e,h1,h2⟩=>⟨u,us,e,VR.mono h x u h1,VRs.mono h xs us h2⟩
end
theorem VRs.length {s:Ids}:∀{l:List AV} {v:List Value},VRs s l v->v.length=l.length
 | [],_,h=>by obtain rfl:_=[]:=h;rfl
 | _ :: _,_,h=>by obtain⟨u,us,rfl,_,h2⟩:=h;simp[VRs.length h2]
theorem VRs.get {s:Ids}:∀{l:List AV} {v:List Value},VRs s l v->∀(i:Nat) (x:AV),l[i]?=some x->∃u,v[i]?=some u/\VR s x u
 | [],_,_,i,x,hx=>by simp at hx
 | y :: ys,_,h,i,x,hx=>by
  obtain⟨u,us,rfl,h1,h2⟩:=h;cases i with
  | zero=>simp at hx;subst hx;exact⟨u,rfl,h1⟩
  | succ i=>simpa using VRs.get h2 i x (by simpa using hx)
theorem VRs.of_get {s:Ids}:∀{l:List AV} {v:List Value},v.length=l.length->(∀(i:Nat) (x:AV) (u:Value),l[i]?=some x->v[i]?=some u->VR s x u)->VRs s l v
 | [],v,hl,_=>by unfold VRs;exact List.eq_nil_of_length_eq_zero hl
 | y :: ys,[],hl,_=>by simp at hl
 | y :: ys,u :: us,hl,h=>⟨u,us,rfl,h 0 y u rfl rfl,VRs.of_get (by simpa using hl) λi x u' hx hu=>h (i+1) x u' (by simpa using hx) (by simpa using hu)⟩
theorem VRs.append {s:Ids}:∀{l:List AV} {v:List Value} {m:List AV} {u:List Value},VRs s l v->VRs s m u->VRs s (l ++ m) (v ++ u)
 | [],_,_,_,h,k=>by obtain rfl:_=[]:=h;exact k
 | x :: xs,_,_,_,h,k=>by
  obtain⟨u,us,rfl,h1,h2⟩:=h;exact⟨u,_,rfl,h1,VRs.append h2 k⟩
theorem VRs.take {s:Ids} (n:Nat):∀{l:List AV} {v:List Value},VRs s l v->VRs s (l.take n) (v.take n):=by
 intro l v h;refine VRs.of_get (by simp[h.length]) λi x u hx hu=>?_;simp only[List.getElem?_take]at hx hu;split at hx
 ·rename_i hi;rw[if_pos hi]at hu;obtain⟨u',hu',hr⟩:=h.get i x hx;rw[hu']at hu;obtain rfl:u'=u:=by simpa using hu
  exact hr
 ·simp at hx
theorem VRs.drop {s:Ids} (n:Nat):∀{l:List AV} {v:List Value},VRs s l v->VRs s (l.drop n) (v.drop n):=by
 intro l v h;refine VRs.of_get (by simp[h.length]) λi x u hx hu=>?_;simp only[List.getElem?_drop]at hx hu;obtain⟨u',hu',hr⟩:=h.get _ x hx;rw[hu']at hu;obtain rfl:u'=u:=by simpa using hu
 exact hr
def AV.one:AV->Bool
 | .agg _=>false
 | .tup _=>false
 | .val v=>v.oneCell'
 | _=>true
theorem VR.one {s:Ids} {x:AV} {v:Value} (h:VR s x v) (ho:x.one=true):v.oneCell'=true:=by
 cases x with
 | unk=>exact h
 | byte=>obtain⟨n,rfl⟩:=h;rfl
 | bool b=>obtain rfl:v=_:=h;rfl
 | int k n=>obtain rfl:v=_:=h;rfl
 | str l=>obtain rfl:v=_:=h;rfl
 | val x=>obtain rfl:v=_:=h;exact ho
 | ptr b o=>obtain⟨p,_,rfl⟩:=h;rfl
 | sl b o n c=>obtain⟨p,_,_,rfl⟩:=h;rfl
 | slu b o n c=>obtain⟨p,c,_,_,_,rfl⟩:=h;rfl
 | map b=>obtain⟨p,_,rfl⟩:=h;rfl
 | fn f a c=>obtain⟨_,_,_,_,rfl⟩:=h;rfl
 | yield b=>obtain⟨p,_,rfl⟩:=h;rfl
 | iface t x=>obtain⟨u,_,rfl⟩:=h;rfl
 | agg l=>cases ho
 | tup l=>cases ho
def AV.cells:AV->List AV
 | .agg l=>l
 | v=>[v]
structure ni where
 key:AV
 val:AV
 born:Nat
inductive Blk where
 | cells (size:Nat) (opn:Bool) (elem:TypeId) (per:Nat) (zs:List AV) (ov:T AV)
 | map (es:List ni) (clock:Nat)
 | iter (m:Nat) (since:Nat) (seen:List Nat) (stepped:Nat)
 | iter0
 | ro (size:Nat) (per:Nat) (zs:List AV) (ov:T AV)
 | loop (state:LoopState) (pending:Option Code) (fn:FuncId) (n:Nat) (tmps:T AV) (params:Array Tmp) (assign body:Code) (defers:Nat)
 | defers
def cellAt (per:Nat) (zs:List AV) (ov:T AV) (i:Nat):AV:=match ov.get i with
 | some v=>v
 | none=>zs.getD (i % per) .unk
def ER (s:Ids) (e:ni) (m:MapEntry):Prop:=VR s e.key m.key/\VR s e.val m.val/\m.born=e.born
def ERs (s:Ids):List ni->List MapEntry->Prop
 | [],l=>l=[]
 | x :: xs,l=>∃u us,l=u :: us/\ER s x u/\ERs s xs us
theorem ERs.mono {s s':Ids} (h:Ext s s'):∀(l:List ni) (v:List MapEntry),ERs s l v->ERs s' l v
 | [],_,r=>r
 | _ :: xs,_,⟨u,us,e,h1,h2⟩=>⟨u,us,e,⟨VR.mono h _ _ h1.1,VR.mono h _ _ h1.2.1,h1.2.2⟩,ERs.mono h xs us h2⟩
def TR (s:Ids) (n:Nat) (t:T AV) (a:Array Value):Prop:=a.size=n/\∀i v,t.get i=some v->∃u,a[i]?=some u/\VR s v u
theorem TR.mono {s s':Ids} (h:Ext s s') {n:Nat} {t:T AV} {a:Array Value} (r:TR s n t a):TR s' n t a:=⟨r.1,λi v e=>let⟨u,e1,e2⟩:=r.2 i v e;⟨u,e1,VR.mono h _ _ e2⟩⟩
theorem TR.put {s:Ids} {n d:Nat} {t:T AV} {a:Array Value} {v:AV} {u:Value} (r:TR s n t a) (hd:d < n) (h:VR s v u):TR s n (t.set d (some v)) (a.setIfInBounds d u):=by
 refine⟨by simpa using r.1,λi x e=>?_⟩;rw[T.get_set]at e
 by_cases hi:i=d
 ·subst hi;rw[if_pos rfl]at e;obtain rfl:=Xa e;exact⟨u,by simp[r.1,hd],h⟩
 ·rw[if_neg hi]at e;obtain⟨y,e1,e2⟩:=r.2 i x e;exact⟨y,by rw[Array.getElem?_setIfInBounds_ne (Ne.symm hi)];exact e1,e2⟩
def BR (s:Ids):Blk->Obj->Prop
 | .cells size opn elem per zs ov,o=>∃c fz,o= .cells c elem fz/\(fz.2<=fz.1\/c.size<=fz.1)/\size<=c.size/\(opn=false->c.size=size)/\∀i,i < size->∃v,c[i]?=some v/\v.oneCell'=true/\VR s (cellAt per zs ov i) v
 | .map es clock,o=>∃ces,o= .map ⟨ces⟩ clock/\ERs s es ces
 | .iter m since seen stepped,o=>∃p,s m=some p/\o= .mapIter (some p) since ⟨seen⟩ stepped
 | .loop state pending _ n tmps params assign body d,o=>∃ts p fn,TR s n tmps ts/\s d=some p/\o= .loop {state,pending,fn,tmps:=ts,params,assign,body,defers:=p}
 | .iter0,o=>o= .mapIter none 0 #[] 0
 | .ro size per zs ov,o=>∃c e fz,o= .cells c e fz/\size<=c.size/\∀i,i < size->∃v,c[i]?=some v/\v.oneCell'=true/\VR s (cellAt per zs ov i) v
 | .defers,o=>o= .deferred (some [])
theorem BR.mono {s s':Ids} (h:Ext s s') {k:Blk} {o:Obj} (hb:BR s k o):BR s' k o:=by
 cases k with
 | cells size opn elem per zs ov=>
  obtain⟨c,fz,e,h0,h1,h2,h3⟩:=hb;exact⟨c,fz,e,h0,h1,h2,λi hi=>let⟨v,a,b,r⟩:=h3 i hi;⟨v,a,b,VR.mono h _ _ r⟩⟩
 | map es clock=>obtain⟨c,e,h1⟩:=hb;exact⟨c,e,ERs.mono h _ _ h1⟩
 | iter m a b c=>obtain⟨p,h1,e⟩:=hb;exact⟨p,(h _ _ h1).1,e⟩
 | loop a b c d e f g i j=>obtain⟨ts,p,f',h1,h2,e⟩:=hb;exact⟨ts,p,f',h1.mono h,(h _ _ h2).1,e⟩
 | iter0=>exact hb
 | ro size per zs ov=>
  obtain⟨c,e,fz,h1,h2,h3⟩:=hb;exact⟨c,e,fz,h1,h2,λi hi=>let⟨v,a,b,r⟩:=h3 i hi;⟨v,a,b,VR.mono h _ _ r⟩⟩
 | defers=>exact hb
structure St where
 heap:T Blk
 fresh:Nat
 rd:Nat
 wr:Nat
def St.alive (s:St) (b:Nat):Prop:=(s.heap.get b).isSome=true
def Sz (n:Nat):Obj->Prop
 | .cells c _ _=>c.size=n
 | _=>True
structure nh (X:Nat->Prop) (sg:Ids) (h:T Blk) (w:World):Prop where
 cell:∀b,X b->∃k p o,h.get b=some k/\sg b=some p/\w.heap[p]?=some o/\BR sg k o/\Sz (sg.sz b) o
 inj:∀b c p,X b->X c->sg b=some p->sg c=some p->b=c
def St.wf (s:St):Prop:=∀b,s.alive b->b < s.fresh
structure Abs (s s':St):Prop where
 fresh:s.fresh<=s'.fresh
 rd:∀b,s.rd.testBit b=true->s'.rd.testBit b=true
 wr:∀b,s.wr.testBit b=true->s'.wr.testBit b=true
 keep:∀b,b < s.fresh->s'.wr.testBit b=false->s'.heap.get b=s.heap.get b
 live:∀b,s'.alive b->s.alive b\/(s.fresh<=b/\b < s'.fresh)
theorem Abs.refl (s:St):Abs s s:=⟨Xc _,λ_ h=>h,λ_ h=>h,λ_ _ _=>rfl,λ_ h=> .inl h⟩
theorem Abs.trans {a b c:St} (h:Abs a b) (k:Abs b c):Abs a c:=by
 refine⟨Nat.le_trans h.fresh k.fresh,λx e=>k.rd x (h.rd x e),λx e=>k.wr x (h.wr x e),λx hx hw=>?_,λx hx=>?_⟩
 ·have hb:b.wr.testBit x=false:=by
   cases hh:b.wr.testBit x with
   | false=>rfl
   | true=>rw[k.wr x hh]at hw;cases hw
  rw[k.keep x (Nat.lt_of_lt_of_le hx h.fresh) hw,h.keep x hx hb]
 ·rcases k.live x hx with h1 | h1
  ·rcases h.live x h1 with h2 | h2
   ·exact .inl h2
   ·exact .inr ⟨h2.1,Nat.lt_of_lt_of_le h2.2 k.fresh⟩
  ·exact .inr ⟨Nat.le_trans h.fresh h1.1,h1.2⟩
theorem Abs.wf {s s':St} (h:Abs s s') (hw:s.wf):s'.wf:=λb hb=>by
 rcases h.live b hb with h1 | h1
 ·exact Nat.lt_of_lt_of_le (hw b h1) h.fresh
 ·exact h1.2
def fk (X:Nat->Prop) (s s':St) (b:Nat):Prop:=(X b\/(s.fresh<=b/\b < s'.fresh))/\s'.alive b
structure Ask (X:Nat->Prop) (sg:Ids) (w:World) (s s':St):Prop where
 holds:nh X sg s.heap w
 wf:s.wf
 foot:∀b,(s'.rd.testBit b=true\/s'.wr.testBit b=true)->s.alive b->X b
 new:∀b,s.fresh<=b->b < s'.fresh->sg b=none
theorem nh.alive {X:Nat->Prop} {sg:Ids} {h:T Blk} {w:World} (H:nh X sg h w) {b:Nat} (hb:X b):(h.get b).isSome=true:=by
 obtain⟨k,p,o,e,_⟩:=H.cell b hb;rw[e];rfl
structure dx (X:Nat->Prop) (sg:Ids) (w:World) (s:St) (sg':Ids) (w':World) (s':St):Prop where
 ext:Ext sg sg'
 dom:∀b p,sg' b=some p->sg b=some p\/(s.fresh<=b/\b < s'.fresh)
 new:∀b p,s.fresh<=b->b < s'.fresh->sg' b=some p->w.heap.size<=p\/∃c,X c/\s'.wr.testBit c=true/\sg c=some p/\¬s'.alive c
 holds:nh (fk X s s') sg' s'.heap w'
 size:w.heap.size<=w'.heap.size
 os:w'.os=w.os
 tape:w'.tape=w.tape
 output:w'.output=w.output
 frame:∀p,p < w.heap.size->(∀c,X c->s'.wr.testBit c=true->sg c≠some p)->w'.heap[p]?=w.heap[p]?
theorem dx.trans {X:Nat->Prop} {sg sg1 sg2:Ids} {w w1 w2:World} {s s1 s2:St} (h:dx X sg w s sg1 w1 s1) (k:dx (fk X s s1) sg1 w1 s1 sg2 w2 s2)
  (a1:Abs s s1) (a2:Abs s1 s2) (hwf:s.wf) (hX:∀b,X b->b < s.fresh/\∃p,sg b=some p):dx X sg w s sg2 w2 s2:=by
 refine⟨h.ext.trans k.ext,?_,?_,?_,Nat.le_trans h.size k.size,k.os.trans h.os,k.tape.trans h.tape,k.output.trans h.output,?_⟩
 ·intro b p e;rcases k.dom b p e with e1 | e1
  ·rcases h.dom b p e1 with e2 | e2
   ·exact .inl e2
   ·exact .inr ⟨e2.1,Nat.lt_of_lt_of_le e2.2 a2.fresh⟩
  ·exact .inr ⟨Nat.le_trans a1.fresh e1.1,e1.2⟩
 ·intro b p h1 h2 e;have dead:∀c,c < s1.fresh->¬s1.alive c->¬s2.alive c:=λc hc hn ha=>by
   rcases a2.live c ha with h3 | h3
   ·exact hn h3
   ·exact absurd h3.1 (Nat.not_le.2 hc)
  by_cases hb:b < s1.fresh
  ·have e1:sg1 b=some p:=by
    rcases k.dom b p e with e1 | e1
    ·exact e1
    ·exact absurd e1.1 (Nat.not_le.2 hb)
   rcases h.new b p h1 hb e1 with h3 | ⟨c,hc,hw,hs,hd⟩
   ·exact .inl h3
   ·exact .inr ⟨c,hc,a2.wr c hw,hs,dead c (Nat.lt_of_lt_of_le (hX c hc).1 a1.fresh) hd⟩
  ·rcases k.new b p (Nat.le_of_not_lt hb) h2 e with h3 | ⟨c,hc,hw,hs,hd⟩
   ·exact .inl (Nat.le_trans h.size h3)
   ·rcases hc.1 with hx | hx
    ·obtain⟨q,hq⟩:=(hX c hx).2;have:=(h.ext c q hq).1;rw[hs]at this;obtain rfl:p=q:=by simpa using this
     exact .inr ⟨c,hx,hw,hq,hd⟩
    ·rcases h.new c p hx.1 hx.2 hs with h4 | ⟨c',hc',hw',hs',hd'⟩
     ·exact .inl h4
     ·exact .inr ⟨c',hc',a2.wr c' hw',hs',dead c' (Nat.lt_of_lt_of_le (hX c' hc').1 a1.fresh) hd'⟩
 ·have key:∀b,fk X s s2 b->fk (fk X s s1) s1 s2 b:=λb hb=>by
   obtain⟨h1,h2⟩:=hb;refine⟨?_,h2⟩;rcases a2.live b h2 with h3 | h3
   ·refine .inl ⟨?_,h3⟩;rcases h1 with h4 | h4
    ·exact .inl h4
    ·rcases a1.live b h3 with h5 | h5
     ·exact absurd (hwf b h5) (Nat.not_lt.2 h4.1)
     ·exact .inr h5
   ·exact .inr h3
  exact⟨λb hb=>k.holds.cell b (key b hb),λb c p hb hc=>k.holds.inj b c p (key b hb) (key c hc)⟩
 ·intro p hp hc;have e1:w1.heap[p]?=w.heap[p]?:=h.frame p hp λc hx hw=>hc c hx (a2.wr c hw);rw[<-e1];refine k.frame p (Nat.lt_of_lt_of_le hp h.size) λc hx hw hs=>?_;rcases hx.1 with h1 | h1
  ·obtain⟨q,hq⟩:=(hX c h1).2;have:=(h.ext c q hq).1;rw[hs]at this;obtain rfl:p=q:=by simpa using this
   exact hc c h1 hw hq
  ·rcases h.new c p h1.1 h1.2 hs with h4 | ⟨c',hc',hw',hs',_⟩
   ·omega
   ·exact hc c' hc' (a2.wr c' hw') hs'
end
end RX
end
section
namespace RX
noncomputable section
theorem cd (n b c:Nat):(n ||| 2 ^ b).testBit c=true↔n.testBit c=true\/c=b:=by
 rw[Nat.testBit_or,Nat.testBit_two_pow]
 by_cases h:b=c
 ·simp[h]
 ·simp[h,Ne.symm h]
theorem j8 {n b c:Nat} (h:(n ||| 2 ^ b).testBit c=false):n.testBit c=false/\c≠b:=by
 have:=cd n b c;rw[h]at this;simp only[Bool.false_eq_true,false_iff,not_or]at this;exact⟨by simpa using this.1,this.2⟩
def St.saw (s:St) (b:Nat):St:={s with rd:=s.rd ||| 2 ^ b}
def St.new (s:St) (k:Blk):St:={s with heap:=s.heap.set s.fresh (some k),fresh:=s.fresh+1}
def St.put (s:St) (b:Nat) (k:Blk):St:={s with heap:=s.heap.set b (some k),wr:=s.wr ||| 2 ^ b}
def St.move (s:St) (b:Nat) (k:Blk):St:={heap:=(s.heap.set b none).set s.fresh (some k),fresh:=s.fresh+1,rd:=s.rd,wr:=s.wr ||| 2 ^ b}
def Ids.with (sg:Ids) (b p n:Nat):Ids:=⟨λc=>if c=b then some p else sg c,λc=>if c=b then n else sg.sz c⟩
theorem Ids.with_self (sg:Ids) (b p n:Nat):sg.with b p n b=some p:=by simp[Ids.with]
theorem Ids.with_sz (sg:Ids) (b p n:Nat):(sg.with b p n).sz b=n:=by simp[Ids.with]
theorem Ids.with_ext {sg:Ids} {b:Nat} (p n:Nat) (h:sg b=none):Ext sg (sg.with b p n):=λc q e=>by
 unfold Ids.with
 by_cases hc:c=b
 ·rw[hc,h]at e;cases e
 ·simp[hc,e]
theorem Ids.with_other {sg:Ids} {b p n c:Nat} (h:c≠b):sg.with b p n c=sg c:=by simp[Ids.with,h]
theorem Abs.saw (s:St) (b:Nat):Abs s (s.saw b):=⟨Xc _,λ_c h=>(cd _ _ _).2 (.inl h),λ_ h=>h,λ_ _ _=>rfl,λ_ h=> .inl h⟩
theorem Abs.new {s:St} (k:Blk):Abs s (s.new k):=by
 refine⟨Nat.le_succ _,λ_ h=>h,λ_ h=>h,λc hc _=>?_,λc hc=>?_⟩
 ·show(s.heap.set s.fresh (some k)).get c=_;rw[T.get_set,if_neg (Nat.ne_of_lt hc)]
 ·unfold St.alive at hc;change ((s.heap.set s.fresh (some k)).get c).isSome=true at hc;rw[T.get_set]at hc;split at hc
  ·rename_i e;exact .inr ⟨Yx,by show c < s.fresh+1;omega⟩
  ·exact .inl hc
theorem Abs.put {s:St} {b:Nat} (k:Blk) (hb:s.alive b):Abs s (s.put b k):=by
 refine⟨Xc _,λ_ h=>h,λc h=>(cd _ _ _).2 (.inl h),λc hc hw=>?_,λc hc=>?_⟩
 ·show(s.heap.set b (some k)).get c=_;rw[T.get_set,if_neg (j8 hw).2]
 ·unfold St.alive at hc;change ((s.heap.set b (some k)).get c).isSome=true at hc;rw[T.get_set]at hc;split at hc
  ·rename_i e;subst e;exact .inl hb
  ·exact .inl hc
theorem Abs.move {s:St} {b:Nat} (k:Blk):Abs s (s.move b k):=by
 refine⟨Nat.le_succ _,λ_ h=>h,λc h=>(cd _ _ _).2 (.inl h),λc hc hw=>?_,λc hc=>?_⟩
 ·show((s.heap.set b none).set s.fresh (some k)).get c=_;rw[T.get_set,if_neg (Nat.ne_of_lt hc),T.get_set,if_neg (j8 hw).2]
 ·unfold St.alive at hc;change (((s.heap.set b none).set s.fresh (some k)).get c).isSome=true at hc;rw[T.get_set]at hc;split at hc
  ·rename_i e;exact .inr ⟨Yx,by show c < s.fresh+1;omega⟩
  ·rw[T.get_set]at hc;split at hc
   ·cases hc
   ·exact .inl hc
section
variable {X:Nat->Prop} {sg:Ids} {w w':World} {s s':St}
theorem dx.same (hh:s'.heap=s.heap) (hf:s'.fresh=s.fresh) (H:nh X sg s.heap w) (hw:w'.heap=w.heap) (os:w'.os=w.os) (tape:w'.tape=w.tape) (out:w'.output=w.output):dx X sg w s sg w' s':=by
 refine⟨Ext.refl _,λ_ _ e=> .inl e,λb p h1 h2 _=>by rw[hf]at h2;omega,?_,by rw[hw];exact Xc _,os,tape,out,λp _ _=>by rw[hw]⟩;have key:∀b,fk X s s' b->X b:=λb hb=>by
  rcases hb.1 with h | h
  ·exact h
  ·rw[hf]at h;omega
 exact⟨λb hb=>by rw[hh,hw];exact H.cell b (key b hb),λb c p hb hc=>H.inj b c p (key b hb) (key c hc)⟩
theorem dx.saw (b:Nat) (H:nh X sg s.heap w):dx X sg w s sg w (s.saw b):=dx.same rfl rfl H rfl rfl rfl rfl
theorem dx.refl (H:nh X sg s.heap w):dx X sg w s sg w s:=dx.same rfl rfl H rfl rfl rfl rfl
theorem dx.alloc {k:Blk} {o:Obj} {n:Nat} (H:nh X sg s.heap w) (hX:∀b,X b->b < s.fresh) (hn:sg s.fresh=none) (hk:BR (sg.with s.fresh w.heap.size n) k o) (hz:Sz n o)
  (hw:w'.heap=w.heap.push o) (os:w'.os=w.os) (tape:w'.tape=w.tape) (out:w'.output=w.output):dx X sg w s (sg.with s.fresh w.heap.size n) w' (s.new k):=by
 have hext:=Ids.with_ext w.heap.size n hn;have old:∀p,p < w.heap.size->w'.heap[p]?=w.heap[p]?:=λp hp=>by rw[hw,Array.getElem?_push];simp[Nat.ne_of_lt hp]
 have hlt:∀b p,X b->sg b=some p->p < w.heap.size:=λb p hb e=>by
  obtain⟨k,q,o,_,e2,h3,_,_⟩:=H.cell b hb;rw[e]at e2;obtain rfl:p=q:=by simpa using e2
  exact(Array.getElem?_eq_some_iff.1 h3).1
 have key:∀b,fk X s (s.new k) b->X b\/b=s.fresh:=λb hb=>by
  rcases hb.1 with h | h
  ·exact .inl h
  ·exact .inr (by have:b < s.fresh+1:=h.2;omega)
 have sgX:∀b p,X b->sg.with s.fresh w.heap.size n b=some p->sg b=some p:=λb p hb e=>by
  rwa [Ids.with_other (Nat.ne_of_lt (hX b hb))]at e
 have sgF:∀p,sg.with s.fresh w.heap.size n s.fresh=some p->p=w.heap.size:=λp e=>by
  rw[Ids.with_self]at e;simpa using e.symm
 refine⟨hext,?_,?_,⟨?_,?_⟩,by rw[hw];simp,os,tape,out,λp hp _=>old p hp⟩
 ·intro b p e
  by_cases hb:b=s.fresh
  ·exact .inr ⟨Yx,by show b < s.fresh+1;omega⟩
  ·rw[Ids.with_other hb]at e;exact .inl e
 ·intro b p h1 h2 e;have:b=s.fresh:=by have:b < s.fresh+1:=h2;omega
  subst this;exact .inl (by rw[sgF p e];exact Xc _)
 ·intro b hb;show∃k' p o',(s.heap.set s.fresh (some k)).get b=some k'/\_;rw[T.get_set];rcases key b hb with h | h
  ·obtain⟨k',p,o',h1,h2,h3,h4,h5⟩:=H.cell b h;have hb':b≠s.fresh:=Nat.ne_of_lt (hX b h);exact⟨k',p,o',by rw[if_neg hb'];exact h1,(hext _ _ h2).1,by rw[old p (hlt b p h h2)];exact h3,h4.mono hext,by rw[(hext _ _ h2).2];exact h5⟩
  ·exact⟨k,w.heap.size,o,by rw[if_pos h],by rw[h];exact Ids.with_self ..,by rw[hw];simp,hk,by rw[h,Ids.with_sz];exact hz⟩
 ·intro b c p hb hc e1 e2;rcases key b hb with h1 | h1 <;> rcases key c hc with h2 | h2
  ·exact H.inj b c p h1 h2 (sgX b p h1 e1) (sgX c p h2 e2)
  ·subst h2;have:=hlt b p h1 (sgX b p h1 e1);rw[sgF p e2]at this;exact absurd this (Nat.lt_irrefl _)
  ·subst h1;have:=hlt c p h2 (sgX c p h2 e2);rw[sgF p e1]at this;exact absurd this (Nat.lt_irrefl _)
  ·rw[h1,h2]
theorem dx.put {b p:Nat} {k:Blk} {o:Obj} (H:nh X sg s.heap w) (hb:X b) (hp:sg b=some p) (hk:BR sg k o) (hz:Sz (sg.sz b) o)
  (hw:w'.heap=w.heap.setIfInBounds p o) (os:w'.os=w.os) (tape:w'.tape=w.tape) (out:w'.output=w.output):dx X sg w s sg w' (s.put b k):=by
 have hpl:p < w.heap.size:=by
  obtain⟨k,q,o,_,e2,h3,_,_⟩:=H.cell b hb;rw[hp]at e2;obtain rfl:p=q:=by simpa using e2
  exact(Array.getElem?_eq_some_iff.1 h3).1
 have old:∀q,q≠p->w'.heap[q]?=w.heap[q]?:=λq hq=>by rw[hw,Array.getElem?_setIfInBounds_ne (Ne.symm hq)]
 have key:∀c,fk X s (s.put b k) c->X c:=λc hc=>by
  rcases hc.1 with h | h
  ·exact h
  ·have:c < s.fresh:=h.2;omega
 refine⟨Ext.refl _,λ_ _ e=> .inl e,λc q h1 h2 _=>by have:c < s.fresh:=h2;omega,⟨?_,λc d q hc hd=>H.inj c d q (key c hc) (key d hd)⟩,by rw[hw];simp,os,tape,out,?_⟩
 ·intro c hc;show∃k' q o',(s.heap.set b (some k)).get c=some k'/\_;rw[T.get_set]
  by_cases e:c=b
  ·subst e;exact⟨k,p,o,by rw[if_pos rfl],hp,by rw[hw];simp[hpl],hk,hz⟩
  ·obtain⟨k',q,o',h1,h2,h3,h4,h5⟩:=H.cell c (key c hc);have hq:q≠p:=λhqp=>e (H.inj c b p (key c hc) hb (by rw[<-hqp];exact h2) hp);exact⟨k',q,o',by rw[if_neg e];exact h1,h2,by rw[old q hq];exact h3,h4,h5⟩
 ·intro q hq hc;refine old q λe=>?_;subst e;exact hc b hb ((cd _ _ _).2 (.inr rfl)) hp
theorem dx.move {b p q n:Nat} {k:Blk} {o:Obj} (H:nh X sg s.heap w) (hX:∀b,X b->b < s.fresh) (hb:X b) (hp:sg b=some p) (hn:sg s.fresh=none) (hk:BR (sg.with s.fresh q n) k o) (hz:Sz n o)
  (hq:(q=p/\w'.heap=w.heap.setIfInBounds p o)\/(q=w.heap.size/\w'.heap=w.heap.push o)) (os:w'.os=w.os) (tape:w'.tape=w.tape) (out:w'.output=w.output):dx X sg w s (sg.with s.fresh q n) w' (s.move b k):=by
 have hext:=Ids.with_ext q n hn;have hlt:∀b p,X b->sg b=some p->p < w.heap.size:=λb p hb e=>by
  obtain⟨k,q,o,_,e2,h3,_,_⟩:=H.cell b hb;rw[e]at e2;obtain rfl:p=q:=by simpa using e2
  exact(Array.getElem?_eq_some_iff.1 h3).1
 have hpl:=hlt b p hb hp;have old:∀r,r < w.heap.size->r≠p->w'.heap[r]?=w.heap[r]?:=λr hr hrp=>by
  rcases hq with ⟨_,e⟩ | ⟨_,e⟩
  ·rw[e,Array.getElem?_setIfInBounds_ne (Ne.symm hrp)]
  ·rw[e,Array.getElem?_push];simp[Nat.ne_of_lt hr]
 have hnew:w'.heap[q]?=some o:=by
  rcases hq with ⟨e1,e⟩ | ⟨e1,e⟩
  ·rw[e,e1];simp[hpl]
  ·rw[e,e1];simp
 have get:∀c,(s.move b k).heap.get c=if c=s.fresh then some k else if c=b then none else s.heap.get c:=λc=>by
  show((s.heap.set b none).set s.fresh (some k)).get c=_;rw[T.get_set];split
  ·rfl
  ·rw[T.get_set]
 have key:∀c,fk X s (s.move b k) c->(X c/\c≠b)\/c=s.fresh:=λc hc=>by
  by_cases e:c=s.fresh
  ·exact .inr e
  ·have ha:=hc.2;unfold St.alive at ha;rw[get,if_neg e]at ha;split at ha
   ·cases ha
   ·rename_i hcb;rcases hc.1 with h | h
    ·exact .inl ⟨h,hcb⟩
    ·have:c < s.fresh+1:=h.2;omega
 have sgX:∀c r,X c->sg.with s.fresh q n c=some r->sg c=some r:=λc r hc e=>by
  rwa [Ids.with_other (Nat.ne_of_lt (hX c hc))]at e
 have sgF:∀r,sg.with s.fresh q n s.fresh=some r->r=q:=λr e=>by
  rw[Ids.with_self]at e;simpa using e.symm
 have apart:∀c,X c->c≠b->sg c≠some q:=λc hc hcb e=>by
  rcases hq with ⟨e1,_⟩ | ⟨e1,_⟩
  ·exact hcb (H.inj c b p hc hb (by rw[e,e1]) hp)
  ·have:=hlt c q hc e;omega
 refine⟨hext,?_,?_,⟨?_,?_⟩,?_,os,tape,out,?_⟩
 ·intro c r e
  by_cases hc:c=s.fresh
  ·exact .inr ⟨Yx,by show c < s.fresh+1;omega⟩
  ·rw[Ids.with_other hc]at e;exact .inl e
 ·intro c r h1 h2 e;have:c=s.fresh:=by have:c < s.fresh+1:=h2;omega
  subst this;rw[sgF r e];rcases hq with ⟨e1,_⟩ | ⟨e1,_⟩
  ·refine .inr ⟨b,hb,(cd _ _ _).2 (.inr rfl),by rw[e1];exact hp,?_⟩;unfold St.alive;rw[get,if_neg (Nat.ne_of_lt (hX b hb)),if_pos rfl];simp
  ·exact .inl Yx
 ·intro c hc;rw[get];rcases key c hc with ⟨h,hcb⟩ | h
  ·obtain⟨k',r,o',h1,h2,h3,h4,h5⟩:=H.cell c h;have hc':c≠s.fresh:=Nat.ne_of_lt (hX c h);refine⟨k',r,o',by rw[if_neg hc',if_neg hcb];exact h1,(hext _ _ h2).1,?_,h4.mono hext,by rw[(hext _ _ h2).2];exact h5⟩;rw[old r (hlt c r h h2) λe=>hcb (H.inj c b p h hb (by rw[<-e];exact h2) hp)];exact h3
  ·exact⟨k,q,o,by rw[if_pos h],by rw[h];exact Ids.with_self ..,hnew,hk,by rw[h,Ids.with_sz];exact hz⟩
 ·intro c d r hc hd e1 e2;rcases key c hc with ⟨h1,n1⟩ | h1 <;> rcases key d hd with ⟨h2,n2⟩ | h2
  ·exact H.inj c d r h1 h2 (sgX c r h1 e1) (sgX d r h2 e2)
  ·subst h2;exact absurd (by rw[sgX c r h1 e1,sgF r e2]) (apart c h1 n1)
  ·subst h1;exact absurd (by rw[sgX d r h2 e2,sgF r e1]) (apart d h2 n2)
  ·rw[h1,h2]
 ·rcases hq with ⟨_,e⟩ | ⟨_,e⟩ <;> rw[e] <;> simp
 ·intro r hr hc;refine old r hr λe=>?_;subst e;exact hc b hb ((cd _ _ _).2 (.inr rfl)) hp
end
def cj (per:Nat) (zs:List AV) (ov:T AV):Nat->Nat->List AV
 | _,0=>[]
 | i,n+1=>cellAt per zs ov i :: cj per zs ov (i+1) n
def setCells (ov:T AV):Nat->List AV->T AV
 | _,[]=>ov
 | i,x :: xs=>setCells (ov.set i (some x)) (i+1) xs
theorem en (per:Nat) (zs:List AV) (ov:T AV):∀(n i:Nat),(cj per zs ov i n).length=n
 | 0,_=>rfl
 | n+1,i=>by simp[cj,en per zs ov n]
theorem kf (per:Nat) (zs:List AV) (ov:T AV):∀(n i j:Nat),j < n->(cj per zs ov i n)[j]?=some (cellAt per zs ov (i+j))
 | 0,_,_,h=>absurd h (Nat.not_lt_zero _)
 | n+1,i,j,h=>by
  cases j with
  | zero=>rfl
  | succ j=>
   simp only[cj,List.getElem?_cons_succ];rw[kf per zs ov n (i+1) j Yx];congr 2;omega
theorem nu:∀(xs:List AV) (ov:T AV) (i j:Nat),(setCells ov i xs).get j=if i<=j/\j < i+xs.length then xs[j - i]? else ov.get j
 | [],ov,i,j=>by
  rw[if_neg (by simp only[List.length_nil];omega)];rfl
 | x :: xs,ov,i,j=>by
  rw[setCells,nu xs]
  by_cases h1:i+1<=j/\j < i+1+xs.length
  ·rw[if_pos h1,if_pos (by simp;omega)];rw[show j - i=(j - (i+1))+1 by omega,List.getElem?_cons_succ]
  ·rw[if_neg h1,T.get_set]
   by_cases h2:j=i
   ·subst h2;rw[if_pos rfl,if_pos Yy];simp
   ·rw[if_neg h2,if_neg (by simp;omega)]
theorem ou (per:Nat) (zs:List AV) (ov:T AV) (xs:List AV) (i j:Nat):cellAt per zs (setCells ov i xs) j=if i<=j/\j < i+xs.length then xs.getD (j - i) .unk else cellAt per zs ov j:=by
 unfold cellAt;rw[nu]
 by_cases h:i<=j/\j < i+xs.length
 ·rw[if_pos h,if_pos h];have:j - i < xs.length:=Yx;simp[this]
 ·rw[if_neg h,if_neg h]
section
variable {P:Program} {w:World}
theorem Bx {p off:Nat} {c:Array Value} {e:TypeId} {fz:Nat×Nat} (h:w.heap[p]?=some (.cells c e fz)):w.cell? ⟨p,off,none⟩=c[off]?:=by
 simp[World.cell?,h]
theorem jr (p off j:Nat):(⟨p,off,none⟩:Addr).add j=⟨p,off+j,none⟩:=by
 unfold Addr.add;split <;> simp_all
theorem rh {sg:Ids} {size per p off n:Nat} {opn:Bool} {elem:TypeId} {zs:List AV} {ov:T AV} {o:Obj} (hb:BR sg (.cells size opn elem per zs ov) o) (hp:w.heap[p]?=some o) (hn:off+n<=size):
  ∃cs:List Value,VRs sg (cj per zs ov off n) cs/\(∀v∈cs,v.oneCell'=true)/\cs.length=n/\(∀j v,cs[j]?=some v->w.cell? (Addr.add ⟨p,off,none⟩ j)=some v):=by
 obtain⟨c,fz,rfl,h0,h1,h2,h3⟩:=hb;refine⟨(c.toList.drop off).take n,?_,?_,?_,?_⟩
 ·refine VRs.of_get (by simp[en];omega) λi x u hx hu=>?_;have hi:i < n:=by
   have:=(List.getElem?_eq_some_iff.1 hx).1
   rwa [en]at this
  rw[kf _ _ _ _ _ _ hi]at hx;obtain⟨v,e,_,hr⟩:=h3 (off+i) Yx;simp only[List.getElem?_take,hi,if_true,List.getElem?_drop]at hu;have:c.toList[off+i]?=some v:=by simpa using e
  rw[this]at hu;obtain rfl:v=u:=by simpa using hu
  obtain rfl:cellAt per zs ov (off+i)=x:=by simpa using hx
  exact hr
 ·exact Xy
 ·simp;omega
 ·intro j v hj;rw[jr,Bx hp];have hlt:j < n:=by
   have:=(List.getElem?_eq_some_iff.1 hj).1;simp at this;omega
  simpa[List.getElem?_take,hlt,List.getElem?_drop]using hj
theorem i6 (P:Program) (g o:Nat) (t:TypeId) (fz:Nat×Nat):∀(vs:List Value) (i:Nat) (cur:Array Value) (w:World),w.heap[g]?=some (.cells cur t fz)->(fz.2<=fz.1\/cur.size<=fz.1)->o+i+vs.length<=cur.size->(∀v∈vs,v.oneCell'=true)->
  ∃c':Array Value,(storeCells ⟨g,o,none⟩ vs i).run P w= .ok () (w.putObj g (.cells c' t fz))/\c'.size=cur.size/\∀j,c'[j]?=if o+i<=j/\j < o+i+vs.length then vs[j - (o+i)]? else cur[j]?
 | [],i,cur,w,hg,_,_,_=>by
  refine⟨cur,?_,rfl,λj=>by rw[if_neg (by simp only[List.length_nil];omega)]⟩;have:w.putObj g (.cells cur t fz)=w:=by
   have hl:=(Array.getElem?_eq_some_iff.1 hg).1;have:w.heap.setIfInBounds g (.cells cur t fz)=w.heap:=by
    apply Array.ext_getElem?;intro k
    by_cases e:g=k
    ·subst e;simp[hl,(Array.getElem?_eq_some_iff.1 hg).2]
    ·rw[Array.getElem?_setIfInBounds_ne e]
   unfold World.putObj;rw[this]
  rw[this];rfl
 | v :: rest,i,cur,w,hg,hfz,hl,h1=>by
  have hi:o+i < cur.size:=by simp at hl;omega
  have hcell:w.cell? ⟨g,o+i,none⟩=some cur[o+i]:=by simp[World.cell?,hg,hi]
  have hfro:w.frozen? ⟨g,o+i,none⟩=false:=by
   obtain⟨lo,hi'⟩:=fz;simp only[World.frozen?,hg];simp only[Bool.and_eq_false_iff,decide_eq_false_iff_not];simp at hfz;omega
  have hset:w.setCell ⟨g,o+i,none⟩ v=w.putObj g (.cells (cur.setIfInBounds (o+i) v) t fz):=by
   have hl:=(Array.getElem?_eq_some_iff.1 hg).1;unfold World.setCell World.putObj;congr 1;apply Array.ext_getElem?;intro k;rw[Array.getElem?_modify]
   by_cases e:g=k
   ·subst e;simp[hl,(Array.getElem?_eq_some_iff.1 hg).2]
   ·simp[e,Array.getElem?_setIfInBounds_ne e]
  have hst:(store ((⟨g,o,none⟩:Addr).add i) v).run P w= .ok () (w.putObj g (.cells (cur.setIfInBounds (o+i) v) t fz)):=by
   rw[jr,run_store P w _ v _ (h1 v Yy),hcell];simp[hfro,hset]
  have hgl:=(Array.getElem?_eq_some_iff.1 hg).1;obtain⟨c',e1,e2,e3⟩:=i6 P g o t fz rest (i+1) (cur.setIfInBounds (o+i) v) (w.putObj g (.cells (cur.setIfInBounds (o+i) v) t fz)) (World.putObj_heap_same hgl) (by simpa using hfz) (by simp at hl ⊢;omega) (λx hx=>h1 x (by simp[hx]));refine⟨c',?_,by rw[e2];simp,λj=>?_⟩
  ·simp only[storeCells,Sem.run_bind,hst,Result.andThen_ok,e1];congr 1;unfold World.putObj;congr 1;apply Array.ext_getElem?;intro k
   by_cases e:g=k
   ·subst e;simp[hgl]
   ·simp[Array.getElem?_setIfInBounds_ne e]
  ·rw[e3]
   by_cases hj:o+(i+1)<=j/\j < o+(i+1)+rest.length
   ·rw[if_pos hj,if_pos (by simp;omega)];rw[show j - (o+i)=(j - (o+(i+1)))+1 by omega,List.getElem?_cons_succ]
   ·rw[if_neg hj]
    by_cases hj2:j=o+i
    ·subst hj2;rw[if_pos Yy];simp[hi]
    ·rw[if_neg (by simp;omega),Array.getElem?_setIfInBounds_ne Yx]
theorem Zi {sg:Ids} {size per p off:Nat} {opn:Bool} {elem:TypeId} {zs:List AV} {ov:T AV} {o:Obj} {xs:List AV} {vs:List Value} (hb:BR sg (.cells size opn elem per zs ov) o) (hp:w.heap[p]?=some o) (hn:off+xs.length<=size)
  (hr:VRs sg xs vs) (h1:∀v∈vs,v.oneCell'=true):
  ∃o',(storeCells ⟨p,off,none⟩ vs).run P w= .ok () (w.putObj p o')/\BR sg (.cells size opn elem per zs (setCells ov off xs)) o'/\∀n,Sz n o->Sz n o':=by
 obtain⟨c,fz,rfl,h0,h2,h3,h4⟩:=hb;have hlen:=hr.length;obtain⟨c',e1,e2,e3⟩:=i6 P p off elem fz vs 0 c w hp h0 (by simp;omega) h1;refine⟨_,e1,⟨c',fz,rfl,by rw[e2];exact h0,by rw[e2];exact h2,λh=>by rw[e2];exact h3 h,λi hi=>?_⟩,λn h=>e2.trans h⟩;rw[e3,ou,hlen];simp only[Nat.add_zero]
 by_cases h:off<=i/\i < off+xs.length
 ·rw[if_pos h,if_pos h];have hx:xs[i - off]?=some (xs.getD (i - off) .unk):=by
   have:i - off < xs.length:=Yx;simp[this]
  obtain⟨v,hv,hr'⟩:=hr.get _ _ hx;exact⟨v,hv,h1 v (List.mem_of_getElem? hv),hr'⟩
 ·rw[if_neg h,if_neg h];exact h4 i hi
end
end
end RX
end
section
namespace RX
noncomputable section
structure Env where
 info:TypeId->Option TypeInfo
 und:TypeId->Option TypeDesc
structure Env.Ok (E:Env) (P:Program):Prop where
 info:∀t i,E.info t=some i->P.info? t=some i
 und:∀t d,E.und t=some d->P.underlying t=some d
theorem bnd {α β:Type} {x:Option α} {f:α->Option β} {r:β} (h:x.bind f=some r):∃a,x=some a/\f a=some r:=by
 cases x with
 | none=>cases h
 | some a=>exact⟨a,rfl,h⟩
def grd (b:Bool):Option Unit:=match b with
 | true=>some ()
 | false=>none
theorem ag {b:Bool} {u:Unit} (h:grd b=some u):b=true:=by
 cases b with
 | true=>rfl
 | false=>cases h
theorem db {a b:Nat} (h:Nat.ble a b=true):a<=b:=Nat.le_of_ble_eq_true h
def lu:AV->Option (Nat×Nat)
 | .ptr b off=>some (b,off)
 | _=>none
theorem dk {a:AV} {x:Nat×Nat} (h:lu a=some x):a= .ptr x.1 x.2:=by
 cases a <;> first | (cases h;done) | (obtain rfl:=Xa h;rfl)
structure Row where
 size:Nat
 opn:Bool
 elem:TypeId
 per:Nat
 zs:List AV
 ov:T AV
def qv:Blk->Option Row
 | .cells size opn elem per zs ov=>some ⟨size,opn,elem,per,zs,ov⟩
 | _=>none
theorem fu {k:Blk} {r:Row} (h:qv k=some r):k= .cells r.size r.opn r.elem r.per r.zs r.ov:=by
 cases k <;> first | (cases h;done) | (obtain rfl:=Xa h;rfl)
def zb0:Blk->Option Row
 | .cells size opn elem per zs ov=>some ⟨size,opn,elem,per,zs,ov⟩
 | .ro size per zs ov=>some ⟨size,true,0,per,zs,ov⟩
 | _=>none
def RowIs (sg:Ids) (r:Row) (o:Obj):Prop:=∃c e fz,o= .cells c e fz/\r.size<=c.size/\∀i,i < r.size->∃v,c[i]?=some v/\v.oneCell'=true/\VR sg (cellAt r.per r.zs r.ov i) v
theorem nd {sg:Ids} {k:Blk} {r:Row} {o:Obj} (h:zb0 k=some r) (hb:BR sg k o):RowIs sg r o:=by
 cases k with
 | cells size opn elem per zs ov=>
  obtain rfl:=Xa h;obtain⟨c,fz,e,h0,h1,h2,h3⟩:=hb;exact⟨c,elem,fz,e,h1,h3⟩
 | ro size per zs ov=>
  obtain rfl:=Xa h;exact hb
 | _=>cases h
theorem Ql {w:World} {sg:Ids} {r:Row} {p off n:Nat} {o:Obj} (hb:RowIs sg r o) (hp:w.heap[p]?=some o) (hn:off+n<=r.size):
  ∃cs:List Value,VRs sg (cj r.per r.zs r.ov off n) cs/\(∀v∈cs,v.oneCell'=true)/\cs.length=n/\(∀j v,cs[j]?=some v->w.cell? (Addr.add ⟨p,off,none⟩ j)=some v):=by
 obtain⟨c,e,fz,rfl,h1,h3⟩:=hb;refine⟨(c.toList.drop off).take n,?_,?_,?_,?_⟩
 ·refine VRs.of_get (by simp[en];omega) λi x u hx hu=>?_;have hi:i < n:=by
   have:=(List.getElem?_eq_some_iff.1 hx).1
   rwa [en]at this
  rw[kf _ _ _ _ _ _ hi]at hx;obtain⟨v,e,_,hr⟩:=h3 (off+i) Yx;simp only[List.getElem?_take,hi,if_true,List.getElem?_drop]at hu;have:c.toList[off+i]?=some v:=by simpa using e
  rw[this]at hu;obtain rfl:v=u:=by simpa using hu
  obtain rfl:cellAt r.per r.zs r.ov (off+i)=x:=by simpa using hx
  exact hr
 ·exact Xy
 ·simp;omega
 ·intro j v hj;rw[jr,Bx hp];have hlt:j < n:=by
   have:=(List.getElem?_eq_some_iff.1 hj).1;simp at this;omega
  simpa[List.getElem?_take,hlt,List.getElem?_drop]using hj
def Mm:TypeDesc->Bool
 | .struct _=>true
 | .array _ _=>true
 | _=>false
section
variable {P:Program} {w:World}
theorem qb {t:TypeId} {d:TypeDesc} (h:P.underlying t=some d) (w:World):(isAgg t).run P w= .ok (Mm d) w:=by
 cases d <;> simp[isAgg,run_underlying h,Mm]
theorem eu {t:TypeId} {i:TypeInfo} (h:P.info? t=some i) (w:World):(typeInfo t).run P w= .ok i w:=by simp[typeInfo,h]
theorem bg {t:TypeId} {i:TypeInfo} (h:P.info? t=some i) (w:World):(sizeOf t).run P w= .ok i.size w:=by simp[sizeOf,eu h]
end
def Qt:Value->AV
 | .bool b=> .bool b
 | .int k n=> .int k n
 | .string s=> .str s.data.toList
 | v=> .val v
def ye:Value->AV
 | .agg a=> .agg (a.toList.map Qt)
 | v=>Qt v
theorem zaM (sg:Ids) (v:Value):VR sg (Qt v) v:=by
 cases v <;> rfl
theorem Dc (sg:Ids):∀l:List Value,VRs sg (l.map Qt) l
 | []=>rfl
 | v :: l=>⟨v,l,rfl,zaM sg v,Dc sg l⟩
theorem gt (sg:Ids) (v:Value):VR sg (ye v) v:=by
 cases v <;> first | rfl | exact⟨_,Dc sg _,rfl⟩
def allOne:List AV->Bool
 | []=>true
 | x :: xs=>match x.one with
  | true=>allOne xs
  | false=>false
theorem E7:∀{l:List AV},allOne l=true->∀x∈l,x.one=true
 | [],_,x,hx=>by cases hx
 | y :: ys,h,x,hx=>by
  unfold allOne at h;split at h
  ·rename_i hy;rcases List.mem_cons.1 hx with rfl | hx
   ·exact hy
   ·exact E7 h x hx
  ·cases h
theorem VRs.allOne {sg:Ids} {xs:List AV} {vs:List Value} (h:VRs sg xs vs) (ho:RX.allOne xs=true):∀v∈vs,v.oneCell'=true:=λv hv=>by
 obtain⟨i,hi⟩:=List.getElem?_of_mem hv;have hlt:=(List.getElem?_eq_some_iff.1 hi).1;rw[h.length]at hlt;obtain⟨u,hu,hr⟩:=h.get i xs[i] (List.getElem?_eq_getElem hlt);rw[hi]at hu;obtain rfl:v=u:=by simpa using hu
 exact hr.one (E7 ho _ (List.getElem_mem hlt))
def Got (P:Program) (X:Nat->Prop) (sg:Ids) (w:World) (s:St) (m:Sem Value) (v:AV) (s':St):Prop:=
 ∃u sg' w',m.run P w= .ok u w'/\VR sg' v u/\dx X sg w s sg' w' s'
def Did (P:Program) (X:Nat->Prop) (sg:Ids) (w:World) (s:St) (m:Sem Unit) (s':St):Prop:=
 ∃sg' w',m.run P w= .ok () w'/\dx X sg w s sg' w' s'
theorem VR.cells {sg:Ids} {x:AV} {v:Value} (h:VR sg x v):VRs sg x.cells v.cells.toList\/∃a b,x= .val a/\v=a/\b=a.cells:=by
 cases x with
 | agg l=>obtain⟨a,ha,rfl⟩:=h;exact .inl ha
 | val y=>exact .inr ⟨y,_,rfl,h,rfl⟩
 | tup l=>obtain⟨a,ha,rfl⟩:=h;exact .inl ⟨_,[],rfl,⟨a,ha,rfl⟩,rfl⟩
 | unk=>refine .inl ?_;cases v <;> first | exact⟨_,[],rfl,h,rfl⟩ | (cases h;done)
 | byte=>obtain⟨n,rfl⟩:=h;exact .inl ⟨_,[],rfl,⟨n,rfl⟩,rfl⟩
 | bool b=>obtain rfl:v=_:=h;exact .inl ⟨_,[],rfl,rfl,rfl⟩
 | int k n=>obtain rfl:v=_:=h;exact .inl ⟨_,[],rfl,rfl,rfl⟩
 | str l=>obtain rfl:v=_:=h;exact .inl ⟨_,[],rfl,rfl,rfl⟩
 | ptr b o=>obtain⟨p,hp,rfl⟩:=h;exact .inl ⟨_,[],rfl,⟨p,hp,rfl⟩,rfl⟩
 | sl b o n c=>obtain⟨p,h1,h2,rfl⟩:=h;exact .inl ⟨_,[],rfl,⟨p,h1,h2,rfl⟩,rfl⟩
 | slu b o n c=>obtain⟨p,c',h1,h2,h3,rfl⟩:=h;exact .inl ⟨_,[],rfl,⟨p,c',h1,h2,h3,rfl⟩,rfl⟩
 | map b=>obtain⟨p,hp,rfl⟩:=h;exact .inl ⟨_,[],rfl,⟨p,hp,rfl⟩,rfl⟩
 | fn f a c=>obtain⟨a',c',h1,h2,rfl⟩:=h;exact .inl ⟨_,[],rfl,⟨a',c',h1,h2,rfl⟩,rfl⟩
 | yield b=>obtain⟨p,hp,rfl⟩:=h;exact .inl ⟨_,[],rfl,⟨p,hp,rfl⟩,rfl⟩
 | iface t x=>obtain⟨u,hu,rfl⟩:=h;exact .inl ⟨_,[],rfl,⟨u,hu,rfl⟩,rfl⟩
def cellsOf:AV->Option (List AV)
 | .agg l=>(grd (allOne l)).bind λ_=>some l
 | .tup _=>none
 | .val v=>(grd v.oneCell').bind λ_=>some [.val v]
 | v=>some [v]
theorem j6 {sg:Ids} {x:AV} {v:Value} {l:List AV} (h:VR sg x v) (hl:cellsOf x=some l):VRs sg l v.cells.toList/\∀u∈v.cells.toList,u.oneCell'=true:=by
 have one:∀(y:AV) (u:Value),VR sg y u->u.oneCell'=true->VRs sg [y] u.cells.toList/\∀z∈u.cells.toList,z.oneCell'=true:=λy u hr ho=>by
  have:u.cells=#[u]:=by cases u <;> first | rfl | (cases ho;done)
  rw[this];exact⟨⟨u,[],rfl,hr,rfl⟩,λz hz=>by simp at hz;rw[hz];exact ho⟩
 cases x with
 | agg m=>
  obtain⟨a,ha,rfl⟩:=h;obtain⟨_,ho,hl⟩:=bnd (show(grd (allOne m)).bind _=some l from hl);obtain rfl:=Xa hl;exact⟨ha,ha.allOne (ag ho)⟩
 | val y=>
  obtain⟨_,ho,hl⟩:=bnd (show(grd y.oneCell').bind _=some l from hl);obtain rfl:=Xa hl;obtain rfl:v=y:=h;exact one _ _ rfl (ag ho)
 | tup m=>cases hl
 | _=>
  obtain rfl:=Xa hl;exact one _ _ h (h.one rfl)
theorem row_ok {sg:Ids} {xs:List AV} {vs:List Value} (elem:TypeId) (h:VRs sg xs vs) (h1:∀v∈vs,v.oneCell'=true) (n:Nat) (hn:n=xs.length):BR sg (.cells n false elem n xs .nil) (.cells vs.toArray elem):=by
 have hl:=h.length;refine⟨vs.toArray,(0,0),rfl,.inl (Xc _),by simp[hl,hn],λ_=>by simp[hl,hn],λi hi=>?_⟩;have hx:xs[i]?=some (cellAt n xs .nil i):=by
  unfold cellAt;have:i < xs.length:=Yx;simp[Nat.mod_eq_of_lt hi,this]
 obtain⟨v,hv,hr⟩:=h.get i _ hx;exact⟨v,by simpa using hv,h1 v (List.mem_of_getElem? hv),hr⟩
section
variable {P:Program} {E:Env} {X:Nat->Prop} {sg:Ids} {w:World} {s s':St}
theorem Ask.lt (A:Ask X sg w s s'):∀b,X b->b < s.fresh:=λb hb=>A.wf b (A.holds.alive hb)
theorem Ask.at (A:Ask X sg w s s') {b:Nat} {k:Blk} (hk:s.heap.get b=some k) (hr:s'.rd.testBit b=true\/s'.wr.testBit b=true):X b/\∃p o,sg b=some p/\w.heap[p]?=some o/\BR sg k o/\Sz (sg.sz b) o:=by
 have hb:=A.foot b hr (by unfold St.alive;rw[hk];rfl);obtain⟨k',p,o,h1,h2,h3,h4,h5⟩:=A.holds.cell b hb;rw[hk]at h1;obtain rfl:=Xa h1;exact⟨hb,p,o,h2,h3,h4,h5⟩
def Tu (s:St) (elem:TypeId) (xs:List AV):AV×St:=(.ptr s.fresh 0,s.new (.cells xs.length false elem xs.length xs .nil))
theorem Hz {xs:List AV} {vs:List Value} (elem:TypeId) (A:Ask X sg w s (s.new (.cells xs.length false elem xs.length xs .nil))) (h:VRs sg xs vs) (h1:∀v∈vs,v.oneCell'=true):
  ∃sg' w',(newRow elem vs.toArray).run P w= .ok ⟨w.heap.size,0,none⟩ w'/\sg' s.fresh=some w.heap.size/\dx X sg w s sg' w' (s.new (.cells xs.length false elem xs.length xs .nil)):=by
 have hn:sg s.fresh=none:=A.new s.fresh (Xc _) (Nat.lt_succ_self _);refine⟨_,{w with heap:=w.heap.push (.cells vs.toArray elem)},by simp[newRow],Ids.with_self ..,dx.alloc (n:=vs.toArray.size) (o:= .cells vs.toArray elem) A.holds A.lt hn ?_ rfl rfl rfl rfl rfl⟩;exact(row_ok elem h h1 _ rfl).mono (Ids.with_ext _ _ hn)
def B5 (E:Env) (t:TypeId):Option (List AV):=(E.info t).bind λi=>i.zero.bind λz=>cellsOf (ye z)
theorem pp (hE:E.Ok P) {t:TypeId} {l:List AV} (h:B5 E t=some l):∃z,(∀w,(zeroValue t).run P w= .ok z w)/\(∀sg,VRs sg l z.cells.toList)/\∀u∈z.cells.toList,u.oneCell'=true:=by
 replace h:=bnd h;obtain⟨i,hi,h⟩:=h;replace h:=bnd h;obtain⟨z,hz,h⟩:=h;refine⟨z,λw=>by simp[zeroValue,eu (hE.info _ _ hi),hz],λsg=>(j6 (gt sg z) h).1,(j6 (gt ⟨λ_=>none,λ_=>0⟩ z) h).2⟩
def Pr (E:Env) (t:TypeId) (s:St):Option (AV×St):=(B5 E t).bind λl=>some (Tu s t l)
theorem ze0 (hE:E.Ok P) {t:TypeId} {v:AV} (h:Pr E t s=some (v,s')) (A:Ask X sg w s s'):Got P X sg w s (Instr.alloc t true (.tuple #[])) v s':=by
 replace h:=bnd h;obtain⟨l,hl,h⟩:=h;obtain⟨rfl,rfl⟩:_=v/\_=s':=by simpa[Tu]using h
 obtain⟨z,hz,hv,h1⟩:=pp hE hl;obtain⟨sg',w',e1,e2,e3⟩:=Hz (P:=P) t A (hv sg) h1;refine⟨_,sg',w',?_,⟨_,e2,rfl⟩,e3⟩;simp only[Array.toArray_toList]at e1;simp[Instr.alloc,hz,newVar,e1]
def boxA (t:TypeId) (x:AV) (s:St):Option (AV×St):=(cellsOf x).bind λl=>some (Tu s t l)
theorem boxA_ok {t:TypeId} {x v:AV} {u:Value} (h:boxA t x s=some (v,s')) (hx:VR sg x u) (A:Ask X sg w s s'):Got P X sg w s (Instr.box t u) v s':=by
 replace h:=bnd h;obtain⟨l,hl,h⟩:=h;obtain⟨rfl,rfl⟩:_=v/\_=s':=by simpa[Tu]using h
 obtain⟨hv,h1⟩:=j6 hx hl;obtain⟨sg',w',e1,e2,e3⟩:=Hz (P:=P) t A hv h1;refine⟨_,sg',w',?_,⟨_,e2,rfl⟩,e3⟩;simp only[Array.toArray_toList]at e1;simp[Instr.box,newVar,e1]
def Kt (E:Env) (t:TypeId) (a:AV) (s:St):Option (AV×St):=
 (lu a).bind λx=>(s.heap.get x.1).bind λk=>(zb0 k).bind λr=>(E.info t).bind λi=>(E.und t).bind λd=>match Mm d with
  | true=>(grd (Nat.ble (x.2+i.size) r.size)).bind λ_=>some (.agg (cj r.per r.zs r.ov x.2 i.size),s.saw x.1)
  | false=>(grd (Nat.ble (x.2+1) r.size)).bind λ_=>some (cellAt r.per r.zs r.ov x.2,s.saw x.1)
theorem ey (s:St) (b:Nat):(s.saw b).rd.testBit b=true:=(cd _ _ _).2 (.inr rfl)
theorem vl (s:St) (b:Nat) (k:Blk):(s.put b k).wr.testBit b=true:=(cd _ _ _).2 (.inr rfl)
theorem za0 (hE:E.Ok P) {t:TypeId} {a v:AV} {u:Value} (h:Kt E t a s=some (v,s')) (ha:VR sg a u) (A:Ask X sg w s s'):Got P X sg w s (Instr.loadAt t u) v s':=by
 replace h:=bnd h;obtain⟨x,hx,h⟩:=h;replace h:=bnd h;obtain⟨k,hk,h⟩:=h;replace h:=bnd h;obtain⟨r,hr,h⟩:=h;replace h:=bnd h;obtain⟨i,hi,h⟩:=h;replace h:=bnd h;obtain⟨d,hd,h⟩:=h;rw[dk hx]at ha;obtain⟨p,hp,rfl⟩:=ha;have hd':=qb (hE.und _ _ hd);have hi':=λw=>bg (hE.info _ _ hi) w;cases hg:Mm d with
 | true=>
  rw[hg]at h;replace h:=bnd h;obtain⟨_,hb,h⟩:=h;obtain⟨rfl,rfl⟩:_=v/\_=s':=by simpa using h
  obtain⟨_,q,o,e1,e2,e3,_⟩:=A.at hk (.inl (ey s x.1));rw[hp]at e1;obtain rfl:=Xa e1;obtain⟨cs,c1,_,c3,c4⟩:=Ql (nd hr e3) e2 (db (ag hb));have hl:=run_loadCells_list (P:=P) w ⟨p,x.2,none⟩ cs c4;rw[c3]at hl;refine⟨_,sg,w,?_,⟨cs,c1,rfl⟩,dx.saw _ A.holds⟩;simp[Instr.loadAt,Instr.sureAddr,loadVar,hd',hg,hi',hl]
 | false=>
  rw[hg]at h;replace h:=bnd h;obtain⟨_,hb,h⟩:=h;obtain⟨rfl,rfl⟩:_=v/\_=s':=by simpa using h
  obtain⟨_,q,o,e1,e2,e3,_⟩:=A.at hk (.inl (ey s x.1));rw[hp]at e1;obtain rfl:=Xa e1;obtain⟨c,e',fz,rfl,_,h3⟩:=nd hr e3;obtain⟨v,hv,_,hr⟩:=h3 x.2 (db (ag hb));refine⟨v,sg,w,?_,hr,dx.saw _ A.holds⟩;simp[Instr.loadAt,Instr.sureAddr,loadVar,hd',hg,Bx e2,hv]
def Nw (s:St) (b:Nat) (r:Row) (off:Nat) (xs:List AV):Option St:=(grd (Nat.ble (off+xs.length) r.size)).bind λ_=>
 match Nat.beq off 0,Nat.beq xs.length r.size with
 | true,true=>some (s.put b (.cells r.size r.opn r.elem r.size xs .nil))
 | _,_=>some (s.put b (.cells r.size r.opn r.elem r.per r.zs (setCells r.ov off xs)))
theorem Bl {b p off:Nat} {k:Blk} {r:Row} {xs:List AV} {vs:List Value} (h:Nw s b r off xs=some s') (hk:s.heap.get b=some k) (hr:qv k=some r) (hp:sg b=some p) (hx:VRs sg xs vs) (h1:∀v∈vs,v.oneCell'=true) (A:Ask X sg w s s'):
  ∃w',(storeCells ⟨p,off,none⟩ vs).run P w= .ok () w'/\dx X sg w s sg w' s':=by
 replace h:=bnd h;obtain⟨_,hb,h⟩:=h;have hle:=db (ag hb);have hr':=fu hr;have wr:s'.wr.testBit b=true:=by
  split at h <;> (obtain rfl:=Xa h;exact vl ..)
 obtain⟨hX,q,o,e1,e2,e3,e4⟩:=A.at hk (.inr wr);rw[hp]at e1;obtain rfl:=Xa e1;rw[hr']at e3;obtain⟨o',f1,f2,f3⟩:=Zi (P:=P) e3 e2 hle hx h1;refine⟨_,f1,?_⟩;split at h
 ·rename_i h0 hl;obtain rfl:=Xa h;obtain rfl:off=0:=Nat.eq_of_beq_eq_true h0;have hl:=Nat.eq_of_beq_eq_true hl;refine dx.put A.holds hX hp ?_ (f3 _ e4) rfl rfl rfl rfl;obtain⟨c,fz,rfl,g0,g1,g2,g3⟩:=f2;refine⟨c,fz,rfl,g0,g1,g2,λi hi=>?_⟩;obtain⟨v,a1,a2,a3⟩:=g3 i hi;refine⟨v,a1,a2,?_⟩;rw[ou,if_pos Yx]at a3;unfold cellAt;simpa[Nat.mod_eq_of_lt hi]using a3
 ·obtain rfl:=Xa h;exact dx.put A.holds hX hp f2 (f3 _ e4) rfl rfl rfl rfl
def Nc (E:Env) (t:TypeId) (a x:AV) (s:St):Option St:=
 (lu a).bind λy=>(s.heap.get y.1).bind λk=>(qv k).bind λr=>(E.info t).bind λi=>(cellsOf x).bind λl=>(grd (Nat.beq l.length i.size)).bind λ_=>Nw s y.1 r y.2 l
theorem Sk (hE:E.Ok P) {t:TypeId} {a x:AV} {u y:Value} (h:Nc E t a x s=some s') (ha:VR sg a u) (hx:VR sg x y) (A:Ask X sg w s s'):Did P X sg w s (Instr.storeAt t u y) s':=by
 replace h:=bnd h;obtain⟨z,hz,h⟩:=h;replace h:=bnd h;obtain⟨k,hk,h⟩:=h;replace h:=bnd h;obtain⟨r,hr,h⟩:=h;replace h:=bnd h;obtain⟨i,hi,h⟩:=h;replace h:=bnd h;obtain⟨l,hl,h⟩:=h;replace h:=bnd h;obtain⟨_,hs,h⟩:=h;rw[dk hz]at ha;obtain⟨p,hp,rfl⟩:=ha;obtain⟨hv,h1⟩:=j6 hx hl;obtain⟨w',f1,f2⟩:=Bl (P:=P) h hk hr hp hv h1 A;refine⟨sg,w',?_,f2⟩;have hsz:y.cells.size=i.size:=by
  have:=hv.length;have h2:=Nat.eq_of_beq_eq_true (ag hs);simp at this;omega
 simp[Instr.storeAt,Instr.sureAddr,storeVar,bg (hE.info _ _ hi),hsz,f1]
end
end
end RX
end
section
namespace RX
noncomputable section
def asInt:AV->Option (IntKind×Int)
 | .int k n=>some (k,n)
 | _=>none
theorem ew {a:AV} {x:IntKind×Int} (h:asInt a=some x):a= .int x.1 x.2:=by
 cases a <;> first | (cases h;done) | (obtain rfl:=Xa h;rfl)
def si:Int->Option Nat
 | .ofNat n=>some n
 | .negSucc _=>none
theorem rm {i:Int} {n:Nat} (h:si i=some n):i=(n:Int):=by
 cases i with
 | ofNat m=>obtain rfl:=Xa h;rfl
 | negSucc m=>cases h
def Cf:TypeDesc->Option (Array Field)
 | .struct fs=>some fs
 | _=>none
theorem sd {d:TypeDesc} {fs:Array Field} (h:Cf d=some fs):d= .struct fs:=by
 cases d <;> first | (cases h;done) | (obtain rfl:=Xa h;rfl)
def tc:TypeDesc->Option (Nat×TypeId)
 | .array n e=>some (n,e)
 | _=>none
theorem lw {d:TypeDesc} {x:Nat×TypeId} (h:tc d=some x):d= .array x.1 x.2:=by
 cases d <;> first | (cases h;done) | (obtain rfl:=Xa h;rfl)
structure SlV where
 b:Nat
 off:Nat
 len:Nat
 cap:Option Nat
 es:Nat
def kt:AV->Option SlV
 | .sl b off len cap=>some ⟨b,off,len,some cap,0⟩
 | .slu b off len es=>some ⟨b,off,len,none,es⟩
 | _=>none
theorem dy {sg:Ids} {a:AV} {x:SlV} {v:Value} (h:kt a=some x) (hv:VR sg a v):∃p c,sg x.b=some p/\x.len<=c/\(∀k,x.cap=some k->c=k)/\(x.cap=none->x.off+c * x.es<=sg.sz x.b)/\v= .slice (some ⟨p,x.off,none⟩) x.len c:=by
 cases a with
 | sl b off len cap=>
  obtain rfl:=Xa h;obtain⟨p,h1,h2,rfl⟩:=hv;exact⟨p,cap,h1,h2,λk e=>Xa e,λe=>(by cases e),rfl⟩
 | slu b off len es=>
  obtain rfl:=Xa h;obtain⟨p,c,h1,h2,h3,rfl⟩:=hv;exact⟨p,c,h1,h2,λk e=>(by cases e),λ_=>h3,rfl⟩
 | _=>cases h
def SlV.av (x:SlV):AV:=match x.cap with
 | some c=> .sl x.b x.off x.len c
 | none=> .slu x.b x.off x.len x.es
theorem SlV.av_ok {sg:Ids} {x:SlV} {p c:Nat} (h1:sg x.b=some p) (h2:x.len<=c) (h3:∀k,x.cap=some k->c=k) (h4:x.cap=none->x.off+c * x.es<=sg.sz x.b):VR sg x.av (.slice (some ⟨p,x.off,none⟩) x.len c):=by
 obtain⟨b,off,len,cap,es⟩:=x;cases cap with
 | some k=>obtain rfl:=h3 k rfl;exact⟨p,h1,h2,rfl⟩
 | none=>exact⟨p,c,h1,h2,h4 rfl,rfl⟩
def iw:TypeDesc->Option TypeId
 | .slice e=>some e
 | _=>none
theorem dh {d:TypeDesc} {e:TypeId} (h:iw d=some e):d= .slice e:=by
 cases d <;> first | (cases h;done) | (obtain rfl:=Xa h;rfl)
section
variable {P:Program} {E:Env} {X:Nat->Prop} {sg:Ids} {w:World} {s s':St}
theorem Got.pure {m:Sem Value} {v:AV} {u:Value} (A:Ask X sg w s s) (h:m.run P w= .ok u w) (hv:VR sg v u):Got P X sg w s m v s:=
 ⟨u,sg,w,h,hv,dx.refl A.holds⟩
def Lm (E:Env) (t:TypeId) (a:AV) (f:Nat):Option AV:=
 (E.und t).bind λd=>(Cf d).bind λfs=>(fs.toList[f]?).bind λfl=>(lu a).bind λx=>(E.info fl.type).bind λi=>(grd (Nat.blt 0 i.size)).bind λ_=>some (.ptr x.1 (x.2+fl.offset))
theorem Ll (hE:E.Ok P) {t:TypeId} {a v:AV} {u:Value} {f:Nat} (h:Lm E t a f=some v) (ha:VR sg a u) (A:Ask X sg w s s):Got P X sg w s (Instr.fieldAt t u f) v s:=by
 replace h:=bnd h;obtain⟨d,hd,h⟩:=h;replace h:=bnd h;obtain⟨fs,hf,h⟩:=h;replace h:=bnd h;obtain⟨fl,hl,h⟩:=h;replace h:=bnd h;obtain⟨x,hx,h⟩:=h;replace h:=bnd h;obtain⟨i,hi,h⟩:=h;replace h:=bnd h;obtain⟨_,hz,h⟩:=h;rw[dk hx]at ha;obtain⟨p,hp,rfl⟩:=ha;have hd':=hE.und _ _ hd;rw[sd hf]at hd';have hz':i.size≠0:=by
  have:Nat.blt 0 i.size=true:=ag hz;have:0 < i.size:=by rw[Nat.blt_eq]at this;exact this
  omega
 refine Got.pure A (u:= .pointer (some ⟨p,x.2+fl.offset,none⟩)) ?_ ?_
 ·have hl':fs[f]?=some fl:=by simpa using hl
  simp[Instr.fieldAt,run_underlying hd',hl',Instr.sureAddr,fieldPlace,bg (hE.info _ _ hi),hz',jr]
 ·obtain rfl:=Xa h;exact⟨p,hp,rfl⟩
def Ld (E:Env) (t:TypeId) (a ix:AV):Option AV:=
 (asInt ix).bind λki=>(si ki.2).bind λn=>(E.und t).bind λd=>match tc d with
  | some q=>(lu a).bind λx=>(grd (Nat.blt n q.1)).bind λ_=>(E.info q.2).bind λi=>some (.ptr x.1 (x.2+n * i.size))
  | none=>(iw d).bind λe=>(kt a).bind λx=>(grd (Nat.blt n x.len)).bind λ_=>(E.info e).bind λi=>some (.ptr x.b (x.off+n * i.size))
theorem Lc (hE:E.Ok P) {t:TypeId} {a ix v:AV} {u y:Value} (h:Ld E t a ix=some v) (ha:VR sg a u) (hi:VR sg ix y) (A:Ask X sg w s s):Got P X sg w s (Instr.indexAt t u y) v s:=by
 replace h:=bnd h;obtain⟨ki,hk,h⟩:=h;replace h:=bnd h;obtain⟨n,hn,h⟩:=h;replace h:=bnd h;obtain⟨d,hd,h⟩:=h;rw[ew hk]at hi;obtain rfl:y=_:=hi;have hd':=hE.und _ _ hd;have hn':=rm hn;cases hq:tc d with
 | some q=>
  rw[hq]at h;replace h:=bnd h;obtain⟨x,hx,h⟩:=h;replace h:=bnd h;obtain⟨_,hb,h⟩:=h;replace h:=bnd h;obtain⟨i,hi,h⟩:=h;obtain rfl:=Xa h;rw[dk hx]at ha;rw[lw hq]at hd';obtain⟨p,hp,rfl⟩:=ha;have hlt:n < q.1:=by have:=ag hb;rwa [Nat.blt_eq]at this
  refine Got.pure A (u:= .pointer (some ⟨p,x.2+n * i.size,none⟩)) ?_ ⟨p,hp,rfl⟩;simp[Instr.indexAt,asIntOf,run_underlying hd',Instr.sureAddr,hn',hlt,bg (hE.info _ _ hi),jr]
 | none=>
  rw[hq]at h;replace h:=bnd h;obtain⟨e,he,h⟩:=h;replace h:=bnd h;obtain⟨x,hx,h⟩:=h;replace h:=bnd h;obtain⟨_,hb,h⟩:=h;replace h:=bnd h;obtain⟨i,hi,h⟩:=h;obtain rfl:=Xa h;rw[dh he]at hd';obtain⟨p,c,hp,_,_,_,rfl⟩:=dy hx ha;have hlt:n < x.len:=by have:=ag hb;rwa [Nat.blt_eq]at this
  refine Got.pure A (u:= .pointer (some ⟨p,x.off+n * i.size,none⟩)) ?_ ⟨p,hp,rfl⟩;simp[Instr.indexAt,asIntOf,run_underlying hd',hn',hlt,bg (hE.info _ _ hi),jr]
def pi (o:Option AV) (d most:Nat):Option Nat:=match o with
 | none=>some d
 | some a=>(asInt a).bind λki=>(si ki.2).bind λn=>(grd (Nat.ble n most)).bind λ_=>some n
theorem jf {k:IntKind} {n y:Nat} {code:BoundsCode} (h:n<=y) (w:World):(Instr.sliceBound (.int k (n:Int)) y code).run P w= .ok n w:=by
 simp[Instr.sliceBound,asIntOf,h]
def mq (lo hi:Option AV) (len most:Nat):Option (Nat×Nat):=(pi hi len most).bind λh=>(pi lo 0 h).bind λl=>some (l,h)
def ur (sg:Ids):Option AV->Option Value->Prop
 | none,o=>o=none
 | some a,o=>∃v,o=some v/\VR sg a v
theorem lg {lo hi:Option AV} {lo' hi':Option Value} {len most l h:Nat} (e:mq lo hi len most=some (l,h)) (h1:ur sg lo lo') (h2:ur sg hi hi') (isS:Bool) (cap:Nat) (hc:most<=cap) (w:World):
  (Instr.sliceBounds isS len cap lo' hi' none).run P w= .ok (l,h,cap) w:=by
 obtain⟨x,hx,e⟩:=bnd e;obtain⟨y,hy,e⟩:=bnd e;obtain⟨rfl,rfl⟩:y=l/\x=h:=by simpa using e
 have low:∀code,(match lo' with | some v=>Instr.sliceBound v x code | none=>(Pure.pure 0:Sem Nat)).run P w= .ok y w:=λcode=>by
  cases lo with
  | none=>
   obtain rfl:lo'=none:=h1;obtain rfl:(0:Nat)=y:=by simpa[pi]using hy
   rfl
  | some a=>
   exact Xz
 cases hi with
 | none=>
  obtain rfl:hi'=none:=h2;obtain rfl:len=x:=by simpa[pi]using hx
  cases lo' with
  | none=>
   have h0:0=y:=by have:=low .sliceB;simpa using this
   subst h0;simp[Instr.sliceBounds]
  | some v'=>
   have:=low .sliceB;dsimp only at this;simp[Instr.sliceBounds,this]
 | some a=>
  obtain⟨v,rfl,hv⟩:=h2;obtain⟨ki,hk,hx⟩:=bnd (show(asInt a).bind _=some x from hx);obtain⟨n,hn,hx⟩:=bnd hx;obtain⟨_,hb,hx⟩:=bnd hx;obtain rfl:=Xa hx;rw[ew hk]at hv;obtain rfl:v=_:=hv;have h3:∀code,(Instr.sliceBound (.int ki.1 ki.2) cap code).run P w= .ok n w:=λcode=>by
   rw[rm hn];exact jf (Nat.le_trans (db (ag hb)) hc) w
  cases lo' with
  | none=>
   have h0:0=y:=by have:=low .sliceB;simpa using this
   subst h0;simp[Instr.sliceBounds,h3]
  | some v'=>
   have:=low .sliceB;dsimp only at this;simp[Instr.sliceBounds,h3,this]
theorem Ew {lo hi mx:Option AV} {lo' hi' mx':Option Value} {len most l h m:Nat} (em:pi mx most most=some m) (hm:mx.isSome=true) (e:mq lo hi len m=some (l,h)) (hh:hi.isSome=true)
  (h1:ur sg lo lo') (h2:ur sg hi hi') (h3:ur sg mx mx') (isS:Bool) (cap:Nat) (hc:most<=cap) (w:World):
  (Instr.sliceBounds isS len cap lo' hi' mx').run P w= .ok (l,h,m) w:=by
 obtain⟨x,hx,e⟩:=bnd e;obtain⟨y,hy,e⟩:=bnd e;obtain⟨rfl,rfl⟩:y=l/\x=h:=by simpa using e
 have low:∀code,(match lo' with | some v=>Instr.sliceBound v x code | none=>(Pure.pure 0:Sem Nat)).run P w= .ok y w:=λcode=>by
  cases lo with
  | none=>
   obtain rfl:lo'=none:=h1;obtain rfl:(0:Nat)=y:=by simpa[pi]using hy
   rfl
  | some a=>
   exact Xz
 cases mx with
 | none=>cases hm
 | some c=>
  cases hi with
  | none=>cases hh
  | some a=>
   obtain⟨v,rfl,hv⟩:=h2;obtain⟨u,rfl,hu⟩:=h3;obtain⟨ki,hk,hx⟩:=bnd (show(asInt a).bind _=some x from hx);obtain⟨n,hn,hx⟩:=bnd hx;obtain⟨_,hb,hx⟩:=bnd hx;obtain rfl:=Xa hx;rw[ew hk]at hv;obtain rfl:v=_:=hv;obtain⟨kj,hj,em⟩:=bnd (show(asInt c).bind _=some m from em);obtain⟨n',hn',em⟩:=bnd em;obtain⟨_,hb',em⟩:=bnd em;obtain rfl:=Xa em;rw[ew hj]at hu;obtain rfl:u=_:=hu;have g3:∀code,(Instr.sliceBound (.int ki.1 ki.2) n' code).run P w= .ok n w:=λcode=>by
    rw[rm hn];exact jf (db (ag hb)) w
   have g4:∀code,(Instr.sliceBound (.int kj.1 kj.2) cap code).run P w= .ok n' w:=λcode=>by
    rw[rm hn'];exact jf (Nat.le_trans (db (ag hb')) hc) w
   cases lo' with
   | none=>
    have h0:0=y:=by have:=low .slice3C;simpa using this
    subst h0;simp[Instr.sliceBounds,g3,g4]
   | some v'=>
    have:=low .slice3C;dsimp only at this;simp[Instr.sliceBounds,g3,g4,this]
def mh (off l m size:Nat):Nat:=match Nat.beq m l with
 | true=>off
 | false=>off+l * size
def Qv:Option AV->Option Unit
 | none=>some ()
 | some _=>none
def If:Option AV->Option Unit
 | some _=>some ()
 | none=>none
def mi:AV->Option (List UInt8)
 | .str l=>some l
 | _=>none
def kz:AV->Option Unit
 | .val (.slice none 0 0)=>some ()
 | _=>none
def jz:TypeDesc->Bool
 | .string=>true
 | _=>false
def Hg (lo hi mx:Option AV) (off len size:Nat) (cap:Option Nat):Option (Nat×Nat×Option Nat):=
 match mx with
 | some a=>(If hi).bind λ_=>(pi (some a) (cap.getD len) (cap.getD len)).bind λm=>(mq lo hi len m).bind λlh=>some (mh off lh.1 m size,lh.2 - lh.1,some (m - lh.1))
 | none=>match cap with
  | some c=>(mq lo hi len c).bind λlh=>some (mh off lh.1 c size,lh.2 - lh.1,some (c - lh.1))
  | none=>(mq lo hi len len).bind λlh=>(grd (match Nat.beq lh.1 0 with | true=>true | false=>Nat.blt lh.1 len)).bind λ_=>some (off+lh.1 * size,lh.2 - lh.1,none)
def zaa (E:Env) (t:TypeId) (x:AV) (lo hi mx:Option AV):Option AV:=
 (E.und t).bind λd=>match tc d with
  | some q=>(lu x).bind λy=>(Qv mx).bind λ_=>(mq lo hi q.1 q.1).bind λlh=>(E.info q.2).bind λi=>some (.sl y.1 (mh y.2 lh.1 q.1 i.size) (lh.2 - lh.1) (q.1 - lh.1))
  | none=>match jz d with
   | true=>(mi x).bind λl=>(Qv mx).bind λ_=>(mq lo hi l.length l.length).bind λlh=>some (.str ((l.take lh.2).drop lh.1))
   | false=>(iw d).bind λe=>(E.info e).bind λi=>match kt x with
    | some y=>(match y.cap with | some _=>some () | none=>grd (Nat.beq y.es i.size)).bind λ_=>(Hg lo hi mx y.off y.len i.size y.cap).bind λr=>some (SlV.av ⟨y.b,r.1,r.2.1,r.2.2,y.es⟩)
    | none=>(kz x).bind λ_=>(mq lo hi 0 0).bind λ_=>match mx with
     | none=>some (.val (.slice none 0 0))
     | some a=>(If hi).bind λ_=>(pi (some a) 0 0).bind λ_=>some (.val (.slice none 0 0))
theorem zdp {p off l m size:Nat}:(if m=l then(⟨p,off,none⟩:Addr)else(⟨p,off,none⟩:Addr).add (l * size))=⟨p,mh off l m size,none⟩:=by
 unfold mh
 by_cases h:m=l
 ·subst h;simp
 ·have:Nat.beq m l=false:=by rw[<-Bool.not_eq_true,Nat.beq_eq];exact h
  rw[this,if_neg h,jr]
theorem py {p off l m size:Nat}:(if m=l then some (⟨p,off,none⟩:Addr)else some ((⟨p,off,none⟩:Addr).add (l * size)))=some ⟨p,mh off l m size,none⟩:=by
 rw[<-zdp];split <;> rfl
theorem rv {lo hi:Option AV} {len most l h:Nat} (e:mq lo hi len most=some (l,h)) (hl:len<=most):l<=h/\h<=most:=by
 obtain⟨x,hx,e⟩:=bnd e;obtain⟨y,hy,e⟩:=bnd e;obtain⟨rfl,rfl⟩:y=l/\x=h:=by simpa using e
 constructor
 ·cases lo with
  | none=>
   obtain rfl:(0:Nat)=y:=by simpa[pi]using hy
   omega
  | some a=>
   obtain⟨ki,hk,hy⟩:=bnd (show(asInt a).bind _=some y from hy);obtain⟨n,hn,hy⟩:=bnd hy;obtain⟨_,hb,hy⟩:=bnd hy;obtain rfl:=Xa hy;exact db (ag hb)
 ·cases hi with
  | none=>
   obtain rfl:len=x:=by simpa[pi]using hx
   exact hl
  | some a=>
   obtain⟨ki,hk,hx⟩:=bnd (show(asInt a).bind _=some x from hx);obtain⟨n,hn,hx⟩:=bnd hx;obtain⟨_,hb,hx⟩:=bnd hx;obtain rfl:=Xa hx;exact db (ag hb)
theorem Me {o:Option AV} {d most n:Nat} (e:pi o d most=some n) (hd:d<=most):n<=most:=by
 cases o with
 | none=>
  obtain rfl:d=n:=by simpa[pi]using e
  exact hd
 | some a=>
  obtain⟨ki,hk,e⟩:=bnd (show(asInt a).bind _=some n from e);obtain⟨m,hm,e⟩:=bnd e;obtain⟨_,hb,e⟩:=bnd e;obtain rfl:=Xa e;exact db (ag hb)
theorem pu (l:List UInt8) (a b:Nat):(⟨⟨l⟩⟩:ByteArray).extract a b=⟨⟨(l.take b).drop a⟩⟩:=by
 apply ByteArray.ext;rw[ByteArray.data_extract];apply Array.ext';simp[List.extract_eq_take_drop,List.drop_take]
theorem vz {o:Option AV} {u:Unit} (h:If o=some u):o.isSome=true:=by
 cases o with
 | none=>cases h
 | some a=>rfl
theorem tz {o:Option AV} {u:Unit} (h:Qv o=some u):o=none:=by
 cases o with
 | none=>rfl
 | some a=>cases h
theorem ig {a:AV} {l:List UInt8} (h:mi a=some l):a= .str l:=by
 cases a <;> first | (cases h;done) | (obtain rfl:=Xa h;rfl)
theorem jd {d:TypeDesc} (h:jz d=true):d= .string:=by
 cases d <;> first | rfl | (cases h;done)
theorem fj {a:AV} {u:Unit} (h:kz a=some u):a= .val (.slice none 0 0):=by
 unfold kz at h;split at h
 ·rfl
 ·cases h
theorem Nd {lo hi mx:Option AV} {lo' hi' mx':Option Value} {off len size c p:Nat} {cap:Option Nat} {r:Nat×Nat×Option Nat} (h:Hg lo hi mx off len size cap=some r) (hc:len<=c) (hk:∀k,cap=some k->c=k)
  (h1:ur sg lo lo') (h2:ur sg hi hi') (h3:ur sg mx mx') (w:World):
  ∃l h m,(Instr.sliceBounds true len c lo' hi' mx').run P w= .ok (l,h,m) w/\(if m=l then some (⟨p,off,none⟩:Addr)else some ((⟨p,off,none⟩:Addr).add (l * size)))=some ⟨p,r.1,none⟩/\h - l=r.2.1/\h<=m/\(∀k,r.2.2=some k->m - l=k)/\(r.2.2=none->cap=none/\m=c/\l<=c/\r.1=off+l * size):=by
 unfold Hg at h;cases mx with
 | some a=>
  replace h:=bnd h;obtain⟨_,hh,h⟩:=h;replace h:=bnd h;obtain⟨m,hm,h⟩:=h;obtain⟨⟨l,h'⟩,hb,h⟩:=bnd h;obtain rfl:=Xa h;have hmc:cap.getD len<=c:=by
   cases cap with
   | none=>exact hc
   | some k=>exact Nat.le_of_eq (hk k rfl).symm
  have hmle:m<=cap.getD len:=Me hm (Xc _);refine⟨l,h',m,Ew hm rfl hb (vz hh) h1 h2 h3 true c hmc w,py,rfl,?_,λk e=>Xa e,λe=>(by cases e)⟩;obtain⟨x,hx,hb'⟩:=bnd hb;obtain⟨y,hy,hb'⟩:=bnd hb';obtain⟨rfl,rfl⟩:y=l/\x=h':=by simpa using hb'
  cases hi with
  | none=>cases hh
  | some b=> 
   obtain⟨ki,_,hx⟩:=bnd (show(asInt b).bind _=some x from hx);obtain⟨n,_,hx⟩:=bnd hx;obtain⟨_,hb2,hx⟩:=bnd hx;obtain rfl:=Xa hx;exact db (ag hb2)
 | none=>
  obtain rfl:mx'=none:=h3;cases cap with
  | some k=>
   obtain⟨⟨l,h'⟩,hb,h⟩:=bnd h;obtain rfl:=Xa h;obtain rfl:=hk k rfl;exact⟨l,h',c,lg hb h1 h2 true c (Xc _) w,py,rfl,(rv hb hc).2,λk e=>Xa e,λe=>(by cases e)⟩
  | none=>
   obtain⟨⟨l,h'⟩,hb,h⟩:=bnd h;replace h:=bnd h;obtain⟨_,hg,h⟩:=h;obtain rfl:=Xa h;have hle:=rv hb (Xc _);refine⟨l,h',c,lg hb h1 h2 true c hc w,?_,rfl,Yx,λk e=>(by cases e),λ_=>⟨rfl,rfl,Yx,rfl⟩⟩;have hg:=ag hg;rw[py];unfold mh
   by_cases hl0:l=0
   ·subst hl0;split <;> simp
   ·have h0:Nat.beq l 0=false:=by rw[<-Bool.not_eq_true,Nat.beq_eq];exact hl0
    dsimp only at hg;rw[h0]at hg;rw[Nat.blt_eq]at hg;have:Nat.beq c l=false:=by rw[<-Bool.not_eq_true,Nat.beq_eq];omega
    rw[this]
theorem Sp (hE:E.Ok P) {t:TypeId} {x v:AV} {u:Value} {lo hi mx:Option AV} {lo' hi' mx':Option Value} (h:zaa E t x lo hi mx=some v) (hx:VR sg x u) (h1:ur sg lo lo') (h2:ur sg hi hi') (h3:ur sg mx mx') (A:Ask X sg w s s):
  Got P X sg w s (Instr.sliceAt t u lo' hi' mx') v s:=by
 replace h:=bnd h;obtain⟨d,hd,h⟩:=h;have hd':=hE.und _ _ hd;cases hq:tc d with
 | some q=>
  rw[hq]at h;replace h:=bnd h;obtain⟨y,hy,h⟩:=h;replace h:=bnd h;obtain⟨_,hm,h⟩:=h;obtain⟨⟨l,h'⟩,hb,h⟩:=bnd h;replace h:=bnd h;obtain⟨i,hi,h⟩:=h;obtain rfl:=Xa h;obtain rfl:=tz hm;obtain rfl:mx'=none:=h3;rw[dk hy]at hx;rw[lw hq]at hd';obtain⟨p,hp,rfl⟩:=hx;have hb':=lg (P:=P) hb h1 h2 false q.1 (Xc _) w;have hle:=rv hb (Xc _);refine Got.pure A (u:= .slice (some ⟨p,mh y.2 l q.1 i.size,none⟩) (h' - l) (q.1 - l)) ?_ ⟨p,hp,Yx,rfl⟩;have:=@zdp p y.2 l q.1 i.size;simp[Instr.sliceAt,run_underlying hd',Instr.sureAddr,hb',bg (hE.info _ _ hi),this]
 | none=>
  rw[hq]at h;dsimp only at h;cases hs:jz d with
  | true=>
   rw[hs]at h;replace h:=bnd h;obtain⟨l,hl,h⟩:=h;replace h:=bnd h;obtain⟨_,hm,h⟩:=h;obtain⟨⟨a,b⟩,hb,h⟩:=bnd h;obtain rfl:=Xa h;obtain rfl:=tz hm;obtain rfl:mx'=none:=h3;rw[ig hl]at hx;rw[jd hs]at hd';obtain rfl:u=_:=hx;have hb':=lg (P:=P) hb h1 h2 false l.length (Xc _) w;refine Got.pure A (u:= .string ⟨⟨(l.take b).drop a⟩⟩) ?_ rfl;have hsz:(⟨⟨l⟩⟩:ByteArray).size=l.length:=rfl;simp[Instr.sliceAt,Instr.slice,run_underlying hd',hsz,hb',pu]
  | false=>
   rw[hs]at h;replace h:=bnd h;obtain⟨e,he,h⟩:=h;replace h:=bnd h;obtain⟨i,hi,h⟩:=h;rw[dh he]at hd';cases hy:kt x with
   | some y=>
    rw[hy]at h;replace h:=bnd h;obtain⟨_,hes,h⟩:=h;replace h:=bnd h;obtain⟨r,hr,h⟩:=h;obtain rfl:=Xa h;obtain⟨p,c,hp,hc,hk,hsz,rfl⟩:=dy hy hx;obtain⟨l,h',m,e1,e2,e3,e4,e5,e6⟩:=Nd (P:=P) (p:=p) hr hc hk h1 h2 h3 w;refine Got.pure A (u:= .slice (some ⟨p,r.1,none⟩) r.2.1 (m - l)) ?_ (SlV.av_ok (x:=⟨y.b,r.1,r.2.1,r.2.2,y.es⟩) hp (by show r.2.1<=m - l;omega) e5 λe=>?_)
    rotate_left
    ·obtain⟨g1,g2,g3,g4⟩:=e6 e;have hz:=hsz g1;rw[g1]at hes;have hes:=Nat.eq_of_beq_eq_true (ag hes);show r.1+(m - l) * y.es<=sg.sz y.b;rw[g4,g2,<-hes,Nat.sub_mul];have:l * y.es<=c * y.es:=Nat.mul_le_mul_right _ g3;omega
    simp only[Instr.sliceAt,Instr.slice,Sem.run_bind,run_underlying hd',Result.andThen_ok,e1,bg (hE.info _ _ hi),Option.map_some,e2,e3,Sem.run_pure]
   | none=>
    rw[hy]at h;replace h:=bnd h;obtain⟨_,hn,h⟩:=h;obtain⟨⟨l,h'⟩,hb,h⟩:=bnd h;rw[fj hn]at hx;obtain rfl:u=_:=hx;have hle:=rv hb (Xc _);have hl0:l=0:=Yx;have hh0:h'=0:=Yx;subst hl0 hh0;cases mx with
    | none=>
     obtain rfl:=Xa h;obtain rfl:mx'=none:=h3;have hb':=lg (P:=P) hb h1 h2 true 0 (Xc _) w;refine Got.pure A (u:= .slice none 0 0) ?_ rfl;simp[Instr.sliceAt,Instr.slice,run_underlying hd',hb',bg (hE.info _ _ hi)]
    | some a=>
     replace h:=bnd h;obtain⟨_,hh,h⟩:=h;replace h:=bnd h;obtain⟨m,hm,h⟩:=h;obtain rfl:=Xa h;have hm0:m=0:=Nat.le_zero.1 (Me hm (Xc _));subst hm0;have hb':=Ew (P:=P) hm rfl hb (vz hh) h1 h2 h3 true 0 (Xc _) w;refine Got.pure A (u:= .slice none 0 0) ?_ rfl;simp[Instr.sliceAt,Instr.slice,run_underlying hd',hb',bg (hE.info _ _ hi)]
end
end
end RX
end
end Go.Proofs.YtimcfaoabaflkaaGreatDoor
