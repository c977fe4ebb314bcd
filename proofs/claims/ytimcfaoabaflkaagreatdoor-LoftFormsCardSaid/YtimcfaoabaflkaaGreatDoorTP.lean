/- Told, plainly: what texts say, how a book is kept; laws of it. -/
import Derived.Test.YtimcfaoabaflkaaGreatDoorTrV
import Derived.Test.YtimcfaoabaflkaaGreatDoorTRow
namespace Go.Proofs.YtimcfaoabaflkaaGreatDoor
open AbBase
open AbA AbI
set_option maxHeartbeats 4000000
set_option maxRecDepth 100000
open Go.Proofs.Tryz
section
open Go.RowKit Go.Shelf Go.Lib
inductive Fm where
 | new (n:Nat) (s:S8)
 | keep (n:Nat) (s:S8)
 | act (n:Nat) (a:Ac)
 deriving Inhabited
def Fm.ok:Fm→Prop
 | .new n s=>1≤n∧n≤1000000∧s.ok∧s≠S8.zero
 | .keep n s=>1≤n∧n≤1000000∧s.ok∧s≠S8.zero
 | .act n a=>1≤n∧n≤1000000∧a.c.ok∧okA 8 a.k a.p a.c.l=true
def Fm.text:Fm→List UInt8
 | .new n s=>[110,101,119] ++ 32 :: (Lib.decDigits n ++ 32 :: dg s.l)
 | .keep n s=>[107,101,101,112] ++ 32 :: (Lib.decDigits n ++ 32 :: dg s.l)
 | .act n a=>[100,111] ++ 32 :: (Lib.decDigits n ++ 32 :: dl a.k a.p a.c.l)
open Classical in
noncomputable def ee (t:ByteArray):Option Fm:=if h:∃f:Fm,f.ok∧f.text=t.data.toList then some h.choose else none
theorem cu {t:ByteArray} {f:Fm} (h:ee t=some f):f.ok∧f.text=t.data.toList:=by
 unfold ee at h;split at h
 ·rename_i hx;cases h;exact hx.choose_spec
 ·cases h
theorem Gl {t:ByteArray} (h:ee t=none) (f:Fm) (hf:f.ok):f.text≠t.data.toList:=by
 unfold ee at h;split at h
 ·cases h
 ·rename_i hx;exact fun e=>hx ⟨f,hf,e⟩
structure Kp where
 id:Int
 size:Int
 st:Int
 blank:S8
 pieces:List S8
 acts:List Ac
 deriving DecidableEq,Inhabited
inductive AbTP|Yf(x0:Kp)(x1:Option Addr)(x2:Nat)(x3:Option Addr)(x4:Nat)
open AbTP
instance{x0:Kp}{x1:Option Addr}{x2:Nat}{x3:Option Addr}{x4:Nat}:CoeDep AbTP (Yf x0 x1 x2 x3 x4) (Array Value):=⟨#[.int .i64 x0.id, .int .i64 x0.size, .int .i64 x0.st, x0.blank.a0, x0.blank.a1, x0.blank.a2, x0.blank.a3, x0.blank.a4, x0.blank.a5, x0.blank.a6, x0.blank.a7, .slice x1 x0.pieces.length x2, .slice x3 x0.acts.length x4]⟩
def Mn (k:Kp) (a:Ac):Nat:=if (du k.blank k.pieces k.acts).2≠0 then(du k.blank k.pieces k.acts).2 else(du k.blank k.pieces (k.acts ++ [a])).2
def gh (K:List Kp) (n:Int):Option Nat:=K.findIdx? fun k=>decide (k.id=n)
def ay (K:List Kp):Option Fm→List Kp×Nat
 | none=>(K,95)
 | some (.new _ _)=>(K,0)
 | some (.keep n s)=>match gh K n with
  | none=>(K,5)
  | some i=>if 8≤(K.getD i default).pieces.length then(K,2)else(K.set i {K.getD i default with pieces:=(K.getD i default).pieces ++ [s]},0)
 | some (.act n a)=>match gh K n with
  | none=>(K,5)
  | some i=>if Mn (K.getD i default) a=0 then(K.set i {K.getD i default with acts:=(K.getD i default).acts ++ [a]},0)else(K,Mn (K.getD i default) a)
def bf:List Kp→List (Option Fm)→List Kp×List Nat
 | K,[]=>(K,[])
 | K,f :: r=>((bf (ay K f).1 r).1,(ay K f).2 :: (bf (ay K f).1 r).2)
noncomputable def ku (x:Rc):Option Kp:=match ee x.t with
 | some (.new n s)=>some ⟨8 * x.k+x.s,n,x.s,s,[],[]⟩
 | _=>none
def ko (K:List Kp) (x:Kp):List Kp:=K.takeWhile (fun k=>decide (k.id < x.id)) ++ [x] ++ K.dropWhile (fun k=>decide (k.id < x.id))
noncomputable def jk (l:List Rc):List Kp:=l.filterMap ku
noncomputable def bj (l:List Rc):List Kp:=(jk l).foldl ko []
noncomputable def pg (l:List Rc):List Kp×List Nat:=bf (bj l) (l.map fun x=>ee x.t)
theorem ol:∀(fs:List (Option Fm)) (K:List Kp),(bf K fs).2.length=fs.length
 | [],K=>rfl
 | f :: r,K=>by simp[bf,ol r]
theorem ph:∀(fs gs:List (Option Fm)) (K:List Kp),bf K (fs ++ gs)=((bf (bf K fs).1 gs).1,(bf K fs).2 ++ (bf (bf K fs).1 gs).2)
 | [],gs,K=>rfl
 | f :: r,gs,K=>by
  show((bf (ay K f).1 (r ++ gs)).1,(ay K f).2 :: (bf (ay K f).1 (r ++ gs)).2)=_;rw[ph r gs];rfl
theorem i8 {K:List Kp} {n:Int} {i:Nat} (h:gh K n=some i):∃hi:i < K.length,K[i].id=n:=by
 unfold gh at h;rw[List.findIdx?_eq_some_iff_getElem]at h;obtain⟨hi,h1,_⟩:=h;exact⟨hi,of_decide_eq_true h1⟩
theorem In {K:List Kp} {i:Nat} (hi:i < K.length):K.getD i default=K[i]:=by simp[List.getD,hi]
def Kp.many (k:Kp):Nat:=1+k.acts.length+k.pieces.length
def b9 (K:List Kp):Nat:=(K.map Kp.many).sum
theorem zcZ:∀(K:List Kp) (i:Nat) (x:Kp) (hi:i < K.length),b9 (K.set i x)+K[i].many=b9 K+x.many
 | [],i,x,hi=>by simp at hi
 | k :: K,0,x,hi=>by simp[b9];omega
 | k :: K,i+1,x,hi=>by
  have:=zcZ K i x (by simpa using hi);simp only[b9,List.set_cons_succ,List.map_cons,List.sum_cons,List.getElem_cons_succ]at *;omega
theorem zcK {K:List Kp} {f:Option Fm} (h:(ay K f).2≠0):(ay K f).1=K:=by
 cases f with
 | none=>rfl
 | some f=>
  cases f with
  | new n s=>rfl
  | keep n s=>
   simp only[ay]at h ⊢;cases hf:gh K n with
   | none=>rfl
   | some i=>
    rw[hf]at h;dsimp only at h ⊢;split
    ·rfl
    ·rename_i hc;rw[if_neg hc]at h;exact absurd rfl h
  | act n a=>
   simp only[ay]at h ⊢;cases hf:gh K n with
   | none=>rfl
   | some i=>
    rw[hf]at h;dsimp only at h ⊢;split
    ·rename_i hc;rw[if_pos hc]at h;exact absurd rfl h
    ·rfl
def zbg:Option Fm→Bool
 | some (.new _ _)=>true
 | _=>false
theorem zcJ {K:List Kp} {f:Option Fm} (h:zbg f=true):ay K f=(K,0):=by
 cases f with
 | none=>cases h
 | some f=>cases f <;> first | rfl | cases h
theorem zcv {K:List Kp} {f:Option Fm} (h:(ay K f).2=0) (hn:zbg f=false):b9 (ay K f).1=b9 K+1:=by
 cases f with
 | none=>cases h
 | some f=>
  cases f with
  | new n s=>cases hn
  | keep n s=>
   simp only[ay]at h ⊢;cases hf:gh K n with
   | none=>rw[hf]at h;cases h
   | some i=>
    obtain⟨hi,_⟩:=i8 hf;rw[hf]at h;dsimp only at h ⊢;split
    ·rename_i hc;rw[if_pos hc]at h;cases h
    ·have:=zcZ K i {K.getD i default with pieces:=(K.getD i default).pieces ++ [s]} hi;rw[In hi]at this ⊢;simp only[Kp.many,List.length_append,List.length_singleton]at this;dsimp only;omega
  | act n a=>
   simp only[ay]at h ⊢;cases hf:gh K n with
   | none=>rw[hf]at h;cases h
   | some i=>
    obtain⟨hi,_⟩:=i8 hf;rw[hf]at h;dsimp only at h ⊢;split
    ·have:=zcZ K i {K.getD i default with acts:=(K.getD i default).acts ++ [a]} hi;rw[In hi]at this ⊢;simp only[Kp.many,List.length_append,List.length_singleton]at this;dsimp only;omega
    ·rename_i hc;rw[if_neg hc]at h;exact absurd h hc
def q8 (l:List Nat):Nat:=(l.filter fun e=>decide (e=0)).length
theorem X1:∀(fs:List (Option Fm)) (K:List Kp),b9 (bf K fs).1+(fs.filter zbg).length=b9 K+q8 (bf K fs).2
 | [],K=>by simp[bf,q8]
 | f :: r,K=>by
  have ih:=X1 r (ay K f).1;simp only[bf,q8,List.filter_cons]at ih ⊢;cases hn:zbg f with
  | true=>
   rw[zcJ hn]at ih ⊢;simp only[if_true,List.length_cons,decide_true]at ih ⊢;omega
  | false=>
   simp only[Bool.false_eq_true,if_false]
   by_cases h0:(ay K f).2=0
   ·have:=zcv h0 hn;simp only[h0,decide_true,if_true,List.length_cons];omega
   ·have:=zcK h0;simp only[h0,decide_false,Bool.false_eq_true,if_false];rw[this]at ih ⊢;omega
theorem uf (K:List Kp) (x:Kp):(ko K x).Perm (x :: K):=by
 unfold ko;rw[List.append_assoc];refine List.perm_middle.trans ?_;show(x :: (K.takeWhile (fun k=>decide (k.id < x.id)) ++ K.dropWhile (fun k=>decide (k.id < x.id)))).Perm (x :: K);rw[List.takeWhile_append_dropWhile]
theorem Ea:∀(l K:List Kp),(l.foldl ko K).Perm (K ++ l)
 | [],K=>by simp
 | x :: l,K=>by
  refine(Ea l (ko K x)).trans ?_;refine((uf K x).append_right l).trans ?_;exact(List.perm_middle (a:=x) (l₁:=K) (l₂:=l)).symm
theorem ie (l:List Rc):(bj l).Perm (jk l):=by
 have:=Ea (jk l) [];simpa[bj]using this
theorem zcW:∀(l:List Rc),b9 (jk l)=((l.map fun x=>ee x.t).filter zbg).length
 | []=>rfl
 | x :: l=>by
  have ih:=zcW l;have key:∀o,ku x=o→b9 (jk (x :: l))=(match o with | none=>b9 (jk l) | some k=>k.many+b9 (jk l)):=fun o ho=>by
   unfold jk;cases o with
   | none=>rw[List.filterMap_cons_none ho]
   | some k=>rw[List.filterMap_cons_some ho];rfl
  rw[List.map_cons,List.filter_cons];cases hf:ee x.t with
  | none=>
   rw[key none (by unfold ku;rw[hf])];simpa[zbg]using ih
  | some f=>
   cases f with
   | new n s=>
    rw[key (some ⟨8 * x.k+x.s,n,x.s,s,[],[]⟩) (by unfold ku;rw[hf])];simp only[zbg,if_true,List.length_cons,Kp.many,List.length_nil];omega
   | keep n s=>
    rw[key none (by unfold ku;rw[hf])];simpa[zbg]using ih
   | act n a=>
    rw[key none (by unfold ku;rw[hf])];simpa[zbg]using ih
theorem zdB {K K':List Kp} (h:K.Perm K'):b9 K=b9 K':=(h.map Kp.many).sum_nat
theorem zdu (l:List Rc):b9 (pg l).1=q8 (pg l).2:=by
 have h:=X1 (l.map fun x=>ee x.t) (bj l);rw[zdB (ie l),zcW]at h;unfold pg;omega
theorem Zq (l:List Rc):(pg l).2.length=l.length:=by
 unfold pg;rw[ol,List.length_map]
theorem zdt (l:List Rc) (x:Rc) (hn:zbg (ee x.t)=false):pg (l ++ [x])=((ay (pg l).1 (ee x.t)).1,(pg l).2 ++ [(ay (pg l).1 (ee x.t)).2]):=by
 have e:bj (l ++ [x])=bj l:=by
  unfold bj jk;rw[List.filterMap_append];have:List.filterMap ku [x]=[]:=by
   simp only[List.filterMap_cons,List.filterMap_nil,ku];cases hf:ee x.t with
   | none=>rfl
   | some f=>rw[hf]at hn;cases f <;> first | rfl | cases hn
  rw[this,List.append_nil]
 unfold pg;rw[e,List.map_append,ph];rfl
abbrev IdS (K:List Kp):Prop:=K.Pairwise fun a b=>a.id < b.id
theorem Ik {K:List Kp} {x:Kp} (h:IdS K) (hx:∀k∈K,k.id≠x.id):IdS (ko K x):=by
 induction K with
 | nil=>simp[ko]
 | cons a K ih=>
  unfold ko
  by_cases ha:a.id < x.id
  ·rw[List.takeWhile_cons_of_pos (by simpa using ha),List.dropWhile_cons_of_pos (by simpa using ha)];show IdS (a :: ko K x);rw[IdS,List.pairwise_cons]at h ⊢;refine⟨fun b hb=>?_,ih h.2 (fun b hb=>hx b (List.mem_cons_of_mem _ hb))⟩;rcases List.mem_cons.1 ((uf K x).mem_iff.1 hb)with rfl | hb
   ·exact ha
   ·exact h.1 b hb
  ·rw[List.takeWhile_cons_of_neg (by simpa using ha),List.dropWhile_cons_of_neg (by simpa using ha)];show IdS (x :: a :: K);rw[IdS,List.pairwise_cons];refine⟨fun b hb=>?_,h⟩;have hxa:x.id < a.id:=by
    have:=hx a List.mem_cons_self;omega
   rcases List.mem_cons.1 hb with rfl | hb
   ·exact hxa
   ·have:=(List.pairwise_cons.1 h).1 b hb;omega
theorem Y1:∀(l K:List Kp),IdS K→l.Pairwise (fun a b=>a.id≠b.id)→(∀k∈K,∀x∈l,k.id≠x.id)→IdS (l.foldl ko K)
 | [],K,h,_,_=>h
 | x :: l,K,h,hd,hx=>by
  replace hd:=List.pairwise_cons.1 hd;refine Y1 l (ko K x) (Ik h fun k hk=>hx k hk x List.mem_cons_self) hd.2 fun k hk y hy=>?_;rcases List.mem_cons.1 ((uf K x).mem_iff.1 hk)with rfl | hk
  ·exact hd.1 y hy
  ·exact hx k hk y (List.mem_cons_of_mem _ hy)
def Y5 (l:List Rc):Prop:=(∀x∈l,0≤x.s∧x.s < 8)∧l.Pairwise fun a b=>a.s≠b.s∨a.k≠b.k
theorem Qx {x:Rc} {k:Kp} (h:ku x=some k):k.id=8 * x.k+x.s:=by
 unfold ku at h;split at h
 ·cases h;rfl
 ·cases h
theorem N5 {l:List Rc} (h:Y5 l):(jk l).Pairwise (fun a b=>a.id≠b.id):=by
 unfold jk;rw[List.pairwise_filterMap];have h1:=h.1;refine(List.Pairwise.and_mem.1 h.2).imp ?_;intro a b hab p hp q hq;have e1:=Qx hp;have e2:=Qx hq;have:=h1 a hab.1;have:=h1 b hab.2.1;have:=hab.2.2;omega
theorem zbW {l:List Rc} (h:Y5 l):IdS (bj l):=Y1 _ [] List.Pairwise.nil (N5 h) (fun k hk=>by cases hk)
theorem zdi {K:List Kp} {i:Nat} {x:Kp} (h:IdS K) (hi:i < K.length) (hx:x.id=K[i].id):IdS (K.set i x):=by
 rw[IdS,List.pairwise_iff_getElem]at h ⊢;intro a b ha hb hab;simp only[List.length_set]at ha hb;have key:∀c (hc:c < K.length),((K.set i x)[c]'(by simpa using hc)).id=K[c].id:=fun c hc=>by
  rw[List.getElem_set];split
  ·subst_vars;exact hx
  ·rfl
 rw[key a ha,key b hb];exact h a b ha hb hab
theorem zde {K:List Kp} (f:Option Fm) (h:IdS K):IdS (ay K f).1:=by
 cases f with
 | none=>exact h
 | some f=>
  cases f with
  | new n s=>exact h
  | keep n s=>
   simp only[ay];cases hf:gh K n with
   | none=>exact h
   | some i=>
    obtain⟨hi,_⟩:=i8 hf;dsimp only;split
    ·exact h
    ·exact zdi h hi (by rw[In hi])
  | act n a=>
   simp only[ay];cases hf:gh K n with
   | none=>exact h
   | some i=>
    obtain⟨hi,_⟩:=i8 hf;dsimp only;split
    ·exact zdi h hi (by rw[In hi])
    ·exact h
theorem Y2:∀(fs:List (Option Fm)) (K:List Kp),IdS K→IdS (bf K fs).1
 | [],_K,h=>h
 | f :: r,_K,h=>Y2 r _ (zde f h)
theorem zdM {l:List Rc} (h:Y5 l):IdS (pg l).1:=Y2 _ _ (zbW h)
def Kp.good (k:Kp):Prop:=du k.blank k.pieces k.acts=(0,0)∧∀s∈k.pieces,s.ok∧s≠S8.zero
theorem zcp (L:List S8):∀(A:List Ac) (s:Std) (i:Nat),(jg L s i A).2.1=0→(jg L s i A).1=0
 | [],s,i,_=>rfl
 | a :: r,s,i,h=>by
  simp only[jg]at h ⊢;split
  ·rename_i hc;rw[if_pos hc]at h;exact zcp L r _ _ h
  ·rename_i hc;rw[if_neg hc]at h;exact absurd h hc
theorem Ws {P:S8} {L:List S8} {A:List Ac} (h:(du P L A).2=0):du P L A=(0,0):=by
 unfold du at h ⊢;split
 ·rename_i hc;rw[if_pos hc]at h;exact absurd h hc
 ·rename_i hc;rw[if_neg hc]at h;split
  ·rename_i h6;rw[if_pos h6]at h;cases h
  ·rename_i h6;rw[if_neg h6]at h;exact Prod.ext (zcp L A _ _ h) h
theorem zaJ {n k:Nat} {p:Int} {c:List Nat} (h:okA n k p c=true):okA (n+1) k p c=true:=by
 unfold okA at h ⊢;simp only[Bool.or_eq_true,Bool.and_eq_true,decide_eq_true_eq]at h ⊢;rcases h with h | ⟨⟨⟨h1,h2⟩,h3⟩,h4⟩
 ·exact Or.inl h
 ·exact Or.inr ⟨⟨⟨h1,h2⟩,Yi⟩,h4⟩
theorem zaL {L:List S8} {s:Std} {a:Ac} (x:S8) (h:(nxt L s a).2=0):nxt (L ++ [x]) s a=nxt L s a:=by
 have hok:okA L.length a.k a.p a.c.l=true:=by
  cases hc:okA L.length a.k a.p a.c.l with
  | true=>rfl
  | false=>unfold nxt at h;rw[if_pos hc]at h;cases h
 have hok2:okA (L ++ [x]).length a.k a.p a.c.l=true:=by
  rw[List.length_append,List.length_singleton];exact zaJ hok
 unfold nxt;simp only[hok,hok2,Bool.true_eq_false,if_false];rcases jc hok with ⟨h1,_⟩ | ⟨h1,i,hi,hp⟩
 ·rw[if_pos h1,if_pos h1]
 ·have e:(L ++ [x]).getD a.p.toNat default=L.getD a.p.toNat default:=by
   rw[hp];simp[List.getD,List.getElem?_append_left hi]
  rw[e]
theorem zcS (L:List S8) (x:S8):∀(A:List Ac) (s:Std) (i:Nat),(jg L s i A).2.1=0→jg (L ++ [x]) s i A=jg L s i A
 | [],s,i,_=>rfl
 | a :: r,s,i,h=>by
  simp only[jg]at h ⊢
  by_cases hc:(nxt L s a).2=0
  ·rw[if_pos hc]at h;rw[zaL x hc,if_pos hc,if_pos hc];exact zcS L x r _ _ h
  ·rw[if_neg hc]at h;exact absurd h hc
theorem S8.zero_l:S8.zero.l=aq:=rfl
theorem N8 {L:List S8}:aq∈L.map S8.l↔S8.zero∈L:=by
 constructor
 ·intro h;obtain⟨s,hs,e⟩:=List.mem_map.1 h;rw[←S8.zero_l]at e;rw[←S8.l_inj e];exact hs
 ·intro h;exact List.mem_map.2 ⟨_,h,rfl⟩
theorem Lz {P:S8} {L:List S8}:ci P.l (L.map S8.l)=0↔L.length≤8∧P≠S8.zero∧S8.zero∉L:=by
 unfold ci;simp only[List.length_map,N8];constructor
 ·intro h;split at h
  ·cases h
  ·split at h
   ·cases h
   ·rename_i h1 h2;rw[not_or]at h2;exact⟨Yi,fun e=>h2.1 (by rw[e];rfl),h2.2⟩
 ·rintro⟨h1,h2,h3⟩;rw[if_neg Yi,if_neg];rintro(h | h)
  ·exact h2 (S8.l_inj h)
  ·exact h3 h
theorem Wt {P:S8} {L:List S8} {A:List Ac} (x:S8) (h:du P L A=(0,0)) (hx:x≠S8.zero) (hl:L.length < 8):du P (L ++ [x]) A=(0,0):=by
 have hp:ci P.l (L.map S8.l)=0:=by
  by_cases hc:ci P.l (L.map S8.l)=0
  ·exact hc
  ·unfold du at h;rw[if_pos hc]at h;exact absurd (Prod.mk.inj h).2 hc
 have hp2:ci P.l ((L ++ [x]).map S8.l)=0:=by
  rw[Lz]at hp ⊢;refine⟨by rw[List.length_append,List.length_singleton];omega,hp.2.1,?_⟩;rw[List.mem_append,List.mem_singleton];rintro(h | h)
  ·exact hp.2.2 h
  ·exact hx h.symm
 unfold du at h ⊢;rw[if_neg (by rw[hp];simp)]at h;rw[if_neg (by rw[hp2];simp)];split
 ·rename_i h6;rw[if_pos h6]at h;cases h
 ·rename_i h6;rw[if_neg h6]at h;rw[zcS L x A _ _ (Prod.mk.inj h).2];exact h
theorem Lr {K:List Kp} {f:Option Fm} (hf:∀g,f=some g→g.ok) (h:∀k∈K,k.good):∀k∈(ay K f).1,k.good:=by
 cases f with
 | none=>exact h
 | some f=>
  have hok:=hf f rfl;cases f with
  | new n s=>exact h
  | keep n s=>
   simp only[ay];cases hf:gh K n with
   | none=>exact h
   | some i=>
    obtain⟨hi,_⟩:=i8 hf;dsimp only;split
    ·exact h
    ·rename_i h8;intro k hk;rcases List.mem_or_eq_of_mem_set hk with hk | rfl
     ·exact h k hk
     ·have hg:=h _ (List.getElem_mem hi);rw[In hi]at h8 ⊢;refine⟨Wt s hg.1 hok.2.2.2 Yi,fun t ht=>?_⟩;rcases List.mem_append.1 ht with ht | ht
      ·exact hg.2 t ht
      ·rw[List.mem_singleton.1 ht];exact⟨hok.2.2.1,hok.2.2.2⟩
  | act n a=>
   simp only[ay];cases hf:gh K n with
   | none=>exact h
   | some i=>
    obtain⟨hi,_⟩:=i8 hf;dsimp only;split
    ·rename_i h0;intro k hk;rcases List.mem_or_eq_of_mem_set hk with hk | rfl
     ·exact h k hk
     ·have hg:=h _ (List.getElem_mem hi);rw[In hi]at h0 ⊢;refine⟨Ws ?_,hg.2⟩;unfold Mn at h0;rw[hg.1]at h0;simpa using h0
    ·exact h
theorem sw:∀(fs:List (Option Fm)) (K:List Kp),(∀g,some g∈fs→g.ok)→(∀k∈K,k.good)→∀k∈(bf K fs).1,k.good
 | [],K,_,h=>h
 | f :: r,K,hf,h=>sw r _ (fun g hg=>hf g (List.mem_cons_of_mem _ hg)) (Lr (fun g e=>hf g (by rw[e];exact List.mem_cons_self)) h)
theorem Tt {x:Rc} {k:Kp} (h:ku x=some k):k.good:=by
 unfold ku at h;split at h
 ·rename_i n s hf;have hok:=(cu hf).1;cases h;refine⟨?_,fun s hs=>by cases hs⟩;have hp:ci s.l (([]:List S8).map S8.l)=0:=Lz.2 ⟨Nat.zero_le _,hok.2.2.2,Yj⟩;unfold du;rw[if_neg (by rw[hp];simp),if_neg Yj];rfl
 ·cases h
theorem Sf (l:List Rc):∀k∈(pg l).1,k.good:=by
 refine sw _ _ (fun g hg=>?_) (fun k hk=>?_)
 ·obtain⟨x,_,e⟩:=List.mem_map.1 hg;exact(cu e).1
 ·have:=(ie l).mem_iff.1 hk;obtain⟨x,_,e⟩:=List.mem_filterMap.1 this;exact Tt e
end
section
open Go.RowKit Go.Shelf Go.Lib
theorem Gv (p0 p1 p2 p3 p4 p5 p6 p7:Nat) (L:List S8) (A:List Ac) (pv av:Value) (w:World) (hv:ef w pv (L.map S8.l)) (hav:l5 w av A):
  Calls prog 266 #[.agg #[p0,p1,p2,p3,p4,p5,p6,p7,pv,av]] w fun e w'=>Gr w w'∧∃tv,e= .returned (.tuple #[tv,Yp (du ⟨p0,p1,p2,p3,p4,p5,p6,p7⟩ L A).1,Yp (du ⟨p0,p1,p2,p3,p4,p5,p6,p7⟩ L A).2])∧
   ((du ⟨p0,p1,p2,p3,p4,p5,p6,p7⟩ L A).2=0→∃b dv S,tv= .pointer (Yn b)∧w'.heap[b]?=some (.cells (iq p0 p1 p2 p3 p4 p5 p6 p7 pv av dv S) 394 (0,0))):=by
 obtain⟨a,cap,hsl⟩:∃a cap,av= .slice a A.length cap:=by
  obtain⟨⟨a,cap,h,_⟩,_⟩:=hav;exact⟨a,cap,by simpa using h⟩
 subst hsl
 by_cases hq:ci [p0,p1,p2,p3,p4,p5,p6,p7] (L.map S8.l)=0
 ·by_cases hn:60 < A.length
  ·have e:du ⟨p0,p1,p2,p3,p4,p5,p6,p7⟩ L A=(0,2):=by
    unfold du;rw[if_neg (by rw[show ci (S8.l ⟨p0,p1,p2,p3,p4,p5,p6,p7⟩) (L.map S8.l)=0 from hq];simp),if_pos hn]
   rw[e];refine(W0 p0 p1 p2 p3 p4 p5 p6 p7 (L.map S8.l) pv w hv a A.length cap hn hq).mono ?_;rintro e w' ⟨rfl,g⟩;exact⟨g,_,rfl,fun h=>absurd h Yj⟩
  ·have e:du ⟨p0,p1,p2,p3,p4,p5,p6,p7⟩ L A=((jg L (S8.f ⟨p0,p1,p2,p3,p4,p5,p6,p7⟩,0) 0 A).1,(jg L (S8.f ⟨p0,p1,p2,p3,p4,p5,p6,p7⟩,0) 0 A).2.1):=by
    unfold du;rw[if_neg (by rw[show ci (S8.l ⟨p0,p1,p2,p3,p4,p5,p6,p7⟩) (L.map S8.l)=0 from hq];simp),if_neg hn]
   have hL8:L.length≤8:=by
    unfold ci at hq;rw[List.length_map]at hq;split at hq
    ·cases hq
    ·omega
   rw[e];have hz:=zcp L A (S8.f ⟨p0,p1,p2,p3,p4,p5,p6,p7⟩,0) 0;refine(Pf p0 p1 p2 p3 p4 p5 p6 p7 L A pv a cap w hv hL8 hav Yi hq).mono ?_;rintro e w' ⟨g,h⟩;refine⟨g,?_⟩;generalize jg L (S8.f ⟨p0,p1,p2,p3,p4,p5,p6,p7⟩,0) 0 A=r at *;rcases h with ⟨h0,rfl⟩ | ⟨h0,b,dv,rfl,_,hb⟩
   ·exact⟨_,rfl,fun h=>absurd h h0⟩
   ·refine⟨Ym b,?_,fun _=>⟨b,dv,r.2.2,rfl,hb⟩⟩;rw[h0,hz h0];rfl
 ·have e:du ⟨p0,p1,p2,p3,p4,p5,p6,p7⟩ L A=(0,ci [p0,p1,p2,p3,p4,p5,p6,p7] (L.map S8.l)):=by
   unfold du;exact if_pos hq
  rw[e];refine(Wz p0 p1 p2 p3 p4 p5 p6 p7 (L.map S8.l) pv _ w hv hq).mono ?_;rintro e w' ⟨rfl,g⟩;exact⟨g,_,rfl,fun h=>absurd h hq⟩
theorem Wu (p0 p1 p2 p3 p4 p5 p6 p7:Nat) (L:List S8) (A:List Ac) (pv av:Value) (w:World) (hv:ef w pv (L.map S8.l)) (hav:l5 w av A):
  Calls prog 268 #[.agg #[p0,p1,p2,p3,p4,p5,p6,p7,pv,av]] w fun e w'=>e= .returned (.tuple #[Yp (du ⟨p0,p1,p2,p3,p4,p5,p6,p7⟩ L A).1,Yp (du ⟨p0,p1,p2,p3,p4,p5,p6,p7⟩ L A).2])∧Gr w w':=by
 have gI:=(Yu w).alloc (.cells #[p0,p1,p2,p3,p4,p5,p6,p7,pv,av] 45);have h0:=ae w (.cells #[p0,p1,p2,p3,p4,p5,p6,p7,pv,av] 45);have BG:=hid (Gv p0 p1 p2 p3 p4 p5 p6 p7 L A pv av _ (hv.gr gI) (hav.gr gI));have GI:=hid gI;obtain⟨s0,t0,z0⟩:=bw h0;generalize du ⟨p0,p1,p2,p3,p4,p5,p6,p7⟩ L A=r at *;clear gI h0 hv hav;go_enter func268,ntmps268;go_wp2_with fail;refine BG.out.mono ?_;rintro e w1 ⟨g1,tv,rfl,_⟩;have G1:=hid (GI.out.trans g1);clear g1 BG GI s0 t0 z0;go_wp2;go_ret2;exact⟨rfl,G1.out⟩
theorem bi {w:World} {base:Nat} {T:TypeId} {k:Nat} {v:Value} {n:Nat} {xs:List Value} {g:Nat} (h:w.ownsRow base T k v n xs) (hg:v.ownBlock=some g):∃cur,w.heap[g]?=some (.cells cur T (0,0)):=by
 rcases h.2 with ⟨rfl,_⟩ | ⟨g',cap,cur,rfl,_,hb,_⟩
 ·cases hg
 ·cases hg;exact⟨cur,hb⟩
theorem Zj (b p0 p1 p2 p3 p4 p5 p6 p7:Nat) (L:List S8) (A:List Ac) (pv av0 dv xv:Value) (S:Std) (w:World) (hb:w.heap[b]?=some (.cells (iq p0 p1 p2 p3 p4 p5 p6 p7 pv av0 dv S) 394 (0,0))) (hv:bo w 8 pv (L.map S8.cs)) (hL:L.length≤1000) (hx:bo w 10 xv (A.map Ac.cs)) (hA:A.length≤1000):
  Calls prog 267 #[Ym b,xv] w fun e w'=>∃x y,e= .returned (.agg #[p0,p1,p2,p3,p4,p5,p6,p7,x,y])∧w'.ownsRow w.heap.size 39 8 x L.length (L.flatMap S8.cs)∧w'.ownsRow w.heap.size 54 10 y A.length (A.flatMap Ac.cs)∧Gr w w':=by
 have gI:=(Yu w).alloc (.cells Zd 45);have h0:=ae w (.cells Zd 45);have HB:=hid (gI.heap hb);have CS:=hid (fun u (g:Gr (w.alloc (.cells Zd 45)) u)=>xg pv L u (hv.gr (gI.trans g)) Yi);have CA:=hid (fun u (g:Gr (w.alloc (.cells Zd 45)) u)=>Jt xv A u (hx.gr (gI.trans g)) Yi);have GI:=hid gI;have H0:=hid h0;obtain⟨a,cap,rfl,_,_⟩:=hv;obtain⟨a',cap',rfl,_,_⟩:=hx;simp only[List.length_map]at CS CA HB ⊢;clear gI h0 hb;go_enter func267,ntmps267;go_wp2;generalize w.alloc (.cells Zd 45)=U at *;have HW:Hid (∀u,Gr U u→w.heap.size≤u.heap.size):=hid (fun u g=>(GI.out.trans g).b.size);refine bz [15] [.val (Ym b),.val (Ym b),.val (Ym b),.val (Ym b),.val (.agg #[p0,p1,p2,p3,p4,p5,p6,p7]),.val (Ym b),.val (Ym b),.val (Ym b),.val (.pointer (some ⟨b,8,none⟩)),.val (.slice a L.length cap),.sat (fun v u=>u.ownsRow w.heap.size 39 8 v L.length (L.flatMap S8.cs)),.sat (fun v u=>∃x,v= .agg #[p0,p1,p2,p3,p4,p5,p6,p7,x]∧u.ownsRow w.heap.size 39 8 x L.length (L.flatMap S8.cs)),.val (.slice a' A.length cap'),.sat (fun v u=>u.ownsRow w.heap.size 54 10 v A.length (A.flatMap Ac.cs)),.sat (fun v u=>∃x y,v= .agg #[p0,p1,p2,p3,p4,p5,p6,p7,x,y]∧(u.ownsRow w.heap.size 39 8 x L.length (L.flatMap S8.cs)∧u.ownsRow w.heap.size 54 10 y A.length (A.flatMap Ac.cs))),.later] Yh Yh (fun V=>finT) ?_ ?_
 ·refine⟨?_,?_,?_,?_,?_,?_,?_,?_,?_,?_,?_,?_,?_,?_,?_,?_,trivial⟩
  iterate 10 ·(intro V u hu hk;refine⟨Yh,?_⟩;obtain⟨cb,fb,zb⟩:=bw (hu.heap HB.out);go_simp;first | exact⟨rfl,Yu _⟩ | skip)
  ·refine⟨fun v u u1 h g=>h.gr1 g,fun V u hu hk=>⟨Yh,?_⟩⟩;go_simp;refine(CS.out u hu).mono ?_;rintro e w' ⟨v',rfl,h1,h2⟩;exact⟨v',rfl,h1.mono (HW.out u hu),h2⟩
  ·refine⟨fun v u u1 h g=>h.imp fun _ h=>⟨h.1,h.2.gr1 g⟩,fun V u hu hk=>⟨Yh,?_⟩⟩;have h10:=hk 10 (fun v u=>u.ownsRow w.heap.size 39 8 v L.length (L.flatMap S8.cs)) rfl Yh;obtain⟨a1,c1,e1,_⟩:=aj h10;rw[e1]at h10;go_simp;exact⟨⟨_,rfl,h10⟩,Yu _⟩
  ·(intro V u hu hk;refine⟨Yh,?_⟩;obtain⟨cb,fb,zb⟩:=bw (hu.heap HB.out);go_simp;first | exact⟨rfl,Yu _⟩ | skip)
  ·refine⟨fun v u u1 h g=>h.gr1 g,fun V u hu hk=>⟨Yh,?_⟩⟩;go_simp;refine(CA.out u hu).mono ?_;rintro e w' ⟨v',rfl,h1,h2⟩;exact⟨v',rfl,h1.mono (HW.out u hu),h2⟩
  ·refine⟨fun v u u1 h g=>?_,fun V u hu hk=>⟨Yh,?_⟩⟩
   ·obtain⟨x,y,h1,h2,h3⟩:=h;exact⟨x,y,h1,h2.gr1 g,h3.gr1 g⟩
   ·obtain⟨x,ex,hx⟩:=hk 11 (fun v u=>∃x,v= .agg #[p0,p1,p2,p3,p4,p5,p6,p7,x]∧u.ownsRow w.heap.size 39 8 x L.length (L.flatMap S8.cs)) rfl Yh;have h13:=hk 13 (fun v u=>u.ownsRow w.heap.size 54 10 v A.length (A.flatMap Ac.cs)) rfl Yh;obtain⟨a1,c1,e1,_⟩:=aj hx;obtain⟨a2,c2,e2,_⟩:=aj h13;subst e1;rw[e2]at h13;go_simp;exact⟨⟨_,_,rfl,hx,h13⟩,Yu _⟩
  ·trivial
 ·intro V u hg hs;obtain⟨x,y,e14,hx,hy⟩:=hs 14 (fun v u=>∃x y,v= .agg #[p0,p1,p2,p3,p4,p5,p6,p7,x,y]∧(u.ownsRow w.heap.size 39 8 x L.length (L.flatMap S8.cs)∧u.ownsRow w.heap.size 54 10 y A.length (A.flatMap Ac.cs))) rfl;obtain⟨a1,c1,rfl,_⟩:=aj hx;obtain⟨a2,c2,rfl,_⟩:=aj hy;have hp:=hg.heap H0.out;obtain⟨cp,fp,zp⟩:=bw hp;have HP:=hid (fi (x0:= .int .u64 p0) (x1:= .int .u64 p1) (x2:= .int .u64 p2) (x3:= .int .u64 p3) (x4:= .int .u64 p4) (x5:= .int .u64 p5) (x6:= .int .u64 p6) (x7:= .int .u64 p7) (x8:= .slice a1 L.length c1) (x9:= .slice a2 A.length c2) hp);have HG:Hid (Gr w ((((((((((u.setCell (Yo w.heap.size 0) p0).setCell (Yo w.heap.size 1) p1).setCell (Yo w.heap.size 2) p2).setCell (Yo w.heap.size 3) p3).setCell (Yo w.heap.size 4) p4).setCell (Yo w.heap.size 5) p5).setCell (Yo w.heap.size 6) p6).setCell (Yo w.heap.size 7) p7).setCell (Yo w.heap.size 8) (.slice a1 L.length c1)).setCell (Yo w.heap.size 9) (.slice a2 A.length c2))):=hid (((((((((((GI.out.trans hg).set ⟨w.heap.size,0,none⟩ p0 (Yv _)).set ⟨w.heap.size,1,none⟩ p1 (Yv _)).set ⟨w.heap.size,2,none⟩ p2 (Yv _)).set ⟨w.heap.size,3,none⟩ p3 (Yv _)).set ⟨w.heap.size,4,none⟩ p4 (Yv _)).set ⟨w.heap.size,5,none⟩ p5 (Yv _)).set ⟨w.heap.size,6,none⟩ p6 (Yv _)).set ⟨w.heap.size,7,none⟩ p7 (Yv _)).set ⟨w.heap.size,8,none⟩ (.slice a1 L.length c1) (Yv _)).set ⟨w.heap.size,9,none⟩ (.slice a2 A.length c2) (Yv _));have NE1:(Value.slice a1 L.length c1).ownBlock≠some w.heap.size:=fun h=>by
   have h1:=bi hx h;rw[hp]at h1;simp at h1
  have NE2:(Value.slice a2 A.length c2).ownBlock≠some w.heap.size:=fun h=>by
   have h1:=bi hy h;rw[hp]at h1;simp at h1
  have HX:Hid (((((((((((u.setCell (Yo w.heap.size 0) p0).setCell (Yo w.heap.size 1) p1).setCell (Yo w.heap.size 2) p2).setCell (Yo w.heap.size 3) p3).setCell (Yo w.heap.size 4) p4).setCell (Yo w.heap.size 5) p5).setCell (Yo w.heap.size 6) p6).setCell (Yo w.heap.size 7) p7).setCell (Yo w.heap.size 8) (.slice a1 L.length c1)).setCell (Yo w.heap.size 9) (.slice a2 A.length c2)).ownsRow w.heap.size 39 8 (.slice a1 L.length c1) L.length (L.flatMap S8.cs)):=hid (ownsRow_setCell_other (ownsRow_setCell_other (ownsRow_setCell_other (ownsRow_setCell_other (ownsRow_setCell_other (ownsRow_setCell_other (ownsRow_setCell_other (ownsRow_setCell_other (ownsRow_setCell_other (ownsRow_setCell_other hx (a:=⟨w.heap.size,0,none⟩) NE1 p0) (a:=⟨w.heap.size,1,none⟩) NE1 p1) (a:=⟨w.heap.size,2,none⟩) NE1 p2) (a:=⟨w.heap.size,3,none⟩) NE1 p3) (a:=⟨w.heap.size,4,none⟩) NE1 p4) (a:=⟨w.heap.size,5,none⟩) NE1 p5) (a:=⟨w.heap.size,6,none⟩) NE1 p6) (a:=⟨w.heap.size,7,none⟩) NE1 p7) (a:=⟨w.heap.size,8,none⟩) NE1 (.slice a1 L.length c1)) (a:=⟨w.heap.size,9,none⟩) NE1 (.slice a2 A.length c2));have HY:Hid (((((((((((u.setCell (Yo w.heap.size 0) p0).setCell (Yo w.heap.size 1) p1).setCell (Yo w.heap.size 2) p2).setCell (Yo w.heap.size 3) p3).setCell (Yo w.heap.size 4) p4).setCell (Yo w.heap.size 5) p5).setCell (Yo w.heap.size 6) p6).setCell (Yo w.heap.size 7) p7).setCell (Yo w.heap.size 8) (.slice a1 L.length c1)).setCell (Yo w.heap.size 9) (.slice a2 A.length c2)).ownsRow w.heap.size 54 10 (.slice a2 A.length c2) A.length (A.flatMap Ac.cs)):=hid (ownsRow_setCell_other (ownsRow_setCell_other (ownsRow_setCell_other (ownsRow_setCell_other (ownsRow_setCell_other (ownsRow_setCell_other (ownsRow_setCell_other (ownsRow_setCell_other (ownsRow_setCell_other (ownsRow_setCell_other hy (a:=⟨w.heap.size,0,none⟩) NE2 p0) (a:=⟨w.heap.size,1,none⟩) NE2 p1) (a:=⟨w.heap.size,2,none⟩) NE2 p2) (a:=⟨w.heap.size,3,none⟩) NE2 p3) (a:=⟨w.heap.size,4,none⟩) NE2 p4) (a:=⟨w.heap.size,5,none⟩) NE2 p5) (a:=⟨w.heap.size,6,none⟩) NE2 p6) (a:=⟨w.heap.size,7,none⟩) NE2 p7) (a:=⟨w.heap.size,8,none⟩) NE2 (.slice a1 L.length c1)) (a:=⟨w.heap.size,9,none⟩) NE2 (.slice a2 A.length c2));refine⟨⟨none,_,_,_,_,_⟩,rfl,rfl,?_⟩;clear hs hx hy hg;generalize V 14=v14 at *;subst e14;go_simp;refine Fa.fin ?_;go_simp;go_wp2;clear hp cp fp zp NE1 NE2;generalize ((((((((((u.setCell (Yo w.heap.size 0) p0).setCell (Yo w.heap.size 1) p1).setCell (Yo w.heap.size 2) p2).setCell (Yo w.heap.size 3) p3).setCell (Yo w.heap.size 4) p4).setCell (Yo w.heap.size 5) p5).setCell (Yo w.heap.size 6) p6).setCell (Yo w.heap.size 7) p7).setCell (Yo w.heap.size 8) (.slice a1 L.length c1)).setCell (Yo w.heap.size 9) (.slice a2 A.length c2))=V9 at *;obtain⟨s9,t9,z9⟩:=bw HP.out;exact bodyPost_ret (v:= .agg #[p0,p1,p2,p3,p4,p5,p6,p7,.slice a1 L.length c1,.slice a2 A.length c2]) (by simp[results,results267,go_sem,s9]) rfl ⟨_,_,rfl,HX.out,HY.out,HG.out⟩
end
end Go.Proofs.YtimcfaoabaflkaaGreatDoor
