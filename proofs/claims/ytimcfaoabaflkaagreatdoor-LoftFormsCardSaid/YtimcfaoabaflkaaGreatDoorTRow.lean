/- rows of values of many cells: own rows read anywhere; append and Clone of them, for any element type. -/
import Derived.Test.YtimcfaoabaflkaaGreatDoorLLib
import Derived.Test.YtimcfaoabaflkaaGreatDoorTrH
import Derived.Test.YtimcfaoabaflkaaGreatDoorLDisk
import Derived.OwnWalk
namespace Go.Proofs.YtimcfaoabaflkaaGreatDoor
open AbBase
open AbA AbI
set_option maxHeartbeats 2000000
set_option maxRecDepth 100000
open Go.Proofs.Tryz
section
open Go.RowKit Go.Shelf Go.Lib
section
variable {α:Type} (enc:α→List Value) (k:Nat) (hk:∀x,(enc x).length=k)
include hk
theorem lf (l:List α):(l.flatMap enc).length=l.length * k:=by
 induction l with
 | nil=>simp
 | cons x l ih=>rw[List.flatMap_cons,List.length_append,ih,hk,List.length_cons,Nat.succ_mul];omega
theorem qo:∀(l:List α) (j c:Nat) (hj:j < l.length) (_:c < k),(l.flatMap enc)[j * k+c]?=(enc l[j])[c]?
 | [],j,c,hj,_=>by simp at hj
 | x :: l,0,c,_,hc=>by
  rw[List.flatMap_cons,List.getElem?_append_left (by rw[hk];omega)];simp
 | x :: l,j+1,c,hj,hc=>by
  have e:(j+1) * k=j * k+k:=Nat.succ_mul _ _;rw[List.flatMap_cons,List.getElem?_append_right (by rw[hk];omega)];have:=qo l j c (by simpa using hj) hc;simp only[List.getElem_cons_succ];rw[←this,hk];congr 1;omega
theorem m0 {w:World} {base:Nat} {T:TypeId} {v:Value} {l:List α} (h:w.ownsRow base T k v l.length (l.flatMap enc)):bo w k v (l.map enc):=by
 rcases h.2 with ⟨rfl,hn⟩ | ⟨g,cap,cur,rfl,hb,hg,hcap,hmax,hsz,htk⟩
 ·obtain rfl:=List.eq_nil_of_length_eq_zero hn;exact bo.nil _ _ _ _
 ·refine⟨some ⟨g,0,none⟩,cap,Yj,by simpa using hcap,fun j hj=>⟨g,0,rfl,ai hg,fun i x hx=>?_⟩⟩;have hj':j < l.length:=by simpa using hj
  simp only[List.getElem_map]at hx;have hi:i < k:=by have:=(List.getElem?_eq_some_iff.1 hx).1;rwa [hk]at this
  have:=h.cells rfl (j * k+i) x (by rw[qo enc k hk l j i hj' hi];exact hx);rw[Addr.add_mid]at this;simpa using this
theorem lc {w:World} {l:List α} {g o cap:Nat} (h:bo w k (.slice (some ⟨g,o,none⟩) l.length cap) (l.map enc)):∀j u,(l.flatMap enc)[j]?=some u→w.cell? ⟨g,o+j,none⟩=some u:=by
 obtain⟨a,cap',hv,hc,hr⟩:=h;injection hv with ha _ hcc
 subst ha;intro j u hu;have hj:j < l.length * k:=by
  have:=(List.getElem?_eq_some_iff.1 hu).1
  rwa [lf enc k hk]at this
 have hk0:0 < k:=by
  rcases Nat.eq_zero_or_pos k with h0 | h0
  ·rw[h0]at hj;omega
  ·exact h0
 have h1:j / k < l.length:=Nat.div_lt_of_lt_mul (by rw[Nat.mul_comm];exact hj);have h2:j % k < k:=Nat.mod_lt _ hk0;have h3:j / k * k+j % k=j:=by rw[Nat.mul_comm];exact Nat.div_add_mod j k
 obtain⟨g2,o2,hge,_,hcell⟩:=hr (j / k) (by simpa using h1);obtain⟨rfl,rfl⟩:g2=g∧o2=o:=by injection hge with h;injection h with h h2;exact⟨h.symm,h2.symm⟩
 have:=hcell (j % k) u (by
  rw[List.getElem_map,←qo enc k hk l (j / k) (j % k) h1 h2,h3];exact hu)
 rwa [Nat.add_assoc,h3]at this
end
structure El (T sl:TypeId) (k bytes:Nat):Prop where
 ht:prog.underlying sl=some (.slice T)
 hi:∃i0 z,prog.info? T=some i0∧i0.zero=some z∧i0.size=k∧i0.bytes=bytes∧z.cells.size=k
 hk:0 < k
 sz:∀w,(sizeOf T).run prog w= .ok k w
theorem aj {w:World} {base:Nat} {T:TypeId} {k:Nat} {v:Value} {m:Nat} {xs:List Value} (h:w.ownsRow base T k v m xs):∃a c,v= .slice a m c∧m≤c:=by
 rcases h.2 with ⟨rfl,hz⟩ | ⟨g,cap,cur,rfl,_,_,hc,_⟩
 ·rw[hz];exact⟨none,0,rfl,Yv _⟩
 ·exact⟨_,cap,rfl,hc⟩
theorem dw {α:Type} (enc:α→List Value) {T sl:TypeId} {k bytes:Nat} (hk:∀x,(enc x).length=k) (h1:∀x,∀v∈enc x,v.oneCell'=true) (E:El T sl k bytes) (u:World) (base:Nat) (ty:TypeId) (v:Value) (n:Nat) (xs:List Value) (hown:u.ownsRow base T k v n xs) (sv:Value) (M:List α) (hs:bo u k sv (M.map enc)) (hl:n+M.length≤1000000) (hbb:bytes≤1000) (hb:base≤u.heap.size):
  ∃v' u',(Builtin.append_ #[sl,sl] ty #[v,sv]).run prog u= .ok v' u'∧u'.ownsRow base T k v' (n+M.length) (xs ++ M.flatMap enc)∧GrL v.ownBlock.toList u u':=by
 obtain⟨i0,z,hi,hz0,hz1,hz2,hz3⟩:=E.hi;have hs0:=hs;obtain⟨a,cap,rfl,hc,hcell⟩:=hs;simp only[List.length_map]at hc hcell hs0 ⊢;have hone:∀x∈M.flatMap enc,x.oneCell'=true:=fun x hx=>by
  obtain⟨y,_,hy⟩:=List.mem_flatMap.1 hx;exact h1 y x hy
 have hbytes:(n+M.length) * i0.bytes≤140737488355328:=by
  rw[hz2];exact Nat.le_trans (Nat.mul_le_mul hl hbb) Yk
 have key:∀(ad:Addr),a=some ad→(∀j x,(M.flatMap enc)[j]?=some x→u.cell? (ad.add j)=some x)→
   ∃v' u',(Builtin.append_ #[sl,sl] ty #[v,.slice a M.length cap]).run prog u= .ok v' u'∧u'.ownsRow base T k v' (n+M.length) (xs ++ M.flatMap enc)∧GrL v.ownBlock.toList u u':=by
  intro ad ha hx;subst ha;obtain⟨v',u',r1,r2,r3,_⟩:=run_append_own (P:=prog) u base sl ty T i0 _ k i0.bytes E.ht hi hz0 hz1 rfl hz3 E.hk v n xs hown ad M.length cap (M.flatMap enc) (lf enc k hk M) hx hone (by unfold maxLen;omega) hbytes hb;exact⟨v',u',r1,r2,GrL.of_grown' r3⟩
 cases M with
 | nil=>
  cases a with
  | none=>
   obtain⟨ao,co,rfl,hmc⟩:=aj hown;refine⟨_,u,?_,by simpa using hown,GrL.of_gr (Yu u)⟩;cases ao <;> simp[Builtin.append_,run_underlying E.ht,E.sz,hmc,Builtin.lenOf,Builtin.firstCells,storeCells]
  | some ad=>exact key ad rfl (fun j x hj=>by simp at hj)
 | cons x M=>
  obtain⟨g,o,rfl, -⟩:=hcell 0 Yj;exact key _ rfl (fun j y hj=>by
   rw[Addr.add_mid];exact lc enc k hk hs0 j y hj)
theorem mb {α:Type} (enc:α→List Value) {k:Nat} {w:World} {b:Nat} {T:TypeId} (_hk:∀x,(enc x).length=k) (x:α) (h:w.heap[b]?=some (.cells (enc x).toArray T (0,0))):bo w k (.slice (Yn b) 1 1) ([x].map enc):=by
 obtain⟨c,f,z⟩:=bw h;refine⟨_,1,rfl,Yj,fun j hj=>⟨b,0,rfl,z,fun i y hy=>?_⟩⟩;obtain rfl:j=0:=by simpa using hj
 simp only[List.map_cons,List.map_nil,List.getElem_cons_zero]at hy;have e:0+0 * k+i=i:=Yi;rw[e];exact(c i).trans (by simpa using hy)
theorem Ow:El 39 40 8 64:=⟨underlying40,by
 obtain⟨i0,h1,h2,h3,h4⟩:=info_parts Dv;exact⟨i0,_,h1,h2,h3,h4,rfl⟩,Yk,Tryz.sizeOf39⟩
theorem La:(prog.info? 54).map (fun i=>(i.zero,i.size,i.bytes))=some (some (.agg Zf),10,80):=Yh
theorem Oy:El 54 43 10 80:=⟨underlying43,by
 obtain⟨i0,h1,h2,h3,h4⟩:=info_parts La;exact⟨i0,_,h1,h2,h3,h4,rfl⟩,Yk,Tryz.sizeOf54⟩
theorem Y6 (A:Addr) (c:Nat) (w:World):
  Calls prog 224 #[.slice (some A) 0 c] w fun e w'=>∃v',e= .returned v'∧w'.ownsRow w.heap.size 39 8 v' 0 []∧Gr w w':=by
 have q22:∀w,(binOp .eql 40 (.slice (some A) 0 c) (.slice none 0 0)).run prog w= .ok (.bool (some A).isNone) w:=fun w=>Lib.run_eql_slice_nil w _ _ (some A) 0 c 0 0 underlying40;go_enter func224,ntmps224;go_wp2;go_ret;refine⟨_,rfl,?_,?_⟩
 ·exact World.ownsRow_made w #[] 0 (Yv _) (Nat.zero_le _) Yj
 ·exact(Yu w).alloc _
theorem Y7 (A:Addr) (c:Nat) (w:World):
  Calls prog 295 #[.slice (some A) 0 c] w fun e w'=>∃v',e= .returned v'∧w'.ownsRow w.heap.size 54 10 v' 0 []∧Gr w w':=by
 have q22:∀w,(binOp .eql 43 (.slice (some A) 0 c) (.slice none 0 0)).run prog w= .ok (.bool (some A).isNone) w:=fun w=>Lib.run_eql_slice_nil w _ _ (some A) 0 c 0 0 underlying43;go_enter func295,ntmps295;go_wp2;go_ret;refine⟨_,rfl,?_,?_⟩
 ·exact World.ownsRow_made w #[] 0 (Yv _) (Nat.zero_le _) Yj
 ·exact(Yu w).alloc _
theorem xg (v:Value) (l:List S8) (w:World) (hr:bo w 8 v (l.map S8.cs)) (hl:l.length≤1000000):
  Calls prog 224 #[v] w fun e w'=>∃v',e= .returned v'∧w'.ownsRow w.heap.size 39 8 v' l.length (l.flatMap S8.cs)∧Gr w w':=by
 have hr0:=hr;obtain⟨a,cap,rfl,hcap,hcell⟩:=hr;simp only[List.length_map]at hcap hcell hr0 ⊢;rcases Nat.eq_zero_or_pos l.length with h0 | hpos
 ·obtain rfl:=List.eq_nil_of_length_eq_zero h0;cases a with
  | none=>
   refine(AnyE.slices_Clone_nil Tryz.cloneSol _ cap w).mono ?_;rintro e w' ⟨rfl,rfl⟩;exact⟨_,rfl,World.ownsRow_nil _ _ _ _,Yu _⟩
  | some A=>exact Y6 A cap w
 ·obtain⟨g,o,rfl, -⟩:=hcell 0 hpos;obtain⟨i0,hi,hz0,hz1,hz2⟩:=info_parts Dv;refine(AnyE.slices_Clone Tryz.cloneSol i0 _ 8 64 hi hz0 hz1 hz2 rfl Yi Tryz.sizeOf39 g o l.length cap (l.flatMap S8.cs) w (lf _ 8 S8.cs_len l) (by unfold maxLen;omega) Yi (lc _ 8 S8.cs_len hr0) (fun x hx=>by
   obtain⟨y,_,hy⟩:=List.mem_flatMap.1 hx;exact y.cs_one x hy)).mono ?_
  rintro e w' ⟨v',rfl,h1,_,h2⟩;exact⟨v',rfl,h1,Gr.of_below h2⟩
theorem Jt (v:Value) (l:List Ac) (w:World) (hr:bo w 10 v (l.map Ac.cs)) (hl:l.length≤1000000):
  Calls prog 295 #[v] w fun e w'=>∃v',e= .returned v'∧w'.ownsRow w.heap.size 54 10 v' l.length (l.flatMap Ac.cs)∧Gr w w':=by
 have hr0:=hr;obtain⟨a,cap,rfl,hcap,hcell⟩:=hr;simp only[List.length_map]at hcap hcell hr0 ⊢;rcases Nat.eq_zero_or_pos l.length with h0 | hpos
 ·obtain rfl:=List.eq_nil_of_length_eq_zero h0;cases a with
  | none=>
   refine(AnyE.slices_Clone_nil Tryz.cloneAct _ cap w).mono ?_;rintro e w' ⟨rfl,rfl⟩;exact⟨_,rfl,World.ownsRow_nil _ _ _ _,Yu _⟩
  | some A=>exact Y7 A cap w
 ·obtain⟨g,o,rfl, -⟩:=hcell 0 hpos;obtain⟨i0,hi,hz0,hz1,hz2⟩:=info_parts La;refine(AnyE.slices_Clone Tryz.cloneAct i0 _ 10 80 hi hz0 hz1 hz2 rfl Yi Tryz.sizeOf54 g o l.length cap (l.flatMap Ac.cs) w (lf _ 10 Ac.cs_len l) (by unfold maxLen;omega) Yi (lc _ 10 Ac.cs_len hr0) (fun x hx=>by
   obtain⟨y,_,hy⟩:=List.mem_flatMap.1 hx;exact y.cs_one x hy)).mono ?_
  rintro e w' ⟨v',rfl,h1,_,h2⟩;exact⟨v',rfl,h1,Gr.of_below h2⟩
end
section
open Go.RowKit Go.Shelf
def m9 (a b:Rc):Bool:=decide (Bb a b < 0)
theorem Rx (a b:Rc):m9 a b=decide (a.d < b.d∨a.d=b.d∧(a.s < b.s∨a.s=b.s∧a.k < b.k)):=decide_eq_decide.2 (Bv a b)
end
section
def rz (a b:Rc):Prop:=a.s < b.s∨a.s=b.s∧a.k < b.k
abbrev Pz (l:List Rc):Prop:=l.Pairwise rz
theorem zbM {n:Int} {q x:Rc} (h:kr n (some q) x=0):rz q x:=by
 have hok:okR n x=true:=by
  cases h1:okR n x with
  | true=>rfl
  | false=>rw[Ep h1]at h;cases h
 unfold rz;rcases Int.lt_trichotomy x.s q.s with h1 | h1 | h1
 ·rw[Eo hok (Or.inl h1)]at h;cases h
 ·by_cases h2:x.k≤q.k
  ·rw[Eo hok (Or.inr ⟨h1,h2⟩)]at h;cases h
  ·exact Or.inr ⟨h1.symm,Yi⟩
 ·exact Or.inl h1
theorem Od {a b c:Rc} (h1:rz a b) (h2:rz b c):rz a c:=by
 unfold rz at *;omega
theorem za6 {l:List Rc} (h:∀i (hi:i+1 < l.length),rz (l[i]'Yi) l[i+1]):Pz l:=by
 refine List.pairwise_iff_getElem.2 ?_;intro i j hi hj hij
 induction j with
 | zero=>omega
 | succ j ih=>
  by_cases e:i=j
  ·subst e;exact h i hj
  ·exact Od (ih Yi Yi) (h j hj)
theorem zbK {n:Int} {l:List Rc} (h:∀j,j < l.length→kw n l j=0):Pz l:=
 za6 (fun i hi=>by
  have:=h (i+1) hi;rw[Ja hi]at this;exact zbM this)
theorem Gq {n:Int} {l:List Rc}:∀(f i:Nat),(I8 n l f i).2=0→l.length+1≤f+i→∀j,i≤j→j < l.length→kw n l j=0
 | 0,i,_,h1,j,h2,h3=>by omega
 | f+1,i,h,h1,j,h2,h3=>by
  rw[I8,if_pos Yi]at h
  by_cases e:kw n l i=0
  ·rw[if_neg (by rw[e];simp)]at h
   by_cases ej:j=i
   ·subst ej;exact e
   ·exact Gq f (i+1) h Yi j Yi h3
  ·rw[if_pos e]at h;exact absurd h e
theorem Wr {n:Int} {l:List Rc} (h:(ot n l).2=0):∀j,j < l.length→kw n l j=0:=fun j hj=>
 Gq _ _ h Yi j Yi hj
def n9 (l:List Rc) (x:Rc):List Rc:=l.takeWhile (fun a=>m9 a x) ++ [x] ++ l.dropWhile (fun a=>m9 a x)
def i7 (l:List Rc):List Rc:=l.foldl n9 []
def bef (a b:Rc):Prop:=m9 a b=true
theorem Jf (a b:Rc):bef a b↔(a.d < b.d∨a.d=b.d∧(a.s < b.s∨a.s=b.s∧a.k < b.k)):=by
 unfold bef;rw[Rx];exact decide_eq_true_iff
theorem yk (l:List Rc) (x:Rc):(n9 l x).Perm (x :: l):=by
 unfold n9;rw[List.append_assoc];refine List.perm_middle.trans ?_;show(x :: (l.takeWhile (fun a=>m9 a x) ++ l.dropWhile (fun a=>m9 a x))).Perm (x :: l);rw[List.takeWhile_append_dropWhile]
theorem K8 {l:List Rc} {x:Rc} (h:l.Pairwise bef) (hx:∀a∈l,bef a x∨bef x a):(n9 l x).Pairwise bef:=by
 induction l with
 | nil=>simp[n9]
 | cons a l ih=>
  unfold n9
  by_cases ha:m9 a x=true
  ·rw[List.takeWhile_cons_of_pos (p:=fun a=>m9 a x) ha,List.dropWhile_cons_of_pos (p:=fun a=>m9 a x) ha];show(a :: n9 l x).Pairwise bef;rw[List.pairwise_cons]at h ⊢;refine⟨fun b hb=>?_,ih h.2 (fun b hb=>hx b (List.mem_cons_of_mem _ hb))⟩;rcases List.mem_cons.1 ((yk l x).mem_iff.1 hb)with rfl | hb
   ·exact ha
   ·exact h.1 b hb
  ·rw[List.takeWhile_cons_of_neg (p:=fun a=>m9 a x) ha,List.dropWhile_cons_of_neg (p:=fun a=>m9 a x) ha];show(x :: a :: l).Pairwise bef;rw[List.pairwise_cons];refine⟨fun b hb=>?_,h⟩;have hxa:bef x a:=(hx a List.mem_cons_self).resolve_left ha;rcases List.mem_cons.1 hb with rfl | hb
   ·exact hxa
   ·have:=(List.pairwise_cons.1 h).1 b hb;rw[Jf]at *;omega
theorem bef_tot {a b:Rc} (h:rz a b∨rz b a):bef a b∨bef b a:=by
 rw[Jf,Jf];unfold rz at h;omega
theorem Bn:∀(l acc:List Rc),acc.Pairwise bef→Pz l→(∀a∈acc,∀b∈l,rz a b∨rz b a)→(l.foldl n9 acc).Pairwise bef∧(l.foldl n9 acc).Perm (acc ++ l)
 | [],acc,h,_,_=>⟨h,Yj⟩
 | x :: l,acc,h,hk,hx=>by
  replace hk:=List.pairwise_cons.1 hk;have h1:=K8 h (fun a ha=>bef_tot (hx a ha x List.mem_cons_self));have hp:=yk acc x;obtain⟨h2,h3⟩:=Bn l (n9 acc x) h1 hk.2 (fun a ha b hb=>by
   rcases List.mem_cons.1 (hp.mem_iff.1 ha)with rfl | ha
   ·exact Or.inl (hk.1 b hb)
   ·exact hx a ha b (List.mem_cons_of_mem _ hb))
  refine⟨h2,h3.trans ?_⟩;refine(hp.append_right l).trans ?_;exact(List.perm_middle (a:=x) (l₁:=acc) (l₂:=l)).symm
theorem zaE {l l':List Rc} (hk:Pz l) (hp:l'.Perm l) (ho:Bz l'):l'=i7 l:=by
 obtain⟨h1,h2⟩:=Bn l [] List.Pairwise.nil hk (fun a ha=>by cases ha);refine List.Perm.eq_of_pairwise (le:=fun a b=>¬Bb b a < 0) ?_ ho (h1.imp (fun {a b} h=>?_)) (hp.trans (show l.Perm (l.foldl n9 []) by simpa using h2.symm))
 ·intro a b ha hb hab hba;have ha':=hp.mem_iff.1 ha;have hb':=(by simpa using h2.mem_iff.1 hb:b∈l);rw[Bv]at hab hba;obtain⟨i,hi,rfl⟩:=List.mem_iff_getElem.1 ha';obtain⟨j,hj,rfl⟩:=List.mem_iff_getElem.1 hb';rcases Nat.lt_trichotomy i j with h | h | h
  ·have:=List.pairwise_iff_getElem.1 hk i j hi hj h;unfold rz at this;omega
  ·subst h;rfl
  ·have:=List.pairwise_iff_getElem.1 hk j i hj hi h;unfold rz at this;omega
 ·rw[Jf]at h;rw[Bv];omega
end
section
theorem H8 {a b:Rc} (h:rz a b):¬rz b a:=by unfold rz at *;omega
theorem zc8:∀{l m:List Rc},Pz l→Pz m→(∀x,x∈l↔x∈m)→l=m
 | [],[],_,_,_=>rfl
 | [],b :: m,_,_,h=>by have:=(h b).2 List.mem_cons_self;cases this
 | a :: l,[],_,_,h=>by have:=(h a).1 List.mem_cons_self;cases this
 | a :: l,b :: m,h1,h2,h=>by
  have h1':=List.pairwise_cons.1 h1;have h2':=List.pairwise_cons.1 h2;have hab:a=b:=by
   rcases List.mem_cons.1 ((h a).1 List.mem_cons_self)with e | ha
   ·exact e
   ·rcases List.mem_cons.1 ((h b).2 List.mem_cons_self)with e | hb
    ·exact e.symm
    ·exact absurd (h1'.1 b hb) (H8 (h2'.1 a ha))
  subst hab;rw[zc8 h1'.2 h2'.2 (fun x=>by
   constructor
   ·intro hx;rcases List.mem_cons.1 ((h x).1 (List.mem_cons_of_mem _ hx))with rfl | hm
    ·exact absurd (h1'.1 x hx) (fun hk=>H8 hk hk)
    ·exact hm
   ·intro hx;rcases List.mem_cons.1 ((h x).2 (List.mem_cons_of_mem _ hx))with rfl | hm
    ·exact absurd (h2'.1 x hx) (fun hk=>H8 hk hk)
    ·exact hm)]
theorem Wq {n:Int} {q x:Rc} (h:kr n (some q) x=0):(x.s=q.s∧x.k=q.k+1)∨(q.s < x.s∧x.k=1):=by
 have hok:okR n x=true:=by
  cases h1:okR n x with
  | true=>rfl
  | false=>rw[Ep h1]at h;cases h
 rcases Int.lt_trichotomy x.s q.s with h1 | h1 | h1
 ·rw[Eo hok (Or.inl h1)]at h;cases h
 ·by_cases h2:x.k≤q.k
  ·rw[Eo hok (Or.inr ⟨h1,h2⟩)]at h;cases h
  ·rw[O5 hok h1 Yi]at h
   by_cases h3:x.k=q.k+1
   ·exact Or.inl ⟨h1,h3⟩
   ·rw[if_neg h3]at h;cases h
 ·rw[zbN hok h1]at h
  by_cases h3:x.k=1
  ·exact Or.inr ⟨h1,h3⟩
  ·rw[if_neg h3]at h;cases h
theorem Pa {n:Int} {x:Rc} (h:kr n none x=0):x.k=1:=by
 have hok:okR n x=true:=by
  cases h1:okR n x with
  | true=>rfl
  | false=>rw[Ep h1]at h;cases h
 rw[zbL hok]at h
 by_cases h3:x.k=1
 ·exact h3
 ·rw[if_neg h3]at h;cases h
end
end Go.Proofs.YtimcfaoabaflkaaGreatDoor
