/- rows of values of many cells: own rows read anywhere; append and Clone of them, for any element type. -/
import Derived.Test.YtimcfaoabaflkaaGreatDoorTrH
namespace Go.Proofs.YtimcfaoabaflkaaGreatDoor
open AbBase
open AbA AbI
set_option maxHeartbeats 4000000
set_option maxRecDepth 100000
open Go.Proofs.Tryz
theorem Uf {P:Prop} (h:P:=by
 clear hb;go_enter func56,ntmps56;go_upto_region 1 with (fail);generalize (w.alloc (.cells #[Yp s,Yp k,Yp d,.string t] 36)).alloc (.cells #[Yp s2,Yp k2,Yp d2,.string t2] 36)=W at *;obtain⟨p2,hp2⟩:∃p2,w.heap.size+1=p2:=⟨_,rfl⟩;rw[hp2]at by_;rw[hp2];clear hp2;generalize w.heap.size=p1 at *;obtain⟨cx,fx,zx⟩:=ed bx;obtain⟨cy,fy,zy⟩:=ed by_;go_wp2;go_ret;exact⟨cn HE.out,g0⟩):P:=h
theorem Ug {P:Prop} (h:P:=by
 clear hb;go_enter func56,ntmps56;go_upto_region 1 with (fail);generalize (w.alloc (.cells #[Yp s,Yp k,Yp d,.string t] 36)).alloc (.cells #[Yp s2,Yp k2,Yp d,.string t2] 36)=W at *;obtain⟨p2,hp2⟩:∃p2,w.heap.size+1=p2:=⟨_,rfl⟩;rw[hp2]at by_;rw[hp2];clear hp2;generalize w.heap.size=p1 at *;obtain⟨cx,fx,zx⟩:=ed bx;obtain⟨cy,fy,zy⟩:=ed by_;go_wp2;go_ret;exact⟨cn HE.out,g0⟩):P:=h
theorem Uh {P:Prop} (h:P:=by
 clear hb;go_enter func56,ntmps56;go_upto_region 1 with (fail);generalize (w.alloc (.cells #[Yp s,Yp k,Yp d,.string t] 36)).alloc (.cells #[Yp s,Yp k2,Yp d,.string t2] 36)=W at *;obtain⟨p2,hp2⟩:∃p2,w.heap.size+1=p2:=⟨_,rfl⟩;rw[hp2]at by_;rw[hp2];clear hp2;generalize w.heap.size=p1 at *;obtain⟨cx,fx,zx⟩:=ed bx;obtain⟨cy,fy,zy⟩:=ed by_;go_wp2;go_ret;exact⟨cn HE.out,g0⟩):P:=h
section
open Go.RowKit Go.Shelf Go.Lib
section
variable {α:Type} (enc:α->List Value) (k:Nat) (hk:∀x,(enc x).length=k)
include hk
theorem lf (l:List α):(l.flatMap enc).length=l.length * k:=by
 induction l with
 | nil=>simp
 | cons x l ih=>rw[List.flatMap_cons,List.length_append,ih,hk,List.length_cons,Nat.succ_mul];omega
theorem qo:∀(l:List α) (j c:Nat) (hj:j < l.length) (_:c < k),(l.flatMap enc)[j * k+c]?=(enc l[j])[c]?
 | [],j,c,hj,_=>by simp at hj
 | x :: l,0,c,_,hc=>by
  rw[List.flatMap_cons,List.getElem?_append_left (by rw[hk];omega)];simp
 | x :: l,j+1,c,hj,hc=>by
  have e:(j+1) * k=j * k+k:=Nat.succ_mul _ _;rw[List.flatMap_cons,List.getElem?_append_right (by rw[hk];omega)];have:=qo l j c (by simpa using hj) hc;simp only[List.getElem_cons_succ];rw[<-this,hk];congr 1;omega
theorem ra {w:World} {base:Nat} {T:TypeId} {v:Value} {l:List α} (h:w.ownsRow base T k v l.length (l.flatMap enc)):bo w k v (l.map enc):=by
 rcases h.2 with ⟨rfl,hn⟩ | ⟨g,cap,cur,rfl,hb,hg,hcap,hmax,hsz,htk⟩
 ·obtain rfl:=List.eq_nil_of_length_eq_zero hn;exact bo.nil _ _ _ _
 ·refine⟨some ⟨g,0,none⟩,cap,Yj,by simpa using hcap,λj hj=>⟨g,0,rfl,ai hg,λi x hx=>?_⟩⟩;have hj':j < l.length:=by simpa using hj
  simp only[List.getElem_map]at hx;have hi:i < k:=by have:=(List.getElem?_eq_some_iff.1 hx).1;rwa [hk]at this
  have:=h.cells rfl (j * k+i) x (by rw[qo enc k hk l j i hj' hi];exact hx);rw[Addr.add_mid]at this;simpa using this
theorem lc {w:World} {l:List α} {g o cap:Nat} (h:bo w k (.slice (some ⟨g,o,none⟩) l.length cap) (l.map enc)):∀j u,(l.flatMap enc)[j]?=some u->w.cell? ⟨g,o+j,none⟩=some u:=by
 obtain⟨a,cap',hv,hc,hr⟩:=h;injection hv with ha _ hcc
 subst ha;intro j u hu;have hj:j < l.length * k:=by
  have:=(List.getElem?_eq_some_iff.1 hu).1
  rwa [lf enc k hk]at this
 have hk0:0 < k:=by
  rcases Nat.eq_zero_or_pos k with h0 | h0
  ·rw[h0]at hj;omega
  ·exact h0
 have h1:j / k < l.length:=Nat.div_lt_of_lt_mul (by rw[Nat.mul_comm];exact hj);have h2:j % k < k:=Nat.mod_lt _ hk0;have h3:j / k * k+j % k=j:=by rw[Nat.mul_comm];exact Nat.div_add_mod j k
 obtain⟨g2,o2,hge,_,hcell⟩:=hr (j / k) (by simpa using h1);obtain⟨rfl,rfl⟩:g2=g/\o2=o:=by injection hge with h;injection h with h h2;exact⟨h.symm,h2.symm⟩
 have:=hcell (j % k) u (by
  rw[List.getElem_map,<-qo enc k hk l (j / k) (j % k) h1 h2,h3];exact hu)
 rwa [Nat.add_assoc,h3]at this
end
structure El (T sl:TypeId) (k bytes:Nat):Prop where
 ht:prog.underlying sl=some (.slice T)
 hi:∃i0 z,prog.info? T=some i0/\i0.zero=some z/\i0.size=k/\i0.bytes=bytes/\z.cells.size=k
 hk:0 < k
 sz:∀w,(sizeOf T).run prog w= .ok k w
theorem aj {w:World} {base:Nat} {T:TypeId} {k:Nat} {v:Value} {m:Nat} {xs:List Value} (h:w.ownsRow base T k v m xs):∃a c,v= .slice a m c/\m<=c:=by
 rcases h.2 with ⟨rfl,hz⟩ | ⟨g,cap,cur,rfl,_,_,hc,_⟩
 ·rw[hz];exact⟨none,0,rfl,Yv _⟩
 ·exact⟨_,cap,rfl,hc⟩
theorem dw {α:Type} (enc:α->List Value) {T sl:TypeId} {k bytes:Nat} (hk:∀x,(enc x).length=k) (h1:∀x,∀v∈enc x,v.oneCell'=true) (E:El T sl k bytes) (u:World) (base:Nat) (ty:TypeId) (v:Value) (n:Nat) (xs:List Value) (hown:u.ownsRow base T k v n xs) (sv:Value) (M:List α) (hs:bo u k sv (M.map enc)) (hl:n+M.length<=1000000) (hbb:bytes<=1000) (hb:base<=u.heap.size):
  ∃v' u',(Builtin.append_ #[sl,sl] ty #[v,sv]).run prog u= .ok v' u'/\u'.ownsRow base T k v' (n+M.length) (xs ++ M.flatMap enc)/\GrL v.ownBlock.toList u u':=by
 obtain⟨i0,z,hi,hz0,hz1,hz2,hz3⟩:=E.hi;have hs0:=hs;obtain⟨a,cap,rfl,hc,hcell⟩:=hs;simp only[List.length_map]at hc hcell hs0 ⊢;have hone:∀x∈M.flatMap enc,x.oneCell'=true:=λx hx=>by
  obtain⟨y,_,hy⟩:=List.mem_flatMap.1 hx;exact h1 y x hy
 have hbytes:(n+M.length) * i0.bytes<=140737488355328:=by
  rw[hz2];exact Nat.le_trans (Nat.mul_le_mul hl hbb) Yk
 have key:∀(ad:Addr),a=some ad->(∀j x,(M.flatMap enc)[j]?=some x->u.cell? (ad.add j)=some x)->
   ∃v' u',(Builtin.append_ #[sl,sl] ty #[v,.slice a M.length cap]).run prog u= .ok v' u'/\u'.ownsRow base T k v' (n+M.length) (xs ++ M.flatMap enc)/\GrL v.ownBlock.toList u u':=by
  intro ad ha hx;subst ha;obtain⟨v',u',r1,r2,r3,_⟩:=run_append_own (P:=prog) u base sl ty T i0 _ k i0.bytes E.ht hi hz0 hz1 rfl hz3 E.hk v n xs hown ad M.length cap (M.flatMap enc) (lf enc k hk M) hx hone (by unfold maxLen;omega) hbytes hb;exact⟨v',u',r1,r2,GrL.of_grown' r3⟩
 cases M with
 | nil=>
  cases a with
  | none=>
   obtain⟨ao,co,rfl,hmc⟩:=aj hown;refine⟨_,u,?_,by simpa using hown,GrL.of_gr (Yu u)⟩;cases ao <;> simp[Builtin.append_,run_underlying E.ht,E.sz,hmc,Builtin.lenOf,Builtin.firstCells,storeCells]
  | some ad=>exact key ad rfl (λj x hj=>by simp at hj)
 | cons x M=>
  obtain⟨g,o,rfl, -⟩:=hcell 0 Yj;exact key _ rfl (λj y hj=>by
   rw[Addr.add_mid];exact lc enc k hk hs0 j y hj)
theorem yd {w:World} {base b:Nat} {T:TypeId} {k:Nat} (hb:base<=b) (h:w.heap[b]?=some (.cells #[] T (0,0))):w.ownsRow base T k (.slice (Yn b) 0 0) 0 []:=
 ⟨Yj,.inr ⟨b,0,#[],rfl,hb,h,Yv _,Nat.zero_le _,Yj,Yj⟩⟩
theorem mb {α:Type} (enc:α->List Value) {k:Nat} {w:World} {b:Nat} {T:TypeId} (_hk:∀x,(enc x).length=k) (x:α) (h:w.heap[b]?=some (.cells (enc x).toArray T (0,0))):bo w k (.slice (Yn b) 1 1) ([x].map enc):=by
 obtain⟨c,f,z⟩:=ed h;refine⟨_,1,rfl,Yj,λj hj=>⟨b,0,rfl,z,λi y hy=>?_⟩⟩;obtain rfl:j=0:=by simpa using hj
 simp only[List.map_cons,List.map_nil,List.getElem_cons_zero]at hy;have e:0+0 * k+i=i:=Yi;rw[e];exact(c i).trans (by simpa using hy)
theorem Ow:El 39 40 8 64:=⟨underlying40,by
 obtain⟨i0,h1,h2,h3,h4⟩:=info_parts Dv;exact⟨i0,_,h1,h2,h3,h4,rfl⟩,Yk,Tryz.sizeOf39⟩
theorem La:(prog.info? 54).map (λi=>(i.zero,i.size,i.bytes))=some (some (.agg Zf),10,80):=Yh
theorem Oy:El 54 43 10 80:=⟨underlying43,by
 obtain⟨i0,h1,h2,h3,h4⟩:=info_parts La;exact⟨i0,_,h1,h2,h3,h4,rfl⟩,Yk,Tryz.sizeOf54⟩
theorem Y6 (A:Addr) (c:Nat) (w:World):
  Calls prog 224 #[.slice (some A) 0 c] w λe w'=>∃v',e= .returned v'/\w'.ownsRow w.heap.size 39 8 v' 0 []/\Gr w w':=by
 have q22:∀w,(binOp .eql 40 (.slice (some A) 0 c) (.slice none 0 0)).run prog w= .ok (.bool (some A).isNone) w:=λw=>Lib.run_eql_slice_nil w _ _ (some A) 0 c 0 0 underlying40;go_enter func224,ntmps224;go_wp2;go_ret;refine⟨_,rfl,?_,?_⟩
 ·exact World.ownsRow_made w #[] 0 (Yv _) (Nat.zero_le _) Yj
 ·exact(Yu w).alloc _
theorem Y7 (A:Addr) (c:Nat) (w:World):
  Calls prog 295 #[.slice (some A) 0 c] w λe w'=>∃v',e= .returned v'/\w'.ownsRow w.heap.size 54 10 v' 0 []/\Gr w w':=by
 have q22:∀w,(binOp .eql 43 (.slice (some A) 0 c) (.slice none 0 0)).run prog w= .ok (.bool (some A).isNone) w:=λw=>Lib.run_eql_slice_nil w _ _ (some A) 0 c 0 0 underlying43;go_enter func295,ntmps295;go_wp2;go_ret;refine⟨_,rfl,?_,?_⟩
 ·exact World.ownsRow_made w #[] 0 (Yv _) (Nat.zero_le _) Yj
 ·exact(Yu w).alloc _
theorem xg (v:Value) (l:List S8) (w:World) (hr:bo w 8 v (l.map S8.cs)) (hl:l.length<=1000000):
  Calls prog 224 #[v] w λe w'=>∃v',e= .returned v'/\w'.ownsRow w.heap.size 39 8 v' l.length (l.flatMap S8.cs)/\Gr w w':=by
 have hr0:=hr;obtain⟨a,cap,rfl,hcap,hcell⟩:=hr;simp only[List.length_map]at hcap hcell hr0 ⊢;rcases Nat.eq_zero_or_pos l.length with h0 | hpos
 ·obtain rfl:=List.eq_nil_of_length_eq_zero h0;cases a with
  | none=>
   refine(AnyE.slices_Clone_nil Tryz.cloneSol _ cap w).mono ?_;rintro e w' ⟨rfl,rfl⟩;exact⟨_,rfl,World.ownsRow_nil _ _ _ _,Yu _⟩
  | some A=>exact Y6 A cap w
 ·obtain⟨g,o,rfl, -⟩:=hcell 0 hpos;obtain⟨i0,hi,hz0,hz1,hz2⟩:=info_parts Dv;refine(AnyE.slices_Clone Tryz.cloneSol i0 _ 8 64 hi hz0 hz1 hz2 rfl Yi Tryz.sizeOf39 g o l.length cap (l.flatMap S8.cs) w (lf _ 8 S8.cs_len l) (by unfold maxLen;omega) Yi (lc _ 8 S8.cs_len hr0) (λx hx=>by
   obtain⟨y,_,hy⟩:=List.mem_flatMap.1 hx;exact y.cs_one x hy)).mono ?_
  rintro e w' ⟨v',rfl,h1,_,h2⟩;exact⟨v',rfl,h1,Gr.of_below h2⟩
theorem Jt (v:Value) (l:List Ac) (w:World) (hr:bo w 10 v (l.map Ac.cs)) (hl:l.length<=1000000):
  Calls prog 295 #[v] w λe w'=>∃v',e= .returned v'/\w'.ownsRow w.heap.size 54 10 v' l.length (l.flatMap Ac.cs)/\Gr w w':=by
 have hr0:=hr;obtain⟨a,cap,rfl,hcap,hcell⟩:=hr;simp only[List.length_map]at hcap hcell hr0 ⊢;rcases Nat.eq_zero_or_pos l.length with h0 | hpos
 ·obtain rfl:=List.eq_nil_of_length_eq_zero h0;cases a with
  | none=>
   refine(AnyE.slices_Clone_nil Tryz.cloneAct _ cap w).mono ?_;rintro e w' ⟨rfl,rfl⟩;exact⟨_,rfl,World.ownsRow_nil _ _ _ _,Yu _⟩
  | some A=>exact Y7 A cap w
 ·obtain⟨g,o,rfl, -⟩:=hcell 0 hpos;obtain⟨i0,hi,hz0,hz1,hz2⟩:=info_parts La;refine(AnyE.slices_Clone Tryz.cloneAct i0 _ 10 80 hi hz0 hz1 hz2 rfl Yi Tryz.sizeOf54 g o l.length cap (l.flatMap Ac.cs) w (lf _ 10 Ac.cs_len l) (by unfold maxLen;omega) Yi (lc _ 10 Ac.cs_len hr0) (λx hx=>by
   obtain⟨y,_,hy⟩:=List.mem_flatMap.1 hx;exact y.cs_one x hy)).mono ?_
  rintro e w' ⟨v',rfl,h1,_,h2⟩;exact⟨v',rfl,h1,Gr.of_below h2⟩
end
section
open Go.RowKit Go.Shelf
def m9 (a b:Rc):Bool:=decide (Bb a b < 0)
theorem Rx (a b:Rc):m9 a b=decide (a.d < b.d\/a.d=b.d/\(a.s < b.s\/a.s=b.s/\a.k < b.k)):=decide_eq_decide.2 (Bv a b)
theorem Ph (a b:Rc) (w:World):Calls prog 56 #[a.v,b.v] w λe w'=>e= .returned (.bool (m9 a b))/\Gr w w':=by
 rw[Rx];obtain⟨s,k,d,t⟩:=a;obtain⟨s2,k2,d2,t2⟩:=b;unfold Rc.v;dsimp only;obtain⟨q,hq⟩:∃q,decide (d < d2\/d=d2/\(s < s2\/s=s2/\k < k2))=q:=⟨_,rfl⟩;rw[hq];have HQ:=hid hq;clear hq;have bx:=ae w (.cells #[Yp s,Yp k,Yp d,.string t] 36);have by_:=ae (w.alloc (.cells #[Yp s,Yp k,Yp d,.string t] 36)) (.cells #[Yp s2,Yp k2,Yp d2,.string t2] 36);have bx:=((Yu _).alloc (.cells #[Yp s2,Yp k2,Yp d2,.string t2] 36)).heap bx;have g0:Gr w ((w.alloc (.cells #[Yp s,Yp k,Yp d,.string t] 36)).alloc (.cells #[Yp s2,Yp k2,Yp d2,.string t2] 36)):=((Yu w).alloc _).alloc _;simp only[World.size_alloc]at by_
 by_cases h1:d=d2
 ·subst h1
  by_cases h2:s=s2
  ·subst h2;obtain⟨b,hb⟩:∃b,decide (k < k2)=b:=⟨_,rfl⟩;have HE:Hid (b=q):=hid <| by rw[<-HQ.out,<-hb];simp
   by_cases h3:k < k2
   ·obtain rfl:b=true:=by rw[<-hb];exact decide_eq_true h3
    exact Uh
   ·obtain rfl:b=false:=by rw[<-hb];exact decide_eq_false h3
    exact Uh
  ·have n3:decide (s=s2)=false:=by simpa using h2
   obtain⟨b,hb⟩:∃b,decide (s < s2)=b:=⟨_,rfl⟩;have HE:Hid (b=q):=hid <| by rw[<-HQ.out,<-hb];simp[h2]
   by_cases h3:s < s2
   ·obtain rfl:b=true:=by rw[<-hb];exact decide_eq_true h3
    exact Ug
   ·obtain rfl:b=false:=by rw[<-hb];exact decide_eq_false h3
    exact Ug
 ·have n3:decide (d=d2)=false:=by simpa using h1
  obtain⟨b,hb⟩:∃b,decide (d < d2)=b:=⟨_,rfl⟩;have HE:Hid (b=q):=hid <| by rw[<-HQ.out,<-hb];simp[h1]
  by_cases h3:d < d2
  ·obtain rfl:b=true:=by rw[<-hb];exact decide_eq_true h3
   exact Uf
  ·obtain rfl:b=false:=by rw[<-hb];exact decide_eq_false h3
   exact Uf
end
section
def rz (a b:Rc):Prop:=a.s < b.s\/a.s=b.s/\a.k < b.k
abbrev Pz (l:List Rc):Prop:=l.Pairwise rz
theorem zbM {n:Int} {q x:Rc} (h:kr n (some q) x=0):rz q x:=by
 have hok:okR n x=true:=by
  cases h1:okR n x with
  | true=>rfl
  | false=>rw[Ep h1]at h;cases h
 unfold rz;rcases Int.lt_trichotomy x.s q.s with h1 | h1 | h1
 ·rw[Eo hok (Or.inl h1)]at h;cases h
 ·by_cases h2:x.k<=q.k
  ·rw[Eo hok (Or.inr ⟨h1,h2⟩)]at h;cases h
  ·exact Or.inr ⟨h1.symm,Yi⟩
 ·exact Or.inl h1
theorem Od {a b c:Rc} (h1:rz a b) (h2:rz b c):rz a c:=by
 unfold rz at *;omega
theorem za6 {l:List Rc} (h:∀i (hi:i+1 < l.length),rz (l[i]'Yi) l[i+1]):Pz l:=by
 refine List.pairwise_iff_getElem.2 ?_;intro i j hi hj hij
 induction j with
 | zero=>omega
 | succ j ih=>
  by_cases e:i=j
  ·subst e;exact h i hj
  ·exact Od (ih Yi Yi) (h j hj)
theorem zbK {n:Int} {l:List Rc} (h:∀j,j < l.length->kw n l j=0):Pz l:=
 za6 (λi hi=>by
  have:=h (i+1) hi;rw[Ja hi]at this;exact zbM this)
theorem Gq {n:Int} {l:List Rc}:∀(f i:Nat),(I8 n l f i).2=0->l.length+1<=f+i->∀j,i<=j->j < l.length->kw n l j=0
 | 0,i,_,h1,j,h2,h3=>by omega
 | f+1,i,h,h1,j,h2,h3=>by
  rw[I8,if_pos Yi]at h
  by_cases e:kw n l i=0
  ·rw[if_neg (by rw[e];simp)]at h
   by_cases ej:j=i
   ·subst ej;exact e
   ·exact Gq f (i+1) h Yi j Yi h3
  ·rw[if_pos e]at h;exact absurd h e
theorem Wr {n:Int} {l:List Rc} (h:(ot n l).2=0):∀j,j < l.length->kw n l j=0:=λj hj=>
 Gq _ _ h Yi j Yi hj
def n9 (l:List Rc) (x:Rc):List Rc:=l.takeWhile (λa=>m9 a x) ++ [x] ++ l.dropWhile (λa=>m9 a x)
def i7 (l:List Rc):List Rc:=l.foldl n9 []
def bef (a b:Rc):Prop:=m9 a b=true
theorem Jf (a b:Rc):bef a b↔(a.d < b.d\/a.d=b.d/\(a.s < b.s\/a.s=b.s/\a.k < b.k)):=by
 unfold bef;rw[Rx];exact decide_eq_true_iff
theorem yk (l:List Rc) (x:Rc):(n9 l x).Perm (x :: l):=by
 unfold n9;rw[List.append_assoc];refine List.perm_middle.trans ?_;show(x :: (l.takeWhile (λa=>m9 a x) ++ l.dropWhile (λa=>m9 a x))).Perm (x :: l);rw[List.takeWhile_append_dropWhile]
theorem K8 {l:List Rc} {x:Rc} (h:l.Pairwise bef) (hx:∀a∈l,bef a x\/bef x a):(n9 l x).Pairwise bef:=by
 induction l with
 | nil=>simp[n9]
 | cons a l ih=>
  unfold n9
  by_cases ha:m9 a x=true
  ·rw[List.takeWhile_cons_of_pos (p:=λa=>m9 a x) ha,List.dropWhile_cons_of_pos (p:=λa=>m9 a x) ha];show(a :: n9 l x).Pairwise bef;rw[List.pairwise_cons]at h ⊢;refine⟨λb hb=>?_,ih h.2 (λb hb=>hx b (List.mem_cons_of_mem _ hb))⟩;rcases List.mem_cons.1 ((yk l x).mem_iff.1 hb)with rfl | hb
   ·exact ha
   ·exact h.1 b hb
  ·rw[List.takeWhile_cons_of_neg (p:=λa=>m9 a x) ha,List.dropWhile_cons_of_neg (p:=λa=>m9 a x) ha];show(x :: a :: l).Pairwise bef;rw[List.pairwise_cons];refine⟨λb hb=>?_,h⟩;have hxa:bef x a:=(hx a List.mem_cons_self).resolve_left ha;rcases List.mem_cons.1 hb with rfl | hb
   ·exact hxa
   ·have:=(List.pairwise_cons.1 h).1 b hb;rw[Jf]at *;omega
theorem bef_tot {a b:Rc} (h:rz a b\/rz b a):bef a b\/bef b a:=by
 rw[Jf,Jf];unfold rz at h;omega
theorem Bn:∀(l acc:List Rc),acc.Pairwise bef->Pz l->(∀a∈acc,∀b∈l,rz a b\/rz b a)->(l.foldl n9 acc).Pairwise bef/\(l.foldl n9 acc).Perm (acc ++ l)
 | [],acc,h,_,_=>⟨h,Yj⟩
 | x :: l,acc,h,hk,hx=>by
  replace hk:=List.pairwise_cons.1 hk;have h1:=K8 h (λa ha=>bef_tot (hx a ha x List.mem_cons_self));have hp:=yk acc x;obtain⟨h2,h3⟩:=Bn l (n9 acc x) h1 hk.2 (λa ha b hb=>by
   rcases List.mem_cons.1 (hp.mem_iff.1 ha)with rfl | ha
   ·exact Or.inl (hk.1 b hb)
   ·exact hx a ha b (List.mem_cons_of_mem _ hb))
  refine⟨h2,h3.trans ?_⟩;refine(hp.append_right l).trans ?_;exact(List.perm_middle (a:=x) (l₁:=acc) (l₂:=l)).symm
theorem zaE {l l':List Rc} (hk:Pz l) (hp:l'.Perm l) (ho:Bz l'):l'=i7 l:=by
 obtain⟨h1,h2⟩:=Bn l [] List.Pairwise.nil hk (λa ha=>by cases ha);refine List.Perm.eq_of_pairwise (le:=λa b=>¬Bb b a < 0) ?_ ho (h1.imp (λ{a b} h=>?_)) (hp.trans (show l.Perm (l.foldl n9 []) by simpa using h2.symm))
 ·intro a b ha hb hab hba;have ha':=hp.mem_iff.1 ha;have hb':=(by simpa using h2.mem_iff.1 hb:b∈l);rw[Bv]at hab hba;obtain⟨i,hi,rfl⟩:=List.mem_iff_getElem.1 ha';obtain⟨j,hj,rfl⟩:=List.mem_iff_getElem.1 hb';rcases Nat.lt_trichotomy i j with h | h | h
  ·have:=List.pairwise_iff_getElem.1 hk i j hi hj h;unfold rz at this;omega
  ·subst h;rfl
  ·have:=List.pairwise_iff_getElem.1 hk j i hj hi h;unfold rz at this;omega
 ·rw[Jf]at h;rw[Bv];omega
end
section
theorem Wq {n:Int} {q x:Rc} (h:kr n (some q) x=0):(x.s=q.s/\x.k=q.k+1)\/(q.s < x.s/\x.k=1):=by
 have hok:okR n x=true:=by
  cases h1:okR n x with
  | true=>rfl
  | false=>rw[Ep h1]at h;cases h
 rcases Int.lt_trichotomy x.s q.s with h1 | h1 | h1
 ·rw[Eo hok (Or.inl h1)]at h;cases h
 ·by_cases h2:x.k<=q.k
  ·rw[Eo hok (Or.inr ⟨h1,h2⟩)]at h;cases h
  ·rw[O5 hok h1 Yi]at h
   by_cases h3:x.k=q.k+1
   ·exact Or.inl ⟨h1,h3⟩
   ·rw[if_neg h3]at h;cases h
 ·rw[zbN hok h1]at h
  by_cases h3:x.k=1
  ·exact Or.inr ⟨h1,h3⟩
  ·rw[if_neg h3]at h;cases h
theorem Pa {n:Int} {x:Rc} (h:kr n none x=0):x.k=1:=by
 have hok:okR n x=true:=by
  cases h1:okR n x with
  | true=>rfl
  | false=>rw[Ep h1]at h;cases h
 rw[zbL hok]at h
 by_cases h3:x.k=1
 ·exact h3
 ·rw[if_neg h3]at h;cases h
end
section
open Go.RowKit Go.Shelf Go.Lib
inductive Fm where
 | new (n:Nat) (s:S8)
 | keep (n:Nat) (s:S8)
 | act (n:Nat) (a:Ac)
 deriving Inhabited
def Fm.ok:Fm->Prop
 | .new n s=>1<=n/\n<=1000000/\s.ok/\s≠S8.zero
 | .keep n s=>1<=n/\n<=1000000/\s.ok/\s≠S8.zero
 | .act n a=>1<=n/\n<=1000000/\a.c.ok/\okA 8 a.k a.p a.c.l=true
def Fm.text:Fm->List UInt8
 | .new n s=>[110,101,119] ++ 32 :: (Lib.decDigits n ++ 32 :: dg s.l)
 | .keep n s=>[107,101,101,112] ++ 32 :: (Lib.decDigits n ++ 32 :: dg s.l)
 | .act n a=>[100,111] ++ 32 :: (Lib.decDigits n ++ 32 :: dl a.k a.p a.c.l)
open Classical in
noncomputable def ee (t:ByteArray):Option Fm:=if h:∃f:Fm,f.ok/\f.text=t.data.toList then some h.choose else none
theorem cu {t:ByteArray} {f:Fm} (h:ee t=some f):f.ok/\f.text=t.data.toList:=by
 unfold ee at h;split at h
 ·rename_i hx;cases h;exact hx.choose_spec
 ·cases h
theorem Gl {t:ByteArray} (h:ee t=none) (f:Fm) (hf:f.ok):f.text≠t.data.toList:=by
 unfold ee at h;split at h
 ·cases h
 ·rename_i hx;exact λe=>hx ⟨f,hf,e⟩
structure Kp where
 id:Int
 size:Int
 st:Int
 blank:S8
 pieces:List S8
 acts:List Ac
 deriving DecidableEq,Inhabited
def Mn (k:Kp) (a:Ac):Nat:=if (du k.blank k.pieces k.acts).2≠0 then(du k.blank k.pieces k.acts).2 else(du k.blank k.pieces (k.acts ++ [a])).2
def gh (K:List Kp) (n:Int):Option Nat:=K.findIdx? λk=>decide (k.id=n)
def ay (K:List Kp):Option Fm->List Kp×Nat
 | none=>(K,95)
 | some (.new _ _)=>(K,0)
 | some (.keep n s)=>match gh K n with
  | none=>(K,5)
  | some i=>if 8<=(K.getD i default).pieces.length then(K,2)else(K.set i {K.getD i default with pieces:=(K.getD i default).pieces ++ [s]},0)
 | some (.act n a)=>match gh K n with
  | none=>(K,5)
  | some i=>if Mn (K.getD i default) a=0 then(K.set i {K.getD i default with acts:=(K.getD i default).acts ++ [a]},0)else(K,Mn (K.getD i default) a)
def bf:List Kp->List (Option Fm)->List Kp×List Nat
 | K,[]=>(K,[])
 | K,f :: r=>((bf (ay K f).1 r).1,(ay K f).2 :: (bf (ay K f).1 r).2)
noncomputable def ku (x:Rc):Option Kp:=match ee x.t with
 | some (.new n s)=>some ⟨8 * x.k+x.s,n,x.s,s,[],[]⟩
 | _=>none
def ko (K:List Kp) (x:Kp):List Kp:=K.takeWhile (λk=>decide (k.id < x.id)) ++ [x] ++ K.dropWhile (λk=>decide (k.id < x.id))
noncomputable def jk (l:List Rc):List Kp:=l.filterMap ku
noncomputable def bj (l:List Rc):List Kp:=(jk l).foldl ko []
noncomputable def pg (l:List Rc):List Kp×List Nat:=bf (bj l) (l.map λx=>ee x.t)
theorem ol:∀(fs:List (Option Fm)) (K:List Kp),(bf K fs).2.length=fs.length
 | [],K=>rfl
 | f :: r,K=>by simp[bf,ol r]
theorem ph:∀(fs gs:List (Option Fm)) (K:List Kp),bf K (fs ++ gs)=((bf (bf K fs).1 gs).1,(bf K fs).2 ++ (bf (bf K fs).1 gs).2)
 | [],gs,K=>rfl
 | f :: r,gs,K=>by
  show((bf (ay K f).1 (r ++ gs)).1,(ay K f).2 :: (bf (ay K f).1 (r ++ gs)).2)=_;rw[ph r gs];rfl
theorem i8 {K:List Kp} {n:Int} {i:Nat} (h:gh K n=some i):∃hi:i < K.length,K[i].id=n:=by
 unfold gh at h;rw[List.findIdx?_eq_some_iff_getElem]at h;obtain⟨hi,h1,_⟩:=h;exact⟨hi,of_decide_eq_true h1⟩
theorem In {K:List Kp} {i:Nat} (hi:i < K.length):K.getD i default=K[i]:=by simp[List.getD,hi]
def Kp.many (k:Kp):Nat:=1+k.acts.length+k.pieces.length
def zbg:Option Fm->Bool
 | some (.new _ _)=>true
 | _=>false
def entered (l:List Nat):Nat:=(l.filter λe=>decide (e=0)).length
theorem uf (K:List Kp) (x:Kp):(ko K x).Perm (x :: K):=by
 unfold ko;rw[List.append_assoc];refine List.perm_middle.trans ?_;show(x :: (K.takeWhile (λk=>decide (k.id < x.id)) ++ K.dropWhile (λk=>decide (k.id < x.id)))).Perm (x :: K);rw[List.takeWhile_append_dropWhile]
theorem Ea:∀(l K:List Kp),(l.foldl ko K).Perm (K ++ l)
 | [],K=>by simp
 | x :: l,K=>by
  refine(Ea l (ko K x)).trans ?_;refine((uf K x).append_right l).trans ?_;exact(List.perm_middle (a:=x) (l₁:=K) (l₂:=l)).symm
theorem ie (l:List Rc):(bj l).Perm (jk l):=by
 have:=Ea (jk l) [];simpa[bj]using this
theorem Zq (l:List Rc):(pg l).2.length=l.length:=by
 unfold pg;rw[ol,List.length_map]
abbrev IdS (K:List Kp):Prop:=K.Pairwise λa b=>a.id < b.id
theorem Ik {K:List Kp} {x:Kp} (h:IdS K) (hx:∀k∈K,k.id≠x.id):IdS (ko K x):=by
 induction K with
 | nil=>simp[ko]
 | cons a K ih=>
  unfold ko
  by_cases ha:a.id < x.id
  ·rw[List.takeWhile_cons_of_pos (by simpa using ha),List.dropWhile_cons_of_pos (by simpa using ha)];show IdS (a :: ko K x);rw[IdS,List.pairwise_cons]at h ⊢;refine⟨λb hb=>?_,ih h.2 (λb hb=>hx b (List.mem_cons_of_mem _ hb))⟩;rcases List.mem_cons.1 ((uf K x).mem_iff.1 hb)with rfl | hb
   ·exact ha
   ·exact h.1 b hb
  ·rw[List.takeWhile_cons_of_neg (by simpa using ha),List.dropWhile_cons_of_neg (by simpa using ha)];show IdS (x :: a :: K);rw[IdS,List.pairwise_cons];refine⟨λb hb=>?_,h⟩;have hxa:x.id < a.id:=by
    have:=hx a List.mem_cons_self;omega
   rcases List.mem_cons.1 hb with rfl | hb
   ·exact hxa
   ·have:=(List.pairwise_cons.1 h).1 b hb;omega
theorem Y1:∀(l K:List Kp),IdS K->l.Pairwise (λa b=>a.id≠b.id)->(∀k∈K,∀x∈l,k.id≠x.id)->IdS (l.foldl ko K)
 | [],K,h,_,_=>h
 | x :: l,K,h,hd,hx=>by
  replace hd:=List.pairwise_cons.1 hd;refine Y1 l (ko K x) (Ik h λk hk=>hx k hk x List.mem_cons_self) hd.2 λk hk y hy=>?_;rcases List.mem_cons.1 ((uf K x).mem_iff.1 hk)with rfl | hk
  ·exact hd.1 y hy
  ·exact hx k hk y (List.mem_cons_of_mem _ hy)
def Y5 (l:List Rc):Prop:=(∀x∈l,0<=x.s/\x.s < 8)/\l.Pairwise λa b=>a.s≠b.s\/a.k≠b.k
theorem Qx {x:Rc} {k:Kp} (h:ku x=some k):k.id=8 * x.k+x.s:=by
 unfold ku at h;split at h
 ·cases h;rfl
 ·cases h
theorem N5 {l:List Rc} (h:Y5 l):(jk l).Pairwise (λa b=>a.id≠b.id):=by
 unfold jk;rw[List.pairwise_filterMap];have h1:=h.1;refine(List.Pairwise.and_mem.1 h.2).imp ?_;intro a b hab p hp q hq;have e1:=Qx hp;have e2:=Qx hq;have:=h1 a hab.1;have:=h1 b hab.2.1;have:=hab.2.2;omega
theorem zbW {l:List Rc} (h:Y5 l):IdS (bj l):=Y1 _ [] List.Pairwise.nil (N5 h) (λk hk=>by cases hk)
def Kp.good (k:Kp):Prop:=du k.blank k.pieces k.acts=(0,0)/\∀s∈k.pieces,s.ok/\s≠S8.zero
theorem zcp (L:List S8):∀(A:List Ac) (s:Std) (i:Nat),(jg L s i A).2.1=0->(jg L s i A).1=0
 | [],s,i,_=>rfl
 | a :: r,s,i,h=>by
  simp only[jg]at h ⊢;split
  ·rename_i hc;rw[if_pos hc]at h;exact zcp L r _ _ h
  ·rename_i hc;rw[if_neg hc]at h;exact absurd h hc
theorem Ws {P:S8} {L:List S8} {A:List Ac} (h:(du P L A).2=0):du P L A=(0,0):=by
 unfold du at h ⊢;split
 ·rename_i hc;rw[if_pos hc]at h;exact absurd h hc
 ·rename_i hc;rw[if_neg hc]at h;split
  ·rename_i h6;rw[if_pos h6]at h;cases h
  ·rename_i h6;rw[if_neg h6]at h;exact Prod.ext (zcp L A _ _ h) h
theorem zaJ {n k:Nat} {p:Int} {c:List Nat} (h:okA n k p c=true):okA (n+1) k p c=true:=by
 unfold okA at h ⊢;simp only[Bool.or_eq_true,Bool.and_eq_true,decide_eq_true_eq]at h ⊢;rcases h with h | ⟨⟨⟨h1,h2⟩,h3⟩,h4⟩
 ·exact Or.inl h
 ·exact Or.inr ⟨⟨⟨h1,h2⟩,Yi⟩,h4⟩
theorem zaL {L:List S8} {s:Std} {a:Ac} (x:S8) (h:(nxt L s a).2=0):nxt (L ++ [x]) s a=nxt L s a:=by
 have hok:okA L.length a.k a.p a.c.l=true:=by
  cases hc:okA L.length a.k a.p a.c.l with
  | true=>rfl
  | false=>unfold nxt at h;rw[if_pos hc]at h;cases h
 have hok2:okA (L ++ [x]).length a.k a.p a.c.l=true:=by
  rw[List.length_append,List.length_singleton];exact zaJ hok
 unfold nxt;simp only[hok,hok2,Bool.true_eq_false,if_false];rcases jc hok with ⟨h1,_⟩ | ⟨h1,i,hi,hp⟩
 ·rw[if_pos h1,if_pos h1]
 ·have e:(L ++ [x]).getD a.p.toNat default=L.getD a.p.toNat default:=by
   rw[hp];simp[List.getD,List.getElem?_append_left hi]
  rw[e]
theorem zcS (L:List S8) (x:S8):∀(A:List Ac) (s:Std) (i:Nat),(jg L s i A).2.1=0->jg (L ++ [x]) s i A=jg L s i A
 | [],s,i,_=>rfl
 | a :: r,s,i,h=>by
  simp only[jg]at h ⊢
  by_cases hc:(nxt L s a).2=0
  ·rw[if_pos hc]at h;rw[zaL x hc,if_pos hc,if_pos hc];exact zcS L x r _ _ h
  ·rw[if_neg hc]at h;exact absurd h hc
theorem S8.zero_l:S8.zero.l=aq:=rfl
theorem N8 {L:List S8}:aq∈L.map S8.l↔S8.zero∈L:=by
 constructor
 ·intro h;obtain⟨s,hs,e⟩:=List.mem_map.1 h;rw[<-S8.zero_l]at e;rw[<-S8.l_inj e];exact hs
 ·intro h;exact List.mem_map.2 ⟨_,h,rfl⟩
theorem Lz {P:S8} {L:List S8}:ci P.l (L.map S8.l)=0↔L.length<=8/\P≠S8.zero/\S8.zero∉L:=by
 unfold ci;simp only[List.length_map,N8];constructor
 ·intro h;split at h
  ·cases h
  ·split at h
   ·cases h
   ·rename_i h1 h2;rw[not_or]at h2;exact⟨Yi,λe=>h2.1 (by rw[e];rfl),h2.2⟩
 ·rintro⟨h1,h2,h3⟩;rw[if_neg Yi,if_neg];rintro(h | h)
  ·exact h2 (S8.l_inj h)
  ·exact h3 h
theorem Wt {P:S8} {L:List S8} {A:List Ac} (x:S8) (h:du P L A=(0,0)) (hx:x≠S8.zero) (hl:L.length < 8):du P (L ++ [x]) A=(0,0):=by
 have hp:ci P.l (L.map S8.l)=0:=by
  by_cases hc:ci P.l (L.map S8.l)=0
  ·exact hc
  ·unfold du at h;rw[if_pos hc]at h;exact absurd (Prod.mk.inj h).2 hc
 have hp2:ci P.l ((L ++ [x]).map S8.l)=0:=by
  rw[Lz]at hp ⊢;refine⟨by rw[List.length_append,List.length_singleton];omega,hp.2.1,?_⟩;rw[List.mem_append,List.mem_singleton];rintro(h | h)
  ·exact hp.2.2 h
  ·exact hx h.symm
 unfold du at h ⊢;rw[if_neg (by rw[hp];simp)]at h;rw[if_neg (by rw[hp2];simp)];split
 ·rename_i h6;rw[if_pos h6]at h;cases h
 ·rename_i h6;rw[if_neg h6]at h;rw[zcS L x A _ _ (Prod.mk.inj h).2];exact h
theorem Lr {K:List Kp} {f:Option Fm} (hf:∀g,f=some g->g.ok) (h:∀k∈K,k.good):∀k∈(ay K f).1,k.good:=by
 cases f with
 | none=>exact h
 | some f=>
  have hok:=hf f rfl;cases f with
  | new n s=>exact h
  | keep n s=>
   simp only[ay];cases hf:gh K n with
   | none=>exact h
   | some i=>
    obtain⟨hi,_⟩:=i8 hf;dsimp only;split
    ·exact h
    ·rename_i h8;intro k hk;rcases List.mem_or_eq_of_mem_set hk with hk | rfl
     ·exact h k hk
     ·have hg:=h _ (List.getElem_mem hi);rw[In hi]at h8 ⊢;refine⟨Wt s hg.1 hok.2.2.2 Yi,λt ht=>?_⟩;rcases List.mem_append.1 ht with ht | ht
      ·exact hg.2 t ht
      ·rw[List.mem_singleton.1 ht];exact⟨hok.2.2.1,hok.2.2.2⟩
  | act n a=>
   simp only[ay];cases hf:gh K n with
   | none=>exact h
   | some i=>
    obtain⟨hi,_⟩:=i8 hf;dsimp only;split
    ·rename_i h0;intro k hk;rcases List.mem_or_eq_of_mem_set hk with hk | rfl
     ·exact h k hk
     ·have hg:=h _ (List.getElem_mem hi);rw[In hi]at h0 ⊢;refine⟨Ws ?_,hg.2⟩;unfold Mn at h0;rw[hg.1]at h0;simpa using h0
    ·exact h
theorem sw:∀(fs:List (Option Fm)) (K:List Kp),(∀g,some g∈fs->g.ok)->(∀k∈K,k.good)->∀k∈(bf K fs).1,k.good
 | [],K,_,h=>h
 | f :: r,K,hf,h=>sw r _ (λg hg=>hf g (List.mem_cons_of_mem _ hg)) (Lr (λg e=>hf g (by rw[e];exact List.mem_cons_self)) h)
theorem Tt {x:Rc} {k:Kp} (h:ku x=some k):k.good:=by
 unfold ku at h;split at h
 ·rename_i n s hf;have hok:=(cu hf).1;cases h;refine⟨?_,λs hs=>by cases hs⟩;have hp:ci s.l (([]:List S8).map S8.l)=0:=Lz.2 ⟨Nat.zero_le _,hok.2.2.2,Yj⟩;unfold du;rw[if_neg (by rw[hp];simp),if_neg Yj];rfl
 ·cases h
theorem Sf (l:List Rc):∀k∈(pg l).1,k.good:=by
 refine sw _ _ (λg hg=>?_) (λk hk=>?_)
 ·obtain⟨x,_,e⟩:=List.mem_map.1 hg;exact(cu e).1
 ·have:=(ie l).mem_iff.1 hk;obtain⟨x,_,e⟩:=List.mem_filterMap.1 this;exact Tt e
end
section
open Go.RowKit Go.Shelf Go.Lib
theorem Gv (p0 p1 p2 p3 p4 p5 p6 p7:Nat) (L:List S8) (A:List Ac) (pv av:Value) (w:World) (hv:ef w pv (L.map S8.l)) (hav:l5 w av A):
  Calls prog 266 #[.agg #[p0,p1,p2,p3,p4,p5,p6,p7,pv,av]] w λe w'=>Gr w w'/\∃tv,e= .returned (.tuple #[tv,Yp (du ⟨p0,p1,p2,p3,p4,p5,p6,p7⟩ L A).1,Yp (du ⟨p0,p1,p2,p3,p4,p5,p6,p7⟩ L A).2])/\
   ((du ⟨p0,p1,p2,p3,p4,p5,p6,p7⟩ L A).2=0->∃b dv S,tv= .pointer (Yn b)/\w'.heap[b]?=some (.cells (iq p0 p1 p2 p3 p4 p5 p6 p7 pv av dv S) 394 (0,0))):=by
 obtain⟨a,cap,hsl⟩:∃a cap,av= .slice a A.length cap:=by
  obtain⟨⟨a,cap,h,_⟩,_⟩:=hav;exact⟨a,cap,by simpa using h⟩
 subst hsl
 by_cases hq:ci [p0,p1,p2,p3,p4,p5,p6,p7] (L.map S8.l)=0
 ·by_cases hn:60 < A.length
  ·have e:du ⟨p0,p1,p2,p3,p4,p5,p6,p7⟩ L A=(0,2):=by
    unfold du;rw[if_neg (by rw[show ci (S8.l ⟨p0,p1,p2,p3,p4,p5,p6,p7⟩) (L.map S8.l)=0 from hq];simp),if_pos hn]
   rw[e];refine(W0 p0 p1 p2 p3 p4 p5 p6 p7 (L.map S8.l) pv w hv a A.length cap hn hq).mono ?_;rintro e w' ⟨rfl,g⟩;exact⟨g,_,rfl,λh=>absurd h Yj⟩
  ·have e:du ⟨p0,p1,p2,p3,p4,p5,p6,p7⟩ L A=((jg L (S8.f ⟨p0,p1,p2,p3,p4,p5,p6,p7⟩,0) 0 A).1,(jg L (S8.f ⟨p0,p1,p2,p3,p4,p5,p6,p7⟩,0) 0 A).2.1):=by
    unfold du;rw[if_neg (by rw[show ci (S8.l ⟨p0,p1,p2,p3,p4,p5,p6,p7⟩) (L.map S8.l)=0 from hq];simp),if_neg hn]
   have hL8:L.length<=8:=by
    unfold ci at hq;rw[List.length_map]at hq;split at hq
    ·cases hq
    ·omega
   rw[e];have hz:=zcp L A (S8.f ⟨p0,p1,p2,p3,p4,p5,p6,p7⟩,0) 0;refine(Pf p0 p1 p2 p3 p4 p5 p6 p7 L A pv a cap w hv hL8 hav Yi hq).mono ?_;rintro e w' ⟨g,h⟩;refine⟨g,?_⟩;generalize jg L (S8.f ⟨p0,p1,p2,p3,p4,p5,p6,p7⟩,0) 0 A=r at *;rcases h with ⟨h0,rfl⟩ | ⟨h0,b,dv,rfl,_,hb⟩
   ·exact⟨_,rfl,λh=>absurd h h0⟩
   ·refine⟨Ym b,?_,λ_=>⟨b,dv,r.2.2,rfl,hb⟩⟩;rw[h0,hz h0];rfl
 ·have e:du ⟨p0,p1,p2,p3,p4,p5,p6,p7⟩ L A=(0,ci [p0,p1,p2,p3,p4,p5,p6,p7] (L.map S8.l)):=by
   unfold du;exact if_pos hq
  rw[e];refine(Wz p0 p1 p2 p3 p4 p5 p6 p7 (L.map S8.l) pv _ w hv hq).mono ?_;rintro e w' ⟨rfl,g⟩;exact⟨g,_,rfl,λh=>absurd h hq⟩
theorem Wu (p0 p1 p2 p3 p4 p5 p6 p7:Nat) (L:List S8) (A:List Ac) (pv av:Value) (w:World) (hv:ef w pv (L.map S8.l)) (hav:l5 w av A):
  Calls prog 268 #[.agg #[p0,p1,p2,p3,p4,p5,p6,p7,pv,av]] w λe w'=>e= .returned (.tuple #[Yp (du ⟨p0,p1,p2,p3,p4,p5,p6,p7⟩ L A).1,Yp (du ⟨p0,p1,p2,p3,p4,p5,p6,p7⟩ L A).2])/\Gr w w':=by
 have gI:=(Yu w).alloc (.cells #[p0,p1,p2,p3,p4,p5,p6,p7,pv,av] 45);have h0:=ae w (.cells #[p0,p1,p2,p3,p4,p5,p6,p7,pv,av] 45);have BG:=hid (Gv p0 p1 p2 p3 p4 p5 p6 p7 L A pv av _ (hv.gr gI) (hav.gr gI));have GI:=hid gI;obtain⟨s0,t0,z0⟩:=ed h0;generalize du ⟨p0,p1,p2,p3,p4,p5,p6,p7⟩ L A=r at *;clear gI h0 hv hav;go_enter func268,ntmps268;go_wp2_with fail;refine BG.out.mono ?_;rintro e w1 ⟨g1,tv,rfl,_⟩;have G1:=hid (GI.out.trans g1);clear g1 BG GI s0 t0 z0;go_wp2;go_ret2;exact⟨rfl,G1.out⟩
theorem bi {w:World} {base:Nat} {T:TypeId} {k:Nat} {v:Value} {n:Nat} {xs:List Value} {g:Nat} (h:w.ownsRow base T k v n xs) (hg:v.ownBlock=some g):∃cur,w.heap[g]?=some (.cells cur T (0,0)):=by
 rcases h.2 with ⟨rfl,_⟩ | ⟨g',cap,cur,rfl,_,hb,_⟩
 ·cases hg
 ·cases hg;exact⟨cur,hb⟩
theorem Zj (b p0 p1 p2 p3 p4 p5 p6 p7:Nat) (L:List S8) (A:List Ac) (pv av0 dv xv:Value) (S:Std) (w:World) (hb:w.heap[b]?=some (.cells (iq p0 p1 p2 p3 p4 p5 p6 p7 pv av0 dv S) 394 (0,0))) (hv:bo w 8 pv (L.map S8.cs)) (hL:L.length<=1000) (hx:bo w 10 xv (A.map Ac.cs)) (hA:A.length<=1000):
  Calls prog 267 #[Ym b,xv] w λe w'=>∃x y,e= .returned (.agg #[p0,p1,p2,p3,p4,p5,p6,p7,x,y])/\w'.ownsRow w.heap.size 39 8 x L.length (L.flatMap S8.cs)/\w'.ownsRow w.heap.size 54 10 y A.length (A.flatMap Ac.cs)/\Gr w w':=by
 have gI:=(Yu w).alloc (.cells Zd 45);have h0:=ae w (.cells Zd 45);have HB:=hid (gI.heap hb);have CS:=hid (λu (g:Gr (w.alloc (.cells Zd 45)) u)=>xg pv L u (hv.gr (gI.trans g)) Yi);have CA:=hid (λu (g:Gr (w.alloc (.cells Zd 45)) u)=>Jt xv A u (hx.gr (gI.trans g)) Yi);have GI:=hid gI;have H0:=hid h0;obtain⟨a,cap,rfl,_,_⟩:=hv;obtain⟨a',cap',rfl,_,_⟩:=hx;simp only[List.length_map]at CS CA HB ⊢;clear gI h0 hb;go_enter func267,ntmps267;go_wp2;generalize w.alloc (.cells Zd 45)=U at *;have HW:Hid (∀u,Gr U u->w.heap.size<=u.heap.size):=hid (λu g=>(GI.out.trans g).b.size);refine bz [15] [.val (Ym b),.val (Ym b),.val (Ym b),.val (Ym b),.val (.agg #[p0,p1,p2,p3,p4,p5,p6,p7]),.val (Ym b),.val (Ym b),.val (Ym b),.val (.pointer (some ⟨b,8,none⟩)),.val (.slice a L.length cap),.sat (λv u=>u.ownsRow w.heap.size 39 8 v L.length (L.flatMap S8.cs)),.sat (λv u=>∃x,v= .agg #[p0,p1,p2,p3,p4,p5,p6,p7,x]/\u.ownsRow w.heap.size 39 8 x L.length (L.flatMap S8.cs)),.val (.slice a' A.length cap'),.sat (λv u=>u.ownsRow w.heap.size 54 10 v A.length (A.flatMap Ac.cs)),.sat (λv u=>∃x y,v= .agg #[p0,p1,p2,p3,p4,p5,p6,p7,x,y]/\(u.ownsRow w.heap.size 39 8 x L.length (L.flatMap S8.cs)/\u.ownsRow w.heap.size 54 10 y A.length (A.flatMap Ac.cs))),.later] Yh Yh (λV=>finT) ?_ ?_
 ·refine⟨?_,?_,?_,?_,?_,?_,?_,?_,?_,?_,?_,?_,?_,?_,?_,?_,trivial⟩
  iterate 10 ·(intro V u hu hk;refine⟨Yh,?_⟩;obtain⟨cb,fb,zb⟩:=ed (hu.heap HB.out);go_simp;first | exact⟨rfl,Yu _⟩ | skip)
  ·refine⟨λv u u1 h g=>h.gr1 g,λV u hu hk=>⟨Yh,?_⟩⟩;go_simp;refine(CS.out u hu).mono ?_;rintro e w' ⟨v',rfl,h1,h2⟩;exact⟨v',rfl,h1.mono (HW.out u hu),h2⟩
  ·refine⟨λv u u1 h g=>h.imp λ_ h=>⟨h.1,h.2.gr1 g⟩,λV u hu hk=>⟨Yh,?_⟩⟩;have h10:=hk 10 (λv u=>u.ownsRow w.heap.size 39 8 v L.length (L.flatMap S8.cs)) rfl Yh;obtain⟨a1,c1,e1,_⟩:=aj h10;rw[e1]at h10;go_simp;exact⟨⟨_,rfl,h10⟩,Yu _⟩
  ·(intro V u hu hk;refine⟨Yh,?_⟩;obtain⟨cb,fb,zb⟩:=ed (hu.heap HB.out);go_simp;first | exact⟨rfl,Yu _⟩ | skip)
  ·refine⟨λv u u1 h g=>h.gr1 g,λV u hu hk=>⟨Yh,?_⟩⟩;go_simp;refine(CA.out u hu).mono ?_;rintro e w' ⟨v',rfl,h1,h2⟩;exact⟨v',rfl,h1.mono (HW.out u hu),h2⟩
  ·refine⟨λv u u1 h g=>?_,λV u hu hk=>⟨Yh,?_⟩⟩
   ·obtain⟨x,y,h1,h2,h3⟩:=h;exact⟨x,y,h1,h2.gr1 g,h3.gr1 g⟩
   ·obtain⟨x,ex,hx⟩:=hk 11 (λv u=>∃x,v= .agg #[p0,p1,p2,p3,p4,p5,p6,p7,x]/\u.ownsRow w.heap.size 39 8 x L.length (L.flatMap S8.cs)) rfl Yh;have h13:=hk 13 (λv u=>u.ownsRow w.heap.size 54 10 v A.length (A.flatMap Ac.cs)) rfl Yh;obtain⟨a1,c1,e1,_⟩:=aj hx;obtain⟨a2,c2,e2,_⟩:=aj h13;subst e1;rw[e2]at h13;go_simp;exact⟨⟨_,_,rfl,hx,h13⟩,Yu _⟩
  ·trivial
 ·intro V u hg hs;obtain⟨x,y,e14,hx,hy⟩:=hs 14 (λv u=>∃x y,v= .agg #[p0,p1,p2,p3,p4,p5,p6,p7,x,y]/\(u.ownsRow w.heap.size 39 8 x L.length (L.flatMap S8.cs)/\u.ownsRow w.heap.size 54 10 y A.length (A.flatMap Ac.cs))) rfl;obtain⟨a1,c1,rfl,_⟩:=aj hx;obtain⟨a2,c2,rfl,_⟩:=aj hy;have hp:=hg.heap H0.out;obtain⟨cp,fp,zp⟩:=ed hp;have HP:=hid (fi (x0:= .int .u64 p0) (x1:= .int .u64 p1) (x2:= .int .u64 p2) (x3:= .int .u64 p3) (x4:= .int .u64 p4) (x5:= .int .u64 p5) (x6:= .int .u64 p6) (x7:= .int .u64 p7) (x8:= .slice a1 L.length c1) (x9:= .slice a2 A.length c2) hp);have HG:Hid (Gr w ((((((((((u.setCell (Yo w.heap.size 0) p0).setCell (Yo w.heap.size 1) p1).setCell (Yo w.heap.size 2) p2).setCell (Yo w.heap.size 3) p3).setCell (Yo w.heap.size 4) p4).setCell (Yo w.heap.size 5) p5).setCell (Yo w.heap.size 6) p6).setCell (Yo w.heap.size 7) p7).setCell (Yo w.heap.size 8) (.slice a1 L.length c1)).setCell (Yo w.heap.size 9) (.slice a2 A.length c2))):=hid (((((((((((GI.out.trans hg).set ⟨w.heap.size,0,none⟩ p0 (Yv _)).set ⟨w.heap.size,1,none⟩ p1 (Yv _)).set ⟨w.heap.size,2,none⟩ p2 (Yv _)).set ⟨w.heap.size,3,none⟩ p3 (Yv _)).set ⟨w.heap.size,4,none⟩ p4 (Yv _)).set ⟨w.heap.size,5,none⟩ p5 (Yv _)).set ⟨w.heap.size,6,none⟩ p6 (Yv _)).set ⟨w.heap.size,7,none⟩ p7 (Yv _)).set ⟨w.heap.size,8,none⟩ (.slice a1 L.length c1) (Yv _)).set ⟨w.heap.size,9,none⟩ (.slice a2 A.length c2) (Yv _));have NE1:(Value.slice a1 L.length c1).ownBlock≠some w.heap.size:=λh=>by
   have h1:=bi hx h;rw[hp]at h1;simp at h1
  have NE2:(Value.slice a2 A.length c2).ownBlock≠some w.heap.size:=λh=>by
   have h1:=bi hy h;rw[hp]at h1;simp at h1
  have HX:Hid (((((((((((u.setCell (Yo w.heap.size 0) p0).setCell (Yo w.heap.size 1) p1).setCell (Yo w.heap.size 2) p2).setCell (Yo w.heap.size 3) p3).setCell (Yo w.heap.size 4) p4).setCell (Yo w.heap.size 5) p5).setCell (Yo w.heap.size 6) p6).setCell (Yo w.heap.size 7) p7).setCell (Yo w.heap.size 8) (.slice a1 L.length c1)).setCell (Yo w.heap.size 9) (.slice a2 A.length c2)).ownsRow w.heap.size 39 8 (.slice a1 L.length c1) L.length (L.flatMap S8.cs)):=hid (ownsRow_setCell_other (ownsRow_setCell_other (ownsRow_setCell_other (ownsRow_setCell_other (ownsRow_setCell_other (ownsRow_setCell_other (ownsRow_setCell_other (ownsRow_setCell_other (ownsRow_setCell_other (ownsRow_setCell_other hx (a:=⟨w.heap.size,0,none⟩) NE1 p0) (a:=⟨w.heap.size,1,none⟩) NE1 p1) (a:=⟨w.heap.size,2,none⟩) NE1 p2) (a:=⟨w.heap.size,3,none⟩) NE1 p3) (a:=⟨w.heap.size,4,none⟩) NE1 p4) (a:=⟨w.heap.size,5,none⟩) NE1 p5) (a:=⟨w.heap.size,6,none⟩) NE1 p6) (a:=⟨w.heap.size,7,none⟩) NE1 p7) (a:=⟨w.heap.size,8,none⟩) NE1 (.slice a1 L.length c1)) (a:=⟨w.heap.size,9,none⟩) NE1 (.slice a2 A.length c2));have HY:Hid (((((((((((u.setCell (Yo w.heap.size 0) p0).setCell (Yo w.heap.size 1) p1).setCell (Yo w.heap.size 2) p2).setCell (Yo w.heap.size 3) p3).setCell (Yo w.heap.size 4) p4).setCell (Yo w.heap.size 5) p5).setCell (Yo w.heap.size 6) p6).setCell (Yo w.heap.size 7) p7).setCell (Yo w.heap.size 8) (.slice a1 L.length c1)).setCell (Yo w.heap.size 9) (.slice a2 A.length c2)).ownsRow w.heap.size 54 10 (.slice a2 A.length c2) A.length (A.flatMap Ac.cs)):=hid (ownsRow_setCell_other (ownsRow_setCell_other (ownsRow_setCell_other (ownsRow_setCell_other (ownsRow_setCell_other (ownsRow_setCell_other (ownsRow_setCell_other (ownsRow_setCell_other (ownsRow_setCell_other (ownsRow_setCell_other hy (a:=⟨w.heap.size,0,none⟩) NE2 p0) (a:=⟨w.heap.size,1,none⟩) NE2 p1) (a:=⟨w.heap.size,2,none⟩) NE2 p2) (a:=⟨w.heap.size,3,none⟩) NE2 p3) (a:=⟨w.heap.size,4,none⟩) NE2 p4) (a:=⟨w.heap.size,5,none⟩) NE2 p5) (a:=⟨w.heap.size,6,none⟩) NE2 p6) (a:=⟨w.heap.size,7,none⟩) NE2 p7) (a:=⟨w.heap.size,8,none⟩) NE2 (.slice a1 L.length c1)) (a:=⟨w.heap.size,9,none⟩) NE2 (.slice a2 A.length c2));refine⟨⟨none,_,_,_,_,_⟩,rfl,rfl,?_⟩;clear hs hx hy hg;generalize V 14=v14 at *;subst e14;go_simp;refine Fa.fin ?_;go_simp;go_wp2;clear hp cp fp zp NE1 NE2;generalize ((((((((((u.setCell (Yo w.heap.size 0) p0).setCell (Yo w.heap.size 1) p1).setCell (Yo w.heap.size 2) p2).setCell (Yo w.heap.size 3) p3).setCell (Yo w.heap.size 4) p4).setCell (Yo w.heap.size 5) p5).setCell (Yo w.heap.size 6) p6).setCell (Yo w.heap.size 7) p7).setCell (Yo w.heap.size 8) (.slice a1 L.length c1)).setCell (Yo w.heap.size 9) (.slice a2 A.length c2))=V9 at *;obtain⟨s9,t9,z9⟩:=ed HP.out;exact bodyPost_ret (v:= .agg #[p0,p1,p2,p3,p4,p5,p6,p7,.slice a1 L.length c1,.slice a2 A.length c2]) (by simp[results,results267,go_sem,s9]) rfl ⟨_,_,rfl,HX.out,HY.out,HG.out⟩
end
end Go.Proofs.YtimcfaoabaflkaaGreatDoor
