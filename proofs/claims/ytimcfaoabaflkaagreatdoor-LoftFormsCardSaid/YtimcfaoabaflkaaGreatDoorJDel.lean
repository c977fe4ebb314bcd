/- loft: missing$1; slices.DeleteFunc over records; missing. -/
import Derived.Test.YtimcfaoabaflkaaGreatDoorLLib
import Derived.Test.YtimcfaoabaflkaaGreatDoorTRow
namespace Go.Proofs.YtimcfaoabaflkaaGreatDoor
open AbA AbI
set_option maxHeartbeats 2000000
set_option maxRecDepth 100000
open Go.Proofs.Tryz
section
open Go.RowKit Go.Shelf Go.Lib
theorem zc6:∀(l:List Rc) (i:Nat),(rcs l).take (i * 4)=rcs (l.take i)
 | _,0=>by simp[rcs]
 | [],i+1=>by simp[rcs]
 | y :: l,i+1=>by
  rw[show(i+1) * 4=i * 4+4 from by omega,List.take_succ_cons];show(y.cells ++ rcs l).take (i * 4+4)=y.cells ++ rcs (l.take i);rw[←zc6 l i];rfl
end
section
open Go.RowKit Go.Shelf Go.Lib
theorem Qb (A:Addr) (c:Nat) (w:World):
  Calls prog 40 #[.slice (some A) 0 c] w fun e w'=>∃v',e= .returned v'∧w'.ownsRow w.heap.size 36 4 v' 0 []∧Gr w w':=by
 have q22:∀w,(binOp .eql 22 (.slice (some A) 0 c) (.slice none 0 0)).run prog w= .ok (.bool (some A).isNone) w:=fun w=>Lib.run_eql_slice_nil w _ _ (some A) 0 c 0 0 underlying22;go_enter func40,ntmps40;go_wp2;go_ret;refine⟨_,rfl,?_,?_⟩
 ·exact World.ownsRow_made w #[] 0 (Yv _) (Nat.zero_le _) Yj
 ·exact(Yu w).alloc _
theorem dr.flat {w:World} {l:List Rc} {g o cap:Nat} (h:dr w (.slice (some ⟨g,o,none⟩) l.length cap) l):∀j u,(rcs l)[j]?=some u→w.cell? ⟨g,o+j,none⟩=some u:=by
 obtain⟨a,cap',hv,hc,hr⟩:=h;injection hv with ha _ hcc
 subst hcc;subst ha;intro j u hu;have hj:j < l.length * 4:=by
  have:=(List.getElem?_eq_some_iff.1 hu).1
  rwa [vf]at this
 have h1:j / 4 < l.length:=Yi;obtain⟨g2,o2,hge,_,c0,c1,c2,c3⟩:=hr (j / 4) h1;obtain⟨rfl,rfl⟩:g2=g∧o2=o:=by injection hge with h;injection h with h h2;exact⟨h.symm,h2.symm⟩
 have h4:j % 4 < 4:=Nat.mod_lt _ Yi;have e:j=j / 4 * 4+j % 4:=Yi;rw[e,No l (j/4) (j%4) h1 h4]at hu;rw[e,←Nat.add_assoc];generalize j % 4=r at *
 match r,h4 with
 | 0,_=>exact c0.trans hu
 | 1,_=>exact c1.trans hu
 | 2,_=>exact c2.trans hu
 | 3,_=>exact c3.trans hu
theorem Qc (v:Value) (l:List Rc) (w:World) (hr:dr w v l) (hl:l.length≤1000000):
  Calls prog 40 #[v] w fun e w'=>∃v',e= .returned v'∧w'.ownsRow w.heap.size 36 4 v' l.length (rcs l)∧Gr w w':=by
 have hr0:=hr;obtain⟨a,cap,rfl,hcap,hcell⟩:=hr;rcases Nat.eq_zero_or_pos l.length with h0 | hpos
 ·obtain rfl:=List.eq_nil_of_length_eq_zero h0;cases a with
  | none=>
   refine(AnyE.slices_Clone_nil Tryz.cloneRec _ cap w).mono ?_;rintro e w' ⟨rfl,rfl⟩;exact⟨_,rfl,World.ownsRow_nil _ _ _ _,Yu _⟩
  | some A=>exact Qb A cap w
 ·obtain⟨g,o,rfl, -⟩:=hcell 0 hpos;obtain⟨i0,hi,hz0,hz1,hz2⟩:=info_parts Dw;refine(AnyE.slices_Clone Tryz.cloneRec i0 _ 4 40 hi hz0 hz1 hz2 rfl Yi Tryz.sizeOf36 g o l.length cap (rcs l) w (vf l) (by unfold maxLen;omega) Yi hr0.flat (Ho l)).mono ?_;rintro e w' ⟨v',rfl,h1,_,h2⟩;exact⟨v',rfl,h1,Gr.of_below h2⟩
end
section
def o7 (l:List Rc) (x:Rc):Nat:=(l.takeWhile fun r=>decide (ul r x < 0)).length
def Yg (l:List Rc) (x:Rc):List Rc:=l.take (o7 l x) ++ [x] ++ l.drop (o7 l x)
theorem M0 (a b:Rc):ul a b < 0↔rz a b:=Bu a b
theorem zdj (l:List Rc) (x:Rc):o7 l x≤l.length:=(List.takeWhile_prefix _).length_le
theorem zcC {x:Rc}:∀{l:List Rc} (j:Nat) (hj:j < l.length),j < o7 l x→ul l[j] x < 0
 | a :: l,j,hj,h=>by
  unfold o7 at h
  by_cases ha:ul a x < 0
  ·rw[List.takeWhile_cons_of_pos (p:=fun r=>decide (ul r x < 0)) (decide_eq_true ha),List.length_cons]at h;cases j with
   | zero=>exact ha
   | succ j=>exact zcC j (by simpa using hj) (by unfold o7;omega)
  ·rw[List.takeWhile_cons_of_neg (p:=fun r=>decide (ul r x < 0)) (by simpa using ha)]at h;simp at h
theorem zcD {x:Rc}:∀{l:List Rc} (_:Pz l) (j:Nat) (hj:j < l.length),o7 l x≤j→¬ul l[j] x < 0
 | a :: l,hk,j,hj,h=>by
  have hk':=List.pairwise_cons.1 hk;unfold o7 at h
  by_cases ha:ul a x < 0
  ·rw[List.takeWhile_cons_of_pos (p:=fun r=>decide (ul r x < 0)) (decide_eq_true ha),List.length_cons]at h;cases j with
   | zero=>omega
   | succ j=>exact zcD hk'.2 j (by simpa using hj) (by unfold o7;omega)
  ·cases j with
   | zero=>exact ha
   | succ j=>
    intro hc;rw[M0]at ha hc;exact ha (Od (hk'.1 _ (List.getElem_mem _)) hc)
def zcB (l:List Rc) (x:Rc):Option (List Rc):=
 if h:o7 l x < l.length then
  if ul l[o7 l x] x=0 then(if l[o7 l x]=x then some l else none)else some (Yg l x)
 else some (Yg l x)
def rr:List Rc→List Rc→Option (List Rc)
 | l,[]=>some l
 | l,x :: b=>(zcB l x).bind fun l'=>rr l' b
def wz (a b:Rc):Prop:=a.s=b.s∧a.k=b.k
theorem zc9 (l:List Rc) (x y:Rc):y∈Yg l x↔y=x∨y∈l:=by
 unfold Yg;rw[List.mem_append,List.mem_append,List.mem_singleton];have:y∈l↔y∈l.take (o7 l x)∨y∈l.drop (o7 l x):=by
  rw[←List.mem_append,List.take_append_drop]
 rw[this];constructor
 ·rintro((h | h) | h)
  ·exact Or.inr (Or.inl h)
  ·exact Or.inl h
  ·exact Or.inr (Or.inr h)
 ·rintro(h | h | h)
  ·exact Or.inl (Or.inr h)
  ·exact Or.inl (Or.inl h)
  ·exact Or.inr h
theorem zcX {l:List Rc} {x:Rc} (hk:Pz l) (hn:∀y∈l,¬wz y x):Pz (Yg l x):=by
 unfold Yg;have h0:Pz (l.take (o7 l x) ++ l.drop (o7 l x)):=by rw[List.take_append_drop];exact hk
 obtain⟨h1,h2,h3⟩:=List.pairwise_append.1 h0;have ha:∀y∈l.take (o7 l x),rz y x:=fun y hy=>by
  obtain⟨j,hj,rfl⟩:=List.mem_take_iff_getElem.1 hy;exact(M0 _ _).1 (zcC j Yi Yi)
 have hb:∀y∈l.drop (o7 l x),rz x y:=fun y hy=>by
  obtain⟨j,hj,rfl⟩:=List.mem_drop_iff_getElem.1 hy;have h5:=zcD (x:=x) hk (o7 l x+j) Yi Yi;rw[M0]at h5;have h6:=hn l[o7 l x+j] (List.getElem_mem _);unfold rz at h5 ⊢;unfold wz at h6;omega
 refine List.pairwise_append.2 ⟨List.pairwise_append.2 ⟨h1,List.pairwise_singleton _ _,fun a ha' b hb'=>?_⟩,h2,fun a ha' b hb'=>?_⟩
 ·rw[List.mem_singleton]at hb';subst hb';exact ha a ha'
 ·rcases List.mem_append.1 ha' with h | h
  ·exact h3 a h b hb'
  ·rw[List.mem_singleton]at h;subst h;exact hb b hb'
theorem zco {l:List Rc} {x y:Rc} (hk:Pz l) (hy:y∈l) (h:wz y x):∃hp:o7 l x < l.length,l[o7 l x]=y:=by
 obtain⟨j,hj,rfl⟩:=List.mem_iff_getElem.1 hy;have h1:¬j < o7 l x:=fun hlt=>by
  have:=zcC (x:=x) j hj hlt;rw[M0]at this;unfold rz at this;unfold wz at h;omega
 have hp:o7 l x < l.length:=Yi;refine⟨hp,?_⟩
 by_cases e:o7 l x=j
 ·simp only[e]
 ·have h2:=List.pairwise_iff_getElem.1 hk (o7 l x) j hp hj Yi;have h3:=zcD (x:=x) hk (o7 l x) hp (Yv _);rw[M0]at h3;unfold rz at h2 h3;unfold wz at h;omega
theorem zdq {l:List Rc} {x:Rc} (hk:Pz l):
  (zcB l x=none∧∃y∈l,wz y x∧y≠x)∨∃l',zcB l x=some l'∧Pz l'∧(∀y,y∈l'↔y=x∨y∈l)∧∀y∈l,wz y x→y=x:=by
 unfold zcB
 by_cases hp:o7 l x < l.length
 ·rw[dif_pos hp]
  by_cases hc:ul l[o7 l x] x=0
  ·rw[if_pos hc];have hs:wz l[o7 l x] x:=(zdn _ _).1 hc
   by_cases he:l[o7 l x]=x
   ·rw[if_pos he];have hx:x∈l:=by rw[←he];exact List.getElem_mem hp
    refine Or.inr ⟨l,rfl,hk,fun y=>⟨Or.inr,fun h=>h.elim (fun e=>e▸hx) id⟩,fun y hy h=>?_⟩;obtain⟨_,e⟩:=zco hk hy h;rw[←e,he]
   ·rw[if_neg he];exact Or.inl ⟨rfl,_,List.getElem_mem hp,hs,he⟩
  ·rw[if_neg hc];have hn:∀y∈l,¬wz y x:=fun y hy h=>by
    obtain⟨_,e⟩:=zco hk hy h;rw[e]at hc;exact hc ((zdn _ _).2 h)
   exact Or.inr ⟨_,rfl,zcX hk hn,zc9 l x,fun y hy h=>absurd h (hn y hy)⟩
 ·rw[dif_neg hp];have hn:∀y∈l,¬wz y x:=fun y hy h=>by
   obtain⟨h1,_⟩:=zco hk hy h;exact hp h1
  exact Or.inr ⟨_,rfl,zcX hk hn,zc9 l x,fun y hy h=>absurd h (hn y hy)⟩
theorem zdk:∀{b l:List Rc},Pz l→Pz b→
  (rr l b=none∧∃y∈l,∃x∈b,wz y x∧y≠x)∨∃m,rr l b=some m∧Pz m∧(∀y,y∈m↔y∈l∨y∈b)∧∀y∈l,∀x∈b,wz y x→y=x
 | [],l,hl,_=>Or.inr ⟨l,rfl,hl,fun y=>by simp,fun y _ x hx=>by cases hx⟩
 | x :: b,l,hl,hb=>by
  have hb':=List.pairwise_cons.1 hb;rcases zdq (x:=x) hl with ⟨h1,y,hy,h2,h3⟩ | ⟨l',h1,h2,h3,h4⟩
  ·exact Or.inl ⟨by rw[rr,h1];rfl,y,hy,x,List.mem_cons_self,h2,h3⟩
  ·have e:rr l (x :: b)=rr l' b:=by rw[rr,h1];rfl
   rw[e];rcases zdk h2 hb'.2 with ⟨k1,y,hy,z,hz,k2,k3⟩ | ⟨m,k1,k2,k3,k4⟩
   ·rcases(h3 y).1 hy with rfl | hy'
    ·have:=hb'.1 z hz;unfold rz at this;unfold wz at k2;omega
    ·exact Or.inl ⟨k1,y,hy',z,List.mem_cons_of_mem _ hz,k2,k3⟩
   ·refine Or.inr ⟨m,k1,k2,fun y=>?_,fun y hy z hz hs=>?_⟩
    ·rw[k3,h3,List.mem_cons];constructor
     ·rintro((h | h) | h)
      ·exact Or.inr (Or.inl h)
      ·exact Or.inl h
      ·exact Or.inr (Or.inr h)
     ·rintro(h | h | h)
      ·exact Or.inl (Or.inr h)
      ·exact Or.inl (Or.inl h)
      ·exact Or.inr h
    ·rcases List.mem_cons.1 hz with rfl | hz'
     ·exact h4 y hy hs
     ·exact k4 y ((h3 y).2 (Or.inr hy)) z hz' hs
end
section
def agree (x y:List Rc):Prop:=∀i (h1:i < x.length) (h2:i < y.length),x[i]=y[i]
open Classical in
end
section
open Go.RowKit Go.Shelf Go.Lib Go.Sort
theorem OrdA_no (n:Int) (v:Value) (l:List Rc) (w:World) (hn1: -1000000≤n) (hn2:n≤1000000) (hr:dr w v l) (hl:l.length≤1000000) (ht:∀x∈l,x.t.size≤100000) (hc:(decide (n=3) || decide (n=5))=true) (i e0:Int) (he:ot n l=(i,e0)) (h0:e0≠0):
  Calls prog 16 #[Yp n,v] w fun e w'=>e= .returned (.tuple #[.slice none 0 0,Yp e0])∧Gr w w':=by
 have CH:=hid (Fb n v l w hn1 hn2 hr hl ht hc);rw[he]at CH;have h1:(e0 == 0)=false:=by simpa using h0
 have h2:decide (e0=0)=false:=by simpa using h0
 clear hr ht hc he;go_enter func16,ntmps16;go_wp2_with fail;refine CH.out.mono ?_;rintro e w1 ⟨rfl,hg1⟩;go_wp2;go_ret2;exact⟨rfl,hg1⟩
theorem zcg (n:Int) (v:Value) (l:List Rc) (w:World) (hn1: -1000000≤n) (hn2:n≤1000000) (hr:dr w v l) (hl:l.length≤1000000) (ht:∀x∈l,x.t.size≤100000) (hc:(decide (n=3) || decide (n=5))=true) (he:ot n l=(0,0)):
  Calls prog 16 #[Yp n,v] w fun e w'=>∃v' l',e= .returned (.tuple #[v',Yp 0])∧l'.Perm l∧Bz l'∧w'.ownsRow w.heap.size 36 4 v' l'.length (rcs l')∧Gr w w':=by
 have CH:=hid (Fb n v l w hn1 hn2 hr hl ht hc);rw[he]at CH;have CL:=hid (fun w1 (g:Gr w w1)=>Qc v l w1 (hr.gr g) hl);have SO:=hid (fun b v' w1 h=>Yd b v' l w1 h hl);clear hr ht hc he;go_enter func16,ntmps16;go_wp2_with fail;refine CH.out.mono ?_;rintro e w1 ⟨rfl,hg1⟩;go_wp2_with fail;refine(CL.out _ hg1).mono ?_;rintro e w2 ⟨v',rfl,hr2,hg2⟩;go_wp2_with fail;refine(SO.out _ _ _ hr2).mono ?_;rintro e w3 ⟨rfl,l',hp,ho,hr3,hg3⟩;have G:Gr w w3:=GrL.gr (hg1.trans hg2) hg3 (fun i hi=>by
  have:=(hr2.lt i (by simpa using hi)).1;have:=hg1.b.size;omega)
 have hr4:=World.ownsRow.mono (base':=w.heap.size) hr3 hg1.b.size;clear hg3 hr3 hr2 hg2 SO CL CH hg1;go_wp2;go_ret2;exact⟨v',l',rfl,hp,ho,hr4,G⟩
end
section
open Go.RowKit Go.Shelf Go.Lib
theorem dr.cells {w:World} {a:Option Addr} {n cap:Nat} {l:List Rc} (h:dr w (.slice a n cap) l):n=l.length∧∀j (hj:j < l.length),∃g o,a=some ⟨g,o,none⟩∧g < w.heap.size∧
  w.cell? ⟨g,o+j * 4,none⟩=some (.int .i64 l[j].s)∧w.cell? ⟨g,o+j * 4+1,none⟩=some (.int .i64 l[j].k)∧w.cell? ⟨g,o+j * 4+2,none⟩=some (.int .i64 l[j].d)∧w.cell? ⟨g,o+j * 4+3,none⟩=some (.string l[j].t):=by
 obtain⟨a',cap',hv,hc,hr⟩:=h;injection hv with h1 h2 h3
 subst h1;exact⟨h2,hr⟩
end
section
open Go.RowKit Go.Shelf Go.Lib
theorem je (u:World) (base:Nat) (ty:TypeId) (v:Value) (L:List Rc) (hown:u.ownsRow base 36 4 v L.length (rcs L)) (sv:Value) (M:List Rc) (hs:dr u sv M) (hl:L.length+M.length≤1000000) (hb:base≤u.heap.size):
  ∃v' u',(Builtin.append_ #[22,22] ty #[v,sv]).run prog u= .ok v' u'∧u'.ownsRow base 36 4 v' (L ++ M).length (rcs (L ++ M))∧GrL v.ownBlock.toList u u':=by
 obtain⟨i0,hi,hz0,hz1,hz2⟩:=info_parts Dw;have hs0:=hs;obtain⟨a,cap,rfl,hc,hcell⟩:=hs;have key:∀(ad:Addr) (news:List Value),a=some ad→news=rcs M→(∀j x,news[j]?=some x→u.cell? (ad.add j)=some x)→
   ∃v' u',(Builtin.append_ #[22,22] ty #[v,.slice a M.length cap]).run prog u= .ok v' u'∧u'.ownsRow base 36 4 v' (L ++ M).length (rcs (L ++ M))∧GrL v.ownBlock.toList u u':=by
  intro ad news ha hn hx;subst ha;subst hn;obtain⟨v',u',h1,h2,h3,_⟩:=run_append_own (P:=prog) u base 22 ty 36 i0 _ 4 40 underlying22 hi hz0 hz1 hz2 rfl Yk v L.length (rcs L) hown ad M.length cap (rcs M) (vf M) hx (Ho M) (by unfold maxLen;omega) Yi hb;exact⟨v',u',h1,by rw[Np,List.length_append];exact h2,GrL.of_grown' h3⟩
 cases M with
 | nil=>
  cases a with
  | none=>
   obtain⟨ao,co,rfl⟩:=pt hown;have hmc:L.length≤co:=by
    rcases hown.2 with ⟨hv,hz⟩ | ⟨_,_,_,hv,_,_,hcap,_⟩
    iterate 2 ·injection hv with _ _ h;omega
   refine⟨_,u,?_,by simpa using hown,GrL.of_gr (Yu u)⟩;cases ao <;> simp[Builtin.append_,run_underlying underlying22,Tryz.sizeOf36,hmc,Builtin.lenOf,Builtin.firstCells,storeCells]
  | some ad=>exact key ad _ rfl rfl (fun j x hj=>by simp[rcs]at hj)
 | cons x M=>
  obtain⟨g,o,rfl, -⟩:=hcell 0 Yj;exact key _ _ rfl rfl (fun j x hj=>by rw[Addr.add_mid];exact dr.flat hs0 j x hj)
theorem o4 (u:World) (base:Nat) (ty:TypeId) (b:Nat) (hb0:base≤b) (hbk:u.heap[b]?=some (.cells #[] 36 (0,0))) (sv:Value) (M:List Rc) (hs:dr u sv M) (hM:M.length≤1000000) (hb:base≤u.heap.size):
  ∃v' u',(Builtin.append_ #[22,22] ty #[.slice (Yn b) 0 0,sv]).run prog u= .ok v' u'∧u'.ownsRow base 36 4 v' M.length (rcs M)∧Gr u u':=by
 obtain⟨i0,hi,hz0,hz1,hz2⟩:=info_parts Dw;have hs0:=hs;obtain⟨a,cap,rfl,hc,hcell⟩:=hs;cases M with
 | nil=>
  have own:u.ownsRow base 36 4 (.slice (Yn b) 0 0) 0 []:=⟨rfl,.inr ⟨b,0,#[],rfl,hb0,hbk,Yv _,Nat.zero_le _,rfl,rfl⟩⟩;cases a with
  | none=>
   refine⟨_,u,?_,own,Yu u⟩;simp[Builtin.append_,run_underlying underlying22,Tryz.sizeOf36,Builtin.lenOf,Builtin.firstCells,storeCells]
  | some ad=>
   have hr:=run_append_room (P:=prog) u 22 ty 36 i0 underlying22 hi b 0 0 #[] hbk ad 0 cap [] Yj (fun j x hj=>by simp at hj) (fun x hx=>by cases hx) (Yv _) Yj;simp only[List.take_nil,List.drop_nil,List.append_nil]at hr;have e:u.setRow b #[]=u:=setRow_self u b #[] 36 (0,0) hbk;rw[show([]:List Value).toArray=#[]from rfl,e]at hr;exact⟨_,u,hr,own,Yu u⟩
 | cons x M=>
  obtain⟨g,o,rfl, -⟩:=hcell 0 Yj;have hl:=vf (x :: M);have hpos:0 < (x :: M).length:=Yj;generalize x :: M=L at *;have hbytes:(0+L.length) * i0.bytes≤140737488355328:=by rw[hz2];omega
  have hr:=run_append_grow (P:=prog) u 22 ty 36 i0 _ underlying22 hi hz0 ⟨b,0,none⟩ 0 0 [] Yj (fun j v hj=>by simp at hj) ⟨g,o,none⟩ L.length cap (rcs L) (by rw[hz1];exact hl) (fun j v hj=>by rw[Addr.add_mid];exact dr.flat hs0 j v hj) Yi Yi (growslice_fits Yi hbytes);rw[Nat.zero_add]at hr;refine⟨_,_,hr,⟨hl,.inr ⟨u.heap.size,_,_,rfl,hb,heap_alloc_new u.drew _,grownCap_ge u _ _ _,grownCap_le_maxLen u _ _ _ (by unfold maxLen;omega),?_,?_⟩⟩,(Yu u).drew.alloc _⟩
  ·have hge:=grownCap_ge u L.length 0 36;simp only[Array.size_append,List.size_toArray,size_zeroCells,hl,List.length_nil];show 0+L.length * 4+(grownCap u L.length 0 36 - L.length) * 4=_;omega
  ·simp only[Array.toList_append,List.nil_append];rw[←hl];exact List.take_left
theorem Cm (w:World) (g:Nat) (x:Rc) (h:w.heap[g]?=some (.cells x.cells.toArray 36 (0,0))):dr w (.slice (Yn g) 1 1) [x]:=by
 obtain⟨c,f,z⟩:=bw h;refine⟨_,1,rfl,Yj,fun j hj=>?_⟩;obtain rfl:j=0:=by simpa using hj
 exact⟨g,0,rfl,z,c 0,c 1,c 2,c 3⟩
theorem ar {P:Program} {F:Value→World→Prop} {R:World→Prop} {o:Oper} {a:Act} {w:World} (d s:Operand) (t t':TypeId)
  (ho:o.op= .call {callee:= .builtin .append,args:=#[d,s],argTypes:=#[t,t']}) (v u:Value) (hd:a.eval d=v) (hs:a.eval s=u) {v':Value} {w':World}
  (hr:(Builtin.append_ #[t,t'] o.type #[v,u]).run P w= .ok v' w') (h:F v' w'∧R w'):ii P F R ((execOp a.eval o).run P w):=by
 unfold execOp;simp only[ho,resolve,invoke,builtin,Sem.run_bind,Sem.run_pure,Result.andThen_ok,List.map_toArray,List.map_cons,List.map_nil,hd,hs,hr];exact h
theorem dr.takeS {w:World} {a:Option Addr} {n cap:Nat} {l:List Rc} (h:dr w (.slice a n cap) l) (k:Nat) (hk:k≤l.length):dr w (.slice a k cap) (l.take k):=by
 obtain⟨a',cap',hv,hc,hr⟩:=h;injection hv with h1 h2 h3
 subst h1;subst h3;have e:(l.take k).length=k:=by rw[List.length_take];omega
 refine⟨a,cap,by rw[e],Yi,fun j hj=>?_⟩;have hj2:j < l.length:=Yi;obtain⟨g,o,r1,r2,r3⟩:=hr j hj2;refine⟨g,o,r1,r2,?_⟩;rw[List.getElem_take];exact r3
theorem dr.dropS {w:World} {g o n cap:Nat} {l:List Rc} (h:dr w (.slice (some ⟨g,o,none⟩) n cap) l) (k m:Nat) (hm:m=l.length - k) (hk:k≤l.length):dr w (.slice (some ⟨g,o+k * 4,none⟩) m (cap - k)) (l.drop k):=by
 obtain⟨a',cap',hv,hc,hr⟩:=h;injection hv with h1 h2 h3
 subst h1;subst h3;subst hm;have e:(l.drop k).length=l.length - k:=List.length_drop ..;refine⟨_,_,by rw[e],Yi,fun j hj=>?_⟩;have hj2:k+j < l.length:=Yi;obtain⟨g',o',r1,r2,r3,r4,r5,r6⟩:=hr (k+j) hj2;injection r1 with r1
 injection r1 with q1 q2
 subst q1;subst q2;refine⟨g,o+k * 4,rfl,r2,?_⟩;rw[List.getElem_drop];have e4:o+(k+j) * 4=o+k * 4+j * 4:=Yi;rw[e4]at r3 r4 r5 r6;exact⟨r3,r4,r5,r6⟩
end
end Go.Proofs.YtimcfaoabaflkaaGreatDoor
