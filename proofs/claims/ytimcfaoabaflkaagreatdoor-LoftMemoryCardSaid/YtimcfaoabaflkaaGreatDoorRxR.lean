/- RX, part 17: drawn regions. -/
import Derived.Test.YtimcfaoabaflkaaGreatDoorRxM
namespace Go.Proofs.YtimcfaoabaflkaaGreatDoor
theorem Ub {P:Prop} (h:P:=by
 have A1:=A.step P1 a1;have lv:LeavesInM (fc none) 0 Y.M.P F act1.tmps (λe w'=>∃u sg',e= .returned u/\VR sg' (Nj vs) u/\dx X sg w s sg' w' s3) act1.defers .returning w1:=by
  refine Dn hY hlv hfr1.2 a3 A1 λw2 P2=>?_;have A2:=A1.step P2 a2;obtain⟨hs,us2,e1,e2⟩:=Hk (tmps:=act1.tmps) hY.m.env hfr1.1 hres A2;obtain⟨u,h1,h2⟩:=Nk e1 e2;exact⟨u,h1,u,sg1,rfl,h2,dx.seq A P1 a1 (a2.trans a3) (dx.seq A1 P2 a2 a3 (dx.same hs.1 hs.2 A2.holds rfl rfl rfl rfl))⟩
 cases e with
 | normal=>exact lv
 | ret=>exact lv
 | exit i=>cases hend
 | goto l=>cases hend):P:=h
theorem Uc {P:Prop} (h:P:=by
 intro i x hx;rw[nu]at hx;split at hx
 ·rename_i hi;rw[Nat.sub_zero]at hx;obtain⟨u,hu,hr⟩:=hus.get i x hx;refine⟨u,?_,hr⟩;have hlt:=(List.getElem?_eq_some_iff.1 hu).1;rw[Array.getElem?_append_left (by simpa using hlt)];simpa using hu
 ·rw[T.get_nil]at hx;cases hx):P:=h
section
namespace RX
noncomputable section
structure Ent where
 s:St
 s':St
 t:T AV
 v:AV
def Gh (a b:St):St:={b with rd:=a.rd ||| b.rd,wr:=a.wr ||| b.wr}
def sb (a:St):St:={a with rd:=0,wr:=0}
def Ht (n:Nat) (t:T AV) (dst:Option Tmp) (v:AV):Option (T AV):=match dst with
 | none=>some t
 | some d=>(grd (Nat.blt d n)).bind λ_=>some (t.set d (some v))
def Nh (M:js) (ih:Ih) (n:Nat) (ops:Array Oper):List Oper->T AV->St->Option (List Ent×T AV×St)
 | [],t,s=>some ([],t,s)
 | o :: os,t,s=>(Fx M ih t ops o (sb s)).bind λp=>(Ht n t o.dst p.1).bind λt'=>(Nh M ih n ops os t' (Gh s p.2)).bind λr=>some (⟨s,p.2,t,p.1⟩ :: r.1,r.2)
def Ob (e:Ent):Lg:=⟨e.s'.rd ||| (e.s'.wr ||| lm e.s.fresh e.s'.fresh),e.s'.wr ||| lm e.s.fresh e.s'.fresh⟩
def drawn (M:js) (ih:Ih) (n:Nat) (ops:Array Oper) (t:T AV) (s:St):Option (T AV×St):=
 (static ops).bind λb=>(Nh M ih n ops ops.toList t s).bind λr=>(grd (lx (za1 b) lgSkip 0 (r.1.map Ob))).bind λ_=>some r.2
def nr (es:List Ent) (sN:St) (i:Nat):St:=match es[i]? with
 | some e=>e.s
 | none=>sN
def Lh (es:List Ent) (tN:T AV) (i:Nat):T AV:=match es[i]? with
 | some e=>e.t
 | none=>tN
def Hh (es:List Ent) (sN:St) (i:Nat):St:=match es[i]? with
 | some e=>e.s'
 | none=>sN
def vAt (es:List Ent) (i:Nat):AV:=match es[i]? with
 | some e=>e.v
 | none=> .unk
def tj (ops:Array Oper) (n:Nat) (b:T Nat) (es:List Ent) (tN:T AV) (sN:St):Run where
 N:=es.length
 st:=nr es sN
 s':=Hh es sN
 fr:=Lh es tN
 v:=vAt es
 dst:=λi=>(ops[i]?).bind (·.dst)
 looks:=λi d=>∃o,ops[i]?=some o/\d∈o.looksAt ops
 ord:=λi j=>j < es.length/\(ui b j).testBit i=true
 n0:=n
section
variable {M:js} {ih:Ih} {s s':St} {t t':T AV} {ops:Array Oper} {n:Nat}
theorem Nv {d:Nat} {dst:Option Tmp} {v:AV} (h:Ht n t dst v=some t') (hd:dst≠some d):t'.get d=t.get d:=by
 cases dst with
 | none=>obtain rfl:=Xa h;rfl
 | some e=>
  obtain⟨_,_,h⟩:=bnd h;obtain rfl:=Xa h;rw[T.get_set,if_neg (λx=>hd (by rw[x]))]
theorem zat {d:Nat} {v:AV} (h:Ht n t (some d) v=some t'):t'.get d=some v/\d < n:=by
 obtain⟨_,hd,h⟩:=bnd h;obtain rfl:=Xa h;exact⟨by rw[T.get_set,if_pos rfl],by have:=ag hd;rwa [Nat.blt_eq]at this⟩
theorem Ci:∀{os:List Oper} {t:T AV} {s:St} {es:List Ent} {tN:T AV} {sN:St},Nh M ih n ops os t s=some (es,tN,sN)->
  es.length=os.length/\nr es sN 0=s/\Lh es tN 0=t/\∀i o,os[i]?=some o->∃e,es[i]?=some e/\Fx M ih e.t ops o (sb e.s)=some (e.v,e.s')/\Ht n e.t o.dst e.v=some (Lh es tN (i+1))/\nr es sN (i+1)=Gh e.s e.s'
 | [],t,s,es,tN,sN,h=>by
  obtain⟨rfl,h2⟩:=Prod.mk.inj (Xa (show some ([],t,s)=some (es,tN,sN)from h));obtain⟨rfl,rfl⟩:=Prod.mk.inj h2;exact⟨rfl,rfl,rfl,λi o e=>by cases e⟩
 | o :: os,t,s,es,tN,sN,h=>by
  obtain⟨p,hp,h⟩:=bnd (show(Fx M ih t ops o (sb s)).bind _=some (es,tN,sN)from h);obtain⟨t',ht,h⟩:=bnd h;obtain⟨⟨es',tN',sN'⟩,hr,h⟩:=bnd h;obtain⟨rfl,h2⟩:=Prod.mk.inj (Xa h);obtain⟨rfl,rfl⟩:=Prod.mk.inj h2;obtain⟨l1,l2,l3,l4⟩:=Ci hr;refine⟨by simp[l1],rfl,rfl,λi o' ho=>?_⟩;cases i with
  | zero=>
   obtain rfl:o=o':=by simpa using ho
   exact⟨_,rfl,hp,by rw[ht];exact congrArg some l3.symm,l2⟩
  | succ i=>exact l4 i o' (by simpa using ho)
theorem zb4 {a b:St} (h:Abs (sb a) b):Abs a (Gh a b):=
 ⟨h.fresh,λc e=>by show(a.rd ||| b.rd).testBit c=true;rw[Nat.testBit_or,e];rfl,λc e=>by show(a.wr ||| b.wr).testBit c=true;rw[Nat.testBit_or,e];rfl,
  λc hc hw=>h.keep c hc (by
   change (a.wr ||| b.wr).testBit c=false at hw;rw[Nat.testBit_or]at hw;simp at hw;exact hw.2),λc e=>h.live c e⟩
theorem join_rd {a b:St} {c:Nat} (h:b.rd.testBit c=true):(Gh a b).rd.testBit c=true:=by
 show(a.rd ||| b.rd).testBit c=true;rw[Nat.testBit_or,h,Bool.or_true]
theorem join_wr {a b:St} {c:Nat} (h:b.wr.testBit c=true):(Gh a b).wr.testBit c=true:=by
 show(a.wr ||| b.wr).testBit c=true;rw[Nat.testBit_or,h,Bool.or_true]
theorem n7 {b:T Nat} {i:Nat}:∀{es:List Edge} {m m':Nat},n8 b i es m=some m'->∀e∈es,Region.binds .any e=true->e.on < i
 | [],_,_,_,e,he,_=>by cases he
 | x :: es,m,m',h,e,he,hb=>by
  unfold n8 at h;cases hx:Region.binds .any x with
  | false=>
   rw[hx]at h;rcases List.mem_cons.1 he with rfl | he
   ·rw[hx]at hb;cases hb
   ·exact n7 h e he hb
  | true=>
   rw[hx]at h;obtain⟨_,hlt,h⟩:=bnd h;rcases List.mem_cons.1 he with rfl | he
   ·have:=ag hlt;rwa [Nat.blt_eq]at this
   ·exact n7 h e he hb
theorem Aj:∀{os:List Oper} {i:Nat} {b b':T Nat},Ra os i b=some b'->∀k o,os[k]?=some o->∀e∈o.after.toList,Region.binds .any e=true->e.on < i+k
 | [],_,_,_,_,_,_,h,_,_,_=>by cases h
 | x :: os,i,b,b',h,k,o,ho,e,he,hb=>by
  obtain⟨m,hm,h⟩:=bnd (show(n8 b i x.after.toList 0).bind _=some b' from h);cases k with
  | zero=>
   obtain rfl:x=o:=by simpa using ho
   exact n7 hm e he hb
  | succ k=>
   have:=Aj h k o (by simpa using ho) e he hb;omega
theorem Ly {p q:Nat->Bool} {i:Nat}:∀(l:List Nat),(∀x∈l,q x=true->p x=true)->i∈l->p i=true->q i=false->(l.filter q).length < (l.filter p).length
 | [],_,h,_,_=>by cases h
 | x :: l,hpq,hi,hp,hq=>by
  have le:(l.filter q).length<=(l.filter p).length:=by
   clear hi
   induction l with
   | nil=>simp
   | cons y l ih=>
    have ih:=ih (λz hz=>hpq z (by
     rcases List.mem_cons.1 hz with rfl | hz
     ·exact List.mem_cons_self ..
     ·exact List.mem_cons_of_mem _ (List.mem_cons_of_mem _ hz)))
    have hy:=hpq y (List.mem_cons_of_mem _ (List.mem_cons_self ..));simp only[List.filter_cons]
    by_cases h1:q y=true
    ·rw[if_pos h1,if_pos (hy h1)];simp;exact ih
    ·rw[if_neg h1];split
     ·simp;omega
     ·exact ih
  rcases List.mem_cons.1 hi with rfl | hi
  ·simp only[List.filter_cons,hp,hq,if_true];simp;omega
  ·have lt:=Ly l (λz hz=>hpq z (List.mem_cons_of_mem _ hz)) hi hp hq;have hx:=hpq x (List.mem_cons_self ..);simp only[List.filter_cons]
   by_cases h1:q x=true
   ·rw[if_pos h1,if_pos (hx h1)];simp;exact lt
   ·rw[if_neg h1];split
    ·simp;omega
    ·exact lt
def done (listed:Array Bool) (j:Nat):Prop:=listed[j]?=some true
theorem Lt {listed:Array Bool} {i:Nat} (hi:i < listed.size) (j:Nat):done (listed.setIfInBounds i true) j↔Run.with_ (done listed) i j:=by
 unfold done Run.with_
 by_cases e:j=i
 ·subst e;simp[hi]
 ·rw[Array.getElem?_setIfInBounds_ne (Ne.symm e)];simp[e]
theorem zby (hM:M.Ok) (hA:rf M) (hmix:M.P.follows .mixedOrders=true) (hih:Js M ih) {rid:Nat} (h:drawn M ih n ops t s=some (t',s')):Abs s s'/\∀(r:Option Nat) (m:Nat) (X:Nat->Prop) (sg:Ids) (w:World) (a:Act) (Q:Exit->Act->World->Prop),
  TR sg n t a.tmps->GOk M.ng sg->Ask X sg w s s'->(∀sg' w' a',TR sg' n t' a'.tmps->a'.defers=a.defers->dx X sg w s sg' w' s'->Q .normal a' w')->(Code.region rid ops true).wpIn (fc r) m M.P Q a w:=by
 replace h:=bnd h;obtain⟨b,hst,h⟩:=h;replace h:=bnd h;obtain⟨⟨es,tN,sN⟩,hrun,h⟩:=h;replace h:=bnd h;obtain⟨_,hlg,h⟩:=h;obtain⟨rfl,rfl⟩:tN=t'/\sN=s':=Prod.mk.inj (Xa h);replace hst:=bnd hst;obtain⟨b',hmk,hst⟩:=hst;replace hst:=bnd hst;obtain⟨_,htm,hst⟩:=hst;obtain rfl:=Xa hst;have hlg:=ag hlg;have htm:=ag htm;obtain⟨l1,l2,l3,l4⟩:=Ci hrun;have hN:es.length=ops.size:=l1;have get:∀i,i < es.length->∃o e,ops[i]?=some o/\es[i]?=some e/\Fx M ih e.t ops o (sb e.s)=some (e.v,e.s')/\Ht n e.t o.dst e.v=some (Lh es tN (i+1))/\nr es sN (i+1)=Gh e.s e.s':=λi hi=>by
  have ho:ops.toList[i]?=some ops[i]:=by simp[show i < ops.size by omega]
  obtain⟨e,h1,h2,h3,h4⟩:=l4 i _ ho;exact⟨ops[i],e,by simp,h1,h2,h3,h4⟩
 have hmo:zo ops.toList b' es.length:=by
  have:=Km (all:=ops.toList) hmk (λk=>by simp) (λj hj=>by omega);rw[Nat.zero_add]at this;have e:ops.toList.length=es.length:=by simp[hN]
  rwa [e]at this
 have front:∀k o,ops[k]?=some o->∀e∈o.after.toList,Region.binds .any e=true->e.on < k:=λk o ho e he hb=>by
  have:=Aj hmk k o (by simpa using ho) e he hb;omega
 have lgs:∀i e,es[i]?=some e->(es.map Ob)[i]?=some (Ob e):=λi e he=>by rw[List.getElem?_map,he];rfl
 have wbit:∀i e,es[i]?=some e->∀c,(tj ops n b' es tN sN).W i c->(Ob e).wr.testBit c=true:=λi e he c hc=>by
  have es':Hh es sN i=e.s':=by unfold Hh;rw[he]
  have es0:nr es sN i=e.s:=by unfold nr;rw[he]
  have hi:i < es.length:=(List.getElem?_eq_some_iff.1 he).1;obtain⟨o,e',h1,h2,h3,h4,h5⟩:=get i hi;rw[he]at h2;obtain rfl:=Xa h2;show(e.s'.wr ||| lm e.s.fresh e.s'.fresh).testBit c=true;rw[Nat.testBit_or];rcases hc with hc | hc
  ·have hc:(Hh es sN i).wr.testBit c=true:=hc;rw[es']at hc;rw[hc];rfl
  ·have hc1:(nr es sN i).fresh<=c:=hc.1;have hc2:c < (nr es sN (i+1)).fresh:=hc.2;rw[es0]at hc1;rw[h5]at hc2;have hc3:c < e.s'.fresh:=hc2;rw[zc1 hc1 hc3,Bool.or_true]
 have rbit:∀i e,es[i]?=some e->∀c,(tj ops n b' es tN sN).Rd i c->(Ob e).rd.testBit c=true:=λi e he c hc=>by
  have es':Hh es sN i=e.s':=by unfold Hh;rw[he]
  show(e.s'.rd ||| (e.s'.wr ||| lm e.s.fresh e.s'.fresh)).testBit c=true;rw[Nat.testBit_or];rcases hc with hc | hc
  ·have hc:(Hh es sN i).rd.testBit c=true:=hc;rw[es']at hc;rw[hc];rfl
  ·have:=wbit i e he c hc;change (e.s'.wr ||| lm e.s.fresh e.s'.fresh).testBit c=true at this;rw[this,Bool.or_true]
 have pair:∀i j,i < j->j < es.length->∀c,((tj ops n b' es tN sN).W j c/\(tj ops n b' es tN sN).Rd i c)\/((tj ops n b' es tN sN).W i c/\(tj ops n b' es tN sN).Rd j c)->(ui b' j).testBit i=true:=λi j hij hj c hc=>by
  obtain⟨_,ei,_,hei,_⟩:=get i Yx;obtain⟨_,ej,_,hej,_⟩:=get j hj;have ri:(Ob ei).rd.testBit c=true:=hc.elim (λx=>rbit i ei hei c x.2) λx=>rbit i ei hei c (.inr x.1);have rj:(Ob ej).rd.testBit c=true:=hc.elim (λx=>rbit j ej hej c (.inr x.1)) λx=>rbit j ej hej c x.2;rcases o5 hlg i j _ _ hij (lgs i ei hei) (lgs j ej hej)with hs | hp
  ·have:=Nat.eq_of_beq_eq_true hs;rw[this]at ri;simp at ri
  ·rw[Nat.zero_add,Nat.zero_add]at hp;unfold za1 at hp;split at hp
   ·rename_i h0;have:=Nat.eq_of_beq_eq_true h0;rw[this]at rj;simp at rj
   ·split at hp
    ·rename_i ha;unfold R4 at ha;split at ha
     ·rename_i ha1;rcases hc with hc | hc
      ·exact(zaN ha (wbit j ej hej c hc.1) ri).elim
      ·exact(zaN ha1 (wbit i ei hei c hc.1) rj).elim
     ·cases ha
    ·exact hp
 have tpair:∀i j oi oj,i < j->ops[i]?=some oi->ops[j]?=some oj->(ui b' j).testBit i=true\/oi.apart ops oj=true:=λi j oi oj hij hoi hoj=>by
  rcases o5 htm i j oi oj hij (by simpa using hoi) (by simpa using hoj)with hs | hp
  ·cases hs
  ·rw[Nat.zero_add,Nat.zero_add]at hp;unfold Zs at hp;split at hp
   ·rename_i h0;exact .inl h0
   ·exact .inr hp
 let R:=tj ops n b' es tN sN
 have stE:∀i e,es[i]?=some e->R.st i=e.s:=λi e he=>by show nr es sN i=e.s;unfold nr;rw[he]
 have stE':∀i e,es[i]?=some e->R.s' i=e.s':=λi e he=>by show Hh es sN i=e.s';unfold Hh;rw[he]
 have frE:∀i e,es[i]?=some e->R.fr i=e.t:=λi e he=>by show Lh es tN i=e.t;unfold Lh;rw[he]
 have vE:∀i e,es[i]?=some e->R.v i=e.v:=λi e he=>by show vAt es i=e.v;unfold vAt;rw[he]
 have dE:∀i o,ops[i]?=some o->R.dst i=o.dst:=λi o ho=>by show(ops[i]?).bind (·.dst)=o.dst;rw[ho];rfl
 have hOk:R.Ok:=by
  refine⟨?_,?_,?_,?_,?_,?_,?_,?_⟩
  ·intro i hi;obtain⟨o,e,h1,h2,h3,h4,h5⟩:=get i hi;rw[stE' i e h2];show _=(nr es sN (i+1)).heap;rw[h5];rfl
  ·intro i hi;obtain⟨o,e,h1,h2,h3,h4,h5⟩:=get i hi;rw[stE' i e h2];show _=(nr es sN (i+1)).fresh;rw[h5];rfl
  ·intro i hi;obtain⟨o,e,h1,h2,h3,h4,h5⟩:=get i hi;have:=(uu hM hA hih h1 h3).1;show Abs {R.st i with rd:=0,wr:=0} (R.s' i);rw[stE i e h2,stE' i e h2];exact this
  ·intro i hi d hd;obtain⟨o,e,h1,h2,h3,h4,h5⟩:=get i hi;rw[frE i e h2];rw[dE i o h1]at hd;exact Nv h4 hd
  ·intro i hi d hd;obtain⟨o,e,h1,h2,h3,h4,h5⟩:=get i hi;rw[dE i o h1]at hd;rw[hd]at h4;rw[vE i e h2];exact zat h4
  ·intro i j hi hj hij c hw hr;rcases Nat.lt_or_gt_of_ne hij with e | e
   ·exact .inl ⟨hj,pair i j e hj c (.inl ⟨hw,hr⟩)⟩
   ·exact .inr ⟨hi,pair j i e hi c (.inr ⟨hw,hr⟩)⟩
  ·intro i j hi hj hij d hdj hd;obtain⟨oi,ei,hoi,_⟩:=get i hi;obtain⟨oj,ej,hoj,_⟩:=get j hj;rw[dE j oj hoj]at hdj;have hd':d∈oi.looksAt ops\/oi.dst=some d:=by
    rcases hd with ⟨o,ho,hl⟩ | hd
    ·rw[hoi]at ho;obtain rfl:=Xa ho;exact .inl hl
    ·rw[dE i oi hoi]at hd;exact .inr hd
   rcases Nat.lt_or_gt_of_ne hij with e | e
   ·rcases tpair i j oi oj e hoi hoj with h1 | h1
    ·exact .inl ⟨hj,h1⟩
    ·obtain⟨a1,a2,a3⟩:=Oper.apart_spec h1;rcases hd' with h2 | h2
     ·exact absurd h2 (a3 d hdj)
     ·exact absurd hdj (a2 d h2)
   ·rcases tpair j i oj oi e hoj hoi with h1 | h1
    ·exact .inr ⟨hi,h1⟩
    ·obtain⟨a1,a2,a3⟩:=Oper.apart_spec h1;rcases hd' with h2 | h2
     ·exact absurd h2 (a1 d hdj)
     ·exact absurd h2 (a2 d hdj)
  ·intro i j hij;exact hmo.lt j hij.1 i hij.2
 have absAt:∀k i,i+k=es.length->Abs (nr es sN i) sN:=by
  intro k
  induction k with
  | zero=>
   intro i hi;have:nr es sN i=sN:=by unfold nr;rw[List.getElem?_eq_none Yx]
   rw[this];exact Abs.refl _
  | succ k ih'=>
   intro i hi;obtain⟨o,e,h1,h2,h3,h4,h5⟩:=get i Yx;have a1:=(uu hM hA hih h1 h3).1;have a2:=ih' (i+1) Yx;rw[h5]at a2;have:nr es sN i=e.s:=by unfold nr;rw[h2]
   rw[this];exact(zb4 a1).trans a2
 have aAll:Abs s sN:=by have:=absAt es.length 0 Yx;rwa [l2]at this
 have logN:∀j c,j < es.length->((R.s' j).rd.testBit c=true->sN.rd.testBit c=true)/\((R.s' j).wr.testBit c=true->sN.wr.testBit c=true):=λj c hj=>by
  obtain⟨o,e,h1,h2,h3,h4,h5⟩:=get j hj;have a2:=absAt (es.length - (j+1)) (j+1) Yx;rw[h5]at a2;rw[stE' j e h2];exact⟨λhb=>a2.rd c (join_rd hb),λhb=>a2.wr c (join_wr hb)⟩
 refine⟨aAll,λr m X sg w a Q htr hg A hQ=>wpIn_region_any hmix ?_⟩;have st0:R.st 0=s:=l2;have stN:R.st R.N=sN:=by show nr es sN es.length=sN;unfold nr;rw[List.getElem?_eq_none (Xc _)]
 have frN:R.fr R.N=tN:=by show Lh es tN es.length=tN;unfold Lh;rw[List.getElem?_eq_none (Xc _)]
 have fr0:R.fr 0=t:=l3;have hS0:R.Start X sg {w with drawn:=w.drawn+1}:=by
  refine⟨by rw[st0];exact⟨A.holds.cell,A.holds.inj⟩,by rw[st0];exact A.wf,λj c hj hc ha=>?_,λc h1 h2=>?_⟩
  ·rw[st0]at ha;exact A.foot c (hc.elim (λx=> .inl ((logN j c hj).1 x)) λx=> .inr ((logN j c hj).2 x)) ha
  ·rw[st0]at h1;rw[stN]at h2;exact A.new c h1 h2
 have main:∀(fuel:Nat) (listed:Array Bool) (sg':Ids) (w':World) (a':Act),listed.size=es.length->(∀j o,done listed j->ops[j]?=some o->∀e∈o.after.toList,Region.binds .any e=true->done listed e.on)->
   ((List.range es.length).filter λj=> !listed.getD j true).length<=fuel->R.Inv X sg {w with drawn:=w.drawn+1} a (done listed) sg' w' a'->wpAnyIn (fc r) m M.P .any ops Q fuel listed a' w':=by
  intro fuel;have stop:∀(listed:Array Bool) (sg':Ids) (w':World) (a':Act),(∀j,j < es.length->done listed j)->R.Inv X sg {w with drawn:=w.drawn+1} a (done listed) sg' w' a'->Q .normal a' w':=by
   intro listed sg' w' a' hall I;have ch:∀c,R.curH (done listed) c=sN.heap.get c:=λc=>by
    rw[<-stN];exact oo (λj hj hw=>hOk.keepH hS0.wf hj hw) (λj hj _=>hall j hj) R.N (Xc _) λj h1 h2 _=>by omega
   have ct:∀d,R.curT (done listed) d=tN.get d:=λd=>by
    rw[<-frN];exact oo (W:=λi d=>R.dst i=some d) (val:=λi d=>(R.fr i).get d) (λj hj hw=>hOk.frame j hj d hw) (λj hj _=>hall j hj) R.N (Xc _) λj h1 h2 _=>by omega
   have lv:∀c,fk X s sN c->R.Live X (done listed) c:=λc hc=>by
    refine⟨?_,by rw[ch];exact hc.2⟩;rcases hc.1 with h1 | h1
    ·exact .inl h1
    ·have ha:(R.st R.N).alive c:=by rw[stN];exact hc.2
     rcases hOk.live R.N (Xc _) c ha with h2 | ⟨j,hj,h2⟩
     ·rw[st0]at h2;exact absurd (A.wf c h2) (Nat.not_lt.2 h1.1)
     ·exact .inr ⟨j,hj,hall j hj,h2⟩
   refine hQ sg' w' a' ⟨I.tsize,λd v hv=>I.tmps d v (by rw[ct];exact hv)⟩ I.defers ?_;refine⟨I.ext,λc p e=>?_,λc p h1 h2 e=>?_,⟨λc hc=>?_,λc d p hc hd=>I.inj c d p (lv c hc) (lv d hd)⟩,I.size,I.os,I.tape,I.output,λp hp hc=>?_⟩
   ·rcases I.dom c p e with h1 | ⟨j,hj,_,h1⟩
    ·exact .inl h1
    ·refine .inr ⟨?_,?_⟩
     ·have:=hOk.mono 0 j (Nat.zero_le _) (Nat.le_of_lt hj);rw[st0]at this;exact Nat.le_trans this h1.1
     ·have:=hOk.mono (j+1) R.N hj (Xc _);rw[stN]at this;exact Nat.lt_of_lt_of_le h1.2 this
   ·-- who made it
    have made:∀k,k<=es.length->c < (R.st k).fresh->∃j,j < k/\R.made j c:=by
     intro k
     induction k with
     | zero=>intro _ hk;rw[st0]at hk;omega
     | succ k ihk=>
      intro hk hc
      by_cases hck:c < (R.st k).fresh
      ·obtain⟨j,hj,hm⟩:=ihk Yx hck;exact⟨j,Yx,hm⟩
      ·exact⟨k,Nat.lt_succ_self k,Yx,hc⟩
    obtain⟨j,hj,hm⟩:=made es.length (Xc _) (by
     have:(R.st es.length).fresh=sN.fresh:=congrArg St.fresh stN;rw[this];exact h2)
    rcases I.new c p j hj (hall j hj) hm e with h3 | ⟨c',h3,⟨j',hj',_,h4⟩,h5,h6⟩
    ·exact .inl h3
    ·refine .inr ⟨c',h3,(logN j' c' hj').2 h4,h5,λha=>?_⟩;rw[ch]at h6;unfold St.alive at ha;rw[h6]at ha;cases ha
   ·obtain⟨k,p,o,h1,h2⟩:=I.cell c (lv c hc);exact⟨k,p,o,by rw[<-ch];exact h1,h2⟩
   ·exact I.frame p hp λc hx ⟨j,hj,_,hw⟩=>hc c hx ((logN j c hj).2 hw)
  induction fuel with
  | zero=>
   intro listed sg' w' a' hsz hcl hleft I;have hall:∀j,j < es.length->done listed j:=λj hj=>by
    have h0:(List.range es.length).filter (λj=> !listed.getD j true)=[]:=List.eq_nil_of_length_eq_zero (Nat.le_zero.1 hleft);have:=List.filter_eq_nil_iff.1 h0 j (List.mem_range.2 hj);have hlt:j < listed.size:=Yx;simp[Array.getD_eq_getD_getElem?,hlt]at this;unfold done;simp[hlt,this]
   refine⟨?_,stop listed sg' w' a' hall I⟩;cases hr:Region.ready .any ops listed with
   | nil=>rfl
   | cons x xs=>
    have hx:x∈Region.ready .any ops listed:=by rw[hr];exact List.mem_cons_self ..
    obtain⟨h1,o,ho,_⟩:=mem_ready.1 hx;have hlt:x < es.length:=by rw[hN];exact(Array.getElem?_eq_some_iff.1 ho).1
    have:=hall x hlt;unfold done at this;rw[Array.getD_eq_getD_getElem?,this]at h1;cases h1
  | succ fuel ihf=>
   intro listed sg' w' a' hsz hcl hleft I;refine⟨λhr=>?_,λi hi=>?_⟩
   ·refine stop listed sg' w' a' (λj=>?_) I
    induction j using Nat.strongRecOn with
    | _ j ihj=>
     intro hj;obtain⟨o,e,h1,h2,_⟩:=get j hj;cases hl:listed.getD j true with
     | true=>
      have hlt:j < listed.size:=Yx;simp[Array.getD_eq_getD_getElem?,hlt]at hl;unfold done;simp[hlt,hl]
     | false=>
      have:j∈Region.ready .any ops listed:=mem_ready.2 ⟨hl,o,h1,λe he hb=>by
       have hlt:=front j o h1 e (by simpa using he) hb;have:=ihj e.on hlt Yx;unfold done at this;rw[Array.getD_eq_getD_getElem?,this];rfl⟩
      rw[hr]at this;cases this
   ·obtain⟨h1,o,ho,hpre⟩:=mem_ready.1 hi;have hlt:i < es.length:=by rw[hN];exact(Array.getElem?_eq_some_iff.1 ho).1
    have hltl:i < listed.size:=Yx;have hnd:¬done listed i:=λhd=>by
     unfold done at hd;rw[Array.getD_eq_getD_getElem?,hd]at h1;cases h1
    have hcl':∀j o,done listed j->ops.toList[j]?=some o->∀e∈o.after.toList,Region.binds .any e=true->done listed e.on:=λj o hj ho=>hcl j o hj (by simpa using ho);have hpre':∀o',ops.toList[i]?=some o'->∀e∈o'.after.toList,Region.binds .any e=true->done listed e.on:=λo' ho' e he hb=>by
     have ho':ops[i]?=some o':=by simpa using ho'
     rw[ho]at ho';obtain rfl:=Xa ho';have:=hpre e (by simpa using he) hb;have hlt':=front i o ho e he hb;have hlt2:e.on < listed.size:=Yx;unfold done;simp[Array.getD_eq_getD_getElem?,hlt2]at this;simp[hlt2,this]
    have hnext:R.Next (done listed) i:=⟨hlt,hnd,λj hj=>hmo.pre hcl' hlt hpre' j hj.2,λj hj hij=>hnd (hmo.closed hcl' j hij.1 hj i hij.2)⟩;obtain⟨o',e,ho',he,hstep,hput,hs5⟩:=get i hlt;rw[ho]at ho';obtain rfl:=Xa ho';have law:=(uu hM hA hih ho hstep).2;have hask:=I.ask hOk hS0 hnext;have hask':Ask (R.Xi i) sg' w' (sb e.s) e.s':=by
     have e1:R.t i=sb e.s:=by show sb (R.st i)=_;rw[stE i e he]
     rw[e1,stE' i e he]at hask;exact hask
    refine law r m (R.Xi i) sg' w' a' _ Q (λd hd v hv=>?_) (hg.mono I.ext) hask' λsg2 w2 u hu hP=>?_
    ·refine I.tmps d v ?_;rw[Run.curT_next hOk hnext ⟨o,ho,hd⟩,frE i e he];exact hv
    ·have hstep2:=I.step (a:=a') hOk hS0 hnext (u:=u) (by rw[vE i e he];exact hu) (by
      have e1:R.t i=sb e.s:=by show sb (R.st i)=_;rw[stE i e he]
      rw[e1,stE' i e he];exact hP)
     rw[dE i o ho]at hstep2;have hiff:Run.with_ (done listed) i=done (listed.setIfInBounds i true):=funext λj=>propext (Lt hltl j).symm;rw[hiff]at hstep2;refine ihf _ sg2 w2 _ (by simpa using hsz) (λj o2 hj ho2 e2 he2 hb2=>?_) ?_ hstep2
     ·rw[Lt hltl]at hj ⊢;rcases hj with hj | hj
      ·exact .inl (hcl j o2 hj ho2 e2 he2 hb2)
      ·subst hj;exact .inl (hpre' o2 (by simpa using ho2) e2 he2 hb2)
     ·have:=Ly (p:=λj=> !listed.getD j true) (q:=λj=> !(listed.setIfInBounds i true).getD j true) (i:=i) (List.range es.length) (λx hx hq=>by
       have hx:=List.mem_range.1 hx
       by_cases hxi:x=i
       ·subst hxi;simp[h1]
       ·simp only[Array.getD_eq_getD_getElem?]at hq ⊢
        rwa [Array.getElem?_setIfInBounds_ne (Ne.symm hxi)]at hq) (List.mem_range.2 hlt) (by simp[h1]) (by simp[Array.getD_eq_getD_getElem?,hltl])
      omega
 refine main ops.size (Array.replicate ops.size false) sg _ a (by simp[hN]) (λj o hj=>?_) ?_ ?_
 ·unfold done at hj;rw[Array.getElem?_replicate]at hj;split at hj <;> cases hj
 ·rw[<-hN];exact Nat.le_trans (List.length_filter_le _ _) Yy
 ·have nodone:∀j,¬done (Array.replicate ops.size false) j:=λj hj=>by
   unfold done at hj;rw[Array.getElem?_replicate]at hj;split at hj <;> cases hj
  have ch:∀c,R.curH (done (Array.replicate ops.size false)) c=s.heap.get c:=λc=>by
   rw[<-st0];exact oo (λj hj _=>by omega) (λj hj _=>by omega) R.N (Nat.zero_le _) λj _ _ hS=>absurd hS (nodone j)
  have ct:∀d,R.curT (done (Array.replicate ops.size false)) d=t.get d:=λd=>by
   rw[<-fr0];exact oo (W:=λi d=>R.dst i=some d) (val:=λi d=>(R.fr i).get d) (λj hj _=>by omega) (λj hj _=>by omega) R.N (Nat.zero_le _) λj _ _ hS=>absurd hS (nodone j)
  have lv:∀c,R.Live X (done (Array.replicate ops.size false)) c->X c:=λc hc=>hc.1.elim id fun⟨j,_,hj,_⟩=>absurd hj (nodone j);refine⟨Ext.refl _,λ_ _ e=> .inl e,λc hc=>?_,λc d p hc hd=>A.holds.inj c d p (lv c hc) (lv d hd),λc p j _ hj=>absurd hj (nodone j),Xc _,rfl,rfl,rfl,λ_ _ _=>rfl,λd v hv=>htr.2 d v (by rw[<-ct];exact hv),htr.1,rfl⟩;obtain⟨k,p,o,h1,h2⟩:=A.holds.cell c (lv c hc);exact⟨k,p,o,by rw[ch];exact h1,h2⟩
end
end
end RX
end
section
namespace RX
noncomputable section
section
variable {M:js} {ih:Ih} {s s':St} {ops:Array Oper}
def Jk:Op->Option Call
 | .defer c=>some c
 | _=>none
theorem Jj {o:Op} {c:Call} (h:Jk o=some c):o= .defer c:=by
 cases o <;> first | (cases h;done) | (obtain rfl:=Xa h;rfl)
def Qw:Option (Nat×Bool)->Option Unit
 | none=>some ()
 | some _=>none
theorem Hy {g:Option (Nat×Bool)} {u:Unit} (h:Qw g=some u):g=none:=by
 cases g <;> first | rfl | (cases h;done)
def Pn:Out->Option (FuncId×Nat)
 | .defer f k _=>some (f,k)
 | _=>none
def xx (M:js) (ih:Ih) (idle:FuncId->Nat->Bool) (rd:Bool) (ops:Array Oper):List Oper->Fr->St->Option (Fr×St)
 | [],fr,s=>some (fr,s)
 | o :: os,fr,s=>match Jk o.op with
  | some _=>(grd (!rd)).bind λ_=>(Qw o.guard).bind λ_=>(opA M (rho M fr.t) o.op s).bind λout=>(Pn out).bind λf=>(grd (idle f.1 f.2)).bind λ_=>(Ht fr.n fr.t o.dst (.tup [])).bind λt'=>xx M ih idle rd ops os ⟨fr.n,t',.idle f.1 f.2 :: fr.df⟩ s
  | none=>(Fx M ih fr.t ops o s).bind λp=>(Ht fr.n fr.t o.dst p.1).bind λt'=>xx M ih idle rd ops os ⟨fr.n,t',fr.df⟩ p.2
def zb1 (a:Array Value) (dst:Option Tmp) (u:Value):Array Value:=match dst with
 | some d=>a.setIfInBounds d u
 | none=>a
theorem Qn {sg:Ids} {n:Nat} {t t':T AV} {a:Array Value} {dst:Option Tmp} {v:AV} {u:Value} (h:Ht n t dst v=some t') (hr:TR sg n t a) (hv:VR sg v u):TR sg n t' (zb1 a dst u):=by
 cases dst with
 | none=>obtain rfl:=Xa h;exact hr
 | some d=>
  obtain⟨_,hd,h⟩:=bnd h;obtain rfl:=Xa h;exact hr.put (by have:=ag hd;rwa [Nat.blt_eq]at this) hv
theorem Kf (a:Act) (dst:Option Tmp) (u:Value):(a.put dst u).tmps=zb1 a.tmps dst u:=by cases dst <;> rfl
theorem Cr (a:Act) (dst:Option Tmp) (u:Value):(a.put dst u).defers=a.defers:=by cases dst <;> rfl
theorem FrR.put {sg:Ids} {fr:Fr} {a:Act} {dst:Option Tmp} {v:AV} {u:Value} {t':T AV} (h:Ht fr.n fr.t dst v=some t') (hr:FrR sg fr a) (hv:VR sg v u):FrR sg ⟨fr.n,t',fr.df⟩ (a.put dst u):=
 ⟨by rw[Kf];exact Qn h hr.1 hv,by rw[Cr];exact hr.2⟩
theorem xw (hM:M.Ok) (hA:rf M) (hih:Js M ih) {idle:FuncId->Nat->Bool} {rd:Bool}:∀{os:List Oper} {i:Nat} {fr fr':Fr} {s s':St},xx M ih idle rd ops os fr s=some (fr',s')->(∀k,os[k]?=ops[i+k]?)->Abs s s'/\
  ∀(r:Option Nat),(rd=false->r=none)->∀(m:Nat) (X:Nat->Prop) (sg:Ids) (w:World) (a:Act) (Q:Exit->Act->World->Prop),FrR sg fr a->GOk M.ng sg->Ask X sg w s s'->(∀sg' w' a',FrR sg' fr' a'->dx X sg w s sg' w' s'->Q .normal a' w')->wpOpsIn (fc r) m M.P ops Q (List.range' i os.length) a w
 | [],i,fr,fr',s,s',h,_=>by
  obtain⟨rfl,rfl⟩:=Prod.mk.inj (Xa (show some (fr,s)=some (fr',s')from h));exact⟨Abs.refl _,λr _ m X sg w a Q hfr hg A hQ=>hQ sg w a hfr (dx.refl A.holds)⟩
 | o :: os,i,fr,fr',s,s',h,hk=>by
  have ho:ops[i]?=some o:=by have:=hk 0;simpa using this.symm
  have hk':∀k,os[k]?=ops[i+1+k]?:=λk=>by
   have:=hk (k+1);simp only[List.getElem?_cons_succ]at this;rw[this];congr 1;omega
  unfold xx at h;cases hd:Jk o.op with
  | some c=>
   rw[hd]at h;replace h:=bnd h;obtain⟨_,hrd,h⟩:=h;replace h:=bnd h;obtain⟨_,hng,h⟩:=h;replace h:=bnd h;obtain⟨out,hout,h⟩:=h;replace h:=bnd h;obtain⟨f,hf,h⟩:=h;replace h:=bnd h;obtain⟨_,hid,h⟩:=h;replace h:=bnd h;obtain⟨t',ht,h⟩:=h;obtain⟨a2,law⟩:=xw hM hA hih h hk';have hop:=Jj hd;have hdo:out= .defer f.1 f.2 s:=by
    have hout':=hout;rw[hop]at hout';obtain⟨f',k',rfl⟩:=Gc hout';obtain rfl:=Xa hf;rfl
   subst hdo;refine⟨a2,λr hr m X sg w a Q hfr hg A hQ=>?_⟩;have hr0:r=none:=hr (by have:=ag hrd;simpa using this);subst hr0;simp only[List.length_cons,List.range'_succ];rw[wpOpsIn_cons];unfold wpOpIn;rw[ho];dsimp only;have hw:Region.wanted o (yielded ops a.tmps)=true:=by unfold Region.wanted;rw[Hy hng]
   rw[hw,if_pos rfl];refine⟨λ_ _=>trivial,?_⟩;have key:=zaG (X:=X) (sg:=sg) (w:=w) hM o (by rw[Kh];exact hout) (Qr (ops:=ops) (hfr.looks _) hg) (show Ask X sg w s s from⟨A.holds,A.wf,λb hb ha=>A.foot b (hb.elim (λx=> .inl (a2.rd b x)) λx=> .inr (a2.wr b x)) ha,λb h1 h2=>absurd h2 (Nat.not_lt.2 h1)⟩);obtain⟨_,cap,args,e1,e2⟩:=key;rw[Oper.semAt_none,e1];refine law none (λ_=>rfl) m X sg w _ Q ⟨?_,?_⟩ hg A hQ
   ·show TR sg fr.n t' (Act.put _ _ _).tmps;rw[Kf];exact Qn ht hfr.1 ⟨[],rfl,rfl⟩
   ·show DR sg (.idle f.1 f.2 :: fr.df) (Act.put _ _ _).defers;rw[Cr];exact⟨cap,args,a.defers,rfl,e2,hfr.2⟩
  | none=>
   rw[hd]at h;replace h:=bnd h;obtain⟨⟨v,s1⟩,hs,h⟩:=h;replace h:=bnd h;obtain⟨t',ht,h⟩:=h;obtain⟨a2,law⟩:=xw hM hA hih h hk';obtain⟨a1,law1⟩:=uu hM hA hih ho hs;refine⟨a1.trans a2,λr hr m X sg w a Q hfr hg A hQ=>?_⟩;simp only[List.length_cons,List.range'_succ];rw[wpOpsIn_cons];refine law1 r m X sg w a _ Q (hfr.looks _) hg (A.left a2) λsg1 w1 u hu P1=>?_;refine law r hr m _ sg1 w1 _ Q (FrR.put ht (hfr.mono P1.ext) hu) (hg.mono P1.ext) (A.step P1 a1) λsg2 w2 a2' hfr2 P2=>?_;exact hQ sg2 w2 a2' hfr2 (dx.seq A P1 a1 a2 P2)
def LW (F:Fence) (n:Nat) (P:Program) (c:Code) (Q:Exit->Act->World->Prop):Nat->Act->World->Prop
 | 0,_,_=>False
 | m+1,a,w=>c.wpIn F n P (Exit.then (LW F n P c Q m) Q) a w
theorem Sg {K K':Act->World->Prop} {Q:Exit->Act->World->Prop} (h:∀a w,K a w->K' a w):∀e a w,Exit.then K Q e a w->Exit.then K' Q e a w:=λe a w he=>by
 cases e <;> first | exact h a w he | exact he
theorem Kw {p:Nat->Prop} (h:∃m,p m):∃m,p m/\∀k,p k->m<=k:=by
 obtain⟨m,hm⟩:=h
 induction m using Nat.strongRecOn with
 | _ m ih=>
  by_cases hk:∃k,k < m/\p k
  ·obtain⟨k,h1,h2⟩:=hk;exact ih k h1 h2
  ·exact⟨m,hm,λk hp=>Nat.le_of_not_lt λhlt=>hk ⟨k,hlt,hp⟩⟩
theorem loop_of {F:Fence} {n:Nat} {P:Program} {c:Code} {Q:Exit->Act->World->Prop} {m:Nat} {a:Act} {w:World} (h:LW F n P c Q m a w):(Code.loop c).wpIn F n P Q a w:=by
 classical
 let μ:Act->World->Nat:=λa w=>if h:∃m,LW F n P c Q m a w then(Kw h).choose else 0
 refine wpIn_loop (λa w=>∃m,LW F n P c Q m a w) μ ⟨m,h⟩ λa w hI=>?_;have e:μ a w=(Kw hI).choose:=dif_pos hI;have hm:=(Kw hI).choose_spec.1;rw[<-e]at hm;cases hμ:μ a w with
 | zero=>rw[hμ]at hm;exact hm.elim
 | succ k=>
  rw[hμ]at hm;refine wpIn_mono hm (Sg λa' w' hk=>⟨⟨k,hk⟩,?_⟩);have hI':∃m,LW F n P c Q m a' w':=⟨k,hk⟩;have:μ a' w'<=k:=by
   show(if h:∃m,LW F n P c Q m a' w' then(Kw h).choose else 0)<=k;rw[dif_pos hI'];exact(Kw hI').choose_spec.2 k hk
  omega
def Py (M:js) (ih:Ih) (k:Nat):Prop:=∀rd fr c s e fr' s',ih.loop rd fr c s=some (e,fr',s')->Abs s s'/\∀(r:Option Nat),(rd=false->r=none)->∀(n:Nat) (X:Nat->Prop) (sg:Ids) (w:World) (a:Act) (Q:Exit->Act->World->Prop),FrR sg fr a->GOk M.ng sg->Ask X sg w s s'->
  (∀sg' w' a',FrR sg' fr' a'->dx X sg w s sg' w' s'->Q (Fq e) a' w')->LW (fc r) n M.P c Q k a w
def stepL (ih:Ih) (rd:Bool) (fr:Fr) (c:Code) (s:St):Option (Ex×Fr×St):=(ih.code rd fr c s).bind λr=>match r.1 with
 | .normal=>ih.loop rd r.2.1 c r.2.2
 | _=>some r
theorem Ce {K:Act->World->Prop} {Q:Exit->Act->World->Prop} {e:Ex} {a:Act} {w:World} (he:e≠.normal) (h:Q (Fq e) a w):Exit.then K Q (Fq e) a w:=by
 cases e <;> first | (exact absurd rfl he) | exact h
theorem Z3 (hih:Js M ih) {k:Nat} (hl:Py M ih k) {rd:Bool} {fr fr':Fr} {c:Code} {e:Ex} (h:stepL ih rd fr c s=some (e,fr',s')):Abs s s'/\∀(r:Option Nat),(rd=false->r=none)->∀(n:Nat) (X:Nat->Prop) (sg:Ids) (w:World) (a:Act) (Q:Exit->Act->World->Prop),FrR sg fr a->GOk M.ng sg->Ask X sg w s s'->
  (∀sg' w' a',FrR sg' fr' a'->dx X sg w s sg' w' s'->Q (Fq e) a' w')->LW (fc r) n M.P c Q (k+1) a w:=by
 replace h:=bnd h;obtain⟨⟨e1,fr1,s1⟩,hc,h⟩:=h;obtain⟨a1,law1⟩:=hih.code _ _ _ _ _ _ _ hc
 by_cases hn:e1= .normal
 ·subst hn;obtain⟨a2,law2⟩:=hl _ _ _ _ _ _ _ h;refine⟨a1.trans a2,λr hr n X sg w a Q hfr hg A hQ=>?_⟩;refine law1 r hr n X sg w a _ hfr hg (A.left a2) λsg1 w1 act1 hfr1 P1=>?_;exact law2 r hr n _ sg1 w1 act1 Q hfr1 (hg.mono P1.ext) (A.step P1 a1) λsg2 w2 act2 hfr2 P2=>hQ sg2 w2 act2 hfr2 (dx.seq A P1 a1 a2 P2)
 ·have h2:e1=e/\fr1=fr'/\s1=s':=by
   cases e1 <;> first | (exact absurd rfl hn) | (obtain⟨q1,q2⟩:=Prod.mk.inj (Xa h);exact⟨q1,Prod.mk.inj q2⟩)
  obtain⟨rfl,rfl,rfl⟩:=h2;refine⟨a1,λr hr n X sg w a Q hfr hg A hQ=>?_⟩;exact law1 r hr n X sg w a _ hfr hg A λsg1 w1 act1 hfr1 P1=>Ce hn (hQ sg1 w1 act1 hfr1 P1)
end
end
end RX
end
section
namespace RX
noncomputable section
structure Sys where
 M:js
 idle:FuncId->Nat->Bool
 summ:FuncId->Option (List AV->St->Option (AV×St))
def P9 (P:Program) (f:FuncId) (k:Nat):Prop:=∀(args:Array Value) (w:World),args.size=k->(callFunc f args).run P w= .ok (.enter f args) w/\∀m,CallsDIn (fc none) m P f args .returning w λe u' w'=>(∃v,e= .returned v)/\u'= .returning/\w'=w
def Fc (M:js) (f:FuncId) (args:List AV) (s:St) (v:AV) (s':St):Prop:=Abs s s'/\∀(X:Nat->Prop) (sg:Ids) (w:World) (us:List Value),VRs sg args us->GOk M.ng sg->Ask X sg w s s'->Calls M.P f ⟨us⟩ w λe w'=>∃u sg',e= .returned u/\VR sg' v u/\dx X sg w s sg' w' s'
structure Sys.Ok (Y:Sys):Prop where
 m:Y.M.Ok
 abs:rf Y.M
 mix:Y.M.P.follows .mixedOrders=true
 idle:∀f k,Y.idle f k=true->P9 Y.M.P f k
 summ:∀f g,Y.summ f=some g->∀args s v s',g args s=some (v,s')->Fc Y.M f args s v s'
def Gx:Blk->Option Unit
 | .defers=>some ()
 | _=>none
theorem E5 {k:Blk} {u:Unit} (h:Gx k=some u):k= .defers:=by cases k <;> first | rfl | (cases h;done)
def ue (idle:FuncId->Nat->Bool):List Df->St->Option St
 | [],s=>some s
 | .idle f k :: ds,s=>(grd (idle f k)).bind λ_=>ue idle ds s
 | .mark b :: ds,s=>(s.heap.get b).bind λk=>(Gx k).bind λ_=>ue idle ds (s.kill b)
def Nm (E:Env) (t:T AV):List ResultVar->St->Option (List AV×St)
 | [],s=>some ([],s)
 | .tmp d :: l,s=>(t.get d).bind λv=>(Nm E t l s).bind λr=>some (v :: r.1,r.2)
 | .cell a ty :: l,s=>(t.get a).bind λp=>(Kt E ty p s).bind λq=>(Nm E t l q.2).bind λr=>some (q.1 :: r.1,r.2)
def Nj:List AV->AV
 | [v]=>v
 | l=> .tup l
def isEnd:Ex->Option Unit
 | .normal=>some ()
 | .ret=>some ()
 | _=>none
def Z5 (Y:Sys) (ih:Ih) (f:FuncId) (args:List AV) (s:St):Option (AV×St):=match Y.summ f with
 | some g=>g args s
 | none=>(Y.M.fn f).bind λF=>F.body.bind λc=>(ih.code false ⟨args.length+(F.ntmps - args.length),setCells .nil 0 args,[]⟩ c s).bind λr=>(isEnd r.1).bind λ_=>(ue Y.idle r.2.1.df r.2.2).bind λs1=>(Nm Y.M.E r.2.1.t F.results.toList s1).bind λq=>some (Nj q.1,q.2)
section
variable {M:js} {Y:Sys} {ih:Ih} {s s':St}
theorem Ic {P:Program} {E:Env} (hE:E.Ok P) {t:TypeId} {a v:AV} {u:Value} {X:Nat->Prop} {sg:Ids} {w:World} (h:Kt E t a s=some (v,s')) (ha:VR sg a u) (A:Ask X sg w s s'):
  Mq s s'/\∃p z,u= .pointer (some p)/\(loadVar t p).run P w= .ok z w/\VR sg v z:=by
 replace h:=bnd h;obtain⟨x,hx,h⟩:=h;replace h:=bnd h;obtain⟨k,hk,h⟩:=h;replace h:=bnd h;obtain⟨r,hr,h⟩:=h;replace h:=bnd h;obtain⟨i,hi,h⟩:=h;replace h:=bnd h;obtain⟨d,hd,h⟩:=h;rw[dk hx]at ha;obtain⟨p,hp,rfl⟩:=ha;have hd':=qb (hE.und _ _ hd);have hi':=λw=>bg (hE.info _ _ hi) w;cases hg:Mm d with
 | true=>
  rw[hg]at h;replace h:=bnd h;obtain⟨_,hb,h⟩:=h;obtain⟨rfl,rfl⟩:_=v/\_=s':=by simpa using h
  obtain⟨_,q,o,e1,e2,e3,_⟩:=A.at hk (.inl (ey s x.1));rw[hp]at e1;obtain rfl:=Xa e1;obtain⟨cs,c1,_,c3,c4⟩:=Ql (nd hr e3) e2 (db (ag hb));have hl:=run_loadCells_list (P:=P) w ⟨p,x.2,none⟩ cs c4;rw[c3]at hl;exact⟨⟨rfl,rfl⟩,_,.agg ⟨cs⟩,rfl,by simp[loadVar,hd',hg,hi',hl],⟨cs,c1,rfl⟩⟩
 | false=>
  rw[hg]at h;replace h:=bnd h;obtain⟨_,hb,h⟩:=h;obtain⟨rfl,rfl⟩:_=v/\_=s':=by simpa using h
  obtain⟨_,q,o,e1,e2,e3,_⟩:=A.at hk (.inl (ey s x.1));rw[hp]at e1;obtain rfl:=Xa e1;obtain⟨c,e',fz,rfl,_,h3⟩:=nd hr e3;obtain⟨v,hv,_,hr⟩:=h3 x.2 (db (ag hb));exact⟨⟨rfl,rfl⟩,_,v,rfl,by simp[loadVar,hd',hg,Bx e2,hv],hr⟩
def qc (tmps:Array Value):ResultVar->Sem Value
 | .tmp t=>pure (tmps.getD t undef)
 | .cell a t=>do loadVar t (<-asAddr (tmps.getD a undef))
theorem Nl {fn:Func} {tmps:Array Value}:results fn tmps=(fn.results.mapM (qc tmps) >>= λvs=>pure (if h:vs.size=1 then vs[0]else .tuple vs)):=by
 unfold results;congr 1
theorem qd {E:Env} {t:T AV}:∀{l:List ResultVar} {s s':St} {vs:List AV},Nm E t l s=some (vs,s')->Abs s s'
 | [],s,s',vs,h=>by
  obtain⟨_,rfl⟩:=Prod.mk.inj (Xa (show some ([],s)=some (vs,s')from h));exact Abs.refl _
 | .tmp d :: l,s,s',vs,h=>by
  obtain⟨v,_,h⟩:=bnd (show(t.get d).bind _=some (vs,s')from h);obtain⟨r,hr,h⟩:=bnd h;obtain⟨_,rfl⟩:=Prod.mk.inj (Xa h);exact qd (vs:=r.1) hr
 | .cell a ty :: l,s,s',vs,h=>by
  obtain⟨p,_,h⟩:=bnd (show(t.get a).bind _=some (vs,s')from h);obtain⟨q,hq,h⟩:=bnd h;obtain⟨r,hr,h⟩:=bnd h;obtain⟨_,rfl⟩:=Prod.mk.inj (Xa h);exact(Ge (v:=q.1) hq).trans (qd (vs:=r.1) hr)
theorem Hk {P:Program} {E:Env} (hE:E.Ok P) {t:T AV} {n:Nat} {tmps:Array Value} {X:Nat->Prop} {sg:Ids} {w:World} (ht:TR sg n t tmps):∀{l:List ResultVar} {s s':St} {vs:List AV},Nm E t l s=some (vs,s')->Ask X sg w s s'->
  Mq s s'/\∃us:List Value,(l.mapM (qc tmps)).run P w= .ok us w/\VRs sg vs us
 | [],s,s',vs,h,A=>by
  obtain⟨rfl,rfl⟩:=Prod.mk.inj (Xa (show some ([],s)=some (vs,s')from h));exact⟨⟨rfl,rfl⟩,[],rfl,rfl⟩
 | .tmp d :: l,s,s',vs,h,A=>by
  obtain⟨v,hv,h⟩:=bnd (show(t.get d).bind _=some (vs,s')from h);obtain⟨r,hr,h⟩:=bnd h;obtain⟨rfl,rfl⟩:=Prod.mk.inj (Xa h);obtain⟨hs,us,e1,e2⟩:=Hk hE ht (vs:=r.1) (s':=r.2) hr A;obtain⟨u,hu,hr'⟩:=ht.2 d v hv;refine⟨hs,u :: us,?_,⟨u,us,rfl,hr',e2⟩⟩;have:tmps.getD d undef=u:=by simp[Array.getD_eq_getD_getElem?,hu]
  have hv':(qc tmps (.tmp d)).run P w= .ok u w:=by simp[qc,this]
  simp only[List.mapM_cons,Sem.run_bind,Sem.run_pure,Result.andThen_ok,hv',e1]
 | .cell a ty :: l,s,s',vs,h,A=>by
  obtain⟨p,hp,h⟩:=bnd (show(t.get a).bind _=some (vs,s')from h);obtain⟨q,hq,h⟩:=bnd h;obtain⟨r,hr,h⟩:=bnd h;obtain⟨rfl,rfl⟩:=Prod.mk.inj (Xa h);obtain⟨u,hu,hr'⟩:=ht.2 a p hp;have a2:Abs q.2 r.2:=qd (vs:=r.1) hr;obtain⟨h1,ad,z,rfl,h2,h3⟩:=Ic (v:=q.1) (s':=q.2) hE hq hr' (A.left a2);obtain⟨hs,us,e1,e2⟩:=Hk hE ht (vs:=r.1) (s':=r.2) hr (A.like h1.1 h1.2);refine⟨⟨hs.1.trans h1.1,hs.2.trans h1.2⟩,z :: us,?_,⟨z,us,rfl,h3,e2⟩⟩;have:tmps.getD a undef= .pointer (some ad):=by simp[Array.getD_eq_getD_getElem?,hu]
  have hv':(qc tmps (.cell a ty)).run P w= .ok z w:=by simp[qc,this,asAddr,h2]
  simp only[List.mapM_cons,Sem.run_bind,Sem.run_pure,Result.andThen_ok,hv',e1]
theorem Nk {P:Program} {fn:Func} {tmps:Array Value} {w:World} {us:List Value} {sg:Ids} {vs:List AV} (h:(fn.results.toList.mapM (qc tmps)).run P w= .ok us w) (hv:VRs sg vs us):
  ∃u,(results fn tmps).run P w= .ok u w/\VR sg (Nj vs) u:=by
 have hm:(fn.results.mapM (qc tmps)).run P w= .ok us.toArray w:=by
  rw[Array.mapM_eq_mapM_toList];simp only[Sem.run_map];rw[h];rfl
 rw[Nl];simp only[Sem.run_bind,hm,Result.andThen_ok,Sem.run_pure]
 match vs,us,hv with
 | [],us,hv=>
  obtain rfl:us=[]:=hv;exact⟨_,rfl,[],rfl,rfl⟩
 | [v],us,hv=>
  obtain⟨u,us',rfl,h1,h2⟩:=hv;obtain rfl:us'=[]:=h2;exact⟨u,rfl,h1⟩
 | v1 :: v2 :: vs,us,hv=>
  have hv':=hv;obtain⟨u,us',rfl,h1,u2,us2,rfl,h2,h3⟩:=hv;exact⟨_,rfl,_,hv',rfl⟩
theorem ln {idle:FuncId->Nat->Bool}:∀{ds:List Df} {s s':St},ue idle ds s=some s'->Abs s s'
 | [],s,s',h=>by obtain rfl:=Xa (show some s=some s' from h);exact Abs.refl _
 | .idle f k :: ds,s,s',h=>by
  obtain⟨_,_,h⟩:=bnd (show(grd (idle f k)).bind _=some s' from h);exact ln (ds:=ds) h
 | .mark b :: ds,s,s',h=>by
  obtain⟨k,hk,h⟩:=bnd (show(s.heap.get b).bind _=some s' from h);obtain⟨_,_,h⟩:=bnd h;exact Abs.kill.trans (ln h)
theorem Dn (hY:Y.Ok) {fn:Func} {tmps:Array Value} {m:Nat} {R:Ending->World->Prop}:∀{ds:List Df} {l:List Deferred} {s s1 s':St} {X:Nat->Prop} {sg:Ids} {w:World},ue Y.idle ds s=some s1->DR sg ds l->Abs s1 s'->Ask X sg w s s'->
  (∀w1,dx X sg w s sg w1 s1->∃v,(results fn tmps).run Y.M.P w1= .ok v w1/\R (.returned v) w1)->LeavesInM (fc none) m Y.M.P fn tmps R l .returning w
 | [],l,s,s1,s',X,sg,w,h,hd,_,A,hK=>by
  obtain rfl:=Xa (show some s=some s1 from h);obtain rfl:l=[]:=hd;exact hK w (dx.refl A.holds)
 | .idle f k :: ds,l,s,s1,s',X,sg,w,h,hd,a2,A,hK=>by
  obtain⟨cap,args,rest,rfl,hk,hd⟩:=hd;obtain⟨_,hid,h⟩:=bnd (show(grd (Y.idle f k)).bind _=some s1 from h);have later:=Dn hY (ds:=ds) (m:=m) (fn:=fn) (tmps:=tmps) (R:=R) h hd a2 A hK;obtain⟨h1,h2⟩:=hY.idle f k (ag hid) (args ++ cap) w hk;refine⟨Yy,.inr ⟨λe=>(by cases e),.func f,cap,f,args ++ cap,rfl,h1,λ_ _=>trivial,CallsDIn.mono (h2 (m - 1)) λe u' w' he=>?_⟩⟩;obtain⟨⟨v,rfl⟩,rfl,rfl⟩:=he;exact later
 | .mark b :: ds,l,s,s1,s',X,sg,w,h,hd,a2,A,hK=>by
  obtain⟨k,hk,h⟩:=bnd (show(s.heap.get b).bind _=some s1 from h);obtain⟨_,hb,h⟩:=bnd h;obtain⟨p,rest,hp,rfl,hd⟩:=hd;have a1:Abs (s.kill b) s1:=ln h;have wbit:s'.wr.testBit b=true:=(a1.trans a2).wr b ((cd _ _ _).2 (.inr rfl));obtain⟨hX,q,o,e1,e2,e3,_⟩:=A.at hk (.inr wbit);rw[hp]at e1;obtain rfl:=Xa e1;rw[E5 hb]at e3;obtain rfl:o= .deferred (some []):=e3;have hlt:=(Array.getElem?_eq_some_iff.1 e2).1;have P1:dx X sg w s sg (w.putObj p (.deferred none)) (s.kill b):=dx.kill A.holds hX hp Yy (λq hq=>World.putObj_heap_other hq) rfl rfl rfl;refine⟨Yy,.inl ⟨p,_,rfl,run_takeDeferred e2,?_⟩⟩;refine Dn hY (ds:=ds) h hd a2 (A.step P1 Abs.kill) λw1 P2=>?_;exact hK w1 (dx.seq (s2:=s1) (A.left a2) P1 Abs.kill a1 P2)
end
end
end RX
end
section
namespace RX
noncomputable section
def Rl (id:Nat):Ex->Ex
 | .exit i=>match Nat.beq i id with
  | true=> .normal
  | false=> .exit i
 | e=>e
def isBusy:LoopState->Bool
 | .busy=>true
 | _=>false
def codeS:Code->Sys->Ih->Bool->Fr->St->Option (Ex×Fr×St)
 | .skip=>λ_ _ _ fr s=>some (.normal,fr,s)
 | .label _=>λ_ _ _ fr s=>some (.normal,fr,s)
 | .exit id=>λ_ _ _ fr s=>some (.exit id,fr,s)
 | .goto l=>λ_ _ _ fr s=>some (.goto l,fr,s)
 | .ret=>λ_ _ _ fr s=>some (.ret,fr,s)
 | .seq a b=>λ_ ih rd fr s=>(ih.code rd fr a s).bind λr=>match r.1 with
  | .normal=>ih.code rd r.2.1 b r.2.2
  | _=>some r
 | .cond c x y=>λY ih rd fr s=>(rho Y.M fr.t c).bind λv=>(Jl v).bind λb=>match b with
  | true=>ih.code rd fr x s
  | false=>ih.code rd fr y s
 | .block id c=>λ_ ih rd fr s=>(ih.code rd fr c s).bind λr=>some (Rl id r.1,r.2.1,r.2.2)
 | .loop c=>λ_ ih rd fr s=>ih.loop rd fr c s
 | .region _ ops draw=>λY ih rd fr s=>match draw with
  | true=>(drawn Y.M ih fr.n ops fr.t s).bind λr=>some (.normal,⟨fr.n,r.1,fr.df⟩,r.2)
  | false=>(xx Y.M ih Y.idle rd ops ops.toList fr s).bind λr=>some (.normal,r.1,r.2)
 | .rangeFunc f params assign body=>λY ih rd fr s=>(grd (!rd)).bind λ_=>(rho Y.M fr.t f).bind λv=>(Pm v).bind λg=>(Y.M.fn g.1).bind λ_=>
  (ih.call g.1 (g.2.1 ++ [.yield (s.fresh+1)] ++ g.2.2) ((s.new .defers).new (.loop .ready none 0 fr.n fr.t params assign body s.fresh))).bind λr=>
  (r.2.heap.get (s.fresh+1)).bind λk=>(zj k).bind λl=>(grd (!isBusy l.state)).bind λ_=>match l.pending with
   | none=>some (.normal,⟨fr.n,fr.t,.mark s.fresh :: fr.df⟩,r.2.put (s.fresh+1) (l.blk .exhausted none))
   | some c=>ih.code rd ⟨fr.n,fr.t,.mark s.fresh :: fr.df⟩ c (r.2.put (s.fresh+1) (l.blk .exhausted (some c)))
 | _=>λ_ _ _ _ _=>none
def stepC (Y:Sys) (ih:Ih) (rd:Bool) (fr:Fr) (c:Code) (s:St):Option (Ex×Fr×St):=codeS c Y ih rd fr s
section
variable {Y:Sys} {ih:Ih} {s s':St}
theorem Z4 (hY:Y.Ok) (hih:Js Y.M ih) {f:FuncId} {args:List AV} {v:AV} (h:Z5 Y ih f args s=some (v,s')):Fc Y.M f args s v s':=by
 unfold Z5 at h;cases hg:Y.summ f with
 | some g=>
  rw[hg]at h;exact hY.summ f g hg _ _ _ _ h
 | none=>
  rw[hg]at h;replace h:=bnd h;obtain⟨F,hF,h⟩:=h;replace h:=bnd h;obtain⟨c,hc,h⟩:=h;replace h:=bnd h;obtain⟨⟨e,fr1,s1⟩,hcode,h⟩:=h;replace h:=bnd h;obtain⟨_,hend,h⟩:=h;replace h:=bnd h;obtain⟨s2,hlv,h⟩:=h;replace h:=bnd h;obtain⟨⟨vs,s3⟩,hres,h⟩:=h;obtain⟨rfl,rfl⟩:Nj vs=v/\s3=s':=Prod.mk.inj (Xa h);obtain⟨a1,law⟩:=hih.code _ _ _ _ _ _ _ hcode;have a2:Abs s1 s2:=ln hlv;have a3:Abs s2 s3:=qd hres;obtain⟨hf,_,_⟩:=hY.m.fn f F hF;refine⟨a1.trans (a2.trans a3),λX sg w us hus hg A=>?_⟩;have hlen:=hus.length;have key:CallsIn (fc none) 0 Y.M.P f ⟨us⟩ w λe w'=>∃u sg',e= .returned u/\VR sg' (Nj vs) u/\dx X sg w s sg' w' s3:=by
   refine callsIn_of_wp_marks hf hc trivial ?_ rfl;refine law none (λ_=>rfl) 0 X sg w _ _ ⟨⟨?_,?_⟩,rfl⟩ hg (A.left (a2.trans a3)) λsg1 w1 act1 hfr1 P1=>?_
   ·simp[hlen]
   ·exact Uc
   ·exact Ub
  exact(callsIn_wide (n:=0)).1 key
theorem zbm {id:Nat} {e:Ex} {Q:Exit->Act->World->Prop} {a:Act} {w:World} (h:Q (Fq (Rl id e)) a w):Exit.inBlock id Q (Fq e) a w:=by
 cases e with
 | normal=>exact h
 | goto l=>exact h
 | ret=>exact h
 | exit i=>
  unfold Rl at h;dsimp only at h;show(if i=id then Q .normal a w else Q (.exit i) a w);cases hb:Nat.beq i id with
  | true=>
   rw[hb]at h;rw[if_pos (Nat.eq_of_beq_eq_true hb)];exact h
  | false=>
   rw[hb]at h;rw[if_neg λe=>by rw[<-Nat.beq_eq,hb]at e;cases e];exact h
theorem zah {sg:Ids} {fr:Fr} {a:Act} (hfr:FrR sg fr a) (hg:GOk Y.M.ng sg) {x:Operand} {v:AV} (h:rho Y.M fr.t x=some v):VR sg v (a.eval x):=by
 cases x with
 | tmp d=>
  obtain⟨u,e,r⟩:=hfr.1.2 d v h;show VR sg v (a.tmps.getD d undef);simp[Array.getD_eq_getD_getElem?,e,r]
 | const c=>obtain rfl:=Xa h;exact gt sg c
 | global k=>
  obtain⟨_,hk,h⟩:=bnd h;obtain rfl:=Xa h;exact⟨k,hg k (by have:=ag hk;rwa [Nat.blt_eq]at this),rfl⟩
 | func f=>obtain rfl:=Xa h;exact⟨[],[],rfl,rfl,rfl⟩
theorem Z6 (hY:Y.Ok) (hih:Js Y.M ih) {k:Nat} (hl:Py Y.M ih k) {rd:Bool} {fr fr':Fr} {c:Code} {e:Ex} (h:stepC Y ih rd fr c s=some (e,fr',s')):Abs s s'/\∀(r:Option Nat),(rd=false->r=none)->∀(n:Nat) (X:Nat->Prop) (sg:Ids) (w:World) (a:Act) (Q:Exit->Act->World->Prop),FrR sg fr a->GOk Y.M.ng sg->Ask X sg w s s'->
  (∀sg' w' a',FrR sg' fr' a'->dx X sg w s sg' w' s'->Q (Fq e) a' w')->c.wpIn (fc r) n Y.M.P Q a w:=by
 have stay:∀{e0:Ex},some (e0,fr,s)=some (e,fr',s')->e0=e/\fr=fr'/\s=s':=λh=>⟨(Prod.mk.inj (Xa h)).1,(Prod.mk.inj (Prod.mk.inj (Xa h)).2).1,(Prod.mk.inj (Prod.mk.inj (Xa h)).2).2⟩;cases c with
 | skip=>
  obtain⟨rfl,rfl,rfl⟩:=stay h;exact⟨Abs.refl _,λr hr n X sg w a Q hfr hg A hQ=>wpIn_skip (hQ sg w a hfr (dx.refl A.holds))⟩
 | label l=>
  obtain⟨rfl,rfl,rfl⟩:=stay h;exact⟨Abs.refl _,λr hr n X sg w a Q hfr hg A hQ=>wpIn_label (hQ sg w a hfr (dx.refl A.holds))⟩
 | exit id=>
  obtain⟨rfl,rfl,rfl⟩:=stay h;exact⟨Abs.refl _,λr hr n X sg w a Q hfr hg A hQ=>wpIn_exit (hQ sg w a hfr (dx.refl A.holds))⟩
 | goto id=>
  obtain⟨rfl,rfl,rfl⟩:=stay h;exact⟨Abs.refl _,λr hr n X sg w a Q hfr hg A hQ=>wpIn_goto (hQ sg w a hfr (dx.refl A.holds))⟩
 | ret=>
  obtain⟨rfl,rfl,rfl⟩:=stay h;exact⟨Abs.refl _,λr hr n X sg w a Q hfr hg A hQ=>wpIn_ret (hQ sg w a hfr (dx.refl A.holds))⟩
 | seq x y=>
  obtain⟨⟨e1,fr1,s1⟩,hc,h⟩:=bnd (show(ih.code rd fr x s).bind _=some (e,fr',s')from h);obtain⟨a1,law1⟩:=hih.code _ _ _ _ _ _ _ hc
  by_cases hn:e1= .normal
  ·subst hn;obtain⟨a2,law2⟩:=hih.code _ _ _ _ _ _ _ h;refine⟨a1.trans a2,λr hr n X sg w a Q hfr hg A hQ=>wpIn_seq ?_⟩;refine law1 r hr n X sg w a _ hfr hg (A.left a2) λsg1 w1 act1 hfr1 P1=>?_;exact law2 r hr n _ sg1 w1 act1 Q hfr1 (hg.mono P1.ext) (A.step P1 a1) λsg2 w2 act2 hfr2 P2=>hQ sg2 w2 act2 hfr2 (dx.seq A P1 a1 a2 P2)
  ·have h2:e1=e/\fr1=fr'/\s1=s':=by
    cases e1 <;> first | (exact absurd rfl hn) | (obtain⟨q1,q2⟩:=Prod.mk.inj (Xa h);exact⟨q1,Prod.mk.inj q2⟩)
   obtain⟨rfl,rfl,rfl⟩:=h2;exact⟨a1,λr hr n X sg w a Q hfr hg A hQ=>wpIn_seq (law1 r hr n X sg w a _ hfr hg A λsg1 w1 act1 hfr1 P1=>Ce hn (hQ sg1 w1 act1 hfr1 P1))⟩
 | cond x y z=>
  obtain⟨v,hv,h⟩:=bnd (show(rho Y.M fr.t x).bind _=some (e,fr',s')from h);obtain⟨b,hb,h⟩:=bnd h;have hx:∀sg a,FrR sg fr a->GOk Y.M.ng sg->a.eval x= .bool b:=λsg a hfr hg=>by
   have:=zah hfr hg hv;rw[wu hb]at this;exact this
  cases b with
  | true=>
   obtain⟨a1,law1⟩:=hih.code _ _ _ _ _ _ _ h;exact⟨a1,λr hr n X sg w a Q hfr hg A hQ=>wpIn_cond_true (hx sg a hfr hg) (law1 r hr n X sg w a Q hfr hg A hQ)⟩
  | false=>
   obtain⟨a1,law1⟩:=hih.code _ _ _ _ _ _ _ h;exact⟨a1,λr hr n X sg w a Q hfr hg A hQ=>wpIn_cond_false (hx sg a hfr hg) (law1 r hr n X sg w a Q hfr hg A hQ)⟩
 | block id x=>
  obtain⟨⟨e1,fr1,s1⟩,hc,h⟩:=bnd (show(ih.code rd fr x s).bind _=some (e,fr',s')from h);obtain⟨rfl,h2⟩:Rl id e1=e/\(fr1,s1)=(fr',s'):=Prod.mk.inj (Xa h);obtain⟨rfl,rfl⟩:=Prod.mk.inj h2;obtain⟨a1,law1⟩:=hih.code _ _ _ _ _ _ _ hc;exact⟨a1,λr hr n X sg w a Q hfr hg A hQ=>wpIn_block (law1 r hr n X sg w a _ hfr hg A λsg1 w1 act1 hfr1 P1=>zbm (hQ sg1 w1 act1 hfr1 P1))⟩
 | loop x=>
  obtain⟨a1,law1⟩:=hl _ _ _ _ _ _ _ (show ih.loop rd fr x s=some (e,fr',s')from h);exact⟨a1,λr hr n X sg w a Q hfr hg A hQ=>loop_of (law1 r hr n X sg w a Q hfr hg A hQ)⟩
 | region id ops draw=>
  cases draw with
  | true=>
   obtain⟨⟨t1,s1⟩,hd,h⟩:=bnd (show(drawn Y.M ih fr.n ops fr.t s).bind _=some (e,fr',s')from h);obtain⟨rfl,h2⟩:Ex.normal=e/\(_,s1)=(fr',s'):=Prod.mk.inj (Xa h);obtain⟨rfl,rfl⟩:=Prod.mk.inj h2;obtain⟨a1,law1⟩:=zby (rid:=id) hY.m hY.abs hY.mix hih hd;refine⟨a1,λr hr n X sg w a Q hfr hg A hQ=>law1 r n X sg w a Q hfr.1 hg A λsg1 w1 act1 htr hde P1=>?_⟩;exact hQ sg1 w1 act1 ⟨htr,by rw[hde];exact hfr.2.mono P1.ext⟩ P1
  | false=>
   obtain⟨⟨fr1,s1⟩,hd,h⟩:=bnd (show(xx Y.M ih Y.idle rd ops ops.toList fr s).bind _=some (e,fr',s')from h);obtain⟨rfl,h2⟩:Ex.normal=e/\(fr1,s1)=(fr',s'):=Prod.mk.inj (Xa h);obtain⟨rfl,rfl⟩:=Prod.mk.inj h2;obtain⟨a1,law1⟩:=xw (i:=0) hY.m hY.abs hih hd (λk=>by simp);refine⟨a1,λr hr n X sg w a Q hfr hg A hQ=>wpIn_region ?_⟩;have:=law1 r hr n X sg w a Q hfr hg A hQ;rw[List.range_eq_range'];simpa using this
 | rangeFunc f params assign body=>
  replace h:=bnd (show(grd (!rd)).bind _=some (e,fr',s')from h);obtain⟨_,hrd,h⟩:=h;replace h:=bnd h;obtain⟨v,hv,h⟩:=h;replace h:=bnd h;obtain⟨g,hgf,h⟩:=h;replace h:=bnd h;obtain⟨F,hF,h⟩:=h;replace h:=bnd h;obtain⟨⟨u,s3⟩,hcall,h⟩:=h;replace h:=bnd h;obtain⟨k1,hk1,h⟩:=h;replace h:=bnd h;obtain⟨l,hlp,h⟩:=h;replace h:=bnd h;obtain⟨_,hbusy,h⟩:=h;have hrd:rd=false:=by have:=ag hrd;simpa using this
  obtain⟨a3,law3⟩:=hih.call _ _ _ _ _ hcall;have a12:Abs s ((s.new .defers).new (.loop .ready none 0 fr.n fr.t params assign body s.fresh)):=(Abs.new _).trans (Abs.new _);have a4:Abs s3 (s3.put (s.fresh+1) (l.blk .exhausted l.pending)):=Abs.put _ (jq hk1);obtain⟨a5,law5⟩:Abs (s3.put (s.fresh+1) (l.blk .exhausted l.pending)) s'/\∀(r:Option Nat),(rd=false->r=none)->∀(n:Nat) (X:Nat->Prop) (sg:Ids) (w:World) (a:Act) (Q:Exit->Act->World->Prop),FrR sg ⟨fr.n,fr.t,.mark s.fresh :: fr.df⟩ a->GOk Y.M.ng sg->Ask X sg w (s3.put (s.fresh+1) (l.blk .exhausted l.pending)) s'->
    (∀sg' w' a',FrR sg' fr' a'->dx X sg w (s3.put (s.fresh+1) (l.blk .exhausted l.pending)) sg' w' s'->Q (Fq e) a' w')->(match l.pending with | none=>Q .normal a w | some c=>c.wpIn (fc r) n Y.M.P Q a w):=by
   cases hp:l.pending with
   | none=>
    rw[hp]at h;obtain⟨rfl,h2⟩:Ex.normal=e/\(_,_)=(fr',s'):=Prod.mk.inj (Xa h);obtain⟨rfl,rfl⟩:=Prod.mk.inj h2;exact⟨Abs.refl _,λr hr n X sg w a Q hfr hg A hQ=>hQ sg w a hfr (dx.refl A.holds)⟩
   | some c=>
    rw[hp]at h;exact hih.code _ _ _ _ _ _ _ h
  refine⟨a12.trans (a3.trans (a4.trans a5)),λr hr n X sg w a Q hfr hg A hQ=>?_⟩;obtain rfl:r=none:=hr hrd;refine wpIn_rangeFunc λfn _=>?_;have A0:Ask X sg w s ((s.new .defers)):=A.left ((Abs.new _).trans (a3.trans (a4.trans a5)));have hn0:sg s.fresh=none:=A0.new s.fresh (Xc _) (Nat.lt_succ_self _);have P0:dx X sg w s (sg.with s.fresh w.heap.size 0) (w.alloc (.deferred (some []))) (s.new .defers):=dx.alloc (n:=0) (o:= .deferred (some [])) A0.holds A0.lt hn0 rfl trivial rfl rfl rfl rfl;have A1:Ask (fk X s (s.new .defers)) (sg.with s.fresh w.heap.size 0) (w.alloc (.deferred (some []))) (s.new .defers) ((s.new .defers).new (.loop .ready none 0 fr.n fr.t params assign body s.fresh)):=(A.left (a3.trans (a4.trans a5))).step P0 (Abs.new _);have hn1:(sg.with s.fresh w.heap.size 0) (s.new .defers).fresh=none:=A1.new _ (Xc _) (Nat.lt_succ_self _);have hsz:(w.alloc (.deferred (some []))).heap.size=w.heap.size+1:=by show(w.heap.push _).size=_;simp
  have hext1:=Ids.with_ext (sg:=sg.with s.fresh w.heap.size 0) (w.heap.size+1) 0 hn1;have hbr:BR ((sg.with s.fresh w.heap.size 0).with (s.new .defers).fresh (w.heap.size+1) 0) (.loop .ready none 0 fr.n fr.t params assign body s.fresh) (.loop {state:= .ready,pending:=none,fn,tmps:=a.tmps,params:=params,assign,body,defers:=w.heap.size}):=
   ⟨a.tmps,w.heap.size,fn,(hfr.1.mono P0.ext).mono hext1,(hext1 s.fresh w.heap.size (Ids.with_self ..)).1,rfl⟩
  have P1:dx (fk X s (s.new .defers)) (sg.with s.fresh w.heap.size 0) (w.alloc (.deferred (some []))) (s.new .defers) ((sg.with s.fresh w.heap.size 0).with (s.new .defers).fresh (w.heap.size+1) 0) ((w.alloc (.deferred (some []))).alloc (.loop {state:= .ready,pending:=none,fn,tmps:=a.tmps,params:=params,assign,body,defers:=w.heap.size})) ((s.new .defers).new (.loop .ready none 0 fr.n fr.t params assign body s.fresh)):=by
   have:=dx.alloc (n:=0) (o:= .loop {state:= .ready,pending:=none,fn,tmps:=a.tmps,params:=params,assign,body,defers:=w.heap.size}) (w':=(w.alloc (.deferred (some []))).alloc (.loop {state:= .ready,pending:=none,fn,tmps:=a.tmps,params:=params,assign,body,defers:=w.heap.size})) (k:= .loop .ready none 0 fr.n fr.t params assign body s.fresh) A1.holds A1.lt hn1 (by rw[hsz];exact hbr) trivial rfl rfl rfl rfl
   rwa [hsz]at this
  have P01:=dx.seq (s2:=(s.new .defers).new (.loop .ready none 0 fr.n fr.t params assign body s.fresh)) (A.left (a3.trans (a4.trans a5))) P0 (Abs.new _) (Abs.new _) P1;have A2:=A.step P01 a12;have hv':=zah hfr hg hv;rw[zk hgf]at hv';obtain⟨us1,us2,h1,h2,hv'⟩:=hv';have hext:=P01.ext;have hyp:((sg.with s.fresh w.heap.size 0).with (s.new .defers).fresh (w.heap.size+1) 0) (s.fresh+1)=some (w.heap.size+1):=Ids.with_self ..;obtain⟨hfun,hname,hbody⟩:=hY.m.fn g.1 F hF;refine⟨w.heap.size+1,[{target:= .collected w.heap.size,args:=#[]}],((w.alloc (.deferred (some []))).alloc (.loop {state:= .ready,pending:=none,fn,tmps:=a.tmps,params:=params,assign,body,defers:=w.heap.size})),{target:= .fn (.func g.1) ⟨us2⟩,args:=⟨us1 ++ [.func (.yield (w.heap.size+1)) #[] #[]]⟩},((w.alloc (.deferred (some []))).alloc (.loop {state:= .ready,pending:=none,fn,tmps:=a.tmps,params:=params,assign,body,defers:=w.heap.size})),g.1,⟨us1 ++ [.func (.yield (w.heap.size+1)) #[] #[]] ++ us2⟩,((w.alloc (.deferred (some []))).alloc (.loop {state:= .ready,pending:=none,fn,tmps:=a.tmps,params:=params,assign,body,defers:=w.heap.size})),run_enterLoop_outer fn a.tmps params assign body,?_,λ_ _=>trivial,?_,λe=>(by cases e),?_⟩
  ·have e:(rangeCall f (w.heap.size+1)).args.map a.eval=#[.func (.yield (w.heap.size+1)) #[] #[]]:=by simp[Act.eval]
   show(Deferred.ofValue (a.eval f) ((rangeCall f (w.heap.size+1)).args.map a.eval)).run _ _=_;rw[e,hv'];simp[Deferred.ofValue]
  ·have:(callFunc g.1 ⟨us1 ++ [.func (.yield (w.heap.size+1)) #[] #[]] ++ us2⟩).run Y.M.P ((w.alloc (.deferred (some []))).alloc (.loop {state:= .ready,pending:=none,fn,tmps:=a.tmps,params:=params,assign,body,defers:=w.heap.size}))= .ok (.enter g.1 ⟨us1 ++ [.func (.yield (w.heap.size+1)) #[] #[]] ++ us2⟩) ((w.alloc (.deferred (some []))).alloc (.loop {state:= .ready,pending:=none,fn,tmps:=a.tmps,params:=params,assign,body,defers:=w.heap.size})):=by
    simp only[callFunc,Sem.run_bind,run_program,Result.andThen_ok,hfun,hname,hbody,Bool.false_eq_true,if_false,Sem.run_pure]
   simpa[invoke]using this
  ·have hargs:VRs ((sg.with s.fresh w.heap.size 0).with (s.new .defers).fresh (w.heap.size+1) 0) (g.2.1 ++ [.yield (s.fresh+1)] ++ g.2.2) (us1 ++ [.func (.yield (w.heap.size+1)) #[] #[]] ++ us2):=
    ((VRs.mono hext _ _ h1).append (show VRs _ [.yield (s.fresh+1)] [.func (.yield (w.heap.size+1)) #[] #[]]from⟨_,[],rfl,⟨w.heap.size+1,hyp,rfl⟩,rfl⟩)).append (VRs.mono hext _ _ h2)
   refine CallsIn.mono (Eu none (n - 1) (law3 _ _ _ _ hargs (hg.mono hext) (A2.left (a4.trans a5)))) λe3 w3 he3=>?_;obtain⟨u3,sg3,rfl,_,P3⟩:=he3;have A3:=A2.step P3 a3;have hp3:sg3 (s.fresh+1)=some (w.heap.size+1):=(P3.ext _ _ hyp).1;have wbit:s'.wr.testBit (s.fresh+1)=true:=a5.wr _ (vl ..);obtain⟨hX3,r3,dp3,g3,hst3,hpen3,hpar3,hass3,hbod3,htr3,hd3,hdp3⟩:=Bq A3 hk1 hlp (.inr wbit) hp3;have hnb:r3.state≠.busy:=λe=>by
    rw[hst3]at e;have:=ag hbusy;rw[e]at this;cases this
   have P4:dx (fk (fk X s ((s.new .defers).new (.loop .ready none 0 fr.n fr.t params assign body s.fresh))) ((s.new .defers).new (.loop .ready none 0 fr.n fr.t params assign body s.fresh)) s3) sg3 w3 s3 sg3 (w3.putObj (w.heap.size+1) (.loop {r3 with state:= .exhausted})) (s3.put (s.fresh+1) (l.blk .exhausted l.pending)):=by
    refine dx.put (o:= .loop {r3 with state:= .exhausted}) A3.holds hX3 hp3 ?_ trivial rfl rfl rfl rfl;refine⟨r3.tmps,dp3,r3.fn,htr3,hd3,?_⟩;rw[<-hpen3,<-hpar3,<-hass3,<-hbod3,<-hdp3]
   have A4:=A3.step P4 a4;have hlast:=run_endLoop (P:=Y.M.P) g3 hnb;generalize w3.putObj (w.heap.size+1) (.loop {r3 with state:= .exhausted})=w4 at P4 A4 hlast;refine⟨r3.pending,w4,hlast,?_⟩;rw[hpen3];have hext3:Ext sg sg3:=hext.trans P3.ext;refine law5 none hr n _ sg3 _ {a with defers:=[{target:= .collected w.heap.size,args:=#[]}] ++ a.defers} Q ⟨hfr.1.mono hext3,⟨w.heap.size,a.defers,?_,rfl,hfr.2.mono hext3⟩⟩ (hg.mono hext3) A4 λsg5 w5 act5 hfr5 P5=>?_
   ·exact(P3.ext _ _ (hext1 s.fresh w.heap.size (Ids.with_self ..)).1).1
   ·exact hQ sg5 w5 act5 hfr5 (dx.seq A P01 a12 (a3.trans (a4.trans a5)) (dx.seq A2 P3 a3 (a4.trans a5) (dx.seq A3 P4 a4 a5 P5)))
 | scope x=>cases h
 | refuse y=>cases h
def step (Y:Sys) (ih:Ih):Ih:=⟨stepC Y ih,Z5 Y ih,stepL ih⟩
def none3:Ih:=⟨λ_ _ _ _=>none,λ_ _ _=>none,λ_ _ _ _=>none⟩
def run (Y:Sys) (n:Nat):Ih:=Nat.rec none3 (λ_ ih=>step Y ih) n
theorem zad (hY:Y.Ok):∀n,Js Y.M (run Y n)/\Py Y.M (run Y n) n
 | 0=>⟨⟨λ_ _ _ _ _ h=>(by cases h),λ_ _ _ _ _ _ _ h=>(by cases h)⟩,λ_ _ _ _ _ _ _ h=>(by cases h)⟩
 | n+1=>by
  obtain⟨h1,h2⟩:=zad hY n;exact⟨⟨λf args s v s' h=>Z4 hY h1 h,λrd fr c s e fr' s' h=>Z6 hY h1 h2 h⟩,λrd fr c s e fr' s' h=>Z3 h1 h2 h⟩
end
end
end RX
end
section
namespace RX
noncomputable section
def Yf (c:Nat):Nat->List UInt8->Option Nat
 | _,[]=>none
 | i,b :: l=>match Nat.beq b.toNat c with
  | true=>some i
  | false=>Yf c (i+1) l
def rt (c:Nat):List UInt8->Nat->Nat
 | [],n=>n
 | b :: l,n=>match Nat.beq b.toNat c with
  | true=>rt c l (n+1)
  | false=>rt c l n
def ut:List AV->Option (List UInt8×Nat)
 | [.str l,.int .u8 c]=>(si c).bind λn=>(grd (Nat.blt n 256)).bind λ_=>some (l,n)
 | _=>none
def jm (args:List AV) (s:St):Option (AV×St):=(ut args).bind λx=>match Yf x.2 0 x.1 with
 | some i=>some (goI i,s)
 | none=>some (.int .i64 (-1),s)
def qq (args:List AV) (s:St):Option (AV×St):=(ut args).bind λx=>some (goI (rt x.2 x.1 0),s)
def og (args:List AV) (s:St):Option (AV×St):=match args with
 | [x]=>some (x,s)
 | _=>none
def oh (e:TypeId) (args:List AV) (s:St):Option (AV×St):=match args with
 | [.int .i64 n]=>(si n).bind λn=>(grd (Nat.ble n 1000000)).bind λ_=>some (.slu s.fresh 0 n 1,s.new (.cells n true e 1 [.unk] .nil))
 | _=>none
def lr (args:List AV) (s:St):Option (AV×St):=match args with
 | [.iface t (.map b)]=>(s.heap.get b).bind λk=>(qw k).bind λm=>some (.iface t (.map s.fresh),(s.saw b).new (.map m.1 m.2))
 | _=>none
def Ij:AV->Bool
 | .byte=>true
 | .int .u8 _=>true
 | _=>false
def qy:List AV->Bool
 | []=>true
 | x :: l=>match Ij x with
  | true=>qy l
  | false=>false
def sumA (args:List AV) (s:St):Option (AV×St):=match args with
 | [x]=>(kt x).bind λq=>(s.heap.get q.b).bind λk=>(qv k).bind λr=>(grd (Nat.ble (q.off+q.len) r.size)).bind λ_=>(grd (Nat.ble q.len 1000)).bind λ_=>(grd (qy (cj r.per r.zs r.ov q.off q.len))).bind λ_=>some (.agg (List.replicate 32 .byte),s.saw q.b)
 | _=>none
end
end RX
end
section
namespace RX
noncomputable section
def gcT {α:Type} (l:List Nat) (t:T α):T α:=@List.rec Nat (λ_=>T α) .nil (λb _ r=>@Option.rec α (λ_=>T α) r (λk=>r.set b (some k)) (t.get b)) l
theorem Ip {α:Type} (t:T α) (b:Nat):∀l:List Nat,(gcT l t).get b=if b∈l then t.get b else none
 | []=>by rw[if_neg Yy];exact T.get_nil b
 | c :: l=>by
  have ih:=Ip t b l;show(@Option.rec α (λ_=>T α) (gcT l t) (λk=>(gcT l t).set c (some k)) (t.get c)).get b=_;cases e:t.get c with
  | none=>
   show(gcT l t).get b=_;rw[ih]
   by_cases hb:b=c
   ·subst hb;rw[e,if_pos (List.mem_cons_self ..)];split <;> rfl
   ·simp[hb]
  | some k=>
   show((gcT l t).set c (some k)).get b=_;rw[T.get_set,ih]
   by_cases hb:b=c
   ·subst hb;rw[if_pos rfl,e,if_pos (List.mem_cons_self ..)]
   ·rw[if_neg hb];simp[hb]
theorem Io {α:Type} {t:T α} {l:List Nat} {b:Nat} {k:α} (h:(gcT l t).get b=some k):t.get b=some k:=by
 rw[Ip]at h;split at h
 ·exact h
 ·cases h
def Ix (l:List Nat) (s:St):St:={s with heap:=gcT l s.heap}
def cutF (l:List Nat) (fr:Fr):Fr:={fr with t:=gcT l fr.t}
def Law (Y:Sys) (c:Code) (fr:Fr) (s:St) (e:Ex) (fr':Fr) (s':St):Prop:=Abs s s'/\∀(n:Nat) (X:Nat->Prop) (sg:Ids) (w:World) (a:Act) (Q:Exit->Act->World->Prop),FrR sg fr a->GOk Y.M.ng sg->Ask X sg w s s'->
  (∀sg' w' a',FrR sg' fr' a'->dx X sg w s sg' w' s'->Q (Fq e) a' w')->c.wpIn (fc none) n Y.M.P Q a w
section
variable {Y:Sys} {s s1 s2 s':St} {fr fr1 fr2 fr':Fr} {c a b:Code} {e:Ex}
theorem Rf (hY:Y.Ok) {k:Nat} (h:(run Y k).code false fr c s=some (e,fr',s')):Law Y c fr s e fr' s':=by
 obtain⟨a1,law⟩:=(zad hY k).1.code _ _ _ _ _ _ _ h;exact⟨a1,λn X sg w a Q hfr hg A hQ=>law none (λ_=>rfl) n X sg w a Q hfr hg A hQ⟩
theorem yw {l:List Nat} {b:Nat} (h:(Ix l s).alive b):s.alive b:=by
 unfold St.alive at h ⊢;cases e:(Ix l s).heap.get b with
 | none=>rw[e]at h;cases h
 | some k=>rw[Io (l:=l) e];rfl
theorem abs_cut {l:List Nat} (h:Abs s s') (hl:∀b,b < s.fresh->b∈l):Abs s (Ix l s'):=by
 refine⟨h.fresh,h.rd,h.wr,λb hb hw=>?_,λb hb=>h.live b (yw hb)⟩;show(gcT l s'.heap).get b=_;rw[Ip,if_pos (hl b hb)];exact h.keep b hb hw
theorem zav {X:Nat->Prop} {sg sg':Ids} {w w':World} {l:List Nat} (P:dx X sg w s sg' w' s'):dx X sg w s sg' w' (Ix l s'):=by
 have key:∀b,fk X s (Ix l s') b->fk X s s' b:=λb hb=>⟨hb.1,yw hb.2⟩;refine⟨P.ext,P.dom,λb p h1 h2 e=>?_,⟨λb hb=>?_,λb c p hb hc=>P.holds.inj b c p (key b hb) (key c hc)⟩,P.size,P.os,P.tape,P.output,P.frame⟩
 ·rcases P.new b p h1 h2 e with h | ⟨c,h3,h4,h5,h6⟩
  ·exact .inl h
  ·exact .inr ⟨c,h3,h4,h5,λha=>h6 (yw ha)⟩
 ·obtain⟨k,p,o,e1,e2⟩:=P.holds.cell b (key b hb);refine⟨k,p,o,?_,e2⟩;have ha:=hb.2;unfold St.alive at ha;cases e:(Ix l s').heap.get b with
  | none=>rw[e]at ha;cases ha
  | some k'=>
   have:=Io (l:=l) e;rw[e1]at this;exact this.symm
theorem frR_cut {sg:Ids} {l:List Nat} {act:Act} (h:FrR sg fr act):FrR sg (cutF l fr) act:=⟨⟨h.1.1,λi v hv=>h.1.2 i v (Io (l:=l) hv)⟩,h.2⟩
def spn (Y:Sys) (k:Nat):Nat->Code->Fr->St->Option (Fr×St)
 | 0,_,fr,s=>some (fr,s)
 | m+1,.seq a b,fr,s=>((run Y k).code false fr a s).bind λr=>(Dt r.1).bind λ_=>spn Y k m b r.2.1 r.2.2
 | _+1,_,_,_=>none
def ik:Nat->Code->Code
 | 0,c=>c
 | m+1,.seq _ b=>ik m b
 | _+1,c=>c
def Ek (lt l:List Nat) (x:Option (Fr×St)):Option (Fr×St):=x.bind λr=>some (cutF lt r.1,Ix l r.2)
def Reach (Y:Sys) (c:Code) (fr:Fr) (s:St) (d:Code) (fr':Fr) (s':St):Prop:=Abs s s'/\∀(n:Nat) (X:Nat->Prop) (sg:Ids) (w:World) (a:Act) (Q:Exit->Act->World->Prop),FrR sg fr a->GOk Y.M.ng sg->Ask X sg w s s'->
  (∀sg' w' a',FrR sg' fr' a'->GOk Y.M.ng sg'->dx X sg w s sg' w' s'->d.wpIn (fc none) n Y.M.P Q a' w')->c.wpIn (fc none) n Y.M.P Q a w
theorem Nn:Reach Y c fr s c fr s:=⟨Abs.refl _,λ_n _X sg w a _Q hfr hg A h=>h sg w a hfr hg (dx.refl A.holds)⟩
theorem Sw (R:Reach Y c fr s (.seq a b) fr1 s1) (h:Law Y a fr1 s1 .normal fr2 s2):Reach Y c fr s b fr2 s2:=by
 obtain⟨a1,l1⟩:=R;obtain⟨a2,l2⟩:=h;refine⟨a1.trans a2,λn X sg w act Q hfr hg A hQ=>?_⟩;refine l1 n X sg w act Q hfr hg (A.left a2) λsg1 w1 act1 hfr1 hg1 P1=>wpIn_seq ?_;exact l2 n _ sg1 w1 act1 _ hfr1 hg1 (A.step P1 a1) λsg2 w2 act2 hfr2 P2=>hQ sg2 w2 act2 hfr2 (hg1.mono P2.ext) (dx.seq A P1 a1 a2 P2)
theorem F6 (hY:Y.Ok) {k:Nat}:∀{m:Nat} {d:Code} {fr1 fr2:Fr} {s1 s2:St},Reach Y c fr s d fr1 s1->spn Y k m d fr1 s1=some (fr2,s2)->Reach Y c fr s (ik m d) fr2 s2
 | 0,d,fr1,fr2,s1,s2,R,h=>by
  obtain⟨rfl,rfl⟩:=Prod.mk.inj (Xa (show some (fr1,s1)=some (fr2,s2)from h));exact R
 | m+1,d,fr1,fr2,s1,s2,R,h=>by
  cases d with
  | seq a b=>
   obtain⟨⟨e1,fr3,s3⟩,hr,h⟩:=bnd (show((run Y k).code false fr1 a s1).bind _=some (fr2,s2)from h);obtain⟨_,hn,h⟩:=bnd h;obtain rfl:e1= .normal:=sm hn;exact F6 hY (m:=m) (Sw R (Rf hY hr)) h
  | _=>cases h
theorem Sy {l lt:List Nat} (R:Reach Y c fr s a fr' s') (hl:∀b,b < s.fresh->b∈l):Reach Y c fr s a (cutF lt fr') (Ix l s'):=
 ⟨abs_cut R.1 hl,λn X sg w act Q hfr hg A hQ=>R.2 n X sg w act Q hfr hg ⟨A.holds,A.wf,A.foot,A.new⟩ λsg' w' a' hfr' hg' P=>hQ sg' w' a' (frR_cut hfr') hg' (zav P)⟩
theorem fm (hY:Y.Ok) {k m:Nat} {lt l:List Nat} (R:Reach Y c fr s a fr1 s1) (h:Ek lt l (spn Y k m a fr1 s1)=some (fr2,s2)) (hl:∀b,b < s.fresh->b∈l):Reach Y c fr s (ik m a) fr2 s2:=by
 obtain⟨⟨fr3,s3⟩,hr,h⟩:=bnd h;obtain⟨rfl,rfl⟩:cutF lt fr3=fr2/\Ix l s3=s2:=Prod.mk.inj (Xa h);exact Sy (F6 hY R hr) hl
theorem Sx (hY:Y.Ok) {k:Nat} (R:Reach Y c fr s a fr1 s1) (h:(run Y k).code false fr1 a s1=some (e,fr2,s2)):Law Y c fr s e fr2 s2:=by
 obtain⟨a1,l1⟩:=R;obtain⟨a2,l2⟩:=Rf hY h;refine⟨a1.trans a2,λn X sg w act Q hfr hg A hQ=>?_⟩;refine l1 n X sg w act Q hfr hg (A.left a2) λsg1 w1 act1 hfr1 hg1 P1=>?_;exact l2 n _ sg1 w1 act1 Q hfr1 hg1 (A.step P1 a1) λsg2 w2 act2 hfr2 P2=>hQ sg2 w2 act2 hfr2 (dx.seq A P1 a1 a2 P2)
theorem za3 (hY:Y.Ok) {f:FuncId} {F:Func} {args vs:List AV} {s3:St} (hF:Y.M.fn f=some F) (hc:F.body=some c) (h:Law Y c ⟨args.length+(F.ntmps - args.length),setCells .nil 0 args,[]⟩ s e fr1 s1) (hend:isEnd e=some ()) (hlv:ue Y.idle fr1.df s1=some s2) (hres:Nm Y.M.E fr1.t F.results.toList s2=some (vs,s3)):Fc Y.M f args s (Nj vs) s3:=by
 obtain⟨a1,law⟩:=h;have a2:Abs s1 s2:=ln hlv;have a3:Abs s2 s3:=qd hres;obtain⟨hf,_,_⟩:=hY.m.fn f F hF;refine⟨a1.trans (a2.trans a3),λX sg w us hus hg A=>?_⟩;have hlen:=hus.length;have key:CallsIn (fc none) 0 Y.M.P f ⟨us⟩ w λe w'=>∃u sg',e= .returned u/\VR sg' (Nj vs) u/\dx X sg w s sg' w' s3:=by
  refine callsIn_of_wp_marks hf hc trivial ?_ rfl;refine law 0 X sg w _ _ ⟨⟨?_,?_⟩,rfl⟩ hg (A.left (a2.trans a3)) λsg1 w1 act1 hfr1 P1=>?_
  ·simp[hlen]
  ·exact Uc
  ·exact Ub
 exact(callsIn_wide (n:=0)).1 key
end
end
end RX
end
end Go.Proofs.YtimcfaoabaflkaaGreatDoor
