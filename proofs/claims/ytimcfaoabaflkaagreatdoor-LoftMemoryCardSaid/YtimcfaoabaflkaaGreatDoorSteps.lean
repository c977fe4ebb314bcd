/- Drawn regions by steps: each operation comes to a value that is known, or to one of which something is known that stays true when the world grows. -/
import Derived.Test.YtimcfaoabaflkaaGreatDoorBase
namespace Go.Proofs.YtimcfaoabaflkaaGreatDoor
open AbA AbI
section
open Go.RowKit Go.Shelf
section
variable {P:Program} {ops:Array Oper} {Q:Exit->Act->World->Prop}
def ii (P:Program) (F:Value->World->Prop) (Rw:World->Prop):Result Next->Prop
 | .ok (.value u) w'=>F u w'/\Rw w'
 | .ok .skip w'=>F undef w'/\Rw w'
 | .ok (.enter f args) w'=>Calls P f args w' λe w''=>∃v,e= .returned v/\F v w''/\Rw w''
 | _=>False
theorem ii.upon {o:Oper} {a:Act} {K:Act->World->Prop} {F:Value->World->Prop} {Rw:World->Prop} {r:Result Next} (h:ii P F Rw r) (hK:∀v w',F v w'->Rw w'->K (a.put o.dst v) w'):
  o.upon P a K Q r:=by
 cases r with
 | halt x w'=>exact h.elim
 | ok n w'=>
  cases n with
  | value u=>exact hK _ _ h.1 h.2
  | enter f args=>
   refine Calls.mono h ?_;rintro e w'' ⟨v,rfl,hf,hr⟩;exact hK _ _ hf hr
  | skip=>exact hK _ _ h.1 h.2
  | defer d=>exact h.elim
  | row r args=>exact h.elim
  | _=>exact h.elim
end
theorem ii.skip {P:Program} {F:Value->World->Prop} {Rw:World->Prop} {w':World}:ii P F Rw (.ok .skip w')=(F undef w'/\Rw w'):=rfl
theorem ii.enter {P:Program} {F:Value->World->Prop} {Rw:World->Prop} {f:FuncId} {args:Array Value} {w':World}:ii P F Rw (.ok (.enter f args) w')=Calls P f args w' (λe w''=>∃v,e= .returned v/\F v w''/\Rw w''):=rfl
theorem ii.value {P:Program} {F:Value->World->Prop} {u:Value} {Rw:World->Prop} {w':World}:ii P F Rw (.ok (.value u) w')=(F u w'/\Rw w'):=rfl
inductive Step where
 | val (v:Value)
 | off
 | sat (F:Value->World->Prop)
 | turn (F:Value->World->Prop) (drop:List Nat)
 | later
 | dies (chain:List PanicEntry)
 | never
 deriving Inhabited
def Step.value (V:Nat->Value) (k:Nat):Step->Value
 | .val v=>v
 | .sat _=>V k
 | .turn _ _=>V k
 | _=>undef
def Step.fact?:Step->Option (Value->World->Prop)
 | .sat F=>some F
 | .turn F _=>some F
 | _=>none
def jn (pl:List Step) (i j:Nat):Bool:=match pl[j]? with
 | some (.turn _ d)=>d.contains i
 | _=>false
def Ir (pl:List Step) (k i:Nat):Option (Value->World->Prop):=if (List.range pl.length).any (λj=>j !=k && jn pl i j)then none else(pl[i]?).bind Step.fact?
def ic (pl:List Step) (i:Nat):Option (Value->World->Prop):=if (List.range pl.length).any (λj=>jn pl i j)then none else(pl[i]?).bind Step.fact?
theorem yu {pl:List Step} {i j:Nat} (h:jn pl i j=true):j < pl.length:=by
 unfold jn at h;cases hq:pl[j]? with
 | none=>rw[hq]at h;cases h
 | some q=>exact(List.getElem?_eq_some_iff.1 hq).1
theorem Iq {pl:List Step} {k i:Nat} {F:Value->World->Prop} (h:Ir pl k i=some F):(pl[i]?).bind Step.fact?=some F/\∀j,jn pl i j=true->j=k:=by
 unfold Ir at h;split at h
 ·cases h
 ·rename_i hn;refine⟨h,λj hj=>?_⟩
  by_cases e:j=k
  ·exact e
  ·exfalso;apply hn;rw[List.any_eq_true];exact⟨j,List.mem_range.2 (yu hj),by simp[e,hj]⟩
theorem Aq {pl:List Step} {i:Nat} {F:Value->World->Prop} (h:ic pl i=some F):(pl[i]?).bind Step.fact?=some F/\∀j,jn pl i j=false:=by
 unfold ic at h;split at h
 ·cases h
 ·rename_i hn;refine⟨h,λj=>?_⟩;cases hj:jn pl i j with
  | false=>rfl
  | true=>
   exfalso;apply hn;rw[List.any_eq_true];exact⟨j,List.mem_range.2 (yu hj),hj⟩
def Step.idle:Step->Bool
 | .later | .dies _ | .never=>true
 | _=>false
def Step.isLater:Step->Bool
 | .later=>true
 | _=>false
def finS (V:Nat->Value):Act->Nat->List Oper->List Step->Act
 | a,k,o :: os,p :: ps=>finS V (if p.isLater then a else a.put o.dst (p.value V k)) (k+1) os ps
 | a,_,_,_=>a
theorem Tb {a:Act} {d:Option Tmp} {v:Value} {t:Nat} (h:d≠some t):(a.put d v).tmps[t]?=a.tmps[t]?:=by
 cases d with
 | none=>rfl
 | some d=>
  have:d≠t:=λe=>h (by rw[e]);simp[Act.put,Array.getElem?_setIfInBounds_ne this]
theorem rp (V:Nat->Value) (t:Nat):∀(os:List Oper) (ps:List Step) (a:Act) (k:Nat),(∀(i:Nat) (o:Oper) (p:Step),os[i]?=some o->ps[i]?=some p->o.dst=some t->p.isLater=true)->(finS V a k os ps).tmps[t]?=a.tmps[t]?
 | [],_,_,_=>by simp[finS]
 | _ :: _,[],_,_=>by simp[finS]
 | o :: os,p :: ps,a,k=>λh=>by
  rw[finS,rp V t os ps _ _ λi o' p' ho hp hd=>h (i+1) o' p' (by simpa using ho) (by simpa using hp) hd];have h0:=h 0 o p rfl rfl;split
  ·rfl
  ·rename_i hn;exact Tb λhd=>hn (h0 hd)
theorem Ed (V:Nat->Value) (t:Nat) (os:List Oper) (ps:List Step) (a:Act) (k:Nat) (h:∀o∈os,o.dst≠some t):(finS V a k os ps).tmps[t]?=a.tmps[t]?:=
 rp V t os ps a k λ_ o _ ho _ hd=>absurd hd (h o (List.mem_of_getElem? ho))
theorem rn (V:Nat->Value):∀(os:List Oper) (ps:List Step) (a:Act) (k:Nat),(finS V a k os ps).tmps.size=a.tmps.size
 | [],_,_,_=>by simp[finS]
 | _ :: _,[],_,_=>by simp[finS]
 | o :: os,p :: ps,a,k=>by
  rw[finS,rn V os ps];split
  ·rfl
  ·cases o.dst <;> simp[Act.put]
theorem Ap (V:Nat->Value):∀(os:List Oper) (ps:List Step) (a:Act) (k:Nat),(finS V a k os ps).defers=a.defers
 | [],_,_,_=>by simp[finS]
 | _ :: _,[],_,_=>by simp[finS]
 | o :: os,p :: ps,a,k=>by
  rw[finS,Ap V os ps];split
  ·rfl
  ·cases o.dst <;> rfl
theorem Bs (V:Nat->Value) (t:Nat):∀(os:List Oper) (ps:List Step) (a:Act) (k i:Nat) (o:Oper) (p:Step),os[i]?=some o->ps[i]?=some p->p.isLater=false->o.dst=some t->
  (∀j q,os[j]?=some q->j≠i->q.dst≠some t)->t < a.tmps.size->(finS V a k os ps).tmps[t]?=some (p.value V (k+i))
 | [],_,_,_,_,_,_,h,_,_,_,_,_=>by simp at h
 | _ :: _,[],_,_,_,_,_,_,h,_,_,_,_=>by simp at h
 | o' :: os,p' :: ps,a,k,i,o,p,ho,hp,hl,hd,hu,ht=>by
  rw[finS];cases i with
  | zero=>
   simp only[List.getElem?_cons_zero,Option.some.injEq]at ho hp;subst ho hp;rw[Ed V t os ps _ _ (λq hq=>by
    obtain⟨j,hj⟩:=List.getElem?_of_mem hq;exact hu (j+1) q (by simpa using hj) Yi)]
   simp[Act.put,hd,ht,hl]
  | succ i=>
   simp only[List.getElem?_cons_succ]at ho hp;have:=Bs V t os ps (if p'.isLater then a else a.put o'.dst (p'.value V k)) (k+1) i o p ho hp hl hd (λj q hj hn=>hu (j+1) q (by simpa using hj) Yi) (by split;exact ht;cases o'.dst <;> simp[Act.put,ht]);rw[this];congr 2;omega
theorem Step.isLater_of_idle {p:Step} (h:p.idle=false):p.isLater=false:=by cases p <;> first | rfl | cases h
variable {P:Program} {ops:Array Oper} {Q:Exit->Act->World->Prop}
def Hb (pl:List Step) (k:Nat) (o:Oper) (V:Nat->Value) (u:World):Prop:=
 ∀(i:Nat) (F:Value->World->Prop),Ir pl k i=some F->(o.after.any λe=>Region.binds .any e && e.on == i)=true->F (V i) u
def OwesT (P:Program) (G:World->World->Prop) (ops:Array Oper) (pl:List Step) (w1:World) (F:(Nat->Value)->Act) (k:Nat) (o:Oper):Step->Prop
 | .val v=>∀V u,G w1 u->Hb pl k o V u->Region.wanted o (yielded ops (F V).tmps)=true/\Mx P v (G u) ((execOp (F V).eval o).run P u)
 | .off=>∀V u,G w1 u->Hb pl k o V u->Region.wanted o (yielded ops (F V).tmps)=false
 | .sat Fk=>(∀v u u',Fk v u->G u u'->Fk v u')/\∀V u,G w1 u->Hb pl k o V u->Region.wanted o (yielded ops (F V).tmps)=true/\ii P Fk (G u) ((execOp (F V).eval o).run P u)
 | .turn Fk drop=>(∀v u u',Fk v u->G u u'->Fk v u')/\∀V u,G w1 u->Hb pl k o V u->Region.wanted o (yielded ops (F V).tmps)=true/\
   ii P Fk (λu'=>G w1 u'/\∀(i:Nat) (Fi:Value->World->Prop),(pl[i]?).bind Step.fact?=some Fi->i≠k->drop.contains i=false->Fi (V i) u->Fi (V i) u') ((execOp (F V).eval o).run P u)
 | .later=>True
 | .dies chain=>∀V u,G w1 u->Hb pl k o V u->Region.wanted o (yielded ops (F V).tmps)=true/\Dead P chain (G u) ((execOp (F V).eval o).run P u)
 | .never=>True
def re (P:Program) (G:World->World->Prop) (ops:Array Oper) (pl:List Step) (w1:World) (F:(Nat->Value)->Act):Nat->List Oper->List Step->Prop
 | k,o :: os,p :: ps=>OwesT P G ops pl w1 F k o p/\re P G ops pl w1 F (k+1) os ps
 | _,_,_=>True
def fd (pl:List Step):Array Bool:=(pl.map fun | .later=>false | _=>true).toArray
structure E9 (ops:Array Oper) (a0 a:Act):Prop where
 sz:a.tmps.size=a0.tmps.size
 at':∀t,(∀(i:Nat) (o:Oper),ops[i]?=some o->o.dst≠some t)->a.tmps[t]?=a0.tmps[t]?
def noDst (ops:Array Oper) (t:Tmp):Bool:=ops.all λo=>o.dst !=some t
theorem E9.get {a0 a:Act} (h:E9 ops a0 a) (t:Tmp) (hn:noDst ops t=true):a.tmps[t]?=a0.tmps[t]?:=h.at' t λi o ho hd=>by
 unfold noDst at hn;rw[Array.all_eq_true_iff_forall_mem]at hn;have:=hn o (Array.mem_of_getElem? ho);rw[hd]at this;simp at this
variable {G:World->World->Prop}
theorem ii.mono {F:Value->World->Prop} {R1 R2:World->Prop} {r:Result Next} (h:ii P F R1 r) (hr:∀w,R1 w->R2 w):ii P F R2 r:=by
 cases r with
 | halt x w=>exact h.elim
 | ok n w=>
  cases n with
  | value u=>exact⟨h.1,hr _ h.2⟩
  | skip=>exact⟨h.1,hr _ h.2⟩
  | enter f args=>exact Calls.mono h λe w' ⟨v,he,hf,hw⟩=>⟨v,he,hf,hr _ hw⟩
  | _=>exact h.elim
def H5 (ops:Array Oper) (pl:List Step):Bool:=
 pl.length == ops.size && Region.noSelect ops &&
 (List.range ops.size).all λk=>match ops[k]? with
  | none=>false
  | some o=>
   (o.after.all λe=> !Region.binds .any e || e.on < k) &&
   ((List.range ops.size).all λi=>match ops[i]? with
    | none=>false
    | some p=>match p.dst with
     | none=>true
     | some d=>(i == k || o.dst !=some d) && (!(o.looksAt ops).contains d || (match pl[i]? with | some .later=>true | _=>false) || (o.after.any λe=>Region.binds .any e && e.on == i))) &&
   (match pl[k]? with
    | some .never=>o.after.any λe=>Region.binds .any e && (match pl[e.on]? with | some .never=>true | some (.dies _)=>true | _=>false)
    | some .later=>(List.range ops.size).all λi=>(match pl[i]? with | some .later=>true | _=>false) || gk ops 6 k i
    | some _=>true
    | none=>false)
structure mj (ops:Array Oper) (pl:List Step):Prop where
 len:pl.length=ops.size
 nosel:∀(j:Nat) (o:Oper) cs b,ops[j]?=some o->o.op≠.select cs b
 front:∀(k:Nat) (o:Oper),ops[k]?=some o->∀e∈o.after,Region.binds .any e=true->e.on < k
 once:∀(k i:Nat) (o p:Oper) (d:Tmp),ops[k]?=some o->ops[i]?=some p->p.dst=some d->i≠k->o.dst≠some d
 waits:∀(k i:Nat) (o p:Oper) (d:Tmp),ops[k]?=some o->ops[i]?=some p->p.dst=some d->d∈o.looksAt ops->pl[i]?=some .later\/∃e∈o.after,Region.binds .any e=true/\e.on=i
 nev:∀(k:Nat) (o:Oper),ops[k]?=some o->pl[k]?=some .never->∃e∈o.after,Region.binds .any e=true/\∃p,pl[e.on]?=some p/\p.idle=true
 lat:∀(k:Nat) (o:Oper),ops[k]?=some o->pl[k]?=some .later->∀(i:Nat) (q:Step),pl[i]?=some q->q.isLater=false->gk ops 6 k i=true
theorem np {pl:List Step} (h:H5 ops pl=true):mj ops pl:=by
 unfold H5 at h;rw[Bool.and_eq_true,Bool.and_eq_true,List.all_eq_true]at h;obtain⟨⟨h1,h2⟩,h3⟩:=h;have len:pl.length=ops.size:=by simpa using h1
 have at':∀k o,ops[k]?=some o->k < ops.size:=λk o ho=>(Array.getElem?_eq_some_iff.1 ho).1;have body:=λk o (ho:ops[k]?=some o)=>by
  have:=h3 k (List.mem_range.2 (at' k o ho));rw[ho]at this;simp only[Bool.and_eq_true,List.all_eq_true,List.mem_range]at this;exact this
 refine⟨len,Region.noSelect_spec h2,?_,?_,?_,?_,?_⟩
 ·intro k o ho e he hb;have:=(body k o ho).1.1;rw[Array.all_eq_true_iff_forall_mem]at this;have:=this e he;rw[hb]at this;simpa using this
 ·intro k i o p d ho hp hd hn;have:=(body k o ho).1.2 i (at' i p hp);rw[hp]at this;simp only[hd,Bool.and_eq_true,Bool.or_eq_true,beq_iff_eq,bne_iff_ne]at this;exact this.1.resolve_left hn
 ·intro k i o p d ho hp hd hl;have:=(body k o ho).1.2 i (at' i p hp);rw[hp]at this;simp only[hd,Bool.and_eq_true,Bool.or_eq_true]at this;have:=this.2;rcases this with (this | this) | this
  ·simp[hl]at this
  ·left;revert this;split
   ·intro _;assumption
   ·intro h;cases h
  ·right;obtain⟨e,he,hb⟩:=Array.any_eq_true'.1 this;simp only[Bool.and_eq_true,beq_iff_eq]at hb;exact⟨e,he,hb.1,hb.2⟩
 ·intro k o ho hp;have:=(body k o ho).2;rw[hp]at this;obtain⟨e,he,hb⟩:=Array.any_eq_true'.1 this;simp only[Bool.and_eq_true]at hb;refine⟨e,he,hb.1,?_⟩;have h2:=hb.2;cases hq:pl[e.on]? with
  | none=>rw[hq]at h2;simp at h2
  | some p=>exact⟨p,rfl,by rw[hq]at h2;revert h2;cases p <;> simp[Step.idle]⟩
 ·intro k o ho hp;have:=(body k o ho).2;rw[hp]at this;simp only[List.all_eq_true,List.mem_range,Bool.or_eq_true]at this;refine λi q hq hn=>(this i (by rw[<-len];exact(List.getElem?_eq_some_iff.1 hq).1)).resolve_left ?_;rw[hq];cases q <;> simp_all[Step.isLater]
def wg (ops:Array Oper) (pl:List Step) (k i:Nat):Option (Value->World->Prop):=if (List.range pl.length).any (λj=>j !=k && jn pl i j && !gk ops 4 j k)then none else(pl[i]?).bind Step.fact?
theorem Fp {pl:List Step} {k i:Nat} {F:Value->World->Prop} (h:wg ops pl k i=some F):(pl[i]?).bind Step.fact?=some F/\∀j,jn pl i j=true->j=k\/gk ops 4 j k=true:=by
 unfold wg at h;split at h
 ·cases h
 ·rename_i hn;refine⟨h,λj hj=>?_⟩
  by_cases e:j=k
  ·exact Or.inl e
  ·cases hc:gk ops 4 j k with
   | true=>exact Or.inr rfl
   | false=>
    exfalso;refine hn (List.any_eq_true.2 ⟨j,List.mem_range.2 (yu hj),?_⟩);rw[hj,hc];simpa using e
def kx (ops:Array Oper) (pl:List Step) (k:Nat) (o:Oper) (V:Nat->Value) (u:World):Prop:=
 ∀(i:Nat) (F:Value->World->Prop),wg ops pl k i=some F->(o.after.any λe=>Region.binds .any e && e.on == i)=true->F (V i) u
def mw (ops:Array Oper) (pl:List Step) (k:Nat) (drop:List Nat):Bool:=(List.range pl.length).all λi=>i == k || drop.contains i || gk ops 4 i k || (match pl[i]? with | some (.sat _)=>false | some (.turn _ _)=>false | _=>true)
def pf (ops:Array Oper) (dj:List Nat) (k:Nat):Bool:=dj.all λj=>j == k || gk ops 4 j k
def zcf (P:Program) (G:World->World->Prop) (ops:Array Oper) (pl:List Step) (R J:World->Prop) (dj:List Nat) (F:(Nat->Value)->Act) (k:Nat) (o:Oper):Step->Prop
 | .val v=>∀V u,R u->(pf ops dj k=true->J u)->kx ops pl k o V u->Region.wanted o (yielded ops (F V).tmps)=true/\Mx P v (G u) ((execOp (F V).eval o).run P u)
 | .off=>∀V u,R u->(pf ops dj k=true->J u)->kx ops pl k o V u->Region.wanted o (yielded ops (F V).tmps)=false
 | .sat Fk=>(∀v u u',Fk v u->G u u'->Fk v u')/\∀V u,R u->(pf ops dj k=true->J u)->kx ops pl k o V u->Region.wanted o (yielded ops (F V).tmps)=true/\ii P Fk (G u) ((execOp (F V).eval o).run P u)
 | .turn Fk drop=>(∀v u u',Fk v u->G u u'->Fk v u')/\∀V u,R u->(pf ops dj k=true->J u)->kx ops pl k o V u->Region.wanted o (yielded ops (F V).tmps)=true/\
   ii P Fk (λu'=>R u'/\(dj.contains k=false->J u->J u')/\∀(i:Nat) (Fi:Value->World->Prop),(pl[i]?).bind Step.fact?=some Fi->i≠k->drop.contains i=false->gk ops 4 i k=false->Fi (V i) u->Fi (V i) u') ((execOp (F V).eval o).run P u)
 | .later=>True
 | .dies chain=>∀V u,R u->(pf ops dj k=true->J u)->kx ops pl k o V u->Region.wanted o (yielded ops (F V).tmps)=true/\Dead P chain (G u) ((execOp (F V).eval o).run P u)
 | .never=>True
def o6 (P:Program) (G:World->World->Prop) (ops:Array Oper) (pl:List Step) (R J:World->Prop) (dj:List Nat) (F:(Nat->Value)->Act):Nat->List Oper->List Step->Prop
 | k,o :: os,p :: ps=>zcf P G ops pl R J dj F k o p/\o6 P G ops pl R J dj F (k+1) os ps
 | _,_,_=>True
theorem o6.at {pl:List Step} {R J:World->Prop} {dj:List Nat} {F:(Nat->Value)->Act}:∀{os:List Oper} {ps:List Step} {k0:Nat},o6 P G ops pl R J dj F k0 os ps->∀(k:Nat) (o:Oper) (p:Step),os[k]?=some o->ps[k]?=some p->zcf P G ops pl R J dj F (k0+k) o p
 | [],_,_,_,k,o,p,ho,_=>by simp at ho
 | _ :: _,[],_,_,k,o,p,_,hp=>by simp at hp
 | o' :: os,p' :: ps,k0,h,k,o,p,ho,hp=>by
  cases k with
  | zero=>
   simp only[List.getElem?_cons_zero,Option.some.injEq]at ho hp;subst ho hp;exact h.1
  | succ k=>
   simp only[List.getElem?_cons_succ]at ho hp;have:=h.2.at k o p ho hp;rw[show k0+1+k=k0+(k+1) by omega]at this;exact this
structure ly (ops:Array Oper) (pl:List Step) (R J:World->Prop) (dj:List Nat) (a0:Act) (V:Nat->Value) (listed:Array Bool) (a:Act) (u:World):Prop where
 gr:R u
 df:a.defers=a0.defers
 sz:a.tmps.size=a0.tmps.size
 lsz:listed.size=ops.size
 done:∀(k:Nat) (o:Oper) (t:Tmp),ops[k]?=some o->o.dst=some t->listed.getD k false=true->a.tmps[t]?=(finS V a0 0 ops.toList pl).tmps[t]?
 rest:∀(t:Tmp),(∀(k:Nat) (o:Oper),ops[k]?=some o->o.dst=some t->listed.getD k false=false)->a.tmps[t]?=a0.tmps[t]?
 fact:∀(i:Nat) (F:Value->World->Prop),(pl[i]?).bind Step.fact?=some F->listed.getD i false=true->(∀j,jn pl i j=true->listed.getD j false=false)->F (V i) u
 lat:∀(k:Nat) (p:Step),pl[k]?=some p->p.idle=true->listed.getD k false=false
 down:∀(k:Nat) (o:Oper),ops[k]?=some o->listed.getD k false=true->∀e∈o.after,Region.binds .any e=true->listed.getD e.on false=true
 jj:(∀j∈dj,listed.getD j false=false)->J u
theorem ly.agree {pl:List Step} {R J:World->Prop} {dj:List Nat} {a0:Act} {V:Nat->Value} {listed:Array Bool} {a:Act} {u:World} (hok:mj ops pl) (I:ly ops pl R J dj a0 V listed a u)
  {k:Nat} {o:Oper} (ho:ops[k]?=some o) (hall:∀e∈o.after,Region.binds .any e=true->listed.getD e.on false=true):
  execOp a.eval o=execOp (finS V a0 0 ops.toList pl).eval o/\Region.wanted o (yielded ops a.tmps)=Region.wanted o (yielded ops (finS V a0 0 ops.toList pl).tmps):=by
 have key:∀t,t∈o.looksAt ops->a.tmps[t]?=(finS V a0 0 ops.toList pl).tmps[t]?:=λt ht=>by
  by_cases hx:∃(i:Nat) (p:Oper),ops[i]?=some p/\p.dst=some t
  ·obtain⟨i,p,hp,hd⟩:=hx;rcases hok.waits k i o p t ho hp hd ht with hlt | ⟨e,he,hb,rfl⟩
   ·have uniq:∀j q,ops[j]?=some q->q.dst=some t->j=i:=λj q hq hd'=>Classical.byContradiction λhn=>hok.once j i q p t hq hp hd (Ne.symm hn) hd';rw[I.rest t (λj q hq hd'=>by obtain rfl:=uniq j q hq hd';exact I.lat _ _ hlt rfl)];rw[rp V t _ _ _ _ (λj q r hq hr hd'=>by
     obtain rfl:=uniq j q (by simpa using hq) hd';rw[hlt]at hr;cases hr;rfl)]
   ·exact I.done _ p t hp hd (hall e he hb)
  ·rw[I.rest t (λi p hp hd=>absurd ⟨i,p,hp,hd⟩ hx)];rw[Ed V t _ _ _ _ (λp hp hd=>by
    obtain⟨i,hi⟩:=List.getElem?_of_mem hp;exact hx ⟨i,p,by simpa using hi,hd⟩)]
 constructor
 ·refine execOp_congr o (λcs b=>hok.nosel k o cs b ho) (λx hx=>?_);cases x with
  | tmp t=>
   have:=key t (List.mem_append_left _ (List.mem_filterMap.2 ⟨.tmp t,by simpa using hx,rfl⟩));simp only[Act.eval,Array.getD_eq_getD_getElem?,this]
  | _=>rfl
 ·unfold Region.wanted;cases hg:o.guard with
  | none=>rfl
  | some gw=>
   obtain⟨g,want⟩:=gw;have:yielded ops a.tmps g=yielded ops (finS V a0 0 ops.toList pl).tmps g:=by
    unfold yielded;cases ht:(ops[g]?).bind (·.dst)with
    | none=>rfl
    | some t=>
     have:=key t (List.mem_append_right _ (by simp[hg,ht]));simp only[Option.bind_some,this]
   simp only[this]
theorem ly.frame {pl:List Step} {R J:World->Prop} {dj:List Nat} {a0:Act} {V V':Nat->Value} {listed:Array Bool} {a:Act} {u:World} (hok:mj ops pl) (I:ly ops pl R J dj a0 V listed a u)
  {k:Nat} {o:Oper} {p:Step} (ho:ops[k]?=some o) (hp:pl[k]?=some p) (hla:p.idle=false) (hG:∀i,i≠k->V' i=V i):
  (a.put o.dst (p.value V' k)).defers=a0.defers/\(a.put o.dst (p.value V' k)).tmps.size=a0.tmps.size/\
  (∀(i:Nat) (q:Oper) (t:Tmp),ops[i]?=some q->q.dst=some t->(listed.setIfInBounds k true).getD i false=true->(a.put o.dst (p.value V' k)).tmps[t]?=(finS V' a0 0 ops.toList pl).tmps[t]?)/\
  (∀(t:Tmp),(∀(i:Nat) (q:Oper),ops[i]?=some q->q.dst=some t->(listed.setIfInBounds k true).getD i false=false)->(a.put o.dst (p.value V' k)).tmps[t]?=a0.tmps[t]?):=by
 have hk:k < listed.size:=by rw[I.lsz];exact(Array.getElem?_eq_some_iff.1 ho).1
 have pe:∀(i:Nat) (q:Step),pl[i]?=some q->i≠k->q.value V' i=q.value V i:=λi q _ hn=>by
  have:=hG i hn;cases q <;> first | rfl | (unfold Step.value;rw[this])
 refine⟨?_,?_,?_,?_⟩
 ·have:=I.df;cases o.dst <;> exact this
 ·have:=I.sz;cases o.dst <;> simpa[Act.put]using this
 ·intro i q t hq hd hl;have hlt:∀s:Nat,t < s\/s<=t:=λs=>Nat.lt_or_ge t s
  by_cases e:i=k
  ·subst e;rw[ho]at hq;cases hq;rw[hd];rcases hlt a0.tmps.size with ht | ht
   ·rw[Bs V' t ops.toList pl a0 0 i o p (by simpa using ho) hp (Step.isLater_of_idle hla) hd (λj q hj hn=>by
     intro hd';exact hok.once j i q o t (by simpa using hj) ho hd (Ne.symm hn) hd') ht]
    simp[Act.put,I.sz,ht]
   ·rw[Array.getElem?_eq_none (by simpa[Act.put,I.sz]using ht),Array.getElem?_eq_none (by rw[rn];exact ht)]
  ·have hl':listed.getD i false=true:=(di hl).resolve_left e;have d0:=I.done i q t hq hd hl';have hne:o.dst≠some t:=hok.once k i o q t ho hq hd e;have e1:(a.put o.dst (p.value V' k)).tmps[t]?=a.tmps[t]?:=by
    cases hod:o.dst with
    | none=>rfl
    | some d=>
     have:d≠t:=λh=>hne (by rw[hod,h]);simp[Act.put,Array.getElem?_setIfInBounds_ne this]
   rw[e1,d0];obtain⟨q',hq'⟩:∃q',pl[i]?=some q':=⟨pl[i]'(by rw[hok.len];exact(Array.getElem?_eq_some_iff.1 hq).1),List.getElem?_eq_getElem _⟩;have hql:q'.isLater=false:=by
    cases hc:q'.isLater with
    | false=>rfl
    | true=>
     have:=I.lat i q' hq' (by cases q' <;> first | rfl | cases hc);rw[hl']at this;cases this
   have uniq:∀j r,ops.toList[j]?=some r->j≠i->r.dst≠some t:=λj r hj hn=>hok.once j i r q t (by simpa using hj) hq hd (Ne.symm hn);rcases hlt a0.tmps.size with ht | ht
   ·rw[Bs V t ops.toList pl a0 0 i q q' (by simpa using hq) hq' hql hd uniq ht,Bs V' t ops.toList pl a0 0 i q q' (by simpa using hq) hq' hql hd uniq ht];rw[Nat.zero_add,pe i q' hq' e]
   ·rw[Array.getElem?_eq_none (by rw[rn];exact ht),Array.getElem?_eq_none (by rw[rn];exact ht)]
 ·intro t ht;have hne:o.dst≠some t:=λh=>by
   have:=ht k o ho h;rw[ka hk]at this;cases this
  have e1:(a.put o.dst (p.value V' k)).tmps[t]?=a.tmps[t]?:=by
   cases hod:o.dst with
   | none=>rfl
   | some d=>
    have:d≠t:=λh=>hne (by rw[hod,h]);simp[Act.put,Array.getElem?_setIfInBounds_ne this]
  rw[e1];exact I.rest t λi q hq hd=>ia (ht i q hq hd)
theorem ly.fin {pl:List Step} {R J:World->Prop} {dj:List Nat} {a0:Act} {V:Nat->Value} {listed:Array Bool} {a:Act} {u:World} (hok:mj ops pl) (I:ly ops pl R J dj a0 V listed a u)
  (hl:∀(k:Nat) (p:Step),pl[k]?=some p->p.isLater=false->listed.getD k false=true):a=finS V a0 0 ops.toList pl:=by
 have e1:a.tmps=(finS V a0 0 ops.toList pl).tmps:=by
  apply Array.ext_getElem?;intro t
  by_cases hx:∃(i:Nat) (p:Oper) (q:Step),ops[i]?=some p/\p.dst=some t/\pl[i]?=some q/\q.isLater=false
  ·obtain⟨i,p,q,hp,hd,hq,hn⟩:=hx;exact I.done i p t hp hd (hl i q hq hn)
  ·have hx':∀(i:Nat) (p:Oper) (q:Step),ops[i]?=some p->pl[i]?=some q->p.dst=some t->q.isLater=true:=λi p q hp hq hd=>by
    cases hc:q.isLater with
    | true=>rfl
    | false=>exact absurd ⟨i,p,q,hp,hd,hq,hc⟩ hx
   rw[I.rest t (λi p hp hd=>by
    obtain⟨q,hq⟩:∃q,pl[i]?=some q:=⟨pl[i]'(by rw[hok.len];exact(Array.getElem?_eq_some_iff.1 hp).1),List.getElem?_eq_getElem _⟩;have:=hx' i p q hp hq hd;exact I.lat i q hq (by cases q <;> first | rfl | cases this))]
   rw[rp V t _ _ _ _ (λi o p ho hp hd=>hx' i o p (by simpa using ho) hp hd)]
 have e2:a.defers=(finS V a0 0 ops.toList pl).defers:=by rw[I.df,Ap]
 cases a;cases h:finS V a0 0 ops.toList pl;rw[h]at e1 e2;simp only at e1 e2;rw[e1,e2]
theorem ly.lat' {pl:List Step} {R J:World->Prop} {dj:List Nat} {a0:Act} {V:Nat->Value} {listed:Array Bool} {a:Act} {u:World} (I:ly ops pl R J dj a0 V listed a u)
  {k:Nat} {o:Oper} {p:Step} (_ho:ops[k]?=some o) (hp:pl[k]?=some p) (hla:p.idle=false):∀(i:Nat) (q:Step),pl[i]?=some q->q.idle=true->(listed.setIfInBounds k true).getD i false=false:=λi q hi hq=>by
 have:k≠i:=λe=>by subst e;rw[hp]at hi;cases hi;rw[hla]at hq;cases hq
 rw[getD_set_ne false this];exact I.lat i q hi hq
theorem ly.down' {pl:List Step} {R J:World->Prop} {dj:List Nat} {a0:Act} {V:Nat->Value} {listed:Array Bool} {a:Act} {u:World} (I:ly ops pl R J dj a0 V listed a u)
  {k:Nat} {o:Oper} (ho:ops[k]?=some o) (hall:∀e∈o.after,Region.binds .any e=true->listed.getD e.on false=true):
  ∀(i:Nat) (q:Oper),ops[i]?=some q->(listed.setIfInBounds k true).getD i false=true->∀e∈q.after,Region.binds .any e=true->(listed.setIfInBounds k true).getD e.on false=true:=λi q hq hl e he hb=>by
 rcases di hl with rfl | h
 ·rw[ho]at hq;cases hq;exact getD_set_true (hall e he hb)
 ·exact getD_set_true (I.down i q hq h e he hb)
theorem ly.known {pl:List Step} {R J:World->Prop} {dj:List Nat} {a0:Act} {V:Nat->Value} {listed:Array Bool} {a:Act} {u:World} (I:ly ops pl R J dj a0 V listed a u)
  {k:Nat} {o:Oper} (hf:listed.getD k false=false) (hall:∀e∈o.after,Region.binds .any e=true->listed.getD e.on false=true):kx ops pl k o V u:=λi F hi he=>by
 obtain⟨e',he',hb⟩:=Array.any_eq_true'.1 he;simp only[Bool.and_eq_true,beq_iff_eq]at hb;obtain⟨hb,rfl⟩:=hb;obtain⟨h1,h2⟩:=Fp hi;refine I.fact _ F h1 (hall e' he' hb) (λj hj=>?_);rcases h2 j hj with rfl | hc
 ·exact hf
 ·cases hl:listed.getD j false with
  | false=>rfl
  | true=>
   have:=fo I.down 4 j k hc λo' ho' e he hb=>I.down j o' ho' hl e he hb;rw[hf]at this;cases this
theorem ly.useJ {pl:List Step} {R J:World->Prop} {dj:List Nat} {a0:Act} {V:Nat->Value} {listed:Array Bool} {a:Act} {u:World} (I:ly ops pl R J dj a0 V listed a u) (_hsz:∀j∈dj,j < ops.size)
  {k:Nat} (hf:listed.getD k false=false):pf ops dj k=true->J u:=λh=>I.jj λj hj=>by
 unfold pf at h;have:=List.all_eq_true.1 h j hj;simp only[Bool.or_eq_true,beq_iff_eq]at this;rcases this with rfl | hc
 ·exact hf
 ·cases hl:listed.getD j false with
  | false=>rfl
  | true=>
   have:=fo I.down 4 j k hc λo' ho' e he hb=>I.down j o' ho' hl e he hb;rw[hf]at this;cases this
theorem ly.step {pl:List Step} {R J:World->Prop} {dj:List Nat} {a0:Act} {V V':Nat->Value} {listed:Array Bool} {a:Act} {u u':World} (hok:mj ops pl) (I:ly ops pl R J dj a0 V listed a u)
  {k:Nat} {o:Oper} {p:Step} (ho:ops[k]?=some o) (hp:pl[k]?=some p) (hla:p.idle=false) (hall:∀e∈o.after,Region.binds .any e=true->listed.getD e.on false=true) (g:G u u') (hRG:∀u u',R u->G u u'->R u') (hJG:∀u u',J u->G u u'->J u')
  (hG:∀i,i≠k->V' i=V i) (hst:∀(i:Nat) (F:Value->World->Prop),(pl[i]?).bind Step.fact?=some F->∀v u u',F v u->G u u'->F v u') (hF:∀F,p.fact?=some F->F (V' k) u') (hf:listed.getD k false=false):
  ly ops pl R J dj a0 V' (listed.setIfInBounds k true) (a.put o.dst (p.value V' k)) u':=by
 obtain⟨f1,f2,f3,f4⟩:=I.frame hok ho hp (V':=V') hla hG;refine⟨hRG _ _ I.gr g,f1,f2,by simp[I.lsz],f3,f4,?_,I.lat' ho hp hla,I.down' ho hall,λhd=>hJG _ _ (I.jj λj hj=>ia (hd j hj)) g⟩;intro i F hi hl hd
 by_cases e:i=k
 ·subst e;rw[hp]at hi;exact hF F hi
 ·rw[hG i e];exact hst i F hi _ _ _ (I.fact i F hi ((di hl).resolve_left e) (λj hj=>ia (hd j hj))) g
theorem ly.stepM {pl:List Step} {R J:World->Prop} {dj:List Nat} {a0:Act} {V V':Nat->Value} {listed:Array Bool} {a:Act} {u u':World} (hok:mj ops pl) (I:ly ops pl R J dj a0 V listed a u)
  {k:Nat} {o:Oper} {p:Step} (ho:ops[k]?=some o) (hp:pl[k]?=some p) (hla:p.idle=false) (hall:∀e∈o.after,Region.binds .any e=true->listed.getD e.on false=true) (g:R u') (hjm:dj.contains k=false->J u->J u')
  (hG:∀i,i≠k->V' i=V i) (hst:∀(i:Nat) (F:Value->World->Prop),(pl[i]?).bind Step.fact?=some F->i≠k->jn pl i k=false->listed.getD i false=true->F (V i) u->F (V i) u') (hF:∀F,p.fact?=some F->F (V' k) u') (hkl:k < listed.size):
  ly ops pl R J dj a0 V' (listed.setIfInBounds k true) (a.put o.dst (p.value V' k)) u':=by
 obtain⟨f1,f2,f3,f4⟩:=I.frame hok ho hp (V':=V') hla hG;have hjj:(∀j∈dj,(listed.setIfInBounds k true).getD j false=false)->J u':=λhd=>by
  have hnk:dj.contains k=false:=by
   cases hc:dj.contains k with
   | false=>rfl
   | true=>
    have:=hd k (List.contains_iff_mem.1 hc);rw[ka hkl]at this;cases this
  exact hjm hnk (I.jj λj hj=>ia (hd j hj))
 refine⟨g,f1,f2,by simp[I.lsz],f3,f4,?_,I.lat' ho hp hla,I.down' ho hall,hjj⟩;intro i F hi hl hd
 by_cases e:i=k
 ·subst e;rw[hp]at hi;exact hF F hi
 ·rw[hG i e];refine hst i F hi e ?_ ((di hl).resolve_left e) (I.fact i F hi ((di hl).resolve_left e) (λj hj=>ia (hd j hj)));cases hq:jn pl i k with
  | false=>rfl
  | true=>have:=hd k hq;rw[ka hkl]at this;cases this
theorem o6.stable {pl:List Step} {R J:World->Prop} {dj:List Nat} {F:(Nat->Value)->Act} {os:List Oper} (h:o6 P G ops pl R J dj F 0 os pl) (hl:pl.length=os.length):∀(i:Nat) (Fk:Value->World->Prop),(pl[i]?).bind Step.fact?=some Fk->∀v u u',Fk v u->G u u'->Fk v u':=λi Fk hi=>by
 cases hp:pl[i]? with
 | none=>rw[hp]at hi;cases hi
 | some p=>
  have ho:os[i]?=some (os[i]'(by rw[<-hl];exact(List.getElem?_eq_some_iff.1 hp).1)):=List.getElem?_eq_getElem _;have:=h.at i _ _ ho hp;rw[hp]at hi;cases p with
  | sat F=>cases hi;exact this.1
  | turn F d=>cases hi;exact this.1
  | _=>cases hi
theorem Sm (hGr:∀u,G u u) {pl:List Step} (hok:mj ops pl) {R J:World->Prop} {dj:List Nat} {a0:Act} (hRG:∀u u',R u->G u u'->R u') (hJG:∀u u',J u->G u u'->J u') (hsz:∀j∈dj,j < ops.size) (hO:o6 P G ops pl R J dj (λV=>finS V a0 0 ops.toList pl) 0 ops.toList pl)
  (hP:∀(k:Nat) (chain:List PanicEntry),pl[k]?=some (.dies chain)->∀a u,R u->a.defers=a0.defers->E9 ops a0 a->Q (.panic chain) a u)
  (hF:(∀(k:Nat) (chain:List PanicEntry),pl[k]?≠some (.dies chain))->∀V u,R u->(∀(i:Nat) (F:Value->World->Prop),ic pl i=some F->F (V i) u)->
   ∀fuel,kq (fd pl) ops.size<=fuel->wpAny P .any ops Q fuel (fd pl) (finS V a0 0 ops.toList pl) u):
  ∀(fuel:Nat) (listed:Array Bool) (a:Act) (u:World) (V:Nat->Value),ly ops pl R J dj a0 V listed a u->kq listed ops.size<=fuel->wpAny P .any ops Q fuel listed a u:=by
 have hst:=hO.stable (by simpa using hok.len);have fin:∀(fuel:Nat) (listed:Array Bool) (a:Act) (u:World) (V:Nat->Value),ly ops pl R J dj a0 V listed a u->kq listed ops.size<=fuel->(∀(k:Nat) (p:Step),pl[k]?=some p->p.isLater=false->listed.getD k false=true)->wpAny P .any ops Q fuel listed a u:=by
  intro fuel listed a u V I hc hl;have el:listed=fd pl:=by
   apply Array.ext
   ·simp[fd,I.lsz,hok.len]
   ·intro k h1 h2;have hk:k < pl.length:=by rw[hok.len,<-I.lsz];exact h1
    have hp:pl[k]?=some pl[k]:=List.getElem?_eq_getElem hk;have e1:(fd pl)[k]=(match pl[k]with | .later=>false | _=>true):=by
     simp[fd]
    rw[e1];generalize pl[k]=q at *;cases q
    case later=>
     have:=I.lat k _ hp rfl;simpa[h1]using this
    all_goals
     have:=hl k _ hp rfl;have e2:listed[k]=true:=by simpa[h1]using this
     rw[e2]
  rw[I.fin hok hl];have hd:∀(k:Nat) (chain:List PanicEntry),pl[k]?≠some (.dies chain):=λk chain hk=>by have:=hl k _ hk rfl;rw[I.lat k _ hk rfl]at this;cases this
  have hfact:∀(i:Nat) (F:Value->World->Prop),ic pl i=some F->F (V i) u:=λi F hi=>by
   obtain⟨h1,h2⟩:=Aq hi;refine I.fact i F h1 ?_ (λj hj=>by rw[h2 j]at hj;cases hj);cases hp:pl[i]? with
   | none=>rw[hp]at h1;cases h1
   | some p=>
    rw[hp]at h1;refine hl i p hp ?_;cases p <;> first | rfl | cases h1
  have hg:=I.gr;rw[el]at hc ⊢;exact hF hd V u hg hfact fuel hc
 intro fuel
 induction fuel with
 | zero=>
  intro listed a u V I hc;have hl:=zc ops.size (Nat.le_zero.1 hc);exact fin 0 listed a u V I hc λk p hp _=>hl k (by rw[<-hok.len];exact(List.getElem?_eq_some_iff.1 hp).1)
 | succ fuel ih=>
  intro listed a u V I hc
  by_cases hfin:∀(k:Nat) (p:Step),pl[k]?=some p->p.isLater=false->listed.getD k false=true
  ·exact fin (fuel+1) listed a u V I hc hfin
  have hlate:∀(k:Nat) (o:Oper),ops[k]?=some o->(∀e∈o.after,Region.binds .any e=true->listed.getD e.on false=true)->pl[k]?≠some .later:=λk o ho hall hp=>by
   refine hfin λi q hq hn=>?_;exact fo I.down 6 k i (hok.lat k o ho hp i q hq hn) λo' ho' e he hb=>by rw[ho]at ho';cases ho';exact hall e he hb
  refine⟨λhr=>?_,λk hk=>?_⟩
  ·exfalso;have all:∀k,k < ops.size->listed.getD k false=true:=by
    intro k
    induction k using Nat.strongRecOn with
    | ind k ihk=>
     intro hk;cases hl:listed.getD k false with
     | true=>rfl
     | false=>
      exfalso;have ho:ops[k]?=some ops[k]:=Array.getElem?_eq_getElem hk;have:k∈Region.ready .any ops listed:=mem_ready.2 ⟨by
       have:=I.lsz;simp[Array.getD_eq_getD_getElem?,this,hk]at hl ⊢;exact hl,ops[k],ho,λe he hb=>ihk e.on (hok.front k _ ho e he hb) (by have:=hok.front k _ ho e he hb;omega)⟩
      rw[hr]at this;cases this
   exact hfin λk p hp _=>all k (by rw[<-hok.len];exact(List.getElem?_eq_some_iff.1 hp).1)
  obtain⟨h0,o,ho,hall⟩:=mem_ready.1 hk;have hk':k < ops.size:=(Array.getElem?_eq_some_iff.1 ho).1;have hkl:k < listed.size:=by rw[I.lsz];exact hk'
  have hf:=qf I.lsz hk' h0;have hc':kq (listed.setIfInBounds k true) ops.size<=fuel:=by
   have:=Em hkl hf ops.size;rw[if_pos hk']at this;omega
  obtain⟨p,hp⟩:∃p,pl[k]?=some p:=⟨pl[k]'(by rw[hok.len];exact hk'),List.getElem?_eq_getElem _⟩;obtain⟨e1,e2⟩:=I.agree hok ho hall;have O:=hO.at k o p (by simpa using ho) hp;rw[Nat.zero_add]at O;have KN:=I.known (o:=o) hf hall;have KJ:=I.useJ hsz hf;unfold Go.wpOp;rw[ho];dsimp only;rw[e2];cases p with
  | later=>exact absurd hp (hlate k o ho hall)
  | never=>
   obtain⟨e,he,hb,q,hq,hi⟩:=hok.nev k o ho hp;have:=hall e he hb;rw[I.lat e.on q hq hi]at this;cases this
  | dies chain=>
   obtain⟨hw,hv⟩:=O V u I.gr KJ KN;dsimp only at hw hv;rw[if_pos hw];left;unfold Oper.wp;rw[e1];exact Dead.upon hv λu' g=>hP k chain hp a u' (hRG _ _ I.gr g) I.df ⟨I.sz,λt ht=>I.rest t λi q hq hd=>absurd hd (ht i q hq)⟩
  | val v=>
   obtain⟨hw,hv⟩:=O V u I.gr KJ KN;dsimp only at hw hv;rw[if_pos hw];left;unfold Oper.wp;rw[e1];exact Mx.upon hv λu' g=>ih _ _ u' V (I.step (V':=V) hok ho hp rfl hall g hRG hJG (λ_ _=>rfl) hst (λF h=>by cases h) hf) hc'
  | off=>
   have hw:=O V u I.gr KJ KN;dsimp only at hw;rw[if_neg (by rw[hw];simp)];exact ih _ _ u V (I.step (V':=V) hok ho hp rfl hall (hGr u) hRG hJG (λ_ _=>rfl) hst (λF h=>by cases h) hf) hc'
  | sat Fk=>
   obtain⟨hw,hv⟩:=O.2 V u I.gr KJ KN;dsimp only at hw hv;rw[if_pos hw];left;unfold Oper.wp;rw[e1];refine ii.upon hv λv u' hfv g=>?_;have hval:(Step.sat Fk).value (λi=>if i=k then v else V i) k=v:=by simp[Step.value]
   have st:=I.step (V':=λi=>if i=k then v else V i) hok ho hp rfl hall g hRG hJG (λi hi=>by simp[hi]) hst (λF h=>by cases h;simpa using hfv) hf;rw[hval]at st;exact ih _ _ u' _ st hc'
  | turn Fk drop=>
   obtain⟨hw,hv⟩:=O.2 V u I.gr KJ KN;dsimp only at hw hv;rw[if_pos hw];left;unfold Oper.wp;rw[e1];refine ii.upon hv λv u' hfv g=>?_;have hval:(Step.turn Fk drop).value (λi=>if i=k then v else V i) k=v:=by simp[Step.value]
   have st:=I.stepM (V':=λi=>if i=k then v else V i) hok ho hp rfl hall g.1 g.2.1 (λi hi=>by simp[hi]) (λi Fi hi hn hdr hli hx=>g.2.2 i Fi hi hn (by unfold jn at hdr;rw[hp]at hdr;exact hdr) (by
    cases hcov:gk ops 4 i k with
    | false=>rfl
    | true=>
     have:=fo I.down 4 i k hcov λo' ho' e he hb=>I.down i o' ho' hli e he hb;rw[hf]at this;cases this) hx) (λF h=>by cases h;simpa using hfv) hkl
   rw[hval]at st;exact ih _ _ u' _ st hc'
theorem mv {id:Nat} {w:World} {a0:Act} (hGr:∀u,G u u) (hGd:G w w.drew) (R J:World->Prop) (dj:List Nat) (hRG:∀u u',R u->G u u'->R u') (hJG:∀u u',J u->G u u'->J u') (hR0:R w) (hJ0:J w) (hsz:(dj.all λj=>decide (j < ops.size))=true) (pl:List Step) {F:(Nat->Value)->Act} (hm:P.follows .mixedOrders=true) (hok:H5 ops pl=true)
  (hE:∀V,finS V a0 0 ops.toList pl=F V)
  (hO:o6 P G ops pl R J dj F 0 ops.toList pl)
  (hP:∀(k:Nat) (chain:List PanicEntry),pl[k]?=some (.dies chain)->∀a u,R u->a.defers=a0.defers->E9 ops a0 a->Q (.panic chain) a u)
  (hF:(∀(k:Nat) (chain:List PanicEntry),pl[k]?≠some (.dies chain))->∀V u,R u->(∀(i:Nat) (F:Value->World->Prop),ic pl i=some F->F (V i) u)->
   ∀fuel,kq (fd pl) ops.size<=fuel->wpAny P .any ops Q fuel (fd pl) (F V) u):
  (Code.region id ops true).wp P Q a0 w:=by
 have hok':=np hok;obtain rfl:(λV=>finS V a0 0 ops.toList pl)=F:=funext hE;refine wp_region_any hm ?_;have h0:∀k,(Array.replicate ops.size false).getD k false=false:=λk=>by
  by_cases h:k < ops.size <;> simp[h]
 have hd:=hGd;refine Sm hGr (R:=R) (J:=J) (dj:=dj) hok' hRG hJG (λj hj=>of_decide_eq_true (List.all_eq_true.1 hsz j hj)) hO hP hF ops.size _ _ _ (λ_=>undef) ⟨hRG _ _ hR0 hd,rfl,rfl,Yj,?_,λ_ _=>rfl,?_,λk _ _ _=>h0 k,?_,λ_=>hJG _ _ hJ0 hd⟩ ?_
 ·intro k o t _ _ h;rw[h0]at h;cases h
 ·intro i F _ h _;rw[h0]at h;cases h
 ·intro k o _ h;rw[h0]at h;cases h
 ·have:∀n,kq (Array.replicate ops.size false) n<=n:=λn=>by
   induction n with
   | zero=>exact Yv _
   | succ n ih=>simp only[kq];split <;> omega
  exact this _
theorem m4 {pl:List Step} {k:Nat} {o:Oper} {V:Nat->Value} {u:World} (h:kx ops pl k o V u):Hb pl k o V u:=λi F hF ha=>h i F (by
 obtain⟨h1,h2⟩:=Iq hF;unfold wg;rw[if_neg λhc=>?_]
 ·exact h1
 ·obtain⟨j,_,hj⟩:=List.any_eq_true.1 hc;simp only[Bool.and_eq_true,bne_iff_ne,ne_eq]at hj;exact hj.1.1 (h2 j hj.1.2)) ha
theorem OwesT.k {pl:List Step} {w1:World} {F:(Nat->Value)->Act} {k:Nat} {o:Oper} {p:Step} (h:OwesT P G ops pl w1 F k o p):zcf P G ops pl (λu=>G w1 u) (λ_=>True) [] F k o p:=by
 cases p with
 | val v=>exact λV u hu _ hk=>h V u hu (m4 hk)
 | off=>exact λV u hu _ hk=>h V u hu (m4 hk)
 | sat Fk=>exact⟨h.1,λV u hu _ hk=>h.2 V u hu (m4 hk)⟩
 | turn Fk d=>exact⟨h.1,λV u hu _ hk=>⟨(h.2 V u hu (m4 hk)).1,(h.2 V u hu (m4 hk)).2.mono λu' g=>⟨g.1,λ_ _=>trivial,λi Fi a b c _ e=>g.2 i Fi a b c e⟩⟩⟩
 | later=>trivial
 | dies c=>exact λV u hu _ hk=>h V u hu (m4 hk)
 | never=>trivial
theorem re.k {pl:List Step} {w1:World} {F:(Nat->Value)->Act}:∀{os:List Oper} {ps:List Step} {k:Nat},re P G ops pl w1 F k os ps->o6 P G ops pl (λu=>G w1 u) (λ_=>True) [] F k os ps
 | [],ps,_,_=>by cases ps <;> trivial
 | _ :: _,[],_,_=>trivial
 | _ :: _,_ :: _,_,h=>⟨h.1.k,h.2.k⟩
theorem mt {id:Nat} {w:World} {a0:Act} (hGr:∀u,G u u) (hTr:∀a b c,G a b->G b c->G a c) (hGd:G w w.drew) (pl:List Step) {F:(Nat->Value)->Act} (hm:P.follows .mixedOrders=true) (hok:H5 ops pl=true)
  (hE:∀V,finS V a0 0 ops.toList pl=F V)
  (hO:re P G ops pl w F 0 ops.toList pl)
  (hP:∀(k:Nat) (chain:List PanicEntry),pl[k]?=some (.dies chain)->∀a u,G w u->a.defers=a0.defers->E9 ops a0 a->Q (.panic chain) a u)
  (hF:(∀(k:Nat) (chain:List PanicEntry),pl[k]?≠some (.dies chain))->∀V u,G w u->(∀(i:Nat) (F:Value->World->Prop),ic pl i=some F->F (V i) u)->
   ∀fuel,kq (fd pl) ops.size<=fuel->wpAny P .any ops Q fuel (fd pl) (F V) u):
  (Code.region id ops true).wp P Q a0 w:=
 mv hGr hGd (λu=>G w u) (λ_=>True) [] (λ_u _u' h g=>hTr _ _ _ h g) (λ_ _ _ _=>trivial) (hGr w) trivial rfl pl hm hok hE hO.k hP hF
theorem gy {id:Nat} {w:World} {a0:Act} (pl:List Step) {F:(Nat->Value)->Act} (hm:P.follows .mixedOrders=true) (hok:H5 ops pl=true)
  (hE:∀V,finS V a0 0 ops.toList pl=F V)
  (hO:re P Gr ops pl w F 0 ops.toList pl)
  (hP:∀(k:Nat) (chain:List PanicEntry),pl[k]?=some (.dies chain)->∀a u,Gr w u->a.defers=a0.defers->E9 ops a0 a->Q (.panic chain) a u)
  (hF:(∀(k:Nat) (chain:List PanicEntry),pl[k]?≠some (.dies chain))->∀V u,Gr w u->(∀(i:Nat) (F:Value->World->Prop),ic pl i=some F->F (V i) u)->
   ∀fuel,kq (fd pl) ops.size<=fuel->wpAny P .any ops Q fuel (fd pl) (F V) u):
  (Code.region id ops true).wp P Q a0 w:=
 mt Yu (λ_ _ _ h g=>h.trans g) (Yu w).drew pl hm hok hE hO hP hF
def ji (pl:List Step):Bool:=pl.all fun | .dies _=>false | _=>true
theorem vr {pl:List Step} {w:World} {a0:Act} (h:ji pl=true):∀(k:Nat) (chain:List PanicEntry),pl[k]?=some (.dies chain)->∀a u,Gr w u->a.defers=a0.defers->E9 ops a0 a->Q (.panic chain) a u:=λk chain hk=>by
 unfold ji at h;rw[List.all_eq_true]at h;have:=h _ (List.mem_of_getElem? hk);simp at this
theorem pq {id:Nat} {w:World} {a0:Act} (k:Nat) (chain:List PanicEntry) (pl:List Step) {F:(Nat->Value)->Act} (hm:P.follows .mixedOrders=true) (hok:(H5 ops pl && (match pl[k]? with | some (.dies _)=>true | _=>false) && (List.range ops.size).all λi=>i == k || match pl[i]? with | some (.dies _)=>false | _=>true)=true)
  (hE:∀V,finS V a0 0 ops.toList pl=F V)
  (hO:re P Gr ops pl w F 0 ops.toList pl) (hk:pl[k]?=some (.dies chain))
  (hP:∀a u,Gr w u->a.defers=a0.defers->E9 ops a0 a->Q (.panic chain) a u):
  (Code.region id ops true).wp P Q a0 w:=by
 simp only[Bool.and_eq_true,List.all_eq_true,List.mem_range,Bool.or_eq_true,beq_iff_eq]at hok;have hok':=np hok.1.1;refine gy pl hm hok.1.1 hE hO ?_ ?_
 ·intro k' chain' hk' a u hg hd hun;have:=hok.2 k' (by rw[<-hok'.len];exact(List.getElem?_eq_some_iff.1 hk').1);rw[hk']at this;rcases this with rfl | this
  ·rw[hk]at hk';cases hk';exact hP a u hg hd hun
  ·simp at this
 ·intro hn;exact absurd hk (hn k chain)
theorem ah {id:Nat} {w:World} {a0:Act} (pl:List Step) {F:(Nat->Value)->Act} (hm:P.follows .mixedOrders=true) (hok:(H5 ops pl && ji pl && (Region.ready .any ops (fd pl)).isEmpty)=true)
  (hE:∀V,finS V a0 0 ops.toList pl=F V)
  (hO:re P Gr ops pl w F 0 ops.toList pl)
  (hF:∀V u,Gr w u->(∀(i:Nat) (F:Value->World->Prop),ic pl i=some F->F (V i) u)->Q .normal (F V) u):
  (Code.region id ops true).wp P Q a0 w:=by
 rw[Bool.and_eq_true,Bool.and_eq_true]at hok;exact gy pl hm hok.1.1 hE hO (vr hok.1.2) λ_ V u hg hb fuel _=>wpAny_done (by simpa using hok.2) (hF V u hg hb) fuel
def Qu (pl:List Step) (k:Nat) (drop:List Nat):Bool:=(List.range pl.length).all λi=>i == k || drop.contains i || (match pl[i]? with | some (.sat _)=>false | some (.turn _ _)=>false | _=>true)
theorem aw {pl:List Step} {k:Nat} {drop:List Nat} {Fk:Value->World->Prop} {w1:World} {V:Nat->Value} {u:World} {r:Result Next} (hno:Qu pl k drop=true) (h:ii P Fk (λu'=>Gr w1 u') r):
  ii P Fk (λu'=>Gr w1 u'/\∀(i:Nat) (Fi:Value->World->Prop),(pl[i]?).bind Step.fact?=some Fi->i≠k->drop.contains i=false->Fi (V i) u->Fi (V i) u') r:=by
 refine h.mono λu' g=>⟨g,λi Fi hi hk hd=>?_⟩;exfalso;unfold Qu at hno;rw[List.all_eq_true]at hno;have hlt:i < pl.length:=by
  cases hp:pl[i]? with
  | none=>rw[hp]at hi;cases hi
  | some p=>exact(List.getElem?_eq_some_iff.1 hp).1
 have:=hno i (List.mem_range.2 hlt);rw[hd]at this;cases hp:pl[i]? with
 | none=>rw[hp]at hi;cases hi
 | some p=>
  rw[hp]at hi this;cases p <;> first | (cases hi;done) | (simp at this;exact hk this)
def zf (ops:Array Oper):Array Bool->List Nat->Bool
 | listed,[]=>(Region.ready .any ops listed).isEmpty
 | listed,i :: r=>(Region.ready .any ops listed == [i]) && zf ops (listed.setIfInBounds i true) r
def Fa (P:Program) (ops:Array Oper) (Q:Exit->Act->World->Prop):List Nat->Act->World->Prop
 | [],a,w=>Q .normal a w
 | i :: r,a,w=>Lone P ops Q i (Fa P ops Q r) a w
theorem Fa.fin {a:Act} {w:World} (h:Q .normal a w):Fa P ops Q [] a w:=h
theorem Fa.next {i:Nat} {r:List Nat} {a:Act} {w:World} (h:Lone P ops Q i (Fa P ops Q r) a w):Fa P ops Q (i :: r) a w:=h
theorem Fa.any {ls:List Nat}:∀{listed:Array Bool} {fuel:Nat} {a:Act} {w:World},zf ops listed ls=true->ls.length<=fuel->Fa P ops Q ls a w->wpAny P .any ops Q fuel listed a w:=by
 induction ls with
 | nil=>intro listed fuel a w hc _ h;exact wpAny_done (by simpa[zf]using hc) h fuel
 | cons i r ih=>
  intro listed fuel a w hc hf h;simp only[zf,Bool.and_eq_true,beq_iff_eq]at hc;obtain⟨f,rfl⟩:∃f,fuel=f+1:=⟨fuel - 1,by simp at hf;omega⟩;refine wpAny_all hc.1 Yj λk hk=>?_;simp only[List.mem_singleton]at hk;subst hk;exact wpOp_mono (λa' w' h'=>ih hc.2 (by simp at hf;omega) h') h.wpOp
def za4 (ops:Array Oper) (pl:List Step) (ls:List Nat):Bool:=
 H5 ops pl && ji pl && zf ops (fd pl) ls && decide (ls.length<=kq (fd pl) ops.size)
theorem bz {id:Nat} {w:World} {a0:Act} (ls:List Nat) (pl:List Step) {F:(Nat->Value)->Act} (hm:P.follows .mixedOrders=true) (hok:za4 ops pl ls=true)
  (hE:∀V,finS V a0 0 ops.toList pl=F V)
  (hO:re P Gr ops pl w F 0 ops.toList pl)
  (hF:∀V u,Gr w u->(∀(i:Nat) (F:Value->World->Prop),ic pl i=some F->F (V i) u)->Fa P ops Q ls (F V) u):
  (Code.region id ops true).wp P Q a0 w:=by
 unfold za4 at hok;simp only[Bool.and_eq_true,decide_eq_true_eq]at hok;obtain⟨⟨⟨h1,h0⟩,h2⟩,h3⟩:=hok;exact gy pl hm h1 hE hO (vr h0) λ_ V u hg hb fuel hc=>Fa.any h2 (Nat.le_trans h3 hc) (hF V u hg hb)
end
end Go.Proofs.YtimcfaoabaflkaaGreatDoor
