/- RX, part 13: what an operation does to a state; one run behind another. -/
import Derived.Test.YtimcfaoabaflkaaGreatDoorRxJ
import Derived.OrdersIn
import Derived.RangeFuncLeaves
namespace Go.Proofs.YtimcfaoabaflkaaGreatDoor
section
namespace RX
noncomputable section
section
variable {X:Nat->Prop} {sg sg1 sg2:Ids} {w w1 w2:World} {s s1 s2:St}
theorem Ask.known (A:Ask X sg w s s2):∀b,X b->b < s.fresh/\∃p,sg b=some p:=λb hb=>⟨A.lt b hb,let⟨_,p,_,_,h,_⟩:=A.holds.cell b hb;⟨p,h⟩⟩
theorem Ask.left (A:Ask X sg w s s2) (a2:Abs s1 s2):Ask X sg w s s1:=
 ⟨A.holds,A.wf,λb h ha=>A.foot b (h.elim (λh=> .inl (a2.rd b h)) λh=> .inr (a2.wr b h)) ha,λb h1 h2=>A.new b h1 (Nat.lt_of_lt_of_le h2 a2.fresh)⟩
theorem Ask.step (A:Ask X sg w s s2) (p:dx X sg w s sg1 w1 s1) (a1:Abs s s1):Ask (fk X s s1) sg1 w1 s1 s2:=by
 refine⟨p.holds,a1.wf A.wf,λb h ha=>⟨?_,ha⟩,λb h1 h2=>?_⟩
 ·rcases a1.live b ha with h3 | h3
  ·exact .inl (A.foot b h h3)
  ·exact .inr h3
 ·cases e:sg1 b with
  | none=>rfl
  | some q=>
   rcases p.dom b q e with h3 | h3
   ·rw[A.new b (Nat.le_trans a1.fresh h1) h2]at h3;cases h3
   ·exact absurd h3.2 (Nat.not_lt.2 h1)
theorem dx.seq (A:Ask X sg w s s2) (p:dx X sg w s sg1 w1 s1) (a1:Abs s s1) (a2:Abs s1 s2) (q:dx (fk X s s1) sg1 w1 s1 sg2 w2 s2):dx X sg w s sg2 w2 s2:=
 p.trans q a1 a2 A.wf A.known
end
section
variable {P:Program} {E:Env} {M:js} {s s' s1:St} {v x y:AV}
theorem jq {b:Nat} {k:Blk} (h:s.heap.get b=some k):s.alive b:=by unfold St.alive;rw[h];rfl
theorem vp {b off:Nat} {k:Blk} {r:Row} {xs:List AV} (h:Nw s b r off xs=some s') (hk:s.heap.get b=some k):Abs s s':=by
 obtain⟨_,_,h⟩:=bnd h;split at h <;> (obtain rfl:=Xa h;exact Abs.put _ (jq hk))
theorem Pq {t:TypeId} (h:Pr E t s=some (v,s')):Abs s s':=by
 obtain⟨l,_,h⟩:=bnd h;obtain rfl:=(Prod.mk.inj (Xa h)).2;exact Abs.new _
theorem zbV {t:TypeId} (h:boxA t x s=some (v,s')):Abs s s':=by
 obtain⟨l,_,h⟩:=bnd h;obtain rfl:=(Prod.mk.inj (Xa h)).2;exact Abs.new _
theorem Ge {t:TypeId} (h:Kt E t x s=some (v,s')):Abs s s':=by
 (iterate 4 obtain⟨_,_,h⟩:=bnd h);obtain⟨d,_,h⟩:=bnd h;cases hg:Mm d with
 | true=>
  rw[hg]at h;obtain⟨_,_,h⟩:=bnd h;obtain rfl:=(Prod.mk.inj (Xa h)).2;exact Abs.saw _ _
 | false=>
  rw[hg]at h;obtain⟨_,_,h⟩:=bnd h;obtain rfl:=(Prod.mk.inj (Xa h)).2;exact Abs.saw _ _
theorem Nb {t:TypeId} (h:Nc E t x y s=some s'):Abs s s':=by
 obtain⟨_,_,h⟩:=bnd h;obtain⟨_,hk,h⟩:=bnd h;(iterate 4 obtain⟨_,_,h⟩:=bnd h);exact vp h hk
theorem Bc {ρ:Operand->Option AV} {t:TypeId} {n:Nat} {ps:List (Nat×Operand)} (h:mg E ρ t n ps s=some (v,s')):Abs s s':=by
 (iterate 9 obtain⟨_,_,h⟩:=bnd h);obtain rfl:=(Prod.mk.inj (Xa h)).2;exact Abs.new _
theorem Dh {t:TypeId} (h:uc E t x y s=some (v,s')):Abs s s':=by
 (iterate 13 obtain⟨_,_,h⟩:=bnd h);obtain rfl:=(Prod.mk.inj (Xa h)).2;exact Abs.new _
theorem Jx {size n:Nat} {xs:List AV} (h:Jy size y s=some (xs,n,s1)):Abs s s1/\s1.heap=s.heap:=by
 unfold Jy at h;cases hq:kt y with
 | some q=>
  rw[hq]at h;(iterate 3 obtain⟨_,_,h⟩:=bnd h);obtain rfl:=(Prod.mk.inj (Prod.mk.inj (Xa h)).2).2;exact⟨Abs.saw _ _,rfl⟩
 | none=>
  rw[hq]at h;dsimp only at h;cases hl:mi y with
  | some l=>
   rw[hl]at h;obtain⟨_,_,h⟩:=bnd h;obtain rfl:=(Prod.mk.inj (Prod.mk.inj (Xa h)).2).2;exact⟨Abs.refl _,rfl⟩
  | none=>
   rw[hl]at h;obtain⟨_,_,h⟩:=bnd h;obtain rfl:=(Prod.mk.inj (Prod.mk.inj (Xa h)).2).2;exact⟨Abs.refl _,rfl⟩
theorem vv {e:TypeId} {i:TypeInfo} {n:Nat} {xs:List AV} (h:vw E s e i n xs=some (v,s')):Abs s s':=by
 obtain⟨_,_,h⟩:=bnd h;obtain rfl:=(Prod.mk.inj (Xa h)).2;exact Abs.new _
theorem Ml {ts:Array TypeId} (h:Jm E ts x y s=some (v,s')):Abs s s':=by
 (iterate 3 obtain⟨_,_,h⟩:=bnd h);obtain⟨⟨ys,n,s1⟩,hsrc,h⟩:=bnd h;obtain⟨a1,e1⟩:=Jx hsrc;cases hq:kt x with
 | some q=>
  rw[hq]at h;obtain⟨k,hk,h⟩:=bnd h;obtain⟨r,hr,h⟩:=bnd h;cases hqc:q.cap with
  | some c=>
   rw[hqc]at h;dsimp only at h;cases hb:Nat.ble (q.len+n) c with
   | true=>
    rw[hb]at h;obtain⟨s2,hput,h⟩:=bnd h;obtain rfl:=(Prod.mk.inj (Xa h)).2;exact a1.trans (vp hput (by rw[e1];exact hk))
   | false=>
    rw[hb]at h;obtain⟨_,_,h⟩:=bnd h;exact(a1.trans (Abs.saw _ _)).trans (vv h)
  | none=>
   rw[hqc]at h;(iterate 5 obtain⟨_,_,h⟩:=bnd h);obtain rfl:=(Prod.mk.inj (Xa h)).2;exact a1.trans (Abs.move _)
 | none=>
  rw[hq]at h;obtain⟨_,_,h⟩:=bnd h;cases n with
  | zero=>
   obtain rfl:=(Prod.mk.inj (Xa h)).2;exact a1
  | succ n=>exact a1.trans (vv h)
theorem V5 {ts:Array TypeId} (h:zbH E ts x y s=some (v,s')):Abs s s':=by
 (iterate 2 obtain⟨_,_,h⟩:=bnd h);obtain⟨⟨ys,n,s1⟩,hsrc,h⟩:=bnd h;obtain⟨a1,e1⟩:=Jx hsrc;cases hq:kt x with
 | some q=>
  rw[hq]at h;obtain⟨k,hk,h⟩:=bnd h;obtain⟨r,hr,h⟩:=bnd h;obtain⟨s2,hput,h⟩:=bnd h;obtain rfl:=(Prod.mk.inj (Xa h)).2;exact a1.trans (vp hput (by rw[e1];exact hk))
 | none=>
  rw[hq]at h;obtain⟨_,_,h⟩:=bnd h;obtain rfl:=(Prod.mk.inj (Xa h)).2;exact a1
theorem O3 {ts:Array TypeId} (h:O4 E ts x s=some (v,s')):Abs s s':=by
 (iterate 7 obtain⟨_,_,h⟩:=bnd h);obtain⟨k,hk,h⟩:=bnd h;obtain⟨_,_,h⟩:=bnd h;obtain⟨s2,hput,h⟩:=bnd h;obtain rfl:=(Prod.mk.inj (Xa h)).2;exact vp hput hk
theorem Jv {a d:TypeDesc} (h:Hd E P a d x s=some (v,s')):Abs s s':=by
 (iterate 3 obtain⟨_,_,h⟩:=bnd h);cases hpa:vq a with
 | some t=>
  rw[hpa]at h;(iterate 4 obtain⟨_,_,h⟩:=bnd h);obtain rfl:=(Prod.mk.inj (Xa h)).2;exact Abs.saw _ _
 | none=>
  rw[hpa]at h;(iterate 5 obtain⟨_,_,h⟩:=bnd h);obtain rfl:=(Prod.mk.inj (Xa h)).2;exact Abs.saw _ _
theorem V7 {src dst:TypeId} (h:zbJ E P src dst x s=some (v,s')):Abs s s':=by
 obtain⟨a,_,h⟩:=bnd h;obtain⟨d,_,h⟩:=bnd h;cases hk:intOf d with
 | some k=>
  rw[hk]at h;obtain⟨_,_,h⟩:=bnd h;obtain rfl:=(Prod.mk.inj (Xa h)).2;exact Abs.refl _
 | none=>
  rw[hk]at h;dsimp only at h;cases hs:mi x with
  | some l=>
   rw[hs]at h;dsimp only at h;cases hds:jz d with
   | true=>
    rw[hds]at h;obtain rfl:=(Prod.mk.inj (Xa h)).2;exact Abs.refl _
   | false=>
    rw[hds]at h;(iterate 4 obtain⟨_,_,h⟩:=bnd h);obtain rfl:=(Prod.mk.inj (Xa h)).2;exact Abs.new _
  | none=>
   rw[hs]at h;dsimp only at h;cases hds:jz d with
   | true=>
    rw[hds]at h;(iterate 3 obtain⟨_,_,h⟩:=bnd h);cases hq:kt x with
    | some q=>
     rw[hq]at h;(iterate 4 obtain⟨_,_,h⟩:=bnd h);obtain rfl:=(Prod.mk.inj (Xa h)).2;exact Abs.saw _ _
    | none=>
     rw[hq]at h;obtain⟨_,_,h⟩:=bnd h;obtain rfl:=(Prod.mk.inj (Xa h)).2;exact Abs.refl _
   | false=>
    rw[hds]at h;exact Jv h
theorem Cb {ts:Array TypeId} (h:th E ts x y s=some (v,s')):Abs s s':=by
 (iterate 16 obtain⟨_,_,h⟩:=bnd h);obtain rfl:=(Prod.mk.inj (Xa h)).2;exact(Abs.saw _ _).trans Abs.kill
theorem Kr {t:TypeId} {ok:Bool} (h:Ib E t x y ok s=some (v,s')):Abs s s':=by
 (iterate 7 obtain⟨_,_,h⟩:=bnd h);obtain⟨r,_,h⟩:=bnd h;cases r with
 | some iv=>
  obtain rfl:=(Prod.mk.inj (Xa h)).2;exact Abs.saw _ _
 | none=>
  (iterate 2 obtain⟨_,_,h⟩:=bnd h);obtain rfl:=(Prod.mk.inj (Xa h)).2;exact Abs.saw _ _
theorem Aa {t:TypeId} (h:Bi E t x y v s=some s'):Abs s s':=by
 (iterate 5 obtain⟨_,_,h⟩:=bnd h);obtain⟨_,hc,h⟩:=bnd h;obtain⟨_,_,h⟩:=bnd h;obtain⟨r,_,h⟩:=bnd h;cases r <;> (obtain rfl:=Xa h;exact Abs.put _ (jq hc))
theorem Nq {t:TypeId} (h:Nr E t x s=some (v,s')):Abs s s':=by
 (iterate 2 obtain⟨_,_,h⟩:=bnd h);cases hb:Gw x with
 | some b=>
  rw[hb]at h;(iterate 2 obtain⟨_,_,h⟩:=bnd h);obtain rfl:=(Prod.mk.inj (Xa h)).2;exact(Abs.saw _ _).trans (Abs.new _)
 | none=>
  rw[hb]at h;obtain⟨_,_,h⟩:=bnd h;obtain rfl:=(Prod.mk.inj (Xa h)).2;exact Abs.new _
theorem To (h:zaQ x s=some (v,s')):Abs s s':=by
 (iterate 2 obtain⟨_,_,h⟩:=bnd h);obtain⟨_,hk,h⟩:=bnd h;(iterate 4 obtain⟨_,_,h⟩:=bnd h);split at h
 ·obtain rfl:=(Prod.mk.inj (Xa h)).2;exact(Abs.saw _ _).trans (Abs.saw _ _)
 ·obtain rfl:=(Prod.mk.inj (Xa h)).2;exact((Abs.saw _ _).trans (Abs.saw _ _)).trans (Abs.put _ (jq (s:=(s.saw _).saw _) hk))
 ·cases h
theorem Ts (h:zaS x s=some (v,s')):Abs s s':=by
 obtain⟨_,_,h⟩:=bnd h;obtain⟨k,_,h⟩:=bnd h;cases hi:Br k with
 | true=>
  rw[hi]at h;obtain⟨_,_,h⟩:=bnd h;obtain rfl:=(Prod.mk.inj (Xa h)).2;exact Abs.saw _ _
 | false=>rw[hi]at h;exact To h
theorem Oo (h:Oq x s=some (v,s')):Abs s s':=by
 (iterate 9 obtain⟨_,_,h⟩:=bnd h);obtain rfl:=(Prod.mk.inj (Xa h)).2;exact(Abs.saw _ _).trans (Abs.saw _ _)
def rf (M:js):Prop:=∀f g,M.ext f=some g->∀args s v s',g args s=some (v,s')->Abs s s'
variable {out:Out} {ρ:Operand->Option AV}
theorem dq {q:Option (AV×St)} (h:kl q=some out) (G:∀v s',q=some (v,s')->Abs s s'):Abs s out.st:=by
 obtain⟨⟨v,s'⟩,hq,h⟩:=bnd h;obtain rfl:=Xa h;exact G v s' hq
theorem tx {q:Option St} (h:C9 q=some out) (G:∀s',q=some s'->Abs s s'):Abs s out.st:=by
 obtain⟨s',hq,h⟩:=bnd h;obtain rfl:=Xa h;exact G s' hq
theorem dt {q:Option AV} (h:io s q=some out):Abs s out.st:=by
 obtain⟨v,hq,h⟩:=bnd h;obtain rfl:=Xa h;exact Abs.refl _
theorem md {v:AV} (h:some (Out.val v s)=some out):Abs s out.st:=by
 obtain rfl:=Xa h;exact Abs.refl _
theorem Gs (hM:rf M) {f:FuncId} {args:List AV} (h:Gt M f args s=some out):Abs s out.st:=by
 unfold Gt at h;cases hg:M.ext f with
 | some g=>
  rw[hg]at h;exact dq h λv s' hq=>hM f g hg _ _ _ _ hq
 | none=>
  rw[hg]at h;obtain⟨F,hF,h⟩:=bnd h;obtain rfl:=Xa h;exact Abs.refl _
theorem Wv (hM:rf M) {c:Call} (h:Gu M ρ c s=some out):Abs s out.st:=by
 obtain⟨args,_,h⟩:=bnd h;cases hc:c.callee with
 | builtin b=>
  rw[hc]at h;cases b with
  | append=>
   obtain⟨_,_,_,h⟩:=zd3 h;exact dq h λ_ _ h=>Ml h
  | copy=>
   obtain⟨_,_,_,h⟩:=zd3 h;exact dq h λ_ _ h=>V5 h
  | len=>
   obtain⟨_,_,h⟩:=jb h;exact dt h
  | cap=>
   obtain⟨_,_,h⟩:=jb h;exact dt h
  | clear=>
   obtain⟨_,_,h⟩:=jb h;exact dq h λ_ _ h=>O3 h
  | max=>
   obtain⟨_,_,h⟩:=bnd (show(iz args).bind _=some out from h);obtain⟨_,_,h⟩:=bnd h;exact md h
  | min=>
   obtain⟨_,_,h⟩:=bnd (show(iz args).bind _=some out from h);obtain⟨_,_,h⟩:=bnd h;exact md h
  | unsafeSliceData=>
   obtain⟨_,_,h⟩:=jb h;exact dt h
  | unsafeString=>
   obtain⟨_,_,_,h⟩:=zd3 h;obtain⟨_,_,h⟩:=bnd h;exact dq h λ_ _ h=>Cb h
  | _=>cases h
 | value f=>
  rw[hc]at h;obtain⟨v,_,h⟩:=bnd h;cases hf:Pm v with
  | some g=>
   rw[hf]at h;exact Gs hM h
  | none=>
   rw[hf]at h;obtain⟨b,_,h⟩:=bnd h;obtain rfl:=Xa h;exact Abs.refl _
 | invoke x name=>
  rw[hc]at h;(iterate 3 obtain⟨_,_,h⟩:=bnd h);exact Gs hM h
theorem opA_abs (hM:rf M) {o:Op} (h:opA M ρ o s=some out):Abs s out.st:=by
 cases o with
 | move x=>exact dt h
 | assign x=>exact dt h
 | pick c a b=>
  obtain⟨_,_,h⟩:=bnd h;obtain⟨t,_,h⟩:=bnd h;cases t <;> exact dt h
 | alloc t=>exact dq h λ_ _ h=>Pq h
 | box t x=>
  obtain⟨_,_,h⟩:=bnd h;exact dq h λ_ _ h=>zbV h
 | build t ps=>exact dt h
 | buildSlice t n ps=>exact dq h λ_ _ h=>Bc h
 | load t a=>
  obtain⟨_,_,h⟩:=bnd h;exact dq h λ_ _ h=>Ge h
 | store t a x=>
  (iterate 2 obtain⟨_,_,h⟩:=bnd h);exact tx h λ_ h=>Nb h
 | nilCheck x=>
  (iterate 2 obtain⟨_,_,h⟩:=bnd h);exact md h
 | binOp op t x y ty=>
  (iterate 2 obtain⟨_,_,h⟩:=bnd h);exact dt h
 | unOp op t x=>
  (iterate 3 obtain⟨_,_,h⟩:=bnd h);exact md h
 | convert a b x=>
  obtain⟨_,_,h⟩:=bnd h;exact dq h λ_ _ h=>V7 h
 | sliceToArrayPointer t x=>
  (iterate 5 obtain⟨_,_,h⟩:=bnd h);exact md h
 | makeInterface t x=>
  obtain⟨_,_,h⟩:=bnd h;obtain⟨d,_,h⟩:=bnd h;cases hi:rk d with
  | some m=>rw[hi]at h;cases h
  | none=>rw[hi]at h;exact md h
 | makeFunc f a b=>
  (iterate 2 obtain⟨_,_,h⟩:=bnd h);exact md h
 | makeMap t r=>
  cases r with
  | some x=>cases h
  | none=>
   obtain rfl:=Xa h;exact Abs.new _
 | makeSlice t a b=>
  (iterate 2 obtain⟨_,_,h⟩:=bnd h);exact dq h λ_ _ h=>Dh h
 | slice t x lo hi mx=>
  (iterate 4 obtain⟨_,_,h⟩:=bnd h);exact dt h
 | fieldAddr t x f=>
  obtain⟨_,_,h⟩:=bnd h;exact dt h
 | indexAddr t x i=>
  (iterate 2 obtain⟨_,_,h⟩:=bnd h);exact dt h
 | index t x i=>
  (iterate 2 obtain⟨_,_,h⟩:=bnd h);exact dt h
 | lookup t x k ok=>
  (iterate 2 obtain⟨_,_,h⟩:=bnd h);exact dq h λ_ _ h=>Kr h
 | mapUpdate t m k x=>
  (iterate 3 obtain⟨_,_,h⟩:=bnd h);exact tx h λ_ h=>Aa h
 | insert t m k x=>
  (iterate 3 obtain⟨_,_,h⟩:=bnd h);exact tx h λ_ h=>Aa h
 | range t x=>
  obtain⟨_,_,h⟩:=bnd h;exact dq h λ_ _ h=>Nq h
 | next i b=>
  cases b with
  | true=>cases h
  | false=>
   obtain⟨_,_,h⟩:=bnd h;exact dq h λ_ _ h=>Ts h
 | entry i=>
  obtain⟨_,_,h⟩:=bnd h;exact dq h λ_ _ h=>Oo h
 | typeAssert x xt t ok=>
  obtain⟨_,_,h⟩:=bnd h;exact dt h
 | extract x i=>
  (iterate 3 obtain⟨_,_,h⟩:=bnd h);exact md h
 | call c=>exact Wv hM h
 | defer c=>
  obtain⟨_,_,h⟩:=bnd h;cases hc:c.callee with
  | builtin b=>rw[hc]at h;cases h
  | invoke a b=>rw[hc]at h;cases h
  | value f=>
   rw[hc]at h;(iterate 2 obtain⟨_,_,h⟩:=bnd h);obtain rfl:=Xa h;exact Abs.refl _
 | _=>cases h
end
end
end RX
end
section
namespace RX
noncomputable section
section
variable {β α:Type} {S S':Nat->Prop} {W:Nat->β->Prop} {val:Nat->β->α} {b:β}
noncomputable def cur (S:Nat->Prop) (W:Nat->β->Prop) (val:Nat->β->α):Nat->β->α
 | 0,b=>val 0 b
 | n+1,b=>open Classical in if S n/\W n b then val (n+1) b else cur S W val n b
theorem Iy {n:Nat} (h:S n/\W n b):cur S W val (n+1) b=val (n+1) b:=by unfold cur;rw[if_pos h]
theorem Iz {n:Nat} (h:¬(S n/\W n b)):cur S W val (n+1) b=cur S W val n b:=by conv=>lhs;unfold cur;rw[if_neg h]
theorem Lx:∀(i:Nat),(∀j,j < i->¬W j b->val (j+1) b=val j b)->(∀j,j < i->W j b->S j)->cur S W val i b=val i b
 | 0,_,_=>rfl
 | i+1,k,h=>by
  by_cases hw:W i b
  ·exact Iy ⟨h i (Nat.lt_succ_self i) hw,hw⟩
  ·rw[Iz (λx=>hw x.2),Lx i (λj hj=>k j (Nat.lt_succ_of_lt hj)) (λj hj=>h j (Nat.lt_succ_of_lt hj)),k i (Nat.lt_succ_self i) hw]
theorem oo {i:Nat} (k:∀j,j < i->¬W j b->val (j+1) b=val j b) (h1:∀j,j < i->W j b->S j):∀(n:Nat),i<=n->(∀j,i<=j->j < n->S j->¬W j b)->cur S W val n b=val i b
 | 0,hin,_=>by
  obtain rfl:i=0:=Yx;rfl
 | n+1,hin,h2=>by
  by_cases e:i=n+1
  ·subst e;exact Lx _ k h1
  ·rw[Iz (λx=>h2 n Yx (Nat.lt_succ_self n) x.1 x.2)];exact oo k h1 n Yx λj hj hjn=>h2 j hj (Nat.lt_succ_of_lt hjn)
theorem yy:∀(n:Nat),(∀j,j < n->W j b->(S j↔S' j))->cur S W val n b=cur S' W val n b
 | 0,_=>rfl
 | n+1,h=>by
  by_cases hw:S n/\W n b
  ·rw[Iy hw,Iy ⟨(h n (Nat.lt_succ_self n) hw.2).1 hw.1,hw.2⟩]
  ·rw[Iz hw,Iz (λx=>hw ⟨(h n (Nat.lt_succ_self n) x.2).2 x.1,x.2⟩)];exact yy n λj hj=>h j (Nat.lt_succ_of_lt hj)
end
structure Run where
 N:Nat
 st:Nat->St
 s':Nat->St
 fr:Nat->T AV
 v:Nat->AV
 dst:Nat->Option Nat
 looks:Nat->Nat->Prop
 ord:Nat->Nat->Prop
 n0:Nat
namespace Run
variable (R:Run)
def t (i:Nat):St:={R.st i with rd:=0,wr:=0}
def made (i b:Nat):Prop:=(R.st i).fresh<=b/\b < (R.st (i+1)).fresh
def W (i b:Nat):Prop:=(R.s' i).wr.testBit b=true\/R.made i b
def Rd (i b:Nat):Prop:=(R.s' i).rd.testBit b=true\/R.W i b
def Xi (i b:Nat):Prop:=((R.s' i).rd.testBit b=true\/(R.s' i).wr.testBit b=true)/\(R.st i).alive b
structure Ok:Prop where
 heap:∀i,i < R.N->(R.s' i).heap=(R.st (i+1)).heap
 fresh:∀i,i < R.N->(R.s' i).fresh=(R.st (i+1)).fresh
 abs:∀i,i < R.N->Abs (R.t i) (R.s' i)
 frame:∀i,i < R.N->∀d,R.dst i≠some d->(R.fr (i+1)).get d=(R.fr i).get d
 own:∀i,i < R.N->∀d,R.dst i=some d->(R.fr (i+1)).get d=some (R.v i)/\d < R.n0
 clash:∀i j,i < R.N->j < R.N->i≠j->∀b,R.W j b->R.Rd i b->R.ord i j\/R.ord j i
 tmps:∀i j,i < R.N->j < R.N->i≠j->∀d,R.dst j=some d->(R.looks i d\/R.dst i=some d)->R.ord i j\/R.ord j i
 lt:∀i j,R.ord i j->i < j
noncomputable def curH (S:Nat->Prop) (b:Nat):Option Blk:=cur S R.W (λi b=>(R.st i).heap.get b) R.N b
noncomputable def curT (S:Nat->Prop) (d:Nat):Option AV:=cur S (λi d=>R.dst i=some d) (λi d=>(R.fr i).get d) R.N d
variable {R}
theorem Ok.mono (h:R.Ok):∀(i j:Nat),i<=j->j<=R.N->(R.st i).fresh<=(R.st j).fresh:=by
 intro i j hij hj
 induction j with
 | zero=>
  obtain rfl:i=0:=Yx;exact Xc _
 | succ j ih=>
  by_cases e:i=j+1
  ·subst e;exact Xc _
  ·exact Nat.le_trans (ih Yx Yx) (by rw[<-h.fresh j Yx];exact(h.abs j Yx).fresh)
theorem Ok.wf (h:R.Ok) (h0:(R.st 0).wf):∀i,i<=R.N->(R.st i).wf
 | 0,_=>h0
 | i+1,hi=>by
  have:=(h.abs i Yx).wf (h.wf h0 i Yx);intro b hb;rw[<-h.fresh i Yx];refine this b ?_;unfold St.alive at hb ⊢;rw[h.heap i Yx];exact hb
theorem Ok.live (h:R.Ok):∀i,i<=R.N->∀b,(R.st i).alive b->(R.st 0).alive b\/∃j,j < i/\R.made j b
 | 0,_,b,hb=> .inl hb
 | i+1,hi,b,hb=>by
  have hb':(R.s' i).alive b:=by unfold St.alive at hb ⊢;rw[h.heap i Yx];exact hb
  rcases(h.abs i Yx).live b hb' with h1 | h1
  ·rcases h.live i Yx b h1 with h2 | ⟨j,hj,h2⟩
   ·exact .inl h2
   ·exact .inr ⟨j,Yx,h2⟩
  ·exact .inr ⟨i,Nat.lt_succ_self i,h1.1,by rw[<-h.fresh i Yx];exact h1.2⟩
theorem Ok.keepH (h:R.Ok) (h0:(R.st 0).wf) {j:Nat} (hj:j < R.N) {b:Nat} (hw:¬R.W j b):(R.st (j+1)).heap.get b=(R.st j).heap.get b:=by
 have h1:(R.s' j).wr.testBit b=false:=by
  cases e:(R.s' j).wr.testBit b with
  | false=>rfl
  | true=>exact absurd (.inl e) hw
 rw[<-h.heap j hj]
 by_cases hb:b < (R.st j).fresh
 ·exact(h.abs j hj).keep b hb h1
 ·have h2:¬b < (R.st (j+1)).fresh:=λh2=>hw (.inr ⟨Yx,h2⟩);have n1:(R.st j).heap.get b=none:=by
   cases e:(R.st j).heap.get b with
   | none=>rfl
   | some k=>exact absurd (h.wf h0 j Yx b (jq e)) hb
  have n2:(R.st (j+1)).heap.get b=none:=by
   cases e:(R.st (j+1)).heap.get b with
   | none=>rfl
   | some k=>exact absurd (h.wf h0 (j+1) Yx b (jq e)) h2
  rw[h.heap j hj,n1,n2]
theorem Ok.apart (h:R.Ok) {i j b:Nat} (hi:i < R.N) (hj:j < R.N) (h1:R.made i b) (h2:R.made j b):i=j:=by
 rcases Nat.lt_trichotomy i j with e | e | e
 ·have:=h.mono (i+1) j Yx Yx;have:=h1.2;have:=h2.1;omega
 ·exact e
 ·have:=h.mono (j+1) i Yx Yx;have:=h2.2;have:=h1.1;omega
structure Next (R:Run) (S:Nat->Prop) (i:Nat):Prop where
 lt:i < R.N
 not:¬S i
 pre:∀j,R.ord j i->S j
 post:∀j,S j->¬R.ord i j
def with_ (S:Nat->Prop) (i:Nat):Nat->Prop:=λj=>S j\/j=i
def Live (R:Run) (X0:Nat->Prop) (S:Nat->Prop) (b:Nat):Prop:=(X0 b\/∃j,j < R.N/\S j/\R.made j b)/\(R.curH S b).isSome=true
structure Inv (R:Run) (X0:Nat->Prop) (sg0:Ids) (w0:World) (a0:Act) (S:Nat->Prop) (sg:Ids) (w:World) (a:Act):Prop where
 ext:Ext sg0 sg
 dom:∀b p,sg b=some p->sg0 b=some p\/∃j,j < R.N/\S j/\R.made j b
 cell:∀b,R.Live X0 S b->∃k p o,R.curH S b=some k/\sg b=some p/\w.heap[p]?=some o/\BR sg k o/\Sz (sg.sz b) o
 inj:∀b c p,R.Live X0 S b->R.Live X0 S c->sg b=some p->sg c=some p->b=c
 new:∀b p j,j < R.N->S j->R.made j b->sg b=some p->w0.heap.size<=p\/∃c,X0 c/\(∃j,j < R.N/\S j/\(R.s' j).wr.testBit c=true)/\sg0 c=some p/\R.curH S c=none
 size:w0.heap.size<=w.heap.size
 os:w.os=w0.os
 tape:w.tape=w0.tape
 output:w.output=w0.output
 frame:∀p,p < w0.heap.size->(∀c,X0 c->(∃j,j < R.N/\S j/\(R.s' j).wr.testBit c=true)->sg0 c≠some p)->w.heap[p]?=w0.heap[p]?
 tmps:∀d v,R.curT S d=some v->∃u,a.tmps[d]?=some u/\VR sg v u
 tsize:a.tmps.size=R.n0
 defers:a.defers=a0.defers
structure Start (R:Run) (X0:Nat->Prop) (sg0:Ids) (w0:World):Prop where
 holds:nh X0 sg0 (R.st 0).heap w0
 wf:(R.st 0).wf
 foot:∀j b,j < R.N->((R.s' j).rd.testBit b=true\/(R.s' j).wr.testBit b=true)->(R.st 0).alive b->X0 b
 new:∀b,(R.st 0).fresh<=b->b < (R.st R.N).fresh->sg0 b=none
variable {X0:Nat->Prop} {sg0 sg sg':Ids} {w0 w w':World} {a0 a:Act} {S:Nat->Prop} {i:Nat}
theorem yz (h:R.Ok) (h0:(R.st 0).wf) (hn:R.Next S i) {b:Nat} (hb:R.Rd i b):R.curH S b=(R.st i).heap.get b:=by
 refine oo (λj hj hw=>h.keepH h0 (Nat.lt_trans hj hn.lt) hw) (λj hj hw=>?_) R.N (Nat.le_of_lt hn.lt) λj hj hjN hS hw=>?_
 ·rcases h.clash i j hn.lt (Nat.lt_trans hj hn.lt) Yx b hw hb with e | e
  ·have:=h.lt _ _ e;omega
  ·exact hn.pre j e
 ·by_cases e:j=i
  ·subst e;exact hn.not hS
  ·rcases h.clash i j hn.lt hjN (λx=>e x.symm) b hw hb with e1 | e1
   ·exact hn.post j hS e1
   ·have:=h.lt _ _ e1;omega
theorem wo (h:R.Ok) (h0:(R.st 0).wf) (hn:R.Next S i) {b:Nat} (hb:R.W i b):R.curH (with_ S i) b=(R.st (i+1)).heap.get b:=by
 refine oo (λj hj hw=>h.keepH h0 (by have:=hn.lt;omega) hw) (λj hj hw=>?_) R.N hn.lt λj hj hjN hS hw=>?_
 ·by_cases e:j=i
  ·exact .inr e
  ·rcases h.clash i j hn.lt (by have:=hn.lt;omega) (λx=>e x.symm) b hw (.inr hb)with e1 | e1
   ·have:=h.lt _ _ e1;omega
   ·exact .inl (hn.pre j e1)
 ·rcases hS with hS | hS
  ·rcases h.clash i j hn.lt hjN Yx b hw (.inr hb)with e1 | e1
   ·exact hn.post j hS e1
   ·have:=h.lt _ _ e1;omega
  ·omega
theorem uk {b:Nat} (hb:¬R.W i b):R.curH (with_ S i) b=R.curH S b:=by
 refine yy R.N λj _ hw=>⟨λhS=>?_,λhS=> .inl hS⟩;rcases hS with hS | hS
 ·exact hS
 ·subst hS;exact absurd hw hb
theorem curT_next (h:R.Ok) (hn:R.Next S i) {d:Nat} (hd:R.looks i d):R.curT S d=(R.fr i).get d:=by
 refine oo (W:=λi d=>R.dst i=some d) (val:=λi d=>(R.fr i).get d) (λj hj hw=>h.frame j (Nat.lt_trans hj hn.lt) d hw) (λj hj hw=>?_) R.N (Nat.le_of_lt hn.lt) λj hj hjN hS hw=>?_
 ·rcases h.tmps i j hn.lt (Nat.lt_trans hj hn.lt) Yx d hw (.inl hd)with e | e
  ·have:=h.lt _ _ e;omega
  ·exact hn.pre j e
 ·by_cases e:j=i
  ·subst e;exact hn.not hS
  ·rcases h.tmps i j hn.lt hjN (λx=>e x.symm) d hw (.inl hd)with e1 | e1
   ·exact hn.post j hS e1
   ·have:=h.lt _ _ e1;omega
theorem zbE (h:R.Ok) (hn:R.Next S i) {d:Nat} (hd:R.dst i=some d):R.curT (with_ S i) d=some (R.v i):=by
 rw[<-(h.own i hn.lt d hd).1];refine oo (W:=λi d=>R.dst i=some d) (val:=λi d=>(R.fr i).get d) (λj hj hw=>h.frame j (by have:=hn.lt;omega) d hw) (λj hj hw=>?_) R.N hn.lt λj hj hjN hS hw=>?_
 ·by_cases e:j=i
  ·exact .inr e
  ·rcases h.tmps i j hn.lt (by have:=hn.lt;omega) (λx=>e x.symm) d hw (.inr hd)with e1 | e1
   ·have:=h.lt _ _ e1;omega
   ·exact .inl (hn.pre j e1)
 ·rcases hS with hS | hS
  ·rcases h.tmps i j hn.lt hjN Yx d hw (.inr hd)with e1 | e1
   ·exact hn.post j hS e1
   ·have:=h.lt _ _ e1;omega
  ·omega
theorem O1 {d:Nat} (hd:R.dst i≠some d):R.curT (with_ S i) d=R.curT S d:=by
 refine yy R.N λj _ hw=>⟨λhS=>?_,λhS=> .inl hS⟩;rcases hS with hS | hS
 ·exact hS
 ·subst hS;exact absurd hw hd
theorem Inv.live (h:R.Ok) (h0:R.Start X0 sg0 w0) (hn:R.Next S i) (_I:R.Inv X0 sg0 w0 a0 S sg w a) {b:Nat} (hb:R.Xi i b):R.Live X0 S b:=by
 have hR:R.Rd i b:=hb.1.elim .inl λe=> .inr (.inl e);refine⟨?_,?_⟩
 ·rcases h.live i (Nat.le_of_lt hn.lt) b hb.2 with h1 | ⟨j,hj,h1⟩
  ·exact .inl (h0.foot i b hn.lt hb.1 h1)
  ·refine .inr ⟨j,Nat.lt_trans hj hn.lt,?_,h1⟩;rcases h.clash i j hn.lt (Nat.lt_trans hj hn.lt) Yx b (.inr h1) hR with e | e
   ·have:=h.lt _ _ e;omega
   ·exact hn.pre j e
 ·rw[yz h h0.wf hn hR];exact hb.2
theorem Inv.ask (h:R.Ok) (h0:R.Start X0 sg0 w0) (hn:R.Next S i) (I:R.Inv X0 sg0 w0 a0 S sg w a):Ask (R.Xi i) sg w (R.t i) (R.s' i):=by
 refine⟨⟨λb hb=>?_,λb c p hb hc=>I.inj b c p (I.live h h0 hn hb) (I.live h h0 hn hc)⟩,h.wf h0.wf i (Nat.le_of_lt hn.lt),λb hb ha=>⟨hb,ha⟩,λb h1 h2=>?_⟩
 ·obtain⟨k,p,o,e1,e2⟩:=I.cell b (I.live h h0 hn hb);rw[yz h h0.wf hn (hb.1.elim .inl λe=> .inr (.inl e))]at e1;exact⟨k,p,o,e1,e2⟩
 ·have h2':b < (R.st (i+1)).fresh:=by rw[<-h.fresh i hn.lt];exact h2
  cases e:sg b with
  | none=>rfl
  | some p=>
   rcases I.dom b p e with h3 | ⟨j,hj,hS,h3⟩
   ·have:=h0.new b (Nat.le_trans (h.mono 0 i (Nat.zero_le _) (Nat.le_of_lt hn.lt)) h1) (Nat.lt_of_lt_of_le h2' (h.mono (i+1) R.N hn.lt (Xc _)));rw[this]at h3;cases h3
   ·have:=h.apart hj hn.lt h3 ⟨h1,h2'⟩;subst this;exact absurd hS hn.not
theorem Inv.step (h:R.Ok) (h0:R.Start X0 sg0 w0) (hn:R.Next S i) (I:R.Inv X0 sg0 w0 a0 S sg w a) {u:Value} (hu:VR sg' (R.v i) u) (P:dx (R.Xi i) sg w (R.t i) sg' w' (R.s' i)):R.Inv X0 sg0 w0 a0 (with_ S i) sg' w' (a.put (R.dst i) u):=by
 have fr':(R.s' i).fresh=(R.st (i+1)).fresh:=h.fresh i hn.lt;have hp':(R.s' i).heap=(R.st (i+1)).heap:=h.heap i hn.lt;have own:∀b,R.W i b->R.Live X0 (with_ S i) b->fk (R.Xi i) (R.t i) (R.s' i) b:=λb hb hl=>by
  have ha:(R.s' i).alive b:=by
   have:=hl.2;rw[wo h h0.wf hn hb]at this;unfold St.alive;rw[hp'];exact this
  refine⟨?_,ha⟩;rcases(h.abs i hn.lt).live b ha with h1 | h1
  ·rcases hb with hb | hb
   ·exact .inl ⟨.inr hb,h1⟩
   ·exact .inr ⟨hb.1,by rw[fr'];exact hb.2⟩
  ·exact .inr h1
 have old:∀b,¬R.W i b->R.Live X0 (with_ S i) b->R.Live X0 S b:=λb hb hl=>by
  refine⟨?_,by rw[<-uk hb];exact hl.2⟩;rcases hl.1 with h1 | ⟨j,hj,hS,h1⟩
  ·exact .inl h1
  ·rcases hS with hS | hS
   ·exact .inr ⟨j,hj,hS,h1⟩
   ·subst hS;exact absurd (.inr h1) hb
 have xlive:∀c,R.Xi i c->R.Live X0 S c:=λc hc=>I.live h h0 hn hc;have untouched:∀b p,¬R.W i b->R.Live X0 S b->sg b=some p->p < w.heap.size/\w'.heap[p]?=w.heap[p]?:=λb p hb hl e=>by
  obtain⟨k,q,o,_,e2,e3,_⟩:=I.cell b hl;rw[e]at e2;obtain rfl:=Xa e2;have hlt:=(Array.getElem?_eq_some_iff.1 e3).1;refine⟨hlt,P.frame p hlt λc hc hw hs=>?_⟩;have:=I.inj b c p hl (xlive c hc) e hs;subst this;exact hb (.inl hw)
 have sgold:∀b p,¬R.W i b->R.Live X0 S b->sg' b=some p->sg b=some p:=λb p hb hl e=>by
  obtain⟨k,q,o,_,e2,_⟩:=I.cell b hl;have:=(P.ext b q e2).1;rw[e]at this;obtain rfl:=Xa this;exact e2
 have cross:∀b c p,R.W i b->fk (R.Xi i) (R.t i) (R.s' i) b->¬R.W i c->R.Live X0 S c->sg' b=some p->sg c=some p->False:=λb c p hb hab hc hlc e1 e2=>by
  rcases hab.1 with hx | hx
  ·have hlb:=xlive b hx;obtain⟨k,q,o,_,e3,_⟩:=I.cell b hlb;have:=(P.ext b q e3).1;rw[e1]at this;obtain rfl:=Xa this;have:=I.inj b c p hlb hlc e3 e2;subst this;exact hc hb
  ·rcases P.new b p hx.1 hx.2 e1 with h1 | ⟨c',hc',hw',hs',_⟩
   ·obtain⟨k,q,o,_,e3,e4,_⟩:=I.cell c hlc;rw[e2]at e3;obtain rfl:=Xa e3;have:=(Array.getElem?_eq_some_iff.1 e4).1;omega
   ·have:=I.inj c' c p (xlive c' hc') hlc hs' e2;subst this;exact hc (.inl hw')
 have wmore:∀c,(∃j,j < R.N/\S j/\(R.s' j).wr.testBit c=true)->∃j,j < R.N/\with_ S i j/\(R.s' j).wr.testBit c=true:=λc ⟨j,h1,h2,h3⟩=>⟨j,h1,.inl h2,h3⟩;have gone:∀c,R.curH S c=none->X0 c->R.curH (with_ S i) c=none:=λc hc hx=>by
  by_cases hw:R.W i c
  ·rw[wo h h0.wf hn hw];cases e:(R.st (i+1)).heap.get c with
   | none=>rfl
   | some k=>
    have ha:(R.s' i).alive c:=by unfold St.alive;rw[hp',e];rfl
    rcases(h.abs i hn.lt).live c ha with h1 | h1
    ·have:(R.st i).alive c:=h1;unfold St.alive at this;rw[<-yz h h0.wf hn (.inr hw),hc]at this;cases this
    ·have h2:(R.st i).fresh<=c:=h1.1;have h3:=h0.wf c (h0.holds.alive hx);have:=h.mono 0 i (Nat.zero_le _) (Nat.le_of_lt hn.lt);omega
  ·rw[uk hw];exact hc
 refine⟨I.ext.trans P.ext,?_,?_,?_,?_,Nat.le_trans I.size P.size,P.os.trans I.os,P.tape.trans I.tape,P.output.trans I.output,?_,?_,?_,?_⟩
 ·intro b p e;rcases P.dom b p e with h1 | h1
  ·rcases I.dom b p h1 with h2 | ⟨j,hj,hS,h2⟩
   ·exact .inl h2
   ·exact .inr ⟨j,hj,.inl hS,h2⟩
  ·exact .inr ⟨i,hn.lt,.inr rfl,h1.1,by rw[<-fr'];exact h1.2⟩
 ·intro b hb
  by_cases hw:R.W i b
  ·obtain⟨k,p,o,e1,e2⟩:=P.holds.cell b (own b hw hb);exact⟨k,p,o,by rw[wo h h0.wf hn hw,<-hp'];exact e1,e2⟩
  ·have hl:=old b hw hb;obtain⟨k,p,o,e1,e2,e3,e4,e5⟩:=I.cell b hl;exact⟨k,p,o,by rw[uk hw];exact e1,(P.ext b p e2).1,by rw[(untouched b p hw hl e2).2];exact e3,e4.mono P.ext,by rw[(P.ext b p e2).2];exact e5⟩
 ·intro b c p hb hc e1 e2
  by_cases hwb:R.W i b <;> by_cases hwc:R.W i c
  ·exact P.holds.inj b c p (own b hwb hb) (own c hwc hc) e1 e2
  ·have hlc:=old c hwc hc;exact(cross b c p hwb (own b hwb hb) hwc hlc e1 (sgold c p hwc hlc e2)).elim
  ·have hlb:=old b hwb hb;exact(cross c b p hwc (own c hwc hc) hwb hlb e2 (sgold b p hwb hlb e1)).elim
  ·have hlb:=old b hwb hb;have hlc:=old c hwc hc;exact I.inj b c p hlb hlc (sgold b p hwb hlb e1) (sgold c p hwc hlc e2)
 ·intro b p j hj hS hm e;have oldcase:∀c,(∃j,j < R.N/\S j/\R.made j c)->sg c=some p->w0.heap.size<=p\/∃c,X0 c/\(∃j,j < R.N/\with_ S i j/\(R.s' j).wr.testBit c=true)/\sg0 c=some p/\R.curH (with_ S i) c=none:=λc ⟨j,hj,hS,hm⟩ e=>by
   rcases I.new c p j hj hS hm e with h1 | ⟨c',h1,h2,h3,h4⟩
   ·exact .inl h1
   ·exact .inr ⟨c',h1,wmore c' h2,h3,gone c' h4 h1⟩
  by_cases hji:j=i
  ·subst hji;rcases P.new b p hm.1 (by rw[fr'];exact hm.2) e with h1 | ⟨c,hc,hw,hs,hd⟩
   ·exact .inl (Nat.le_trans I.size h1)
   ·rcases(xlive c hc).1 with h2 | h2
    ·have h3:=h0.holds.cell c h2;obtain⟨_,q,_,_,h4,_⟩:=h3;have h5:=(I.ext c q h4).1;rw[hs]at h5;obtain rfl:=Xa h5;refine .inr ⟨c,h2,⟨j,hj,.inr rfl,hw⟩,h4,?_⟩;rw[wo h h0.wf hn (.inl hw),<-hp'];cases e':(R.s' j).heap.get c with
     | none=>rfl
     | some k=>exact absurd (jq e') hd
    ·exact oldcase c h2 hs
  ·have hSj:S j:=hS.elim id λx=>absurd x hji;rcases P.dom b p e with h1 | h1
   ·exact oldcase b ⟨j,hj,hSj,hm⟩ h1
   ·exact absurd (h.apart hj hn.lt hm ⟨h1.1,by rw[<-fr'];exact h1.2⟩) hji
 ·intro p hp hc;rw[<-I.frame p hp λc h1 h2=>hc c h1 (wmore c h2)];refine P.frame p (Nat.lt_of_lt_of_le hp I.size) λc hx hw hs=>?_;rcases(xlive c hx).1 with h1 | ⟨j,hj,hS,hm⟩
  ·obtain⟨_,q,_,_,h4,_⟩:=h0.holds.cell c h1;have h5:=(I.ext c q h4).1;rw[hs]at h5;obtain rfl:=Xa h5;exact hc c h1 ⟨i,hn.lt,.inr rfl,hw⟩ h4
  ·rcases I.new c p j hj hS hm hs with h2 | ⟨c',h2,h3,h4,_⟩
   ·omega
   ·exact hc c' h2 (wmore c' h3) h4
 ·intro d v hv
  by_cases hd:R.dst i=some d
  ·rw[zbE h hn hd]at hv;obtain rfl:=Xa hv;refine⟨u,?_,hu⟩;have hlt:=(h.own i hn.lt d hd).2;rw[hd];simp[Act.put,I.tsize,hlt]
  ·rw[O1 hd]at hv;obtain⟨x,h1,h2⟩:=I.tmps d v hv;refine⟨x,?_,VR.mono P.ext _ _ h2⟩;cases e:R.dst i with
   | none=>exact h1
   | some d'=>
    have:d'≠d:=λx=>hd (by rw[e,x]);simp only[Act.put];rw[Array.getElem?_setIfInBounds_ne this];exact h1
 ·cases e:R.dst i <;> simp[Act.put,I.tsize]
 ·cases e:R.dst i <;> simp[Act.put,I.defers]
end Run
end
end RX
end
section
namespace RX
noncomputable section
inductive Df where
 | idle (f:FuncId) (k:Nat)
 | mark (b:Nat)
structure Fr where
 n:Nat
 t:T AV
 df:List Df
def DR (sg:Ids):List Df->List Deferred->Prop
 | [],l=>l=[]
 | .idle f k :: ds,l=>∃cap args rest,l={target:= .fn (.func f) cap,args} :: rest/\(args ++ cap).size=k/\DR sg ds rest
 | .mark b :: ds,l=>∃p rest,sg b=some p/\l={target:= .collected p,args:=#[]} :: rest/\DR sg ds rest
theorem DR.mono {s s':Ids} (h:Ext s s'):∀{d:List Df} {l:List Deferred},DR s d l->DR s' d l
 | [],_,r=>r
 | .idle _ _ :: _,_,⟨c,a,rest,e,e2,r⟩=>⟨c,a,rest,e,e2,r.mono h⟩
 | .mark _ :: _,_,⟨p,rest,e,e2,r⟩=>⟨p,rest,(h _ _ e).1,e2,r.mono h⟩
def FrR (sg:Ids) (fr:Fr) (a:Act):Prop:=TR sg fr.n fr.t a.tmps/\DR sg fr.df a.defers
theorem FrR.mono {s s':Ids} (h:Ext s s') {fr:Fr} {a:Act} (r:FrR s fr a):FrR s' fr a:=⟨r.1.mono h,r.2.mono h⟩
def GOk (n:Nat) (sg:Ids):Prop:=∀g,g < n->sg g=some g
theorem GOk.mono {s s':Ids} {n:Nat} (h:Ext s s') (g:GOk n s):GOk n s':=λk hk=>(h k k (g k hk)).1
def rho (M:js) (t:T AV):Operand->Option AV
 | .tmp d=>t.get d
 | .const v=>some (ye v)
 | .global g=>(grd (Nat.blt g M.ng)).bind λ_=>some (.ptr g 0)
 | .func f=>some (.fn (.func f) [] [])
inductive Ex where
 | normal
 | exit (id:Nat)
 | goto (l:Nat)
 | ret
def Fq:Ex->Exit
 | .normal=> .normal
 | .exit i=> .exit i
 | .goto l=> .goto l
 | .ret=> .ret
def Iv:Ex->Option Code
 | .normal=>none
 | .exit i=>some (.exit i)
 | .goto l=>some (.goto l)
 | .ret=>some .ret
def Dt:Ex->Option Unit
 | .normal=>some ()
 | _=>none
theorem sm {e:Ex} {u:Unit} (h:Dt e=some u):e= .normal:=by cases e <;> first | rfl | (cases h;done)
structure Ih where
 code:Bool->Fr->Code->St->Option (Ex×Fr×St)
 call:FuncId->List AV->St->Option (AV×St)
 loop:Bool->Fr->Code->St->Option (Ex×Fr×St)
abbrev fc (r:Option Nat):Fence:={Fence.wide with round:=r}
structure Js (M:js) (ih:Ih):Prop where
 call:∀f args s v s',ih.call f args s=some (v,s')->Abs s s'/\∀(X:Nat->Prop) (sg:Ids) (w:World) (us:List Value),VRs sg args us->GOk M.ng sg->Ask X sg w s s'->Calls M.P f ⟨us⟩ w λe w'=>∃u sg',e= .returned u/\VR sg' v u/\dx X sg w s sg' w' s'
 code:∀rd fr c s e fr' s',ih.code rd fr c s=some (e,fr',s')->Abs s s'/\∀(r:Option Nat),(rd=false->r=none)->∀(n:Nat) (X:Nat->Prop) (sg:Ids) (w:World) (a:Act) (Q:Exit->Act->World->Prop),FrR sg fr a->GOk M.ng sg->Ask X sg w s s'->
  (∀sg' w' a',FrR sg' fr' a'->dx X sg w s sg' w' s'->Q (Fq e) a' w')->c.wpIn (fc r) n M.P Q a w
section
variable {M:js} {ρ ρ':Operand->Option AV} {s:St}
theorem lj:∀{l:List Operand},(∀x∈l,ρ x=ρ' x)->xp ρ l=xp ρ' l
 | [],_=>rfl
 | x :: xs,h=>by
  unfold xp;rw[h x Yy,lj λy hy=>h y (by simp[hy])]
theorem nw:∀{l:List (Nat×Operand)},(∀x∈l.map (·.2),ρ x=ρ' x)->tt ρ l=tt ρ' l
 | [],_=>rfl
 | x :: xs,h=>by
  unfold tt;rw[h x.2 Yy,nw λy hy=>h y (by simp only[List.map_cons,List.mem_cons];exact .inr hy)]
theorem tr {o:Option Operand} (h:∀x∈o.toList,ρ x=ρ' x):Ni ρ o=Ni ρ' o:=by
 cases o with
 | none=>rfl
 | some x=>unfold Ni;dsimp only;rw[h x Yy]
theorem Ma {c:Call} (h:∀x∈c.operands.toList,ρ x=ρ' x):Gu M ρ c s=Gu M ρ' c s:=by
 have ha:xp ρ c.args.toList=xp ρ' c.args.toList:=lj λx hx=>h x (by
  unfold Call.operands;simp only[Array.toList_append,List.mem_append];exact .inr hx)
 unfold Gu;rw[ha];congr 1;funext args;cases hc:c.callee with
 | builtin b=>rfl
 | value f=>unfold Jd;dsimp only;rw[h f (by simp[Call.operands,hc])]
 | invoke r name=>unfold Jd;dsimp only;rw[h r (by simp[Call.operands,hc])]
theorem Tj {o:Op} (h:∀x∈o.operands.toList,ρ x=ρ' x):opA M ρ o s=opA M ρ' o s:=by
 cases o with
 | move x=>unfold opA ez;dsimp only;rw[h x (by simp[Op.operands])]
 | assign x=>unfold opA ez;dsimp only;rw[h x (by simp[Op.operands])]
 | pick c a b=>unfold opA ez;dsimp only;rw[h c (by simp[Op.operands]),h a (by simp[Op.operands]),h b (by simp[Op.operands])]
 | box t x=>unfold opA ez;dsimp only;rw[h x (by simp[Op.operands])]
 | build t ps=>
  unfold opA ez Pd;dsimp only;rw[nw (l:=ps.toList) λx hx=>h x (by simpa[Op.operands]using hx)]
 | buildSlice t n ps=>
  unfold opA ez mg;dsimp only;rw[nw (l:=ps.toList) λx hx=>h x (by simpa[Op.operands]using hx)]
 | load t a=>unfold opA ez;dsimp only;rw[h a (by simp[Op.operands])]
 | store t a x=>unfold opA ez;dsimp only;rw[h a (by simp[Op.operands]),h x (by simp[Op.operands])]
 | nilCheck x=>unfold opA ez;dsimp only;rw[h x (by simp[Op.operands])]
 | binOp op t x y ty=>unfold opA ez;dsimp only;rw[h x (by simp[Op.operands]),h y (by simp[Op.operands])]
 | unOp op t x=>unfold opA ez;dsimp only;rw[h x (by simp[Op.operands])]
 | convert a b x=>unfold opA ez;dsimp only;rw[h x (by simp[Op.operands])]
 | sliceToArrayPointer t x=>unfold opA ez;dsimp only;rw[h x (by simp[Op.operands])]
 | makeInterface t x=>unfold opA ez;dsimp only;rw[h x (by simp[Op.operands])]
 | makeFunc f a b=>
  unfold opA ez;dsimp only;rw[lj (l:=a.toList) λx hx=>h x (by simp only[Op.operands,Array.toList_append,List.mem_append];exact .inl hx),lj (l:=b.toList) λx hx=>h x (by simp only[Op.operands,Array.toList_append,List.mem_append];exact .inr hx)]
 | makeSlice t a b=>unfold opA ez;dsimp only;rw[h a (by simp[Op.operands]),h b (by simp[Op.operands])]
 | slice t x lo hi mx=>
  unfold opA ez;dsimp only;rw[h x (by simp[Op.operands]),tr (o:=lo) λy hy=>h y (by simp only[Op.operands,Array.toList_append,List.mem_append];exact .inl (.inl (.inr (by simpa using hy)))),
   tr (o:=hi) λy hy=>h y (by simp only[Op.operands,Array.toList_append,List.mem_append];exact .inl (.inr (by simpa using hy))),
   tr (o:=mx) λy hy=>h y (by simp only[Op.operands,Array.toList_append,List.mem_append];exact .inr (by simpa using hy))]
 | fieldAddr t x f=>unfold opA ez;dsimp only;rw[h x (by simp[Op.operands])]
 | indexAddr t x i=>unfold opA ez;dsimp only;rw[h x (by simp[Op.operands]),h i (by simp[Op.operands])]
 | index t x i=>unfold opA ez;dsimp only;rw[h x (by simp[Op.operands]),h i (by simp[Op.operands])]
 | lookup t x k ok=>unfold opA ez;dsimp only;rw[h x (by simp[Op.operands]),h k (by simp[Op.operands])]
 | mapUpdate t m k x=>unfold opA ez;dsimp only;rw[h m (by simp[Op.operands]),h k (by simp[Op.operands]),h x (by simp[Op.operands])]
 | insert t m k x=>unfold opA ez;dsimp only;rw[h m (by simp[Op.operands]),h k (by simp[Op.operands]),h x (by simp[Op.operands])]
 | range t x=>unfold opA ez;dsimp only;rw[h x (by simp[Op.operands])]
 | next i b=>cases b <;> unfold opA ez <;> dsimp only <;> rw[h i (by simp[Op.operands])]
 | entry i=>unfold opA ez;dsimp only;rw[h i (by simp[Op.operands])]
 | typeAssert x xt t ok=>unfold opA ez;dsimp only;rw[h x (by simp[Op.operands])]
 | extract x i=>unfold opA ez;dsimp only;rw[h x (by simp[Op.operands])]
 | call c=>exact Ma (M:=M) (s:=s) h
 | makeMap t r=>cases r <;> rfl
 | defer c=>
  unfold opA ez;dsimp only;have ha:xp ρ c.args.toList=xp ρ' c.args.toList:=lj λx hx=>h x (by
   unfold Op.operands Call.operands;simp only[Array.toList_append,List.mem_append];exact .inr hx)
  rw[ha];congr 1;funext args;cases hc:c.callee with
  | builtin b=>rfl
  | value f=>dsimp only;rw[h f (by simp[Op.operands,Call.operands,hc])]
  | invoke r name=>rfl
 | _=>rfl
end
def Ha (sg:Ids) (t:T AV) (l:List Tmp) (a:Act):Prop:=∀d∈l,∀v,t.get d=some v->∃u,a.tmps[d]?=some u/\VR sg v u
theorem FrR.looks {sg:Ids} {fr:Fr} {a:Act} (h:FrR sg fr a) (l:List Tmp):Ha sg fr.t l a:=λd _ v hv=>h.1.2 d v hv
section
variable {M:js} {ih:Ih} {s s':St} {t:T AV} {ops:Array Oper}
noncomputable def only (o:Op) (ρ:Operand->Option AV):Operand->Option AV:=λx=>open Classical in if x∈o.operands.toList then ρ x else none
theorem Qr {o:Oper} {sg:Ids} {a:Act} (h:Ha sg t (o.looksAt ops) a) (g:GOk M.ng sg):Mr sg (only o.op (rho M t)) a.eval:=λx v hx=>by
 unfold only at hx;split at hx
 ·rename_i hm;cases x with
  | tmp d=>
   obtain⟨u,e,r⟩:=h d (List.mem_append_left _ (List.mem_filterMap.2 ⟨.tmp d,hm,rfl⟩)) v hx;show VR sg v (a.tmps.getD d undef);simp[Array.getD_eq_getD_getElem?,e,r]
  | const c=>obtain rfl:=Xa hx;exact gt sg c
  | global k=>
   obtain⟨_,hk,hx⟩:=bnd hx;obtain rfl:=Xa hx;exact⟨k,g k (by have:=ag hk;rwa [Nat.blt_eq]at this),rfl⟩
  | func f=>obtain rfl:=Xa hx;exact⟨[],[],rfl,rfl,rfl⟩
 ·cases hx
theorem Kh {o:Op}:opA M (only o (rho M t)) o s=opA M (rho M t) o s:=Tj λx hx=>by unfold only;rw[if_pos hx]
def Mz (t:T AV) (ops:Array Oper) (o:Oper):Option Bool:=match o.guard with
 | none=>some true
 | some g=>((ops[g.1]?).bind (·.dst)).bind λd=>(t.get d).bind λv=>match v with
  | .bool b=>some (b == g.2)
  | .tup _=>some false
  | _=>none
theorem Fw {o:Oper} {sg:Ids} {a:Act} {b:Bool} (h:Mz t ops o=some b) (hl:Ha sg t (o.looksAt ops) a):Region.wanted o (yielded ops a.tmps)=b:=by
 unfold Mz at h;unfold Region.wanted;cases hg:o.guard with
 | none=>rw[hg]at h;exact Xa h
 | some g=>
  rw[hg]at h;replace h:=bnd h;obtain⟨d,hd,h⟩:=h;replace h:=bnd h;obtain⟨v,hv,h⟩:=h;have hm:d∈o.looksAt ops:=List.mem_append_right _ (by obtain⟨j,q⟩:=g;simp only[hg];rw[hd];simp);obtain⟨u,e,r⟩:=hl d hm v hv;obtain⟨j,q⟩:=g;dsimp only at hd h ⊢;unfold yielded;rw[hd];dsimp only[Option.bind];rw[e];split at h
  ·obtain rfl:=Xa h;obtain rfl:u=_:=r;rfl
  ·obtain rfl:=Xa h;obtain⟨l,_,rfl⟩:=r;rfl
  ·cases h
structure Sa where
 state:LoopState
 pending:Option Code
 n:Nat
 t:T AV
 params:Array Tmp
 assign:Code
 body:Code
 d:Nat
def zj:Blk->Option Sa
 | .loop state pending _ n t params assign body d=>some ⟨state,pending,n,t,params,assign,body,d⟩
 | _=>none
def Sa.blk (l:Sa) (state:LoopState) (pending:Option Code):Blk:= .loop state pending 0 l.n l.t l.params l.assign l.body l.d
theorem Mi {k:Blk} {l:Sa} (h:zj k=some l):∃f,k= .loop l.state l.pending f l.n l.t l.params l.assign l.body l.d:=by
 cases k <;> first | (cases h;done) | (obtain rfl:=Xa h;exact⟨_,rfl⟩)
def Rj:LoopState->Bool
 | .ready=>true
 | _=>false
theorem Ig {l:LoopState} (h:Rj l=true):l= .ready:=by cases l <;> first | rfl | (cases h;done)
def Nf (n:Nat):T AV->List Tmp->List AV->Option (T AV)
 | t,[],[]=>some t
 | t,p :: ps,v :: vs=>(grd (Nat.blt p n)).bind λ_=>Nf n (t.set p (some v)) ps vs
 | _,_,_=>none
theorem F0 {sg:Ids} {n:Nat}:∀{ps:List Tmp} {vs:List AV} {us:List Value} {t t':T AV} {a:Array Value},Nf n t ps vs=some t'->VRs sg vs us->TR sg n t a->TR sg n t' ((ps.zip us).foldl (λtmps (x:Tmp×Value)=>tmps.setIfInBounds x.1 x.2) a)
 | [],[],us,t,t',a,h,hv,hr=>by
  obtain rfl:=Xa (show some t=some t' from h);exact hr
 | p :: ps,v :: vs,us,t,t',a,h,hv,hr=>by
  obtain⟨_,hp,h⟩:=bnd (show(grd (Nat.blt p n)).bind _=some t' from h);obtain⟨u,us',rfl,h1,h2⟩:=hv;have hp:p < n:=by have:=ag hp;rwa [Nat.blt_eq]at this
  show TR sg n t' ((ps.zip us').foldl (λtmps (x:Tmp×Value)=>tmps.setIfInBounds x.1 x.2) (a.setIfInBounds p u));exact F0 h h2 (hr.put hp h1)
 | [],_ :: _,_,_,_,_,h,_,_=>by cases h
 | _ :: _,[],_,_,_,_,h,_,_=>by cases h
def zaf (ih:Ih) (b:Nat) (args:List AV) (s:St):Option (AV×St):=
 (s.heap.get b).bind λk=>(zj k).bind λl=>(grd (Nat.beq args.length l.params.size)).bind λ_=>(Nf l.n l.t l.params.toList args).bind λt=>
 (ih.code true ⟨l.n,t,[]⟩ l.assign (s.saw b)).bind λr1=>(Dt r1.1).bind λ_=>
 (r1.2.2.heap.get b).bind λk1=>(zj k1).bind λl1=>(grd (Rj l1.state)).bind λ_=>
 (ih.code true r1.2.1 l.body (r1.2.2.put b (l1.blk .busy l1.pending))).bind λr2=>
 (r2.2.2.heap.get b).bind λk2=>(zj k2).bind λl2=>match Iv r2.1 with
  | none=>some (.bool true,r2.2.2.put b (l2.blk .ready none))
  | some c=>some (.bool false,r2.2.2.put b (l2.blk .done (some c)))
theorem Bq {X:Nat->Prop} {sg:Ids} {w:World} {b p:Nat} {k:Blk} {l:Sa} (A:Ask X sg w s s') (hk:s.heap.get b=some k) (hl:zj k=some l) (hr:s'.rd.testBit b=true\/s'.wr.testBit b=true) (hp:sg b=some p):
  X b/\∃(r:Loop) (dp:Nat),w.heap[p]?=some (.loop r)/\r.state=l.state/\r.pending=l.pending/\r.params=l.params/\r.assign=l.assign/\r.body=l.body/\TR sg l.n l.t r.tmps/\sg l.d=some dp/\r.defers=dp:=by
 obtain⟨hX,q,o,e1,e2,e3,_⟩:=A.at hk hr;rw[hp]at e1;obtain rfl:=Xa e1;obtain⟨f,hf⟩:=Mi hl;rw[hf]at e3;obtain⟨ts,dp,fn,h1,h2,rfl⟩:=e3;exact⟨hX,_,dp,e2,rfl,rfl,rfl,rfl,rfl,h1,h2,rfl⟩
theorem Su (hih:Js M ih) {b:Nat} {args:List AV} {v:AV} (h:zaf ih b args s=some (v,s')):Abs s s'/\∀(r:Option Nat) (n:Nat) (X:Nat->Prop) (sg:Ids) (w:World) (us:List Value) (p:Nat),sg b=some p->VRs sg args us->GOk M.ng sg->Ask X sg w s s'->
  ∃fn tmps assign body,(Instr.yield p ⟨us⟩).run M.P w= .ok (.round p fn tmps assign body) w/\RoundIn (fc r) n M.P p fn tmps assign body w λe w'=>∃u sg',e= .returned u/\VR sg' v u/\dx X sg w s sg' w' s':=by
 replace h:=bnd h;obtain⟨k,hk,h⟩:=h;replace h:=bnd h;obtain⟨l,hl,h⟩:=h;replace h:=bnd h;obtain⟨_,hlen,h⟩:=h;replace h:=bnd h;obtain⟨t,ht,h⟩:=h;replace h:=bnd h;obtain⟨⟨e1,fr1,s1⟩,hc1,h⟩:=h;replace h:=bnd h;obtain⟨_,hn1,h⟩:=h;replace h:=bnd h;obtain⟨k1,hk1,h⟩:=h;replace h:=bnd h;obtain⟨l1,hl1,h⟩:=h;replace h:=bnd h;obtain⟨_,hrd,h⟩:=h;replace h:=bnd h;obtain⟨⟨e2,fr2,s3⟩,hc2,h⟩:=h;replace h:=bnd h;obtain⟨k2,hk2,h⟩:=h;replace h:=bnd h;obtain⟨l2,hl2,h⟩:=h;obtain rfl:e1= .normal:=sm hn1;dsimp only at hc2 hk1 hk2 h;obtain⟨a1,law1⟩:=hih.code _ _ _ _ _ _ _ hc1;obtain⟨a3,law3⟩:=hih.code _ _ _ _ _ _ _ hc2;have a2:Abs s1 (s1.put b (l1.blk .busy l1.pending)):=Abs.put _ (jq hk1);have hlen:=Nat.eq_of_beq_eq_true (ag hlen);obtain⟨jump,st,hs',hv,hst⟩:∃jump st,s'=s3.put b (l2.blk st jump)/\v= .bool jump.isNone/\(Iv e2=jump/\st=if jump.isNone then .ready else .done):=by
  cases hj:Iv e2 with
  | none=>
   rw[hj]at h;obtain⟨rfl,rfl⟩:=Prod.mk.inj (Xa h);exact⟨none,.ready,rfl,rfl,rfl,rfl⟩
  | some c=>
   rw[hj]at h;obtain⟨rfl,rfl⟩:=Prod.mk.inj (Xa h);exact⟨some c,.done,rfl,rfl,rfl,rfl⟩
 have a4:Abs s3 s':=by rw[hs'];exact Abs.put _ (jq hk2)
 have a24:Abs (s1.put b (l1.blk .busy l1.pending)) s':=a3.trans a4;have a14:Abs s1 s':=a2.trans a24;refine⟨(Abs.saw s b).trans (a1.trans a14),λr n X sg w us p hp hus hg A=>?_⟩;have A0:Ask X sg w (s.saw b) s':=A.like rfl rfl;have wbit:s'.wr.testBit b=true:=by rw[hs'];exact vl ..
 obtain⟨_,r0,dp,h0,_,_,hpar,hass,hbod,htr,_,_⟩:=Bq A hk hl (.inr wbit) hp;have hsz:(⟨us⟩:Array Value).size=r0.params.size:=by
  rw[hpar,<-hlen];exact hus.length
 refine⟨r0.fn,_,r0.assign,r0.body,run_yield h0 hsz,roundIn_of_wpIn (F:=fc r) trivial ?_⟩;rw[hass];have htr0:TR sg l.n t ((r0.params.zip ⟨us⟩).foldl (λtmps (x:Tmp×Value)=>tmps.setIfInBounds x.1 x.2) r0.tmps):=by
  have:=F0 ht hus htr;rw[hpar,<-Array.foldl_toList];simpa using this
 refine law1 (some p) (λe=>by cases e) n X sg w _ _ ⟨htr0,rfl⟩ hg (A0.left a14) λsg1 w1 act1 hfr1 P1=>?_;have A1:=A0.step P1 a1;have hp1:sg1 b=some p:=(P1.ext b p hp).1;obtain⟨hX1,r1,dp1,g1,hst1,hpen1,hpar1,hass1,hbod1,htr1,hd1,hdp1⟩:=Bq A1 hk1 hl1 (.inr wbit) hp1;have hready:r1.state= .ready:=by rw[hst1];exact Ig (ag hrd)
 refine⟨w1.putObj p (.loop {r1 with state:= .busy}),run_beginRound g1 hready,?_⟩;have P2:dx (fk X (s.saw b) s1) sg1 w1 s1 sg1 (w1.putObj p (.loop {r1 with state:= .busy})) (s1.put b (l1.blk .busy l1.pending)):=by
  refine dx.put (o:= .loop {r1 with state:= .busy}) A1.holds hX1 hp1 ?_ trivial rfl rfl rfl rfl;refine⟨r1.tmps,dp1,r1.fn,htr1,hd1,?_⟩;rw[<-hpen1,<-hpar1,<-hass1,<-hbod1,<-hdp1]
 have A2:=A1.step P2 a2;rw[hbod];refine law3 (some p) (λe=>by cases e) n _ sg1 _ act1 _ hfr1 (hg.mono P1.ext) (A2.left a4) λsg3 w3 act3 hfr3 P3=>?_;have A3:=A2.step P3 a3;have hp3:sg3 b=some p:=(P3.ext b p hp1).1;obtain⟨hX3,r3,dp3,g3,_,_,hpar3,hass3,hbod3,htr3,hd3,hdp3⟩:=Bq A3 hk2 hl2 (.inr wbit) hp3;have fin:∀j,Iv e2=j->∃u w4,(Instr.endRound p j).run M.P w3= .ok u w4/\∃u' sg',Ending.returned u= .returned u'/\VR sg' v u'/\dx X sg w s sg' w4 s':=by
  intro j hj;have hjj:j=jump:=hj.symm.trans hst.1;subst hjj;refine⟨_,_,run_endRound j g3,_,sg3,rfl,by rw[hv];rfl,?_⟩;have P4:dx (fk (fk (fk X (s.saw b) s1) s1 (s1.put b (l1.blk .busy l1.pending))) (s1.put b (l1.blk .busy l1.pending)) s3) sg3 w3 s3 sg3 (w3.putObj p (.loop {r3 with state:=if j.isNone then .ready else .done,pending:=j})) s':=by
   rw[hs'];refine dx.put (o:= .loop {r3 with state:=if j.isNone then .ready else .done,pending:=j}) A3.holds hX3 hp3 ?_ trivial rfl rfl rfl rfl;refine⟨r3.tmps,dp3,r3.fn,htr3,hd3,?_⟩;rw[<-hpar3,<-hass3,<-hbod3,<-hdp3,hst.2]
  exact(dx.seq A0 P1 a1 a14 (dx.seq A1 P2 a2 a24 (dx.seq A2 P3 a3 a4 P4))).like (s1:=s.saw b) rfl
 cases e2 with
 | normal=>exact fin none rfl
 | exit id=>exact fin (some (.exit id)) rfl
 | goto l=>exact fin (some (.goto l)) rfl
 | ret=>exact fin (some .ret) rfl
end
end
end RX
end
section
namespace RX
noncomputable section
section
variable {M:js} {ih:Ih} {s s':St} {t:T AV} {ops:Array Oper}
def opV (M:js) (ih:Ih) (t:T AV) (o:Op) (s:St):Option (AV×St):=(opA M (rho M t) o s).bind λout=>match out with
 | .val v s'=>some (v,s')
 | .skip s'=>some (.tup [],s')
 | .call f args s'=>ih.call f args s'
 | .yield b args s'=>zaf ih b args s'
 | .defer _ _ _=>none
def Fx (M:js) (ih:Ih) (t:T AV) (ops:Array Oper) (o:Oper) (s:St):Option (AV×St):=(Mz t ops o).bind λb=>match b with
 | true=>opV M ih t o.op s
 | false=>some (.tup [],s)
theorem Gc {ρ:Operand->Option AV} {c:Call} {out:Out} (h:opA M ρ (.defer c) s=some out):∃f k,out= .defer f k s:=by
 obtain⟨_,_,h⟩:=bnd h;cases hc:c.callee with
 | builtin b=>rw[hc]at h;cases h
 | invoke a b=>rw[hc]at h;cases h
 | value f=>
  rw[hc]at h;obtain⟨_,_,h⟩:=bnd h;obtain⟨g,_,h⟩:=bnd h;obtain rfl:=Xa h;exact⟨_,_,rfl⟩
theorem Eu {M:js} {f:FuncId} {args:Array Value} {w:World} {R:Ending->World->Prop} (r:Option Nat) (n:Nat) (h:Calls M.P f args w R):CallsIn (fc r) n M.P f args w R:=
 (callsIn_wide (n:=n)).2 h
theorem opV_ok (hM:M.Ok) (hA:rf M) (hih:Js M ih) {o:Oper} {v:AV} (h:opV M ih t o.op s=some (v,s')):Abs s s'/\∀(r:Option Nat) (n:Nat) (X:Nat->Prop) (sg:Ids) (w:World) (a:Act) (K:Act->World->Prop) (Q:Exit->Act->World->Prop),
  Ha sg t (o.looksAt ops) a->GOk M.ng sg->Ask X sg w s s'->(∀sg' w' u,VR sg' v u->dx X sg w s sg' w' s'->K (a.put o.dst u) w')->o.wpIn (fc r) n M.P a w K Q:=by
 replace h:=bnd h;obtain⟨out,hout,h⟩:=h;have a1:=opA_abs hA hout;have hnd:∀c,o.op≠.defer c:=λc e=>by
  rw[e]at hout;obtain⟨f,k,rfl⟩:=Gc hout;cases h
 have key:∀(X:Nat->Prop) (sg:Ids) (w:World) (a:Act),Ha sg t (o.looksAt ops) a->GOk M.ng sg->Ask X sg w s out.st->At M.P X sg w s out ((execOp a.eval o).run M.P w):=λX sg w a hl hg A=>
  zaG hM o (by rw[Kh];exact hout) (Qr hl hg) A
 have about:∀(r:Option Nat) (w:World) (a:Act) (f:FuncId),o.about M.P w a.eval=some f->(fc r).fn f:=λ_ _ _ _ _=>trivial;have wide:∀(r:Option Nat) (n:Nat),(fc r).depth.isSome=true->1<=n:=λr n h=>by cases h
 cases out with
 | val u s1=>
  obtain⟨rfl,rfl⟩:=Prod.mk.inj (Xa h);refine⟨a1,λr n X sg w a K Q hl hg A hK=>⟨about r w a,?_⟩⟩;rw[Oper.semAt_eq _ _ _ hnd];obtain⟨x,sg',w',e1,e2,e3⟩:=key X sg w a hl hg A;rw[e1];exact hK sg' w' x e2 e3
 | skip s1=>
  obtain⟨rfl,rfl⟩:=Prod.mk.inj (Xa h);refine⟨a1,λr n X sg w a K Q hl hg A hK=>⟨about r w a,?_⟩⟩;rw[Oper.semAt_eq _ _ _ hnd];obtain⟨sg',w',e1,e3⟩:=key X sg w a hl hg A;rw[e1];exact hK sg' w' undef ⟨[],rfl,rfl⟩ e3
 | call f args s1=>
  obtain⟨a2,law⟩:=hih.call _ _ _ _ _ h;have a1:Abs s s1:=a1;refine⟨a1.trans a2,λr n X sg w a K Q hl hg A hK=>⟨about r w a,?_⟩⟩;rw[Oper.semAt_eq _ _ _ hnd];obtain⟨us,sg1,w1,e1,e2,e3⟩:=key X sg w a hl hg (A.left a2);rw[e1];refine⟨wide r n,CallsIn.mono (Eu r (n - 1) (law _ _ _ us e2 (hg.mono e3.ext) (A.step e3 a1))) λe w' he=>?_⟩;obtain⟨u,sg',rfl,h1,h2⟩:=he;exact hK sg' w' u h1 (dx.seq A e3 a1 a2 h2)
 | yield b args s1=>
  obtain⟨a2,law⟩:=Su hih h;have a1:Abs s s1:=a1;refine⟨a1.trans a2,λr n X sg w a K Q hl hg A hK=>⟨about r w a,?_⟩⟩;rw[Oper.semAt_eq _ _ _ hnd];obtain⟨rfl,p,us,e1,hp,hus⟩:=key X sg w a hl hg (A.left a2);obtain⟨fn,tmps,assign,body,e2,e3⟩:=law r (n - 1) X sg w us p hp hus hg A;rw[e1,e2];refine⟨wide r n,RoundIn.mono e3 λe w' he=>?_⟩;obtain⟨u,sg',rfl,h1,h2⟩:=he;exact hK sg' w' u h1 h2
 | defer f k s1=>cases h
theorem uu (hM:M.Ok) (hA:rf M) (hih:Js M ih) {i:Nat} {o:Oper} {v:AV} (ho:ops[i]?=some o) (h:Fx M ih t ops o s=some (v,s')):Abs s s'/\∀(r:Option Nat) (n:Nat) (X:Nat->Prop) (sg:Ids) (w:World) (a:Act) (K:Act->World->Prop) (Q:Exit->Act->World->Prop),
  Ha sg t (o.looksAt ops) a->GOk M.ng sg->Ask X sg w s s'->(∀sg' w' u,VR sg' v u->dx X sg w s sg' w' s'->K (a.put o.dst u) w')->wpOpIn (fc r) n M.P ops Q i K a w:=by
 replace h:=bnd h;obtain⟨b,hb,h⟩:=h;cases b with
 | true=>
  obtain⟨a1,law⟩:=opV_ok (ops:=ops) hM hA hih h;refine⟨a1,λr n X sg w a K Q hl hg A hK=>?_⟩;unfold wpOpIn;rw[ho];dsimp only;rw[Fw hb hl,if_pos rfl];exact law r n X sg w a K Q hl hg A hK
 | false=>
  obtain⟨rfl,rfl⟩:=Prod.mk.inj (Xa h);refine⟨Abs.refl _,λr n X sg w a K Q hl hg A hK=>?_⟩;unfold wpOpIn;rw[ho];dsimp only;rw[Fw hb hl,if_neg Yy];exact⟨λ_ _=>trivial,hK sg w undef ⟨[],rfl,rfl⟩ (dx.refl A.holds)⟩
end
def ui (b:T Nat) (i:Nat):Nat:=match b.get i with
 | some m=>m
 | none=>0
def n8 (b:T Nat) (i:Nat):List Edge->Nat->Option Nat
 | [],m=>some m
 | e :: es,m=>match Region.binds .any e with
  | true=>(grd (Nat.blt e.on i)).bind λ_=>n8 b i es ((m ||| 2 ^ e.on) ||| ui b e.on)
  | false=>n8 b i es m
def Ra:List Oper->Nat->T Nat->Option (T Nat)
 | [],_,b=>some b
 | o :: os,i,b=>(n8 b i o.after.toList 0).bind λm=>Ra os (i+1) (b.set i (some m))
theorem yh {b:T Nat} {i:Nat}:∀{es:List Edge} {m m':Nat},n8 b i es m=some m'->
  (∀j,m'.testBit j=true->m.testBit j=true\/∃e∈es,Region.binds .any e=true/\e.on < i/\(j=e.on\/(ui b e.on).testBit j=true))
 | [],m,m',h,j,hj=>by
  obtain rfl:=Xa (show some m=some m' from h);exact .inl hj
 | e :: es,m,m',h,j,hj=>by
  unfold n8 at h;cases hb:Region.binds .any e with
  | false=>
   rw[hb]at h;rcases yh h j hj with h1 | ⟨e',he',h1⟩
   ·exact .inl h1
   ·exact .inr ⟨e',List.mem_cons_of_mem _ he',h1⟩
  | true=>
   rw[hb]at h;obtain⟨_,hlt,h⟩:=bnd h;have hlt:e.on < i:=by have:=ag hlt;rwa [Nat.blt_eq]at this
   rcases yh h j hj with h1 | ⟨e',he',h1⟩
   ·rw[Nat.testBit_or,Bool.or_eq_true,cd]at h1;rcases h1 with (h1 | h1) | h1
    ·exact .inl h1
    ·exact .inr ⟨e,List.mem_cons_self ..,hb,hlt,.inl h1⟩
    ·exact .inr ⟨e,List.mem_cons_self ..,hb,hlt,.inr h1⟩
   ·exact .inr ⟨e',List.mem_cons_of_mem _ he',h1⟩
def zo (os:List Oper) (b:T Nat) (n:Nat):Prop:=∀j,j < n->∀i,(ui b j).testBit i=true->∃o,os[j]?=some o/\∃e∈o.after.toList,Region.binds .any e=true/\e.on < j/\(i=e.on\/(ui b e.on).testBit i=true)
theorem D5 (b:T Nat) (i m j:Nat):ui (b.set i (some m)) j=if j=i then m else ui b j:=by
 unfold ui;rw[T.get_set]
 by_cases h:j=i
 ·rw[if_pos h,if_pos h]
 ·rw[if_neg h,if_neg h]
theorem Km {all:List Oper}:∀{os:List Oper} {i:Nat} {b b':T Nat},Ra os i b=some b'->(∀k,os[k]?=all[i+k]?)->zo all b i->zo all b' (i+os.length)
 | [],i,b,b',h,_,hb=>by
  obtain rfl:=Xa (show some b=some b' from h);simpa using hb
 | o :: os,i,b,b',h,hk,hb=>by
  obtain⟨m,hm,h⟩:=bnd (show(n8 b i o.after.toList 0).bind _=some b' from h);have:=Km (all:=all) h (λk=>by have:=hk (k+1);simp only[List.getElem?_cons_succ]at this;rw[this];congr 1;omega) (by
   intro j hj x hx;rw[D5]at hx
   by_cases e:j=i
   ·subst e;rw[if_pos rfl]at hx;rcases yh hm x hx with h1 | ⟨e,he,h1,h2,h3⟩
    ·simp at h1
    ·refine⟨o,by have:=hk 0;simpa using this.symm,e,he,h1,h2,?_⟩;rw[D5,if_neg Yx];exact h3
   ·rw[if_neg e]at hx;obtain⟨o',h1,e',h2,h3,h4,h5⟩:=hb j Yx x hx;refine⟨o',h1,e',h2,h3,h4,?_⟩;rw[D5,if_neg Yx];exact h5)
  simp only[List.length_cons];rw[show i+(os.length+1)=i+1+os.length by omega];exact this
theorem zo.lt {os:List Oper} {b:T Nat} {n:Nat} (h:zo os b n):∀j,j < n->∀i,(ui b j).testBit i=true->i < j:=by
 intro j
 induction j using Nat.strongRecOn with
 | _ j ih=>
  intro hj i hi;obtain⟨o,_,e,_,_,hlt,hc⟩:=h j hj i hi;rcases hc with rfl | hc
  ·exact hlt
  ·exact Nat.lt_trans (ih e.on hlt Yx i hc) hlt
theorem zo.closed {os:List Oper} {b:T Nat} {n:Nat} (h:zo os b n) {S:Nat->Prop} (hS:∀j o,S j->os[j]?=some o->∀e∈o.after.toList,Region.binds .any e=true->S e.on):∀j,j < n->S j->∀i,(ui b j).testBit i=true->S i:=by
 intro j
 induction j using Nat.strongRecOn with
 | _ j ih=>
  intro hj hSj i hi;obtain⟨o,ho,e,he,hb,hlt,hc⟩:=h j hj i hi;have hSe:=hS j o hSj ho e he hb;rcases hc with rfl | hc
  ·exact hSe
  ·exact ih e.on hlt Yx hSe i hc
theorem zo.pre {os:List Oper} {b:T Nat} {n:Nat} (h:zo os b n) {S:Nat->Prop} (hS:∀j o,S j->os[j]?=some o->∀e∈o.after.toList,Region.binds .any e=true->S e.on) {j:Nat} (hj:j < n) (hr:∀o,os[j]?=some o->∀e∈o.after.toList,Region.binds .any e=true->S e.on):∀i,(ui b j).testBit i=true->S i:=by
 intro i hi;obtain⟨o,ho,e,he,hb,hlt,hc⟩:=h j hj i hi;have hSe:=hr o ho e he hb;rcases hc with rfl | hc
 ·exact hSe
 ·exact h.closed hS e.on Yx hSe i hc
def Bm {α:Type} (f:Nat->α->Nat->α->Bool) (i:Nat) (x:α):Nat->List α->Bool
 | _,[]=>true
 | j,y :: ys=>match f i x j y with
  | true=>Bm f i x (j+1) ys
  | false=>false
def lx {α:Type} (f:Nat->α->Nat->α->Bool) (skip:α->Bool):Nat->List α->Bool
 | _,[]=>true
 | i,x :: xs=>match skip x with
  | true=>lx f skip (i+1) xs
  | false=>match Bm f i x (i+1) xs with
   | true=>lx f skip (i+1) xs
   | false=>false
theorem Ah {α:Type} {f:Nat->α->Nat->α->Bool} {i:Nat} {x:α}:∀{l:List α} {j:Nat},Bm f i x j l=true->∀k y,l[k]?=some y->f i x (j+k) y=true
 | [],_,_,k,y,h=>by cases h
 | z :: zs,j,h,k,y,hy=>by
  unfold Bm at h;split at h
  ·rename_i hf;cases k with
   | zero=>
    obtain rfl:z=y:=by simpa using hy
    exact hf
   | succ k=>
    have:=Ah h k y (by simpa using hy)
    rwa [show j+1+k=j+(k+1) by omega]at this
  ·cases h
theorem o5 {α:Type} {f:Nat->α->Nat->α->Bool} {skip:α->Bool}:∀{l:List α} {i:Nat},lx f skip i l=true->∀a b x y,a < b->l[a]?=some x->l[b]?=some y->skip x=true\/f (i+a) x (i+b) y=true
 | [],_,_,a,b,x,y,_,h,_=>by cases h
 | z :: zs,i,h,a,b,x,y,hab,hx,hy=>by
  unfold lx at h;cases b with
  | zero=>omega
  | succ b=>
   have hy':zs[b]?=some y:=by simpa using hy
   cases a with
   | zero=>
    obtain rfl:z=x:=by simpa using hx
    split at h
    ·rename_i hs;exact .inl hs
    ·split at h
     ·rename_i hp;have:=Ah hp b y hy';rw[show i+1+b=i+(b+1) by omega]at this;exact .inr this
     ·cases h
   | succ a=>
    have hx':zs[a]?=some x:=by simpa using hx
    have again:lx f skip (i+1) zs=true->skip x=true\/f (i+(a+1)) x (i+(b+1)) y=true:=λh=>by
     have:=o5 h a b x y Yx hx' hy'
     rwa [show i+1+a=i+(a+1) by omega,show i+1+b=i+(b+1) by omega]at this
    split at h
    ·exact again h
    ·split at h
     ·exact again h
     ·cases h
structure Lg where
 rd:Nat
 wr:Nat
def R4 (x y:Lg):Bool:=match Nat.beq (x.wr &&& y.rd) 0 with
 | true=>Nat.beq (y.wr &&& x.rd) 0
 | false=>false
def za1 (b:T Nat) (i:Nat) (x:Lg) (j:Nat) (y:Lg):Bool:=match Nat.beq y.rd 0 with
 | true=>true
 | false=>match R4 x y with
  | true=>true
  | false=>(ui b j).testBit i
def lgSkip (x:Lg):Bool:=Nat.beq x.rd 0
def Zs (b:T Nat) (ops:Array Oper) (i:Nat) (x:Oper) (j:Nat) (y:Oper):Bool:=match (ui b j).testBit i with
 | true=>true
 | false=>x.apart ops y
def tmSkip (_:Oper):Bool:=false
def static (ops:Array Oper):Option (T Nat):=(Ra ops.toList 0 .nil).bind λb=>(grd (lx (Zs b ops) tmSkip 0 ops.toList)).bind λ_=>some b
def lm (a b:Nat):Nat:=(2 ^ (b - a) - 1) <<< a
theorem zc1 {a b i:Nat} (h1:a<=i) (h2:i < b):(lm a b).testBit i=true:=by
 unfold lm;rw[Nat.testBit_shiftLeft,Nat.testBit_two_pow_sub_one];simp;omega
theorem zaN {x y i:Nat} (h:Nat.beq (x &&& y) 0=true) (h1:x.testBit i=true) (h2:y.testBit i=true):False:=by
 have:=Nat.eq_of_beq_eq_true h;have h3:(x &&& y).testBit i=true:=by rw[Nat.testBit_and,h1,h2];rfl
 rw[this]at h3;simp at h3
end
end RX
end
end Go.Proofs.YtimcfaoabaflkaaGreatDoor
