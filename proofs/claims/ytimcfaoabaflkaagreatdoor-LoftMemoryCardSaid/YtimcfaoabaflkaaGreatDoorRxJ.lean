/- RX, part 10: conversions, the builtins of package unsafe. -/
import Derived.Test.YtimcfaoabaflkaaGreatDoorRxE
import Derived.Laws.StructEq
namespace Go.Proofs.YtimcfaoabaflkaaGreatDoor
section
namespace RX
noncomputable section
def asU8:AV->Option Int
 | .int .u8 n=>some n
 | _=>none
theorem W6 {a:AV} {n:Int} (h:asU8 a=some n):a= .int .u8 n:=by
 unfold asU8 at h;split at h
 ·obtain rfl:=Xa h;rfl
 ·cases h
def Qs:List AV->Option (List Int)
 | []=>some []
 | x :: xs=>(asU8 x).bind λn=>(Qs xs).bind λl=>some (n :: l)
theorem Da {sg:Ids}:∀{xs:List AV} {ns:List Int} {vs:List Value},Qs xs=some ns->VRs sg xs vs->vs=ns.map (Value.int .u8)
 | [],ns,vs,h,hv=>by
  obtain rfl:=Xa (show some []=some ns from h);exact hv
 | x :: xs,ns,vs,h,hv=>by
  obtain⟨n,hn,h⟩:=bnd (show(asU8 x).bind _=some ns from h);obtain⟨l,hl,h⟩:=bnd h;obtain rfl:=Xa h;obtain⟨u,us,rfl,h1,h2⟩:=hv;rw[W6 hn]at h1;obtain rfl:u=_:=h1;rw[Da hl h2];rfl
def k9 (n:Int):UInt8:=UInt8.ofNat n.toNat
def Hd (E:Env) (P:Program) (a d:TypeDesc) (x:AV) (s:St):Option (AV×St):=
 (lu x).bind λy=>(s.heap.get y.1).bind λk=>(qv k).bind λr=>match vq a with
  | some t=>(grd (Ds d)).bind λ_=>(E.info t).bind λi=>(grd (Nat.blt 0 i.size)).bind λ_=>(grd (Nat.blt y.2 r.size)).bind λ_=>some (x,s.saw y.1)
  | none=>(grd (Ds a)).bind λ_=>(vq d).bind λu=>(E.info u).bind λ_=>(grd (!r.opn)).bind λ_=>(grd (liesAt P P.depth r.elem (r.size / P.cellsOf r.elem) y.2 u 1)).bind λ_=>some (x,s.saw y.1)
def zbJ (E:Env) (P:Program) (src dst:TypeId) (x:AV) (s:St):Option (AV×St):=
 (E.und src).bind λa=>(E.und dst).bind λd=>match intOf d with
  | some k=>(asInt x).bind λi=>some (.int k (k.wrap i.2),s)
  | none=>match mi x with
   | some l=>match jz d with
    | true=>some (.str l,s)
    | false=>(iw d).bind λe=>(grd (jz a)).bind λ_=>(E.und e).bind λde=>(grd (isU8 de)).bind λ_=>
     some (.slu s.fresh 0 l.length 1,s.new (.cells l.length true e l.length (l.map u8) .nil))
   | none=>match jz d with
    | true=>(iw a).bind λe=>(E.und e).bind λde=>(grd (isU8 de)).bind λ_=>match kt x with
     | some q=>(s.heap.get q.b).bind λk=>(qv k).bind λr=>(grd (Nat.ble (q.off+q.len) r.size)).bind λ_=>(Qs (cj r.per r.zs r.ov q.off q.len)).bind λl=>some (.str (l.map k9),s.saw q.b)
     | none=>(kz x).bind λ_=>some (.str [],s)
    | false=>Hd E P a d x s
def St.kill (s:St) (b:Nat):St:={s with heap:=s.heap.set b none,wr:=s.wr ||| 2 ^ b}
theorem Abs.kill {s:St} {b:Nat}:Abs s (s.kill b):=by
 refine⟨Xc _,λ_ h=>h,λc h=>(cd _ _ _).2 (.inl h),λc hc hw=>?_,λc hc=>?_⟩
 ·show(s.heap.set b none).get c=_;rw[T.get_set,if_neg (j8 hw).2]
 ·unfold St.alive at hc;change ((s.heap.set b none).get c).isSome=true at hc;rw[T.get_set]at hc;split at hc
  ·cases hc
  ·exact .inl hc
def Ab (x:AV):Option AV:=(kt x).bind λq=>(grd (match q.cap with | some c=>Nat.blt 0 c | none=>Nat.blt 0 q.len)).bind λ_=>some (.ptr q.b q.off)
def th (E:Env) (ts:Array TypeId) (x n:AV) (s:St):Option (AV×St):=
 (ts[0]?).bind λt=>(E.und t).bind λd=>(vq d).bind λe=>(E.info e).bind λi=>(grd (Nat.beq i.size 1)).bind λ_=>(lu x).bind λp=>(grd (Nat.beq p.2 0)).bind λ_=>(asI64 n).bind λm=>(grd (Nat.blt 0 m)).bind λ_=>(grd (Nat.ble m 1000000000)).bind λ_=>
  (s.heap.get p.1).bind λk=>(qv k).bind λr=>(grd (Nat.beq r.elem e)).bind λ_=>(grd (Nat.ble m r.size)).bind λ_=>(Qs (cj r.per r.zs r.ov 0 m)).bind λl=>(grd (allByte l)).bind λ_=>some (.str (l.map k9),(s.saw p.1).kill p.1)
where
 asI64:AV->Option Nat
  | .int .i64 n=>si n
  | _=>none
 allByte:List Int->Bool
  | []=>true
  | n :: l=>match si n with
   | some m=>match Nat.blt m 256 with
    | true=>allByte l
    | false=>false
   | none=>false
section
variable {P:Program} {E:Env} {X:Nat->Prop} {sg:Ids} {w w':World} {s s' s1:St}
theorem dx.kill {b p:Nat} (H:nh X sg s.heap w) (hb:X b) (hp:sg b=some p) (hs:w'.heap.size=w.heap.size) (hw:∀q,q≠p->w'.heap[q]?=w.heap[q]?) (os:w'.os=w.os) (tape:w'.tape=w.tape) (out:w'.output=w.output):dx X sg w s sg w' (s.kill b):=by
 have get:∀c,(s.kill b).heap.get c=if c=b then none else s.heap.get c:=λc=>T.get_set _ _ _ _;have key:∀c,fk X s (s.kill b) c->X c/\c≠b:=λc hc=>by
  have ha:=hc.2;unfold St.alive at ha;rw[get]at ha;split at ha
  ·cases ha
  ·rename_i hcb;rcases hc.1 with h | h
   ·exact⟨h,hcb⟩
   ·have:c < s.fresh:=h.2;omega
 refine⟨Ext.refl _,λ_ _ e=> .inl e,λc q h1 h2 _=>by have:c < s.fresh:=h2;omega,⟨?_,λc d q hc hd=>H.inj c d q (key c hc).1 (key d hd).1⟩,by rw[hs];exact Xc _,os,tape,out,?_⟩
 ·intro c hc;obtain⟨hX,hcb⟩:=key c hc;obtain⟨k',q,o',h1,h2,h3,h4,h5⟩:=H.cell c hX;have hq:q≠p:=λhqp=>hcb (H.inj c b p hX hb (by rw[<-hqp];exact h2) hp);exact⟨k',q,o',by rw[get,if_neg hcb];exact h1,h2,by rw[hw q hq];exact h3,h4,h5⟩
 ·intro q _ hc;refine hw q λe=>?_;subst e;exact hc b hb ((cd _ _ _).2 (.inr rfl)) hp
theorem M4 (hE:E.Ok P) {src dst:TypeId} {a d:TypeDesc} {x v:AV} {u:Value} (ha:P.underlying src=some a) (hd:P.underlying dst=some d) (h:Hd E P a d x s=some (v,s')) (hx:VR sg x u) (A:Ask X sg w s s'):Got P X sg w s (Go.convert src dst u) v s':=by
 replace h:=bnd h;obtain⟨y,hy,h⟩:=h;replace h:=bnd h;obtain⟨k,hk,h⟩:=h;replace h:=bnd h;obtain⟨r,hr,h⟩:=h;have hx':=hx;rw[dk hy]at hx';obtain⟨p,hp,rfl⟩:=hx';cases hpa:vq a with
 | some t=>
  rw[hpa]at h;obtain⟨_,h1,h⟩:=bnd h;obtain⟨i,hi,h⟩:=bnd h;obtain⟨_,hz,h⟩:=bnd h;obtain⟨_,ho,h⟩:=bnd h;obtain⟨rfl,rfl⟩:x=v/\_=s':=Prod.mk.inj (Xa h);obtain⟨_,q,o,e1,e2,e3,_⟩:=A.at hk (.inl (ey s y.1));rw[hp]at e1;obtain rfl:=Xa e1;rw[fu hr]at e3;obtain⟨c,fz,rfl,_,h2,_,_⟩:=e3;rw[lk hpa]at ha;rw[sk (ag h1)]at hd;have hz:i.size≠0:=by have:=ag hz;rw[Nat.blt_eq]at this;omega
  have ho:y.2 < r.size:=by have:=ag ho;rwa [Nat.blt_eq]at this
  refine⟨_,sg,w,Lib.run_to_unsafe w ⟨p,y.2,none⟩ ha hd (hE.info _ _ hi) hz (e:=r.elem) (cells:=c.size) ?_ (by show y.2 < c.size;omega),hx,dx.saw _ A.holds⟩;simp[World.shape?,e2]
 | none=>
  rw[hpa]at h;obtain⟨_,h1,h⟩:=bnd h;obtain⟨u,hu,h⟩:=bnd h;obtain⟨i,hi,h⟩:=bnd h;obtain⟨_,ho,h⟩:=bnd h;obtain⟨_,hl,h⟩:=bnd h;obtain⟨rfl,rfl⟩:x=v/\_=s':=Prod.mk.inj (Xa h);obtain⟨_,q,o,e1,e2,e3,_⟩:=A.at hk (.inl (ey s y.1));rw[hp]at e1;obtain rfl:=Xa e1;rw[fu hr]at e3;obtain⟨c,fz,rfl,_,h2,h3,_⟩:=e3;rw[sk (ag h1)]at ha;rw[lk hu]at hd;have ho:c.size=r.size:=h3 (by have:=ag ho;simpa using this);refine⟨_,sg,w,Lib.run_from_unsafe w ⟨p,y.2,none⟩ ha hd (hE.info _ _ hi) (e:=r.elem) (cells:=c.size) (by simp[World.shape?,e2]) (by rw[ho];exact ag hl),hx,dx.saw _ A.holds⟩
theorem zbI (hE:E.Ok P) {src dst:TypeId} {x v:AV} {u:Value} (h:zbJ E P src dst x s=some (v,s')) (hx:VR sg x u) (A:Ask X sg w s s'):Got P X sg w s (Go.convert src dst u) v s':=by
 replace h:=bnd h;obtain⟨a,ha,h⟩:=h;replace h:=bnd h;obtain⟨d,hd,h⟩:=h;have ha':=hE.und _ _ ha;have hd':=hE.und _ _ hd;cases hk:intOf d with
 | some k=>
  rw[hk]at h;obtain⟨i,hi,h⟩:=bnd h;obtain⟨rfl,rfl⟩:_=v/\_=s':=Prod.mk.inj (Xa h);rw[ew hi]at hx;obtain rfl:u=_:=hx;rw[Of hk]at hd';refine Got.pure A (u:= .int k (k.wrap i.2)) ?_ rfl;simp[convert,run_underlying ha',run_underlying hd',Conv.intToInt]
 | none=>
  rw[hk]at h;dsimp only at h;cases hs:mi x with
  | some l=>
   rw[hs]at h;dsimp only at h;rw[ig hs]at hx;obtain rfl:u=_:=hx;cases hds:jz d with
   | true=>
    rw[hds]at h;obtain⟨rfl,rfl⟩:_=v/\_=s':=Prod.mk.inj (Xa h);rw[jd hds]at hd';refine Got.pure A (u:= .string ⟨⟨l⟩⟩) ?_ rfl;simp[convert,run_underlying ha',run_underlying hd']
   | false=>
    rw[hds]at h;obtain⟨e,he,h⟩:=bnd h;obtain⟨_,h1,h⟩:=bnd h;obtain⟨de,hde,h⟩:=bnd h;obtain⟨_,h2,h⟩:=bnd h;obtain⟨rfl,rfl⟩:_=v/\_=s':=Prod.mk.inj (Xa h);rw[jd (ag h1)]at ha';rw[dh he]at hd';have hde':=hE.und _ _ hde;rw[Gi (ag h2)]at hde';have hn:sg s.fresh=none:=A.new s.fresh (Xc _) (Nat.lt_succ_self _);have hr:=run_bytes_of_string w src dst e ⟨⟨l⟩⟩ ha' hd' hde';generalize hc:grownCap w (⟨⟨l⟩⟩:ByteArray).size 0 e=c at hr;have hle:l.length<=c:=by rw[<-hc];unfold grownCap Question.cut;exact Nat.le_add_right _ _
    have hsz:(bytesRow ⟨⟨l⟩⟩ c).size=c:=by
     have e1:(⟨⟨l⟩⟩:ByteArray).size=l.length:=rfl;simp[bytesRow,e1];omega
    have hk:BR (sg.with s.fresh w.heap.size c) (.cells l.length true e l.length (l.map u8) .nil) (.cells (bytesRow ⟨⟨l⟩⟩ c) e ((bytesRow ⟨⟨l⟩⟩ c).size,(bytesRow ⟨⟨l⟩⟩ c).size+1)):=by
     refine⟨_,_,rfl,.inr (Xc _),by rw[hsz];exact hle,λh=>(by cases h),λi hi=>?_⟩;refine⟨.int .u8 (l[i].toNat),?_,rfl,?_⟩
     ·unfold bytesRow;rw[Array.getElem?_append_left (by simpa using hi)];simp[hi]
     ·unfold cellAt;simp[Nat.mod_eq_of_lt hi,hi,u8,VR]
    refine⟨_,sg.with s.fresh w.heap.size c,_,hr,⟨w.heap.size,c,Ids.with_self ..,hle,by rw[Ids.with_sz];omega,rfl⟩,dx.alloc (n:=c) A.holds A.lt hn hk hsz rfl rfl rfl rfl⟩
  | none=>
   rw[hs]at h;dsimp only at h;cases hds:jz d with
   | true=>
    rw[hds]at h;obtain⟨e,he,h⟩:=bnd h;obtain⟨de,hde,h⟩:=bnd h;obtain⟨_,h2,h⟩:=bnd h;rw[dh he]at ha';rw[jd hds]at hd';have hde':=hE.und _ _ hde;rw[Gi (ag h2)]at hde';cases hq:kt x with
    | some q=>
     rw[hq]at h;obtain⟨k,hk,h⟩:=bnd h;obtain⟨r,hr,h⟩:=bnd h;obtain⟨_,g,h⟩:=bnd h;obtain⟨ns,hns,h⟩:=bnd h;obtain⟨rfl,rfl⟩:_=v/\_=s':=Prod.mk.inj (Xa h);obtain⟨p,c,hp,_,_,_,rfl⟩:=dy hq hx;obtain⟨_,q',o,e1,e2,e3,_⟩:=A.at hk (.inl (ey s q.b));rw[hp]at e1;obtain rfl:=Xa e1;rw[fu hr]at e3;obtain⟨cs,c1,c2,c3,c4⟩:=rh e3 e2 (db (ag g));obtain rfl:=Da hns c1;have hl:(loadCells ⟨p,q.off,none⟩ q.len).run P w= .ok (ns.map (Value.int .u8)).toArray w:=by
      have:=run_loadCells_list (P:=P) w ⟨p,q.off,none⟩ (ns.map (Value.int .u8)) c4
      rwa [c3]at this
     refine⟨.string ⟨⟨ns.map k9⟩⟩,sg,w,?_,rfl,dx.saw _ A.holds⟩;rw[run_convert_bytes_string w src dst e _ q.len c ha' hde' hd',run_bytesToString w _ q.len c ns hl,foldl_push_bytes];simp[ByteArray.empty,ByteArray.emptyWithCapacity];rfl
    | none=>
     rw[hq]at h;obtain⟨_,hn,h⟩:=bnd h;obtain⟨rfl,rfl⟩:_=v/\_=s':=Prod.mk.inj (Xa h);rw[fj hn]at hx;obtain rfl:u=_:=hx;exact Got.pure A (u:= .string ⟨⟨[]⟩⟩) (run_convert_bytes_nil w src e ha' hde' 0 0 dst hd') rfl
   | false=>
    rw[hds]at h;exact M4 hE ha' hd' h hx A
theorem Cc {ts:Array TypeId} {ty:TypeId} {x v:AV} {u:Value} (h:Ab x=some v) (hx:VR sg x u) (A:Ask X sg w s s):Got P X sg w s (Builtin.unsafeSliceData_ ts ty #[u]) v s:=by
 obtain⟨q,hq,h⟩:=bnd h;obtain⟨_,hc,h⟩:=bnd h;obtain rfl:=Xa h;obtain⟨p,c,hp,hle,hk,_,rfl⟩:=dy hq hx;refine Got.pure A (u:= .pointer (some ⟨p,q.off,none⟩)) (Lib.run_unsafeSliceData_row w ts ty _ _ _ ?_) ⟨p,hp,rfl⟩;have hc:=ag hc;cases e:q.cap with
 | some k=>rw[e]at hc;have:=hk k e;rw[Nat.blt_eq]at hc;omega
 | none=>rw[e]at hc;rw[Nat.blt_eq]at hc;omega
theorem Fe (hE:E.Ok P) {ts:Array TypeId} {ty:TypeId} {x n v:AV} {u y:Value} (h:th E ts x n s=some (v,s')) (hx:VR sg x u) (hn:VR sg n y) (hts:ts.size=2) (A:Ask X sg w s s'):Got P X sg w s (Builtin.unsafeString_ ts ty #[u,y]) v s':=by
 obtain⟨t,ht,h⟩:=bnd h;obtain⟨d,hd,h⟩:=bnd h;obtain⟨e,he,h⟩:=bnd h;obtain⟨i,hi,h⟩:=bnd h;obtain⟨_,hz,h⟩:=bnd h;obtain⟨p,hp,h⟩:=bnd h;obtain⟨_,h0,h⟩:=bnd h;obtain⟨m,hm,h⟩:=bnd h;obtain⟨_,hm0,h⟩:=bnd h;obtain⟨_,hmb,h⟩:=bnd h;obtain⟨k,hk,h⟩:=bnd h;obtain⟨r,hr,h⟩:=bnd h;obtain⟨_,hel,h⟩:=bnd h;obtain⟨_,hle,h⟩:=bnd h;obtain⟨ns,hns,h⟩:=bnd h;obtain⟨_,hb,h⟩:=bnd h;obtain⟨rfl,rfl⟩:_=v/\_=s':=Prod.mk.inj (Xa h);have hz:=Nat.eq_of_beq_eq_true (ag hz);have h0:=Nat.eq_of_beq_eq_true (ag h0);have hel:=Nat.eq_of_beq_eq_true (ag hel);have hle:=db (ag hle);have hmb:=db (ag hmb);have hm0:0 < m:=by have:=ag hm0;rwa [Nat.blt_eq]at this
 have hd':=hE.und _ _ hd;rw[lk he]at hd';rw[dk hp]at hx;obtain⟨q,hq,rfl⟩:=hx;have hn':y= .int .i64 (m:Int):=by
  unfold th.asI64 at hm;split at hm
  ·obtain rfl:y=_:=hn;rw[rm hm]
  ·cases hm
 subst hn';obtain⟨hX,q',o,e1,e2,e3,_⟩:=A.at hk (.inr ((cd _ _ _).2 (.inr rfl)));rw[hq]at e1;obtain rfl:=Xa e1;rw[fu hr,hel]at e3;obtain⟨cs,c1,c2,c3,c4⟩:=rh (off:=0) (n:=m) e3 e2 Yx;obtain rfl:=Da hns c1;obtain⟨c,fz,rfl,_,g2,_,_⟩:=e3;have back:∀(l:List Int),th.allByte l=true->∀z∈l,((k9 z).toNat:Int)=z:=by
  intro l
  induction l with
  | nil=>intro _ z hz;cases hz
  | cons a l ih=>
   intro hl z hz;unfold th.allByte at hl;split at hl
   ·rename_i k hk;split at hl
    ·rename_i hlt;rcases List.mem_cons.1 hz with rfl | hz
     ·rw[Nat.blt_eq]at hlt;have:=rm hk;subst this;unfold k9;rw[Int.toNat_natCast,UInt8.toNat_ofNat'];congr 1;exact Nat.mod_eq_of_lt hlt
     ·exact ih hl z hz
    ·cases hl
   ·cases hl
 have hlen:(ns.map k9).length=m:=by simpa using c3
 have hcell:∀j x,(ns.map k9)[j]?=some x->w.cell? ((⟨q,0,none⟩:Addr).add j)=some (.int .u8 x.toNat):=λj x hj=>by
  rw[List.getElem?_map]at hj;obtain⟨z,hz,rfl⟩:=Option.map_eq_some_iff.1 hj;rw[back ns (ag hb) z (List.mem_of_getElem? hz)];exact c4 j _ (by rw[List.getElem?_map,hz];rfl)
 obtain⟨tl⟩:=ts;obtain⟨t1,t2,rfl⟩:∃a b,tl=[a,b]:=by
  match tl,hts with
  | [a,b],_=>exact⟨a,b,rfl⟩
 obtain rfl:t1=t:=by simpa using ht
 have hcells:P.cellsOf e=1:=by unfold Program.cellsOf;rw[hE.info _ _ hi];exact hz
 have run:=Lib.run_unsafeString_row (P:=P) w t1 t2 ty e hd' hcells q c.size (by simp[World.shape?,e2]) (ns.map k9) (by intro e;rw[e]at hlen;simp at hlen;omega) Yx Yx hcell;rw[hlen]at run;refine⟨.string ⟨⟨ns.map k9⟩⟩,sg,w.freeze ⟨q,0,none⟩ m,?_,rfl,?_⟩
 ·rw[h0];exact run
 ·have hne:¬m=0:=Yx;refine(dx.kill (s:=s.saw p.1) (X:=X) A.holds hX hq ?_ ?_ ?_ ?_ ?_).like rfl
  all_goals unfold World.freeze
  all_goals rw[if_neg hne]
  ·simp
  ·intro z hz;rw[Array.getElem?_modify,if_neg (Ne.symm hz)]
end
end
end RX
end
section
namespace RX
noncomputable section
def Gw:AV->Option Nat
 | .map b=>some b
 | _=>none
theorem un {a:AV} {b:Nat} (h:Gw a=some b):a= .map b:=by
 cases a <;> first | (cases h;done) | (obtain rfl:=Xa h;rfl)
def qw:Blk->Option (List ni×Nat)
 | .map es c=>some (es,c)
 | _=>none
theorem Mh {k:Blk} {r:List ni×Nat} (h:qw k=some r):k= .map r.1 r.2:=by
 cases k <;> first | (cases h;done) | (obtain rfl:=Xa h;rfl)
structure It where
 m:Nat
 since:Nat
 seen:List Nat
 stepped:Nat
def Jh:Blk->Option It
 | .iter m a b c=>some ⟨m,a,b,c⟩
 | _=>none
theorem Mj {k:Blk} {r:It} (h:Jh k=some r):k= .iter r.m r.since r.seen r.stepped:=by
 cases k <;> first | (cases h;done) | (obtain rfl:=Xa h;rfl)
def Gf:TypeDesc->AV->Bool
 | .int _,.int .. =>true
 | .string,.str _=>true
 | _,_=>false
def sameIK:IntKind->IntKind->Bool
 | a,b=>decide (a=b)
def Qh:AV->AV->Option Bool
 | .int j a,.int k b=>(grd (sameIK j k)).bind λ_=>some (a == b)
 | .str a,.str b=>some (k8 a b)
 | _,_=>none
def Rp (k:AV):List ni->Nat->Option (Option (Nat×AV))
 | [],_=>some none
 | e :: es,i=>(Qh k e.key).bind λb=>match b with
  | true=>some (some (i,e.val))
  | false=>Rp k es (i+1)
theorem Qd (a b:List UInt8):((⟨⟨a⟩⟩:ByteArray) == ⟨⟨b⟩⟩)=k8 a b:=by
 rw[j3,beq_toListBytes,ByteArray.toList_eq,ByteArray.toList_eq]
theorem zac {sg:Ids} {d:TypeDesc} {x y:AV} {u v:Value} {b:Bool} (hk:Gf d x=true) (h:Qh x y=some b) (hx:VR sg x u) (hy:VR sg y v):Instr.sameNow d u v=some b/\(b=true->Instr.sameBits 10000 v u=true):=by
 unfold Qh at h;split at h
 ·obtain⟨_,hg,h⟩:=bnd h;obtain rfl:=Xa h;have hg:_=_:=of_decide_eq_true (ag hg);subst hg;obtain rfl:u=_:=hx;obtain rfl:v=_:=hy;cases d <;> first | (cases hk;done) | skip;refine⟨by simp[Instr.sameNow],λe=>?_⟩;have e:=eq_of_beq e;subst e;simp[Instr.sameBits]
 ·obtain rfl:=Xa h;obtain rfl:u=_:=hx;obtain rfl:v=_:=hy;cases d <;> first | (cases hk;done) | skip;refine⟨by simp[Instr.sameNow,Qd],λe=>?_⟩;rename_i a b;rw[j3]at e;obtain rfl:a=b:=eq_of_beq e;unfold Instr.sameBits;rw[Qd,j3];exact beq_self_eq_true a
 ·cases h
theorem Ec {sg:Ids} {d:TypeDesc} {k:AV} {u:Value} (hk:Gf d k=true) (hu:VR sg k u):∀{es:List ni} {ces:List MapEntry} {i:Nat} {r:Option (Nat×AV)},Rp k es i=some r->ERs sg es ces->
  match r with
  | none=>Instr.findNow d u ces i=some none
  | some (j,v)=>∃x,Instr.findNow d u ces i=some (some (j,x))/\VR sg v x/\i<=j/\∃m,ces[j - i]?=some m/\Instr.sameBits 10000 m.key u=true
 | [],ces,i,r,h,he=>by
  obtain rfl:=Xa (show some none=some r from h);obtain rfl:ces=[]:=he;rfl
 | e :: es,ces,i,r,h,he=>by
  obtain⟨m,ms,rfl,hm,hms⟩:=he;obtain⟨b,hb,h⟩:=bnd (show(Qh k e.key).bind _=some r from h);have hs:=zac hk hb hu hm.1;cases b with
  | true=>
   obtain rfl:=Xa h;refine⟨m.val,?_,hm.2.1,Xc _,m,Yy,hs.2 rfl⟩;simp[Instr.findNow,hs.1]
  | false=>
   have ih:=Ec hk hu (i:=i+1) (r:=r) h hms;have e1:Instr.findNow d u (m :: ms) i=Instr.findNow d u ms (i+1):=by simp[Instr.findNow,hs.1]
   rw[e1];cases r with
   | none=>exact ih
   | some jv=>
    obtain⟨x,h1,h2,h3,m',h4,h5⟩:=ih;refine⟨x,h1,h2,Yx,m',?_,h5⟩;rw[show jv.1 - i=(jv.1 - (i+1))+1 by omega,List.getElem?_cons_succ];exact h4
theorem ERs.length {sg:Ids}:∀{es:List ni} {ces:List MapEntry},ERs sg es ces->ces.length=es.length
 | [],_,h=>by obtain rfl:_=[]:=h;rfl
 | _ :: _,_,h=>by obtain⟨u,us,rfl,_,h2⟩:=h;simp[ERs.length h2]
theorem ERs.isEmpty {sg:Ids}:∀{es:List ni} {ces:List MapEntry},ERs sg es ces->ces.isEmpty=es.isEmpty
 | [],_,h=>by obtain rfl:_=[]:=h;rfl
 | _ :: _,_,h=>by obtain⟨u,us,rfl,_,h2⟩:=h;rfl
theorem ERs.append {sg:Ids}:∀{es fs:List ni} {a b:List MapEntry},ERs sg es a->ERs sg fs b->ERs sg (es ++ fs) (a ++ b)
 | [],_,_,_,h,k=>by obtain rfl:_=[]:=h;exact k
 | _ :: _,_,_,_,h,k=>by obtain⟨u,us,rfl,h1,h2⟩:=h;exact⟨u,_,rfl,h1,ERs.append h2 k⟩
def modAt (k v:AV):List ni->Nat->List ni
 | [],_=>[]
 | e :: es,0=>{e with key:=k,val:=v} :: es
 | e :: es,n+1=>e :: modAt k v es n
theorem ERs.modAt {sg:Ids} {k v:AV} {a b:Value} (hk:VR sg k a) (hv:VR sg v b):∀{es:List ni} {ces:List MapEntry} {n:Nat},ERs sg es ces->ERs sg (RX.modAt k v es n) (ces.modify n λe=>{e with key:=a,val:=b})
 | [],_,_,h=>by obtain rfl:_=[]:=h;simp[RX.modAt,ERs]
 | e :: es,_,0,h=>by
  obtain⟨u,us,rfl,h1,h2⟩:=h;exact⟨{u with key:=a,val:=b},us,Yy,⟨hk,hv,h1.2.2⟩,h2⟩
 | e :: es,_,n+1,h=>by
  obtain⟨u,us,rfl,h1,h2⟩:=h;exact⟨u,us.modify n λe=>{e with key:=a,val:=b},Yy,h1,ERs.modAt hk hv h2⟩
theorem ERs.filter {sg:Ids} (p:Nat->Bool):∀{es:List ni} {ces:List MapEntry},ERs sg es ces->ERs sg (es.filter λe=>p e.born) (ces.filter λe=>p e.born)
 | [],_,h=>by obtain rfl:_=[]:=h;rfl
 | e :: es,_,h=>by
  obtain⟨u,us,rfl,h1,h2⟩:=h;simp only[List.filter_cons,h1.2.2];split
  ·exact⟨u,_,rfl,h1,ERs.filter p h2⟩
  ·exact ERs.filter p h2
theorem ERs.all {sg:Ids} (p:Nat->Bool):∀{es:List ni} {ces:List MapEntry},ERs sg es ces->(ces.all λe=>p e.born)=(es.all λe=>p e.born)
 | [],_,h=>by obtain rfl:_=[]:=h;rfl
 | e :: es,_,h=>by
  obtain⟨u,us,rfl,h1,h2⟩:=h;simp only[List.all_cons,h1.2.2,ERs.all p h2]
theorem ERs.find {sg:Ids} (p:Nat->Bool):∀{es:List ni} {ces:List MapEntry} {e:ni},ERs sg es ces->es.find? (λe=>p e.born)=some e->∃m,ces.find? (λe=>p e.born)=some m/\ER sg e m
 | [],_,_,h,k=>by cases k
 | e :: es,_,_,h,k=>by
  obtain⟨u,us,rfl,h1,h2⟩:=h;simp only[List.find?_cons,h1.2.2]at k ⊢;split at k
  ·obtain rfl:=Xa k;exact⟨u,rfl,h1⟩
  ·exact ERs.find p h2 k
section
variable {P:Program} {E:Env} {X:Nat->Prop} {sg:Ids} {w w':World} {s s' s1:St}
theorem qu {d:TypeDesc} {t:TypeId} {k:AV} {u:Value} (hd:P.underlying t=some d) (hk:Gf d k=true) (hu:VR sg k u) (b:Bool) (n:Nat) (w:World):(Instr.checkKey b (n+1) t u).run P w= .ok () w:=by
 unfold Gf at hk;split at hk
 ·obtain rfl:u=_:=hu;simp[Instr.checkKey,run_underlying hd]
 ·obtain rfl:u=_:=hu;simp[Instr.checkKey,run_underlying hd]
 ·cases hk
theorem oe {d:TypeDesc} {t:TypeId} {u:Value} {ces:List MapEntry} {r:Option (Nat×Value)} (hd:P.underlying t=some d) (h:Instr.findNow d u ces 0=some r) (w:World):(Instr.findKey t u ces).run P w= .ok r w:=by
 simp[Instr.findKey,run_underlying hd,h]
theorem da {p:Nat} {o:Obj} (h:w.heap[p]?=some o) (ho:∀c e f,o≠.cells c e f):(getObj p).run P w= .ok o w:=by
 cases o <;> first | (exact absurd rfl (ho _ _ _)) | simp[getObj,Sem.run,h]
theorem se {p:Nat} {o o':Obj} (h:w.heap[p]?=some o) (ho:∀c e f,o≠.cells c e f):(setObj p o').run P w= .ok () {w with heap:=w.heap.setIfInBounds p o'}:=by
 cases o <;> first | (exact absurd rfl (ho _ _ _)) | simp[setObj,Sem.run,h]
def qh (s:St):AV×St:=(.map s.fresh,s.new (.map [] 0))
theorem Kn {t:TypeId} {v:AV} (h:some (qh s)=some (v,s')) (A:Ask X sg w s s'):Got P X sg w s (Instr.makeMap t none) v s':=by
 obtain⟨rfl,rfl⟩:_=v/\_=s':=Prod.mk.inj (Xa h);have hn:sg s.fresh=none:=A.new s.fresh (Xc _) (Nat.lt_succ_self _);refine⟨.map (some w.heap.size),sg.with s.fresh w.heap.size 0,{w with heap:=w.heap.push (.map #[] 0)},by simp[Instr.makeMap],⟨_,Ids.with_self ..,rfl⟩,dx.alloc (n:=0) (o:= .map #[] 0) A.holds A.lt hn ⟨[],rfl,rfl⟩ trivial rfl rfl rfl rfl⟩
theorem ua {b p:Nat} {k:Blk} {m:List ni×Nat} (A:Ask X sg w s s') (hk:s.heap.get b=some k) (hm:qw k=some m) (hr:s'.rd.testBit b=true\/s'.wr.testBit b=true) (hp:sg b=some p):X b/\∃ces,w.heap[p]?=some (.map ⟨ces⟩ m.2)/\ERs sg m.1 ces:=by
 obtain⟨hX,q,o,e1,e2,e3,_⟩:=A.at hk hr;rw[hp]at e1;obtain rfl:=Xa e1;rw[Mh hm]at e3;obtain⟨ces,rfl,h⟩:=e3;exact⟨hX,ces,e2,h⟩
def Ib (E:Env) (t:TypeId) (x k:AV) (ok:Bool) (s:St):Option (AV×St):=
 (E.und t).bind λd=>(Rb d).bind λke=>(E.und ke.1).bind λkd=>(grd (Gf kd k)).bind λ_=>(Gw x).bind λb=>(s.heap.get b).bind λc=>(qw c).bind λm=>(Rp k m.1 0).bind λr=>match r with
  | some iv=>some (match ok with | true=> .tup [iv.2,.bool true] | false=>iv.2,s.saw b)
  | none=>(E.info ke.2).bind λi=>i.zero.bind λz=>some (match ok with | true=> .tup [ye z,.bool false] | false=>ye z,s.saw b)
theorem Oa (hE:E.Ok P) {t:TypeId} {x k v:AV} {ok:Bool} {u y:Value} (h:Ib E t x k ok s=some (v,s')) (hx:VR sg x u) (hk:VR sg k y) (A:Ask X sg w s s'):Got P X sg w s (Instr.lookup t u y ok) v s':=by
 obtain⟨d,hd,h⟩:=bnd h;obtain⟨ke,hke,h⟩:=bnd h;obtain⟨kd,hkd,h⟩:=bnd h;obtain⟨_,hko,h⟩:=bnd h;obtain⟨b,hb,h⟩:=bnd h;obtain⟨c,hc,h⟩:=bnd h;obtain⟨m,hm,h⟩:=bnd h;obtain⟨r,hr,h⟩:=bnd h;have hko:=ag hko;have hd':=hE.und _ _ hd;rw[ub hke]at hd';have hkd':=hE.und _ _ hkd;rw[un hb]at hx;obtain⟨p,hp,rfl⟩:=hx;have hs':s'=s.saw b:=by
  cases r with
  | some iv=>exact(Prod.mk.inj (Xa h)).2.symm
  | none=>
   obtain⟨i,_,h⟩:=bnd h;obtain⟨z,_,h⟩:=bnd h;exact(Prod.mk.inj (Xa h)).2.symm
 subst hs';obtain⟨_,ces,e2,e3⟩:=ua A hc hm (.inl (ey s b)) hp;have hgo:(getObj p).run P w= .ok (.map ⟨ces⟩ m.2) w:=da e2 (λ_ _ _ e=>by cases e);have hck:∀b,(Instr.checkKey b 10000 ke.1 y).run P w= .ok () w:=λb=>qu (P:=P) hkd' hko hk b 9999 w;have hg:=Ec hko hk hr e3;cases r with
 | some iv=>
  obtain⟨rfl,_⟩:=Prod.mk.inj (Xa h);obtain⟨z,h1,h2,_⟩:=hg;have hf:=oe (P:=P) hkd' h1 w;cases ok with
  | true=>
   refine⟨.tuple #[z,.bool true],sg,w,?_,⟨_,⟨_,_,rfl,h2,⟨_,_,rfl,rfl,rfl⟩⟩,rfl⟩,dx.saw _ A.holds⟩;simp[Instr.lookup,run_underlying hd',hgo,hck,hf]
  | false=>
   refine⟨z,sg,w,?_,h2,dx.saw _ A.holds⟩;simp[Instr.lookup,run_underlying hd',hgo,hck,hf]
 | none=>
  obtain⟨i,hi,h⟩:=bnd h;obtain⟨z,hz,h⟩:=bnd h;obtain⟨rfl,_⟩:=Prod.mk.inj (Xa h);have hf:=oe (P:=P) hkd' hg w;have hzv:=tq (hE.info _ _ hi) hz w;cases ok with
  | true=>
   refine⟨.tuple #[z,.bool false],sg,w,?_,⟨_,⟨_,_,rfl,gt sg z,⟨_,_,rfl,rfl,rfl⟩⟩,rfl⟩,dx.saw _ A.holds⟩;simp[Instr.lookup,run_underlying hd',hgo,hck,hf,hzv]
  | false=>
   refine⟨z,sg,w,?_,gt sg z,dx.saw _ A.holds⟩;simp[Instr.lookup,run_underlying hd',hgo,hck,hf,hzv]
def Bi (E:Env) (t:TypeId) (x k v:AV) (s:St):Option St:=
 (E.und t).bind λd=>(Rb d).bind λke=>(E.und ke.1).bind λkd=>(grd (Gf kd k)).bind λ_=>(Gw x).bind λb=>(s.heap.get b).bind λc=>(qw c).bind λm=>(Rp k m.1 0).bind λr=>match r with
  | some iv=>some (s.put b (.map (modAt k v m.1 iv.1) m.2))
  | none=>some (s.put b (.map (m.1 ++ [⟨k,v,m.2⟩]) (m.2+1)))
theorem Ca (hE:E.Ok P) {t:TypeId} {x k v:AV} {u y z:Value} (h:Bi E t x k v s=some s') (hx:VR sg x u) (hk:VR sg k y) (hv:VR sg v z) (A:Ask X sg w s s'):Did P X sg w s (Instr.mapUpdate t u y z) s':=by
 obtain⟨d,hd,h⟩:=bnd h;obtain⟨ke,hke,h⟩:=bnd h;obtain⟨kd,hkd,h⟩:=bnd h;obtain⟨_,hko,h⟩:=bnd h;obtain⟨b,hb,h⟩:=bnd h;obtain⟨c,hc,h⟩:=bnd h;obtain⟨m,hm,h⟩:=bnd h;obtain⟨r,hr,h⟩:=bnd h;have hko:=ag hko;have hd':=hE.und _ _ hd;rw[ub hke]at hd';have hkd':=hE.und _ _ hkd;rw[un hb]at hx;obtain⟨p,hp,rfl⟩:=hx;have hwr:s'.wr.testBit b=true:=by
  cases r <;> (obtain rfl:=Xa h;exact vl ..)
 obtain⟨hX,ces,e2,e3⟩:=ua A hc hm (.inr hwr) hp;have hgo:(getObj p).run P w= .ok (.map ⟨ces⟩ m.2) w:=da e2 (λ_ _ _ e=>by cases e);have hck:(Instr.checkKey false 10000 ke.1 y).run P w= .ok () w:=qu (P:=P) hkd' hko hk false 9999 w;have hg:=Ec hko hk hr e3;have hset:∀o',(setObj p o').run P w= .ok () {w with heap:=w.heap.setIfInBounds p o'}:=λo'=>se e2 (λ_ _ _ e=>by cases e);cases r with
 | some iv=>
  obtain rfl:=Xa h;obtain⟨q,h1,h2,_,me,h4,h5⟩:=hg;have hf:=oe (P:=P) hkd' h1 w;rw[Nat.sub_zero]at h4;have h4':(⟨ces⟩:Array MapEntry)[iv.1]?=some me:=by simpa using h4
  refine⟨sg,{w with heap:=w.heap.setIfInBounds p (.map ((⟨ces⟩:Array MapEntry).modify iv.1 λe=>{e with key:=y,val:=z}) m.2)},?_,dx.put A.holds hX hp (k:= .map (modAt k v m.1 iv.1) m.2) (o:= .map ((⟨ces⟩:Array MapEntry).modify iv.1 λe=>{e with key:=y,val:=z}) m.2) ⟨ces.modify iv.1 λe=>{e with key:=y,val:=z},Yy,ERs.modAt hk hv e3⟩ trivial rfl rfl rfl rfl⟩;simp only[Instr.mapUpdate,Sem.run_bind,run_underlying hd',Result.andThen_ok,hgo,hck,hf,h4',Option.map_some,Option.getD_some,Instr.keyThatStays,h5,if_true,Sem.run_pure,hset]
 | none=>
  obtain rfl:=Xa h;have hf:=oe (P:=P) hkd' hg w;have hbr:BR sg (.map (m.1 ++ [⟨k,v,m.2⟩]) (m.2+1)) (.map ((⟨ces⟩:Array MapEntry).push {key:=y,val:=z,born:=m.2}) (m.2+1)):=⟨ces ++ [{key:=y,val:=z,born:=m.2}],Yy,e3.append ⟨{key:=y,val:=z,born:=m.2},[],rfl,⟨hk,hv,rfl⟩,rfl⟩⟩;refine⟨sg,{w with heap:=w.heap.setIfInBounds p (.map ((⟨ces⟩:Array MapEntry).push {key:=y,val:=z,born:=m.2}) (m.2+1))},?_,dx.put A.holds hX hp hbr trivial rfl rfl rfl rfl⟩;simp only[Instr.mapUpdate,Sem.run_bind,run_underlying hd',Result.andThen_ok,hgo,hck,hf,hset]
def Du:AV->Option Unit
 | .val (.map none)=>some ()
 | _=>none
theorem Fl {a:AV} {u:Unit} (h:Du a=some u):a= .val (.map none):=by
 unfold Du at h;split at h
 ·rfl
 ·cases h
def Br:Blk->Bool
 | .iter0=>true
 | _=>false
theorem Ii {k:Blk} (h:Br k=true):k= .iter0:=by cases k <;> first | rfl | (cases h;done)
def Nr (E:Env) (t:TypeId) (x:AV) (s:St):Option (AV×St):=
 (E.und t).bind λd=>(Rb d).bind λ_=>match Gw x with
  | some b=>(s.heap.get b).bind λc=>(qw c).bind λm=>some (.ptr s.fresh 0,(s.saw b).new (.iter b m.2 [] m.2))
  | none=>(Du x).bind λ_=>some (.ptr s.fresh 0,s.new .iter0)
theorem zdv (hE:E.Ok P) {t:TypeId} {x v:AV} {u:Value} (h:Nr E t x s=some (v,s')) (hx:VR sg x u) (A:Ask X sg w s s'):Got P X sg w s (Instr.range t u) v s':=by
 replace h:=bnd h;obtain⟨d,hd,h⟩:=h;replace h:=bnd h;obtain⟨ke,hke,h⟩:=h;have hd':=hE.und _ _ hd;rw[ub hke]at hd';cases hb:Gw x with
 | some b=>
  rw[hb]at h;replace h:=bnd h;obtain⟨c,hc,h⟩:=h;replace h:=bnd h;obtain⟨m,hm,h⟩:=h;obtain⟨rfl,rfl⟩:_=v/\_=s':=Prod.mk.inj (Xa h);rw[un hb]at hx;obtain⟨p,hp,rfl⟩:=hx;obtain⟨hX,ces,e2,e3⟩:=ua A hc hm (.inl (ey s b)) hp;have hgo:(getObj p).run P w= .ok (.map ⟨ces⟩ m.2) w:=da e2 (λ_ _ _ e=>by cases e);have A1:=A.like (s1:=s.saw b) rfl rfl;have hn:sg s.fresh=none:=A.new s.fresh (Xc _) (Nat.lt_succ_self _);have hbr:BR (sg.with s.fresh w.heap.size 0) (.iter b m.2 [] m.2) (.mapIter (some p) m.2 #[] m.2):=⟨p,(Ids.with_ext w.heap.size 0 hn b p hp).1,rfl⟩;refine⟨.pointer (some ⟨w.heap.size,0,none⟩),sg.with s.fresh w.heap.size 0,{w with heap:=w.heap.push (.mapIter (some p) m.2 #[] m.2)},?_,⟨_,Ids.with_self ..,rfl⟩,(dx.alloc (w':={w with heap:=w.heap.push (.mapIter (some p) m.2 #[] m.2)}) (n:=0) (o:= .mapIter (some p) m.2 #[] m.2) A1.holds A1.lt hn hbr trivial rfl rfl rfl rfl).like rfl⟩;simp[Instr.range,run_underlying hd',hgo]
 | none=>
  rw[hb]at h;replace h:=bnd h;obtain⟨_,hn0,h⟩:=h;obtain⟨rfl,rfl⟩:_=v/\_=s':=Prod.mk.inj (Xa h);rw[Fl hn0]at hx;obtain rfl:u=_:=hx;have hn:sg s.fresh=none:=A.new s.fresh (Xc _) (Nat.lt_succ_self _);refine⟨.pointer (some ⟨w.heap.size,0,none⟩),sg.with s.fresh w.heap.size 0,{w with heap:=w.heap.push (.mapIter none 0 #[] 0)},?_,⟨_,Ids.with_self ..,rfl⟩,dx.alloc (w':={w with heap:=w.heap.push (.mapIter none 0 #[] 0)}) (k:= .iter0) (n:=0) (o:= .mapIter none 0 #[] 0) A.holds A.lt hn rfl trivial rfl rfl rfl rfl⟩;simp[Instr.range,run_underlying hd']
def zaQ (x:AV) (s:St):Option (AV×St):=
 (lu x).bind λq=>(grd (Nat.beq q.2 0)).bind λ_=>(s.heap.get q.1).bind λk=>(Jh k).bind λit=>(s.heap.get it.m).bind λc=>(qw c).bind λm=>
  (grd (!(!it.seen.isEmpty && !m.1.isEmpty && m.1.all λe=>decide (e.born≥it.stepped)))).bind λ_=>
  match (m.1.filter λe=> !it.seen.contains e.born).filter (λe=>decide (e.born≥it.since)),(m.1.filter λe=> !it.seen.contains e.born).filter (λe=>decide (e.born < it.since))with
  | [],[]=>some (.tup [.bool false],(s.saw q.1).saw it.m)
  | [],[e]=>some (.tup [.bool true,e.key,e.val],((s.saw q.1).saw it.m).put q.1 (.iter it.m it.since (it.seen ++ [e.born]) m.2))
  | _,_=>none
theorem Ie {b p:Nat} {k:Blk} {it:It} (A:Ask X sg w s s') (hk:s.heap.get b=some k) (hm:Jh k=some it) (hr:s'.rd.testBit b=true\/s'.wr.testBit b=true) (hp:sg b=some p):X b/\∃pm,sg it.m=some pm/\w.heap[p]?=some (.mapIter (some pm) it.since ⟨it.seen⟩ it.stepped):=by
 obtain⟨hX,q,o,e1,e2,e3,_⟩:=A.at hk hr;rw[hp]at e1;obtain rfl:=Xa e1;rw[Mj hm]at e3;obtain⟨pm,h1,rfl⟩:=e3;exact⟨hX,pm,h1,e2⟩
theorem ERs.nil_of {sg:Ids} {ces:List MapEntry} (h:ERs sg [] ces):ces=[]:=h
theorem ERs.one_of {sg:Ids} {e:ni} {ces:List MapEntry} (h:ERs sg [e] ces):∃m,ces=[m]/\ER sg e m:=by
 obtain⟨m,ms,rfl,h1,h2⟩:=h;obtain rfl:ms=[]:=h2;exact⟨m,rfl,h1⟩
theorem zaP {x v:AV} {u:Value} {ty:TypeId} (h:zaQ x s=some (v,s')) (hx:VR sg x u) (A:Ask X sg w s s'):Got P X sg w s (Instr.next u false ty) v s':=by
 obtain⟨q,hq,h⟩:=bnd h;obtain⟨_,h0,h⟩:=bnd h;obtain⟨k,hk,h⟩:=bnd h;obtain⟨it,hit,h⟩:=bnd h;obtain⟨c,hc,h⟩:=bnd h;obtain⟨m,hm,h⟩:=bnd h;obtain⟨_,hst,h⟩:=bnd h;have h0:=Nat.eq_of_beq_eq_true (ag h0);rw[dk hq,h0]at hx;obtain⟨p,hp,rfl⟩:=hx;have hst:=ag hst;split at h
 ·rename_i hnew hold;obtain⟨rfl,rfl⟩:_=v/\_=s':=Prod.mk.inj (Xa h);obtain⟨_,pm,hpm,e1⟩:=Ie A hk hit (.inl (by show((s.rd ||| 2 ^ q.1) ||| 2 ^ it.m).testBit q.1=true;exact zi ((cd _ _ _).2 (.inr rfl)))) hp;obtain⟨_,ces,e2,e3⟩:=ua A hc hm (.inl (ey (s.saw q.1) it.m)) hpm;have g1:(getObj p).run P w= .ok (.mapIter (some pm) it.since ⟨it.seen⟩ it.stepped) w:=da e1 (λ_ _ _ e=>by cases e);have g2:(getObj pm).run P w= .ok (.map ⟨ces⟩ m.2) w:=da e2 (λ_ _ _ e=>by cases e);have f1:=((e3.filter λb=> !it.seen.contains b).filter λb=>decide (b≥it.since));have f2:=((e3.filter λb=> !it.seen.contains b).filter λb=>decide (b < it.since));rw[hnew]at f1;rw[hold]at f2;have f1:=ERs.nil_of f1;have f2:=ERs.nil_of f2;have f3:=e3.all λb=>decide (b≥it.stepped);have f4:=e3.isEmpty;rw[<-f3,<-f4]at hst;refine⟨.tuple #[.bool false],sg,w,?_,⟨_,⟨_,_,rfl,rfl,rfl⟩,rfl⟩,dx.same rfl rfl A.holds rfl rfl rfl rfl⟩;have hst':=hst;rw[Bool.not_eq_true']at hst';simp only[Instr.next,Sem.run_bind,g1,g2,Result.andThen_ok,List.isEmpty_toArray,List.all_toArray,List.contains_toArray,hst',Bool.false_eq_true,if_false,List.filter_toArray,f1,f2];simp[Question.forced]
 ·rename_i e hnew hold;obtain⟨rfl,rfl⟩:_=v/\_=s':=Prod.mk.inj (Xa h);obtain⟨hX,pm,hpm,e1⟩:=Ie A hk hit (.inr (vl ..)) hp;obtain⟨_,ces,e2,e3⟩:=ua A hc hm (.inl (ey (s.saw q.1) it.m)) hpm;have g1:(getObj p).run P w= .ok (.mapIter (some pm) it.since ⟨it.seen⟩ it.stepped) w:=da e1 (λ_ _ _ e=>by cases e);have g2:(getObj pm).run P w= .ok (.map ⟨ces⟩ m.2) w:=da e2 (λ_ _ _ e=>by cases e);have f1:=((e3.filter λb=> !it.seen.contains b).filter λb=>decide (b≥it.since));have f2:=((e3.filter λb=> !it.seen.contains b).filter λb=>decide (b < it.since));rw[hnew]at f1;rw[hold]at f2;have f1:=ERs.nil_of f1;obtain⟨me,f2,hme⟩:=ERs.one_of f2;have f3:=e3.all λb=>decide (b≥it.stepped);have f4:=e3.isEmpty;rw[<-f3,<-f4]at hst;have hst':=hst;rw[Bool.not_eq_true']at hst';have g3:∀o',(setObj p o').run P w= .ok () {w with heap:=w.heap.setIfInBounds p o'}:=λo'=>se e1 (λ_ _ _ e=>by cases e);have hbr:BR sg (.iter it.m it.since (it.seen ++ [e.born]) m.2) (.mapIter (some pm) it.since ((⟨it.seen⟩:Array Nat).push me.born) m.2):=⟨pm,hpm,by rw[hme.2.2];simp⟩;refine⟨.tuple #[.bool true,me.key,me.val],sg,{w with heap:=w.heap.setIfInBounds p (.mapIter (some pm) it.since ((⟨it.seen⟩:Array Nat).push me.born) m.2)},?_,⟨_,⟨_,_,rfl,rfl,⟨_,_,rfl,hme.1,⟨_,_,rfl,hme.2.1,rfl⟩⟩⟩,rfl⟩,(dx.put (w':={w with heap:=w.heap.setIfInBounds p (.mapIter (some pm) it.since ((⟨it.seen⟩:Array Nat).push me.born) m.2)}) (s:=(s.saw q.1).saw it.m) (X:=X) A.holds hX hp hbr trivial rfl rfl rfl rfl).like rfl⟩;simp only[Instr.next,Sem.run_bind,g1,g2,Result.andThen_ok,List.isEmpty_toArray,List.all_toArray,List.contains_toArray,hst',Bool.false_eq_true,if_false,List.filter_toArray,f1,f2];simp[Question.forced,g3]
 ·cases h
def zaS (x:AV) (s:St):Option (AV×St):=
 (lu x).bind λq=>(s.heap.get q.1).bind λk=>match Br k with
  | true=>(grd (Nat.beq q.2 0)).bind λ_=>some (.tup [.bool false],s.saw q.1)
  | false=>zaQ x s
theorem zaR {x v:AV} {u:Value} {ty:TypeId} (h:zaS x s=some (v,s')) (hx:VR sg x u) (A:Ask X sg w s s'):Got P X sg w s (Instr.next u false ty) v s':=by
 replace h:=bnd h;obtain⟨q,hq,h⟩:=h;replace h:=bnd h;obtain⟨k,hk,h⟩:=h;cases hi:Br k with
 | true=>
  rw[hi]at h;replace h:=bnd h;obtain⟨_,h0,h⟩:=h;obtain⟨rfl,rfl⟩:_=v/\_=s':=Prod.mk.inj (Xa h);have h0:=Nat.eq_of_beq_eq_true (ag h0);rw[dk hq,h0]at hx;obtain⟨p,hp,rfl⟩:=hx;obtain⟨_,p',o,e1,e2,e3,_⟩:=A.at hk (.inl (ey s q.1));rw[hp]at e1;obtain rfl:=Xa e1;rw[Ii hi]at e3;obtain rfl:o= .mapIter none 0 #[] 0:=e3;have g1:(getObj p).run P w= .ok (.mapIter none 0 #[] 0) w:=da e2 (λ_ _ _ e=>by cases e);refine⟨.tuple #[.bool false],sg,w,?_,⟨_,⟨_,_,rfl,rfl,rfl⟩,rfl⟩,dx.saw _ A.holds⟩;simp[Instr.next,g1]
 | false=>
  rw[hi]at h;exact zaP h hx A
def Oq (x:AV) (s:St):Option (AV×St):=
 (lu x).bind λq=>(grd (Nat.beq q.2 0)).bind λ_=>(s.heap.get q.1).bind λk=>(Jh k).bind λit=>(s.heap.get it.m).bind λc=>(qw c).bind λm=>(grd (Nat.beq m.2 it.stepped)).bind λ_=>(it.seen.getLast?).bind λa=>(m.1.find? λe=>e.born == a).bind λe=>some (.tup [e.key,e.val],(s.saw q.1).saw it.m)
theorem U9 {x v:AV} {u:Value} (h:Oq x s=some (v,s')) (hx:VR sg x u) (A:Ask X sg w s s'):Got P X sg w s (Instr.entry u) v s':=by
 obtain⟨q,hq,h⟩:=bnd h;obtain⟨_,h0,h⟩:=bnd h;obtain⟨k,hk,h⟩:=bnd h;obtain⟨it,hit,h⟩:=bnd h;obtain⟨c,hc,h⟩:=bnd h;obtain⟨m,hm,h⟩:=bnd h;obtain⟨_,hst,h⟩:=bnd h;obtain⟨a,ha,h⟩:=bnd h;obtain⟨e,he,h⟩:=bnd h;obtain⟨rfl,rfl⟩:_=v/\_=s':=Prod.mk.inj (Xa h);have h0:=Nat.eq_of_beq_eq_true (ag h0);have hst:=Nat.eq_of_beq_eq_true (ag hst);rw[dk hq,h0]at hx;obtain⟨p,hp,rfl⟩:=hx;obtain⟨_,pm,hpm,e1⟩:=Ie A hk hit (.inl (by show((s.rd ||| 2 ^ q.1) ||| 2 ^ it.m).testBit q.1=true;exact zi ((cd _ _ _).2 (.inr rfl)))) hp;obtain⟨_,ces,e2,e3⟩:=ua A hc hm (.inl (ey (s.saw q.1) it.m)) hpm;have g1:(getObj p).run P w= .ok (.mapIter (some pm) it.since ⟨it.seen⟩ it.stepped) w:=da e1 (λ_ _ _ e=>by cases e);have g2:(getObj pm).run P w= .ok (.map ⟨ces⟩ m.2) w:=da e2 (λ_ _ _ e=>by cases e);obtain⟨me,f1,f2⟩:=e3.find (λb=>b == a) he;have ha':(⟨it.seen⟩:Array Nat).back?=some a:=by rw[<-ha];simp[Array.back?,List.getLast?_eq_getElem?]
 have hne:(m.2 !=it.stepped)=false:=by rw[hst];exact bne_self_eq_false _
 refine⟨.tuple #[me.key,me.val],sg,w,?_,⟨_,⟨_,_,rfl,f2.1,⟨_,_,rfl,f2.2.1,rfl⟩⟩,rfl⟩,dx.same rfl rfl A.holds rfl rfl rfl rfl⟩;have f1':(⟨ces⟩:Array MapEntry).find? (λx=>x.born == a)=some me:=by simpa using f1
 simp only[Instr.entry,Sem.run_bind,g1,g2,Result.andThen_ok,ha',hne,Bool.false_eq_true,if_false,f1',Sem.run_pure]
def noCap:Option Nat->Option Unit
 | none=>some ()
 | some _=>none
def sliceU (E:Env) (t:TypeId) (x:AV) (lo hi mx:Option AV):Option AV:=(E.und t).bind λd=>(iw d).bind λe=>(E.info e).bind λ_=>(kt x).bind λq=>(noCap q.cap).bind λ_=>(Qv mx).bind λ_=>(mq lo hi q.len q.len).bind λ_=>some .unk
def sliceB (E:Env) (t:TypeId) (x:AV) (lo hi mx:Option AV):Option AV:=match zaa E t x lo hi mx with
 | some r=>some r
 | none=>sliceU E t x lo hi mx
theorem So (hE:E.Ok P) {t:TypeId} {x v:AV} {u:Value} {lo hi mx:Option AV} {lo' hi' mx':Option Value} (h:sliceB E t x lo hi mx=some v) (hx:VR sg x u) (h1:ur sg lo lo') (h2:ur sg hi hi') (h3:ur sg mx mx') (A:Ask X sg w s s):
  Got P X sg w s (Instr.sliceAt t u lo' hi' mx') v s:=by
 unfold sliceB at h;split at h
 ·rename_i r hr;obtain rfl:=Xa h;exact Sp hE hr hx h1 h2 h3 A
 ·replace h:=bnd h;obtain⟨d,hd,h⟩:=h;replace h:=bnd h;obtain⟨e,he,h⟩:=h;replace h:=bnd h;obtain⟨i,hi0,h⟩:=h;replace h:=bnd h;obtain⟨q,hq,h⟩:=h;replace h:=bnd h;obtain⟨_,hc0,h⟩:=h;replace h:=bnd h;obtain⟨_,hm,h⟩:=h;replace h:=bnd h;obtain⟨⟨l,h'⟩,hb,h⟩:=h;obtain rfl:=Xa h;have hd':=hE.und _ _ hd;rw[dh he]at hd';obtain rfl:=tz hm;obtain rfl:mx'=none:=h3;obtain⟨p,c,hp,hc,hk,hsz,rfl⟩:=dy hq hx;have e1:=lg (P:=P) hb h1 h2 true c hc w;refine Got.pure A (u:= .slice (if c=l then some ⟨p,q.off,none⟩else some ((⟨p,q.off,none⟩:Addr).add (l * i.size))) (h' - l) (c - l)) ?_ rfl;simp only[Instr.sliceAt,Instr.slice,Sem.run_bind,run_underlying hd',Result.andThen_ok,e1,bg (hE.info _ _ hi0),Option.map_some,Sem.run_pure]
end
end
end RX
end
section
namespace RX
noncomputable section
structure js where
 E:Env
 P:Program
 ng:Nat
 fn:FuncId->Option Func
 ext:FuncId->Option (List AV->St->Option (AV×St))
def Hc (P:Program) (f:FuncId) (g:List AV->St->Option (AV×St)):Prop:=
 ∀{X:Nat->Prop} {sg:Ids} {w:World} {s s':St} {args:List AV} {us:List Value} {v:AV},g args s=some (v,s')->VRs sg args us->Ask X sg w s s'->∃u sg' w',(callFunc f ⟨us⟩).run P w= .ok (.value u) w'/\VR sg' v u/\dx X sg w s sg' w' s'
structure js.Ok (M:js):Prop where
 env:M.E.Ok M.P
 fn:∀f F,M.fn f=some F->M.P.funcs[f]?=some F/\(F.name == "runtime.NumGoroutine")=false/\F.body.isNone=false
 ext:∀f g,M.ext f=some g->Hc M.P f g
inductive Out where
 | val (v:AV) (s:St)
 | skip (s:St)
 | call (f:FuncId) (args:List AV) (s:St)
 | yield (b:Nat) (args:List AV) (s:St)
 | defer (f:FuncId) (k:Nat) (s:St)
def Out.st:Out->St
 | .val _ s=>s
 | .skip s=>s
 | .call _ _ s=>s
 | .yield _ _ s=>s
 | .defer _ _ s=>s
def At (P:Program) (X:Nat->Prop) (sg:Ids) (w:World) (s:St):Out->Result Next->Prop
 | .val v s',r=>∃u sg' w',r= .ok (.value u) w'/\VR sg' v u/\dx X sg w s sg' w' s'
 | .skip s',r=>∃sg' w',r= .ok .skip w'/\dx X sg w s sg' w' s'
 | .call f args s',r=>∃us sg' w',r= .ok (.enter f ⟨us⟩) w'/\VRs sg' args us/\dx X sg w s sg' w' s'
 | .yield b args s',r=>s'=s/\∃p us,r=(Instr.yield p ⟨us⟩).run P w/\sg b=some p/\VRs sg args us
 | .defer f k s',r=>s'=s/\∃cap args,r= .ok (.defer {target:= .fn (.func f) cap,args}) w/\(args ++ cap).size=k
def xp (ρ:Operand->Option AV):List Operand->Option (List AV)
 | []=>some []
 | x :: xs=>(ρ x).bind λv=>(xp ρ xs).bind λvs=>some (v :: vs)
def Ni (ρ:Operand->Option AV):Option Operand->Option (Option AV)
 | none=>some none
 | some x=>(ρ x).bind λv=>some (some v)
def kl (x:Option (AV×St)):Option Out:=x.bind λp=>some (.val p.1 p.2)
def C9 (x:Option St):Option Out:=x.bind λp=>some (.skip p)
def io (s:St) (x:Option AV):Option Out:=x.bind λv=>some (.val v s)
def Q9 (M:js) (t:TypeId) (name:String):Option FuncId:=
 (M.E.info t).bind λi=>(i.methods.find? (·.name == name)).bind λm=>match m.path.toList,m.func with
  | [],some (f,pr)=>(M.E.und t).bind λd=>match vq d,pr with
   | some _,true=>some f
   | none,false=>some f
   | _,_=>none
  | _,_=>none
def Gt (M:js) (f:FuncId) (args:List AV) (s:St):Option Out:=match M.ext f with
 | some g=>kl (g args s)
 | none=>(M.fn f).bind λ_=>some (.call f args s)
def Pm:AV->Option (FuncId×List AV×List AV)
 | .fn (.func f) a c=>some (f,a,c)
 | _=>none
def Rz:AV->Option Nat
 | .yield b=>some b
 | _=>none
def Jl:AV->Option Bool
 | .bool b=>some b
 | _=>none
def asTup:AV->Option (List AV)
 | .tup l=>some l
 | _=>none
def Tl (f:AV->Option Out):List AV->Option Out
 | [x]=>f x
 | _=>none
def Zl (f:AV->AV->Option Out):List AV->Option Out
 | [x,y]=>f x y
 | _=>none
def zbT:Builtin->js->Array TypeId->List AV->St->Option Out
 | .append=>λM ts args s=>Zl (λx y=>kl (Jm M.E ts x y s)) args
 | .copy=>λM ts args s=>Zl (λx y=>kl (zbH M.E ts x y s)) args
 | .len=>λM ts args s=>Tl (λx=>io s (lenA M.E ts x)) args
 | .cap=>λM ts args s=>Tl (λx=>io s (capA M.E ts x)) args
 | .clear=>λM ts args s=>Tl (λx=>kl (O4 M.E ts x s)) args
 | .max=>λM _ l s=>(iz l).bind λu=>(ev M.P (Builtin.max_ #[] 0 ⟨u⟩)).bind λv=>some (.val (ye v) s)
 | .min=>λM _ l s=>(iz l).bind λu=>(ev M.P (Builtin.min_ #[] 0 ⟨u⟩)).bind λv=>some (.val (ye v) s)
 | .unsafeSliceData=>λ_ _ args s=>Tl (λx=>io s (Ab x)) args
 | .unsafeString=>λM ts args s=>Zl (λx n=>(grd (Nat.beq ts.size 2)).bind λ_=>kl (th M.E ts x n s)) args
 | _=>λ_ _ _ _=>none
def zbU (M:js) (b:Builtin) (ts:Array TypeId) (args:List AV) (s:St):Option Out:=zbT b M ts args s
theorem jb {f:AV->Option Out} {l:List AV} {o:Out} (h:Tl f l=some o):∃x,l=[x]/\f x=some o:=by
 unfold Tl at h;split at h
 ·exact⟨_,rfl,h⟩
 ·cases h
theorem zd3 {f:AV->AV->Option Out} {l:List AV} {o:Out} (h:Zl f l=some o):∃x y,l=[x,y]/\f x y=some o:=by
 unfold Zl at h;split at h
 ·exact⟨_,_,rfl,h⟩
 ·cases h
def Jd:Callee->js->(Operand->Option AV)->Array TypeId->List AV->St->Option Out
 | .builtin b=>λM _ ts args s=>zbU M b ts args s
 | .value f=>λM ρ _ args s=>(ρ f).bind λv=>match Pm v with
  | some f=>Gt M f.1 (f.2.1 ++ args ++ f.2.2) s
  | none=>(Rz v).bind λb=>some (.yield b args s)
 | .invoke r name=>λM ρ _ args s=>(ρ r).bind λv=>(Ji v).bind λy=>(Q9 M y.1 name).bind λf=>Gt M f (y.2 :: args) s
def Gu (M:js) (ρ:Operand->Option AV) (c:Call) (s:St):Option Out:=(xp ρ c.args.toList).bind λargs=>Jd c.callee M ρ c.argTypes args s
def ez:Op->js->(Operand->Option AV)->St->Option Out
 | .move x=>λ_M ρ s=>io s (ρ x)
 | .assign x=>λ_M ρ s=>io s (ρ x)
 | .pick c a b=>λ_M ρ s=>(ρ c).bind λv=>(Jl v).bind λt=>match t with
  | true=>io s (ρ a)
  | false=>io s (ρ b)
 | .alloc t=>λM _ρ s=>kl (Pr M.E t s)
 | .box t x=>λ_M ρ s=>(ρ x).bind λv=>kl (boxA t v s)
 | .build t ps=>λM ρ s=>io s (Pd M.E ρ t ps.toList)
 | .buildSlice t n ps=>λM ρ s=>kl (mg M.E ρ t n ps.toList s)
 | .load t a=>λM ρ s=>(ρ a).bind λv=>kl (Kt M.E t v s)
 | .store t a x=>λM ρ s=>(ρ a).bind λv=>(ρ x).bind λu=>C9 (Nc M.E t v u s)
 | .nilCheck x=>λ_M ρ s=>(ρ x).bind λv=>(lu v).bind λ_=>some (.val v s)
 | .binOp op t x y _=>λM ρ s=>(ρ x).bind λa=>(ρ y).bind λb=>io s (binA M.E M.P op t x y a b)
 | .unOp op _ x=>λM ρ s=>(ρ x).bind λa=>(ql a).bind λu=>(ev M.P (Op.unary op u)).bind λv=>some (.val (ye v) s)
 | .convert a b x=>λM ρ s=>(ρ x).bind λv=>kl (zbJ M.E M.P a b v s)
 | .makeInterface t x=>λM ρ s=>(ρ x).bind λv=>(M.E.und t).bind λd=>match rk d with
  | none=>some (.val (.iface t v) s)
  | some _=>none
 | .makeFunc f a b=>λ_M ρ s=>(xp ρ a.toList).bind λa=>(xp ρ b.toList).bind λb=>some (.val (.fn f a b) s)
 | .makeMap _ none=>λ_M _ρ s=>some (.val (qh s).1 (qh s).2)
 | .makeSlice t a b=>λM ρ s=>(ρ a).bind λu=>(ρ b).bind λv=>kl (uc M.E t u v s)
 | .slice t x lo hi mx=>λM ρ s=>(ρ x).bind λv=>(Ni ρ lo).bind λlo=>(Ni ρ hi).bind λhi=>(Ni ρ mx).bind λmx=>io s (sliceB M.E t v lo hi mx)
 | .sliceToArrayPointer t x=>λM ρ s=>(ρ x).bind λv=>(M.E.und t).bind λd=>(tc d).bind λq=>(kt v).bind λy=>(grd (Nat.ble q.1 y.len)).bind λ_=>some (.val (.ptr y.b y.off) s)
 | .fieldAddr t x f=>λM ρ s=>(ρ x).bind λv=>io s (Lm M.E t v f)
 | .indexAddr t x i=>λM ρ s=>(ρ x).bind λv=>(ρ i).bind λk=>io s (Ld M.E t v k)
 | .index t x i=>λM ρ s=>(ρ x).bind λv=>(ρ i).bind λk=>io s (zbl M.E t v k)
 | .lookup t x k ok=>λM ρ s=>(ρ x).bind λv=>(ρ k).bind λk=>kl (Ib M.E t v k ok s)
 | .mapUpdate t m k x=>λM ρ s=>(ρ m).bind λm=>(ρ k).bind λk=>(ρ x).bind λx=>C9 (Bi M.E t m k x s)
 | .insert t m k x=>λM ρ s=>(ρ m).bind λm=>(ρ k).bind λk=>(ρ x).bind λx=>C9 (Bi M.E t m k x s)
 | .range t x=>λM ρ s=>(ρ x).bind λv=>kl (Nr M.E t v s)
 | .next i false=>λ_M ρ s=>(ρ i).bind λv=>kl (zaS v s)
 | .entry i=>λ_M ρ s=>(ρ i).bind λv=>kl (Oq v s)
 | .typeAssert x _ t ok=>λM ρ s=>(ρ x).bind λv=>io s (Ry M.E v t ok)
 | .extract x i=>λ_M ρ s=>(ρ x).bind λv=>(asTup v).bind λl=>(l[i]?).bind λv=>some (.val v s)
 | .call c=>λM ρ s=>Gu M ρ c s
 | .defer c=>λ_M ρ s=>(xp ρ c.args.toList).bind λargs=>match c.callee with
  | .value f=>(ρ f).bind λv=>(Pm v).bind λf=>some (.defer f.1 (f.2.1.length+args.length+f.2.2.length) s)
  | _=>none
 | _=>λ_ _ _=>none
def opA (M:js) (ρ:Operand->Option AV) (o:Op) (s:St):Option Out:=ez o M ρ s
section
variable {M:js} {X:Nat->Prop} {sg:Ids} {w:World} {s s' s1:St} {ρ:Operand->Option AV} {r:Operand->Value} {out:Out}
theorem vd (hr:Mr sg ρ r):∀{l:List Operand} {vs:List AV},xp ρ l=some vs->VRs sg vs (l.map r)
 | [],vs,h=>by obtain rfl:=Xa (show some []=some vs from h);rfl
 | x :: xs,vs,h=>by
  obtain⟨v,hv,h⟩:=bnd (show(ρ x).bind _=some vs from h);obtain⟨l,hl,h⟩:=bnd h;obtain rfl:=Xa h;exact⟨_,_,rfl,hr _ _ hv,vd hr hl⟩
theorem Hj (hr:Mr sg ρ r) {o:Option Operand} {v:Option AV} (h:Ni ρ o=some v):ur sg v (o.map r):=by
 cases o with
 | none=>obtain rfl:=Xa (show some none=some v from h);rfl
 | some x=>
  obtain⟨u,hu,h⟩:=bnd (show(ρ x).bind _=some v from h);obtain rfl:=Xa h;exact⟨_,rfl,hr _ _ hu⟩
theorem zk {v:AV} {x:FuncId×List AV×List AV} (h:Pm v=some x):v= .fn (.func x.1) x.2.1 x.2.2:=by
 unfold Pm at h;split at h
 ·obtain rfl:=Xa h;rfl
 ·cases h
theorem Jg {v:AV} {b:Nat} (h:Rz v=some b):v= .yield b:=by
 cases v <;> first | (cases h;done) | (obtain rfl:=Xa h;rfl)
theorem wu {v:AV} {b:Bool} (h:Jl v=some b):v= .bool b:=by
 cases v <;> first | (cases h;done) | (obtain rfl:=Xa h;rfl)
theorem Pk {v:AV} {b:List AV} (h:asTup v=some b):v= .tup b:=by
 cases v <;> first | (cases h;done) | (obtain rfl:=Xa h;rfl)
theorem gv {P:Program} {m:Sem Value} {q:Option (AV×St)} (h:kl q=some out) (A:Ask X sg w s out.st) (G:∀v s',q=some (v,s')->Ask X sg w s s'->Got P X sg w s m v s'):
  At P X sg w s out ((do pure (.value (<-m)):Sem Next).run P w):=by
 obtain⟨⟨v,s'⟩,hq,h⟩:=bnd h;obtain rfl:=Xa h;obtain⟨u,sg',w',e1,e2,e3⟩:=G v s' hq A;exact⟨u,sg',w',by simp[e1],e2,e3⟩
theorem iu {P:Program} {m:Sem Value} {q:Option AV} (h:io s q=some out) (A:Ask X sg w s out.st) (G:∀v,q=some v->Ask X sg w s s->Got P X sg w s m v s):
  At P X sg w s out ((do pure (.value (<-m)):Sem Next).run P w):=by
 obtain⟨v,hq,h⟩:=bnd h;obtain rfl:=Xa h;obtain⟨u,sg',w',e1,e2,e3⟩:=G v hq A;exact⟨u,sg',w',by simp[e1],e2,e3⟩
theorem D4 {P:Program} {m:Sem Unit} {q:Option St} (h:C9 q=some out) (A:Ask X sg w s out.st) (G:∀s',q=some s'->Ask X sg w s s'->Did P X sg w s m s'):
  At P X sg w s out ((do m;pure .skip:Sem Next).run P w):=by
 obtain⟨s',hq,h⟩:=bnd h;obtain rfl:=Xa h;obtain⟨sg',w',e1,e3⟩:=G s' hq A;exact⟨sg',w',by simp[e1],e3⟩
theorem zd1 {P:Program} {v:AV} {u:Value} (h:some (Out.val v s)=some out) (A:Ask X sg w s out.st) (hv:VR sg v u):At P X sg w s out ((pure (.value u):Sem Next).run P w):=by
 obtain rfl:=Xa h;exact⟨u,sg,w,rfl,hv,dx.refl A.holds⟩
theorem L9 (hM:M.Ok) {f:FuncId} {args:List AV} {us:List Value} (h:Gt M f args s=some out) (ha:VRs sg args us) (A:Ask X sg w s out.st):At M.P X sg w s out ((callFunc f ⟨us⟩).run M.P w):=by
 unfold Gt at h;cases hg:M.ext f with
 | some g=>
  rw[hg]at h;obtain⟨⟨v,s'⟩,hq,h⟩:=bnd h;obtain rfl:=Xa h;obtain⟨u,sg',w',e1,e2,e3⟩:=hM.ext f g hg hq ha A;exact⟨u,sg',w',e1,e2,e3⟩
 | none=>
  rw[hg]at h;obtain⟨F,hF,h⟩:=bnd h;obtain rfl:=Xa h;obtain⟨h1,h2,h3⟩:=hM.fn f F hF;refine⟨us,sg,w,?_,ha,dx.refl A.holds⟩;simp only[callFunc,Sem.run_bind,run_program,Result.andThen_ok,h1,h2,h3,Bool.false_eq_true,if_false,Sem.run_pure]
theorem Tw (hM:M.Ok) {t:TypeId} {name:String} {f:FuncId} (h:Q9 M t name=some f) (v:Value) (n:Nat):(method (n+1) t v name).run M.P w= .ok (f,v) w:=by
 obtain⟨i,hi,h⟩:=bnd h;obtain⟨m,hm,h⟩:=bnd h;split at h
 ·rename_i f' pr hp hf;obtain⟨d,hd,h⟩:=bnd h;have hd':=hM.env.und _ _ hd;have hti:=eu (hM.env.info _ _ hi) w;cases he:vq d with
  | some e=>
   rw[he]at h;cases pr with
   | true=>
    obtain rfl:=Xa h;rw[lk he]at hd';simp[method,hti,hm,hp,follow,hf,receiverAt,run_underlying hd',Place.get]
   | false=>cases h
  | none=>
   rw[he]at h;cases pr with
   | true=>cases h
   | false=>
    obtain rfl:=Xa h;cases d <;> first | (cases he;done) | simp[method,hti,hm,hp,follow,hf,receiverAt,run_underlying hd',Place.get]
 ·cases h
theorem zbS (hM:M.Ok) {c:Call} {ty:TypeId} (h:Gu M ρ c s=some out) (hr:Mr sg ρ r) (A:Ask X sg w s out.st):At M.P X sg w s out ((do let d<-resolve r c ty;invoke d.target d.args:Sem Next).run M.P w):=by
 obtain⟨args,hargs,h⟩:=bnd h;have ha:=vd hr hargs;have ea:c.args.map r=⟨c.args.toList.map r⟩:=by
  obtain⟨l⟩:=c.args;simp
 cases hc:c.callee with
 | builtin b=>
  rw[hc]at h;have hres:(resolve r c ty).run M.P w= .ok {target:= .builtin b c.argTypes ty (c.args.map fun | .const _=>true | _=>false),args:=⟨c.args.toList.map r⟩} w:=by
   simp only[resolve,hc,ea];rfl
  simp only[Sem.run_bind,hres,Result.andThen_ok,invoke];generalize (c.args.map fun | .const _=>true | _=>false)=cs;generalize c.args.toList.map r=us at ha ⊢;cases b with
  | append=>
   obtain⟨x1,x2,rfl,h⟩:=zd3 h;obtain⟨u1,_,rfl,h1,⟨u2,_,rfl,h2,h3⟩⟩:=ha;obtain rfl:_=[]:=h3;exact gv (m:=Builtin.append_ c.argTypes ty #[u1,u2]) h A λv s' hq A=>Pp hM.env hq h1 h2 A
  | copy=>
   obtain⟨x1,x2,rfl,h⟩:=zd3 h;obtain⟨u1,_,rfl,h1,⟨u2,_,rfl,h2,h3⟩⟩:=ha;obtain rfl:_=[]:=h3;exact gv (m:=Builtin.copy_ c.argTypes ty #[u1,u2]) h A λv s' hq A=>zbG hM.env hq h1 h2 A
  | len=>
   obtain⟨x1,rfl,h⟩:=jb h;obtain⟨u1,_,rfl,h1,h3⟩:=ha;obtain rfl:_=[]:=h3;exact iu (m:=Builtin.len_ c.argTypes ty #[u1]) h A λv hq A=>lenA_ok hM.env hq h1 A
  | cap=>
   obtain⟨x1,rfl,h⟩:=jb h;obtain⟨u1,_,rfl,h1,h3⟩:=ha;obtain rfl:_=[]:=h3;exact iu (m:=Builtin.cap_ c.argTypes ty #[u1]) h A λv hq A=>capA_ok hM.env hq h1 A
  | clear=>
   obtain⟨x1,rfl,h⟩:=jb h;obtain⟨u1,_,rfl,h1,h3⟩:=ha;obtain rfl:_=[]:=h3;exact gv (m:=Builtin.clear_ c.argTypes ty #[u1]) h A λv s' hq A=>Wl hM.env hq h1 A
  | max=>
   obtain⟨u,hu,h⟩:=bnd (show(iz args).bind _=some out from h);obtain⟨v,hv,h⟩:=bnd h;obtain rfl:=Xa h;obtain rfl:=lq _ _ _ hu ha;refine⟨v,sg,w,?_,gt sg v,dx.refl A.holds⟩;have:=Ef hv w;show((do pure (.value (<-Builtin.max_ #[] 0 ⟨us⟩)):Sem Next).run M.P w)=_;simp[this]
  | min=>
   obtain⟨u,hu,h⟩:=bnd (show(iz args).bind _=some out from h);obtain⟨v,hv,h⟩:=bnd h;obtain rfl:=Xa h;obtain rfl:=lq _ _ _ hu ha;refine⟨v,sg,w,?_,gt sg v,dx.refl A.holds⟩;have:=Ef hv w;show((do pure (.value (<-Builtin.min_ #[] 0 ⟨us⟩)):Sem Next).run M.P w)=_;simp[this]
  | unsafeSliceData=>
   obtain⟨x1,rfl,h⟩:=jb h;obtain⟨u1,_,rfl,h1,h3⟩:=ha;obtain rfl:_=[]:=h3;exact iu (m:=Builtin.unsafeSliceData_ c.argTypes ty #[u1]) h A λv hq A=>Cc hq h1 A
  | unsafeString=>
   obtain⟨x1,x2,rfl,h⟩:=zd3 h;obtain⟨u1,_,rfl,h1,⟨u2,_,rfl,h2,h3⟩⟩:=ha;obtain rfl:_=[]:=h3;obtain⟨_,hts,h⟩:=bnd h;exact gv (m:=Builtin.unsafeString_ c.argTypes ty #[u1,u2]) h A λv s' hq A=>Fe hM.env hq h1 h2 (Nat.eq_of_beq_eq_true (ag hts)) A
  | _=>cases h
 | value f=>
  rw[hc]at h;obtain⟨v,hv,h⟩:=bnd h;have hv':=hr _ _ hv;cases hf:Pm v with
  | some g=>
   rw[hf]at h;rw[zk hf]at hv';obtain⟨a,cap,h1,h2,hv'⟩:=hv';have hres:(resolve r c ty).run M.P w= .ok {target:= .fn (.func g.1) ⟨cap⟩,args:=⟨a ++ c.args.toList.map r⟩} w:=by
    simp[resolve,hc,ea,Deferred.ofValue,hv']
   simp only[Sem.run_bind,hres,Result.andThen_ok,invoke];have:=L9 hM h ((h1.append ha).append h2) A;simpa using this
  | none=>
   rw[hf]at h;obtain⟨b,hb,h⟩:=bnd h;obtain rfl:=Xa h;rw[Jg hb]at hv';obtain⟨p,hp,hv'⟩:=hv';have hres:(resolve r c ty).run M.P w= .ok {target:= .fn (.yield p) #[],args:=⟨c.args.toList.map r⟩} w:=by
    simp[resolve,hc,ea,Deferred.ofValue,hv']
   simp only[Sem.run_bind,hres,Result.andThen_ok,invoke];exact⟨rfl,p,_,rfl,hp,ha⟩
 | invoke x name=>
  rw[hc]at h;obtain⟨v,hv,h⟩:=bnd h;have hv':=hr _ _ hv;obtain⟨y,hy,h⟩:=bnd h;obtain⟨f,hf,h⟩:=bnd h;rw[wt hy]at hv';obtain⟨u,hu,hv'⟩:=hv';have hres:(resolve r c ty).run M.P w= .ok {target:= .fn (.method name) #[],args:=⟨.iface y.1 u :: c.args.toList.map r⟩} w:=by
   simp[resolve,hc,ea,hv']
  simp only[Sem.run_bind,hres,Result.andThen_ok,invoke];have:=L9 hM h (us:=u :: c.args.toList.map r) ⟨_,_,rfl,hu,ha⟩ A;have hm:=Tw (w:=w) hM hf u (M.P.types.size+99);have hm':(method (M.P.types.size+Made.depth) y.1 u name).run M.P w= .ok (f,u) w:=hm;have e:(List.map r c.args.toList).take c.args.size=List.map r c.args.toList:=List.take_of_length_le Yy;simpa[callMethod,hm',List.extract_eq_take_drop,e]using this
theorem zaG (hM:M.Ok) (o:Oper) (h:opA M ρ o.op s=some out) (hr:Mr sg ρ r) (A:Ask X sg w s out.st):At M.P X sg w s out ((execOp r o).run M.P w):=by
 unfold execOp;cases ho:o.op with
 | move x=>
  rw[ho]at h;obtain⟨v,hv,h⟩:=bnd h;exact zd1 h A (hr _ _ hv)
 | assign x=>
  rw[ho]at h;obtain⟨v,hv,h⟩:=bnd h;exact zd1 h A (hr _ _ hv)
 | pick c a b=>
  rw[ho]at h;obtain⟨v,hv,h⟩:=bnd h;obtain⟨t,ht,h⟩:=bnd h;have hv':=hr _ _ hv;rw[wu ht]at hv';have hv':r c= .bool t:=hv';cases t with
  | true=>
   obtain⟨u,hu,h⟩:=bnd h;have:=zd1 (P:=M.P) h A (hr _ _ hu);simpa[hv',asBool]using this
  | false=>
   obtain⟨u,hu,h⟩:=bnd h;have:=zd1 (P:=M.P) h A (hr _ _ hu);simpa[hv',asBool]using this
 | alloc t=>
  rw[ho]at h;exact gv h A λv s' hq A=>ze0 hM.env hq A
 | box t x=>
  rw[ho]at h;obtain⟨v,hv,h⟩:=bnd h;exact gv h A λu s' hq A=>boxA_ok hq (hr _ _ hv) A
 | build t ps=>
  rw[ho]at h;exact iu h A λv hq A=>Ww hM.env hr hq A
 | buildSlice t n ps=>
  rw[ho]at h;exact gv h A λv s' hq A=>Ev hM.env hr hq A
 | load t a=>
  rw[ho]at h;obtain⟨v,hv,h⟩:=bnd h;exact gv h A λu s' hq A=>za0 hM.env hq (hr _ _ hv) A
 | store t a x=>
  rw[ho]at h;obtain⟨v,hv,h⟩:=bnd h;obtain⟨u,hu,h⟩:=bnd h;exact D4 h A λs' hq A=>Sk hM.env hq (hr _ _ hv) (hr _ _ hu) A
 | nilCheck x=>
  rw[ho]at h;obtain⟨v,hv,h⟩:=bnd h;obtain⟨p,hp,h⟩:=bnd h;have hv':=hr _ _ hv;have hv2:=hv';rw[dk hp]at hv2;obtain⟨q,hq,e⟩:=hv2;have:=zd1 (P:=M.P) h A hv';rw[e]at this;simpa[e]using this
 | binOp op t x y ty=>
  rw[ho]at h;obtain⟨a,ha,h⟩:=bnd h;obtain⟨b,hb,h⟩:=bnd h;exact iu h A λv hq A=>binA_ok hM.env hq (hr _ _ ha) (hr _ _ hb) A
 | unOp op t x=>
  rw[ho]at h;obtain⟨a,ha,h⟩:=bnd h;obtain⟨u,hu,h⟩:=bnd h;obtain⟨v,hv,h⟩:=bnd h;obtain rfl:=Xa h;have e:=m7 _ _ _ hu (hr _ _ ha);refine⟨v,sg,w,?_,gt sg v,dx.refl A.holds⟩;have:=Ef hv w;simp[e,this]
 | convert a b x=>
  rw[ho]at h;obtain⟨v,hv,h⟩:=bnd h;exact gv h A λu s' hq A=>zbI hM.env hq (hr _ _ hv) A
 | sliceToArrayPointer t x=>
  rw[ho]at h;obtain⟨v,hv,h⟩:=bnd h;obtain⟨d,hd,h⟩:=bnd h;obtain⟨q,hq,h⟩:=bnd h;obtain⟨y,hy,h⟩:=bnd h;obtain⟨_,hg,h⟩:=bnd h;obtain⟨p,c,hp,hc,_,_,e⟩:=dy hy (hr _ _ hv);have hd':=hM.env.und _ _ hd;rw[lw hq]at hd';have hg:=db (ag hg);have:=zd1 (P:=M.P) (u:= .pointer (some ⟨p,y.off,none⟩)) h A ⟨p,hp,rfl⟩;have hlt:¬y.len < q.1:=Yx;simpa[Instr.arrayAt,e,run_underlying hd',hlt]using this
 | makeInterface t x=>
  rw[ho]at h;obtain⟨v,hv,h⟩:=bnd h;obtain⟨d,hd,h⟩:=bnd h;have hd':=hM.env.und _ _ hd;cases hi:rk d with
  | some m=>rw[hi]at h;cases h
  | none=>
   rw[hi]at h;have:=zd1 (P:=M.P) (u:= .iface t (r x)) h A ⟨_,hr _ _ hv,rfl⟩;cases d <;> first | (cases hi;done) | simpa[Instr.makeInterface,run_underlying hd']using this
 | makeFunc f a b=>
  rw[ho]at h;obtain⟨va,hva,h⟩:=bnd h;obtain⟨vb,hvb,h⟩:=bnd h;have ea:a.map r=⟨a.toList.map r⟩:=by obtain⟨l⟩:=a;simp
  have eb:b.map r=⟨b.toList.map r⟩:=by obtain⟨l⟩:=b;simp
  have:=zd1 (P:=M.P) (u:= .func f (a.map r) (b.map r)) h A ⟨_,_,vd hr hva,vd hr hvb,by rw[ea,eb]⟩;simpa[Instr.makeFunc]using this
 | makeMap t res=>
  rw[ho]at h;cases res with
  | some x=>cases h
  | none=>
   obtain rfl:=Xa h;obtain⟨u,sg',w',e1,e2,e3⟩:=Kn (P:=M.P) (t:=t) (v:=(qh s).1) (s':=(qh s).2) rfl A;exact⟨u,sg',w',by simp[e1],e2,e3⟩
 | makeSlice t a b=>
  rw[ho]at h;obtain⟨va,hva,h⟩:=bnd h;obtain⟨vb,hvb,h⟩:=bnd h;exact gv h A λv s' hq A=>Fg hM.env hq (hr _ _ hva) (hr _ _ hvb) A
 | slice t x lo hi mx=>
  rw[ho]at h;obtain⟨v,hv,h⟩:=bnd h;obtain⟨l,hl,h⟩:=bnd h;obtain⟨k,hk,h⟩:=bnd h;obtain⟨m,hm,h⟩:=bnd h;exact iu h A λu hq A=>So hM.env hq (hr _ _ hv) (Hj hr hl) (Hj hr hk) (Hj hr hm) A
 | fieldAddr t x f=>
  rw[ho]at h;obtain⟨v,hv,h⟩:=bnd h;exact iu h A λu hq A=>Ll hM.env hq (hr _ _ hv) A
 | indexAddr t x i=>
  rw[ho]at h;obtain⟨v,hv,h⟩:=bnd h;obtain⟨k,hk,h⟩:=bnd h;exact iu h A λu hq A=>Lc hM.env hq (hr _ _ hv) (hr _ _ hk) A
 | index t x i=>
  rw[ho]at h;obtain⟨v,hv,h⟩:=bnd h;obtain⟨k,hk,h⟩:=bnd h;exact iu h A λu hq A=>U4 hM.env hq (hr _ _ hv) (hr _ _ hk) A
 | lookup t x k ok=>
  rw[ho]at h;obtain⟨v,hv,h⟩:=bnd h;obtain⟨k,hk,h⟩:=bnd h;exact gv h A λu s' hq A=>Oa hM.env hq (hr _ _ hv) (hr _ _ hk) A
 | mapUpdate t m k x=>
  rw[ho]at h;obtain⟨v,hv,h⟩:=bnd h;obtain⟨y,hy,h⟩:=bnd h;obtain⟨z,hz,h⟩:=bnd h;exact D4 h A λs' hq A=>Ca hM.env hq (hr _ _ hv) (hr _ _ hy) (hr _ _ hz) A
 | insert t m k x=>
  rw[ho]at h;obtain⟨v,hv,h⟩:=bnd h;obtain⟨y,hy,h⟩:=bnd h;obtain⟨z,hz,h⟩:=bnd h;exact D4 h A λs' hq A=>Ca hM.env hq (hr _ _ hv) (hr _ _ hy) (hr _ _ hz) A
 | range t x=>
  rw[ho]at h;obtain⟨v,hv,h⟩:=bnd h;exact gv h A λu s' hq A=>zdv hM.env hq (hr _ _ hv) A
 | next i b=>
  rw[ho]at h;cases b with
  | true=>cases h
  | false=>
   obtain⟨v,hv,h⟩:=bnd h;exact gv h A λu s' hq A=>zaR hq (hr _ _ hv) A
 | entry i=>
  rw[ho]at h;obtain⟨v,hv,h⟩:=bnd h;exact gv h A λu s' hq A=>U9 hq (hr _ _ hv) A
 | typeAssert x xt t ok=>
  rw[ho]at h;obtain⟨v,hv,h⟩:=bnd h;exact iu h A λu hq A=>Pj hM.env hq (hr _ _ hv) A
 | extract x i=>
  rw[ho]at h;obtain⟨v,hv,h⟩:=bnd h;obtain⟨l,hl,h⟩:=bnd h;obtain⟨u,hu,h⟩:=bnd h;have hv':=hr _ _ hv;rw[Pk hl]at hv';obtain⟨cs,hcs,e⟩:=hv';obtain⟨z,hz,hzr⟩:=hcs.get i u hu;have:=zd1 (P:=M.P) (u:=z) h A hzr;simpa[Instr.extract,e,hz]using this
 | call c=>
  rw[ho]at h;exact zbS hM h hr A
 | defer c=>
  rw[ho]at h;obtain⟨args,hargs,h⟩:=bnd h;cases hc:c.callee with
  | builtin b=>rw[hc]at h;cases h
  | invoke a b=>rw[hc]at h;cases h
  | value f=>
   rw[hc]at h;obtain⟨v,hv,h⟩:=bnd h;obtain⟨g,hg,h⟩:=bnd h;obtain rfl:=Xa h;have hv':=hr _ _ hv;rw[zk hg]at hv';obtain⟨a,cap,h1,h2,hv'⟩:=hv';refine⟨rfl,⟨cap⟩,⟨a⟩ ++ c.args.map r,by simp[resolve,hc,Deferred.ofValue,hv'],?_⟩;have e1:=h1.length;have e2:=h2.length;have e3:c.args.toList.length=args.length:=by have:=(vd hr hargs).length;rwa [List.length_map]at this
   have e4:c.args.size=c.args.toList.length:=rfl;simp only[Array.size_append,List.size_toArray,Array.size_map,e1,e2,e4,e3]
 | _=>rw[ho]at h;cases h
end
end
end RX
end
end Go.Proofs.YtimcfaoabaflkaaGreatDoor
