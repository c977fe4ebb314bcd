/- RX, part 5: build, buildSlice, makeSlice, append, copy, len; what does not look at the world. -/
import Derived.Test.YtimcfaoabaflkaaGreatDoorRxA
import Derived.Laws.Append
import Derived.IntWalk
import Derived.Laws.IdiomStrings
import Derived.Laws.BytesArg
import Derived.Laws.Pointers
import Derived.Lib.Builder
import Derived.Lib.UnsafeStr
import Derived.LaidEqlPtr
import Derived.Laws.Strings
namespace Go.Proofs.YtimcfaoabaflkaaGreatDoor
set_option maxRecDepth 100000
section
namespace RX
noncomputable section
def ev {α:Type} (P:Program):Sem α->Option α
 | .pure a=>some a
 | .program k=>ev P (k P)
 | .mark _ k=>ev P k
 | _=>none
theorem Ef {α:Type} {P:Program}:∀{m:Sem α} {a:α},ev P m=some a->∀w,m.run P w= .ok a w
 | .pure b,a,h,w=>by obtain rfl:=Xa (show some b=some a from h);rfl
 | .program k,a,h,w=>by
  show Sem.run P (k P) w=_;exact Ef (m:=k P) (show ev P (k P)=some a from h) w
 | .mark m k,a,h,w=>by
  show Sem.run P k w=_;exact Ef (m:=k) (show ev P k=some a from h) w
 | .load ..,_,h,_=>by cases h
 | .store ..,_,h,_=>by cases h
 | .new ..,_,h,_=>by cases h
 | .shape ..,_,h,_=>by cases h
 | .freeze ..,_,h,_=>by cases h
 | .frozen ..,_,h,_=>by cases h
 | .getObj ..,_,h,_=>by cases h
 | .setObj ..,_,h,_=>by cases h
 | .choose ..,_,h,_=>by cases h
 | .sys ..,_,h,_=>by cases h
 | .halt ..,_,h,_=>by cases h
mutual
def ql:AV->Option Value
 | .bool b=>some (.bool b)
 | .int k n=>some (.int k n)
 | .str l=>some (.string ⟨⟨l⟩⟩)
 | .val v=>some v
 | .iface t v=>(ql v).bind λu=>some (.iface t u)
 | .agg l=>(iz l).bind λu=>some (.agg ⟨u⟩)
 | .tup l=>(iz l).bind λu=>some (.tuple ⟨u⟩)
 | .fn f [] []=>some (.func f #[] #[])
 | _=>none
def iz:List AV->Option (List Value)
 | []=>some []
 | x :: xs=>(ql x).bind λu=>(iz xs).bind λus=>some (u :: us)
end
mutual
theorem m7 {sg:Ids}:∀(x:AV) (v u:Value),ql x=some u->VR sg x v->v=u
 | .bool b,v,u,h,r=>by obtain rfl:=Xa (show some (Value.bool b)=some u from h);exact r
 | .int k n,v,u,h,r=>by obtain rfl:=Xa (show some (Value.int k n)=some u from h);exact r
 | .str l,v,u,h,r=>by obtain rfl:=Xa (show some (Value.string ⟨⟨l⟩⟩)=some u from h);exact r
 | .val x,v,u,h,r=>by obtain rfl:=Xa (show some x=some u from h);exact r
 | .iface t x,v,u,h,r=>by
  obtain⟨y,hy,h⟩:=bnd (show(ql x).bind _=some u from h);obtain rfl:=Xa h;obtain⟨z,hz,rfl⟩:=r;rw[m7 x z y hy hz]
 | .agg l,v,u,h,r=>by
  obtain⟨y,hy,h⟩:=bnd (show(iz l).bind _=some u from h);obtain rfl:=Xa h;obtain⟨z,hz,rfl⟩:=r;rw[lq l z y hy hz]
 | .tup l,v,u,h,r=>by
  obtain⟨y,hy,h⟩:=bnd (show(iz l).bind _=some u from h);obtain rfl:=Xa h;obtain⟨z,hz,rfl⟩:=r;rw[lq l z y hy hz]
 | .fn f [] [],v,u,h,r=>by
  obtain rfl:=Xa (show some (Value.func f #[] #[])=some u from h);obtain⟨a,c,h1,h2,rfl⟩:=r;obtain rfl:a=[]:=h1;obtain rfl:c=[]:=h2;rfl
 | .fn f (_ :: _) c,_,_,h,_=>by cases h
 | .fn f [] (_ :: _),_,_,h,_=>by cases h
 | .unk,_,_,h,_=>by cases h
 | .byte,_,_,h,_=>by cases h
 | .ptr ..,_,_,h,_=>by cases h
 | .sl ..,_,_,h,_=>by cases h
 | .slu ..,_,_,h,_=>by cases h
 | .map ..,_,_,h,_=>by cases h
 | .yield ..,_,_,h,_=>by cases h
theorem lq {sg:Ids}:∀(x:List AV) (v u:List Value),iz x=some u->VRs sg x v->v=u
 | [],v,u,h,r=>by
  obtain rfl:=Xa (show some []=some u from h);exact r
 | x :: xs,v,u,h,r=>by
  obtain⟨y,hy,h⟩:=bnd (show(ql x).bind _=some u from h);replace h:=bnd h;obtain⟨ys,hys,h⟩:=h;obtain rfl:=Xa h;obtain⟨z,zs,rfl,h1,h2⟩:=r;rw[m7 x z y hy h1,lq xs zs ys hys h2]
end
theorem fold_set:∀(l:List Value) (k off:Nat) (Z:Array Value),off+k+l.length<=Z.size->
  ((l.zipIdx k).foldl (fun(cs:Array Value) (x:Value×Nat)=>cs.setIfInBounds (off+x.2) x.1) Z).toList=Z.toList.take (off+k) ++ l ++ Z.toList.drop (off+k+l.length)
 | [],k,off,Z,h=>by simp
 | v :: r,k,off,Z,h=>by
  simp only[List.length_cons]at h;rw[List.zipIdx_cons,List.foldl_cons,fold_set r (k+1) off _ (by simp;omega)];simp only[Array.toList_setIfInBounds,List.length_cons];have hz:Z.toList.length=Z.size:=rfl;generalize Z.toList=L at *;rw[List.set_eq_take_append_cons_drop,if_pos Yx];have ht:(L.take (off+k)).length=off+k:=by rw[List.length_take];omega
  have e1:(L.take (off+k) ++ v :: L.drop (off+k+1)).take (off+(k+1))=L.take (off+k) ++ [v]:=by
   rw[List.take_append,ht,show off+(k+1) - (off+k)=1 by omega];simp[List.take_take]
  have e2:(L.take (off+k) ++ v :: L.drop (off+k+1)).drop (off+(k+1)+r.length)=L.drop (off+k+(r.length+1)):=by
   rw[List.drop_append,ht,show(L.take (off+k)).drop (off+(k+1)+r.length)=[]from List.drop_eq_nil_of_le Yx,show off+(k+1)+r.length - (off+k)=r.length+1 by omega];simp[List.drop_drop];congr 1;omega
  rw[e1,e2];simp
theorem fill_fold (C Z:Array Value) (off:Nat) (h:off+C.size<=Z.size):
  C.zipIdx.foldl (fun(cs:Array Value) (x:Value×Nat)=>cs.setIfInBounds (off+x.2) x.1) Z=(Z.toList.take off ++ C.toList ++ Z.toList.drop (off+C.size)).toArray:=by
 apply Array.ext';rw[<-Array.foldl_toList,Array.toList_zipIdx,fold_set C.toList 0 off Z (by have:C.toList.length=C.size:=rfl;omega)];simp
def Lk (place:Nat->Option (Nat×Nat)):List AV->List (Nat×AV)->Option (List AV)
 | cells,[]=>some cells
 | cells,x :: rest=>(place x.1).bind λos=>(cellsOf x.2).bind λxs=>(grd (Nat.beq xs.length os.2)).bind λ_=>(grd (Nat.ble (os.1+xs.length) cells.length)).bind λ_=>
  Lk place (cells.take os.1 ++ xs ++ cells.drop (os.1+xs.length)) rest
def PR (sg:Ids):List (Nat×AV)->List (Nat×Value)->Prop
 | [],l=>l=[]
 | x :: xs,l=>∃u us,l=(x.1,u) :: us/\VR sg x.2 u/\PR sg xs us
theorem we {sg:Ids} {place:Nat->Option (Nat×Nat)}:∀{parts:List (Nat×AV)} {cells out:List AV} {cs:List Value} {ps:List (Nat×Value)},Lk place cells parts=some out->VRs sg cells cs->(∀v∈cs,v.oneCell'=true)->PR sg parts ps->
  ∃cs',Instr.fill place cs.toArray ps=some cs'.toArray/\VRs sg out cs'/\∀v∈cs',v.oneCell'=true
 | [],cells,out,cs,ps,h,hc,h1,hp=>by
  obtain rfl:=Xa (show some cells=some out from h);obtain rfl:ps=[]:=hp;exact⟨cs,rfl,hc,h1⟩
 | x :: rest,cells,out,cs,ps,h,hc,h1,hp=>by
  obtain⟨u,us,rfl,hu,hus⟩:=hp;replace h:=bnd h;obtain⟨os,ho,h⟩:=h;replace h:=bnd h;obtain⟨xs,hx,h⟩:=h;replace h:=bnd h;obtain⟨_,g1,h⟩:=h;replace h:=bnd h;obtain⟨_,g2,h⟩:=h;obtain⟨hv,hv1⟩:=j6 hu hx;have l1:=hv.length;have l2:=hc.length;have g1:=Nat.eq_of_beq_eq_true (ag g1);have g2:=db (ag g2);simp only[Array.length_toList]at l1;have hn:VRs sg (cells.take os.1 ++ xs ++ cells.drop (os.1+xs.length)) (cs.take os.1 ++ u.cells.toList ++ cs.drop (os.1+xs.length)):=((hc.take _).append hv).append (hc.drop _);obtain⟨cs',e1,e2,e3⟩:=we h hn (λv hv'=>by
   simp only[List.mem_append]at hv';rcases hv' with (hv' | hv') | hv'
   ·exact h1 v (List.mem_of_mem_take hv')
   ·exact hv1 v hv'
   ·exact h1 v (List.mem_of_mem_drop hv')) hus
  refine⟨cs',?_,e2,e3⟩;unfold Instr.fill;rw[ho];dsimp only;rw[if_neg (by simp;omega)];have:=fill_fold u.cells cs.toArray os.1 (by simp;omega);rw[this,l1];simpa using e1
def tt (ρ:Operand->Option AV):List (Nat×Operand)->Option (List (Nat×AV))
 | []=>some []
 | x :: xs=>(ρ x.2).bind λv=>(tt ρ xs).bind λvs=>some ((x.1,v) :: vs)
def Mr (sg:Ids) (ρ:Operand->Option AV) (r:Operand->Value):Prop:=∀x v,ρ x=some v->VR sg v (r x)
theorem xy {sg:Ids} {ρ:Operand->Option AV} {r:Operand->Value} (hr:Mr sg ρ r):∀{l:List (Nat×Operand)} {o:List (Nat×AV)},tt ρ l=some o->PR sg o (l.map λx=>(x.1,r x.2))
 | [],o,h=>by obtain rfl:=Xa (show some []=some o from h);rfl
 | x :: xs,o,h=>by
  replace h:=bnd h;obtain⟨v,hv,h⟩:=h;replace h:=bnd h;obtain⟨vs,hvs,h⟩:=h;obtain rfl:=Xa h;exact⟨_,_,rfl,hr _ _ hv,xy hr hvs⟩
def Hu (E:Env):List Field->Option (List (Nat×Nat))
 | []=>some []
 | f :: fs=>(E.info f.type).bind λi=>(Hu E fs).bind λl=>some ((f.offset,i.size) :: l)
section
variable {P:Program} {E:Env} {X:Nat->Prop} {sg:Ids} {w:World} {s s':St}
theorem Cv (hE:E.Ok P):∀{fs:List Field} {l:List (Nat×Nat)},Hu E fs=some l->∀w,(fs.mapM λf=>(do pure (f.offset,<-sizeOf f.type):Sem (Nat×Nat))).run P w= .ok l w
 | [],l,h,w=>by obtain rfl:=Xa (show some []=some l from h);rfl
 | f :: fs,l,h,w=>by
  replace h:=bnd h;obtain⟨i,hi,h⟩:=h;replace h:=bnd h;obtain⟨l',hl,h⟩:=h;obtain rfl:=Xa h;have:=Cv hE hl w;simp only[List.mapM_cons,Sem.run_bind,bg (hE.info _ _ hi),Result.andThen_ok,Sem.run_pure];rw[this];rfl
def Pd (E:Env) (ρ:Operand->Option AV) (t:TypeId) (parts:List (Nat×Operand)):Option AV:=
 (B5 E t).bind λz=>(tt ρ parts).bind λps=>(E.und t).bind λd=>match tc d with
  | some q=>(E.info q.2).bind λi=>(Lk (λk=>some (k * i.size,i.size)) z ps).bind λl=>some (.agg l)
  | none=>(Cf d).bind λfs=>(Hu E fs.toList).bind λpl=>(Lk (λk=>pl[k]?) z ps).bind λl=>some (.agg l)
theorem Ww (hE:E.Ok P) {ρ:Operand->Option AV} {r:Operand->Value} (hr:Mr sg ρ r) {t:TypeId} {parts:Array (Nat×Operand)} {v:AV} (h:Pd E ρ t parts.toList=some v) (A:Ask X sg w s s):
  Got P X sg w s (Instr.build t (parts.map fun(i,x)=>(i,r x))) v s:=by
 replace h:=bnd h;obtain⟨z,hz,h⟩:=h;replace h:=bnd h;obtain⟨ps,hp,h⟩:=h;replace h:=bnd h;obtain⟨d,hd,h⟩:=h;obtain⟨zv,z1,z2,z3⟩:=pp hE hz;have hd':=hE.und _ _ hd;have hps:=xy hr hp;have ep:(parts.map fun(i,x)=>(i,r x)).toList=parts.toList.map λx=>(x.1,r x.2):=Yy;cases hq:tc d with
 | some q=>
  rw[hq]at h;replace h:=bnd h;obtain⟨i,hi,h⟩:=h;replace h:=bnd h;obtain⟨l,hl,h⟩:=h;obtain rfl:=Xa h;rw[lw hq]at hd';obtain⟨cs,e1,e2,_⟩:=we hl (z2 sg) z3 hps;refine Got.pure A (u:= .agg cs.toArray) ?_ ⟨cs,e2,rfl⟩;have e1':Instr.fill (λi_1=>some (i_1 * i.size,i.size)) zv.cells (parts.map fun(i,x)=>(i,r x)).toList=some cs.toArray:=by rw[ep];simpa using e1
  simp only[Instr.build,Sem.run_bind,z1,Result.andThen_ok,run_underlying hd',bg (hE.info _ _ hi)];rw[e1'];rfl
 | none=>
  rw[hq]at h;replace h:=bnd h;obtain⟨fs,hf,h⟩:=h;replace h:=bnd h;obtain⟨pl,hpl,h⟩:=h;replace h:=bnd h;obtain⟨l,hl,h⟩:=h;obtain rfl:=Xa h;rw[sd hf]at hd';obtain⟨cs,e1,e2,_⟩:=we hl (z2 sg) z3 hps;refine Got.pure A (u:= .agg cs.toArray) ?_ ⟨cs,e2,rfl⟩;have hm:(fs.mapM λf=>(do pure (f.offset,<-sizeOf f.type):Sem (Nat×Nat))).run P w= .ok pl.toArray w:=by
   rw[Array.mapM_eq_mapM_toList];have:=Cv hE hpl w;simp only[Sem.run_map,this,Result.andThen_ok]
  have e1':Instr.fill (pl.toArray[·]?) zv.cells (parts.map fun(i,x)=>(i,r x)).toList=some cs.toArray:=by rw[ep];simpa using e1
  simp only[Instr.build,Sem.run_bind,z1,Result.andThen_ok,run_underlying hd',hm];rw[e1'];rfl
def zai (z:List AV):Nat->List AV
 | 0=>[]
 | n+1=>z ++ zai z n
def mg (E:Env) (ρ:Operand->Option AV) (t:TypeId) (len:Nat) (parts:List (Nat×Operand)) (s:St):Option (AV×St):=
 (E.und t).bind λd=>(iw d).bind λe=>(E.info e).bind λi=>(grd (Nat.ble (len * i.size) 4096)).bind λ_=>(grd (Nat.blt 0 i.size)).bind λ_=>(B5 E e).bind λz=>(grd (Nat.beq z.length i.size)).bind λ_=>
  (tt ρ parts).bind λps=>(Lk (λk=>some (k * i.size,i.size)) (zai z len) ps).bind λl=>some (.sl s.fresh 0 len len,(Tu s e l).2)
theorem Hl {z:List AV} {zs:List Value} (h:∀sg,VRs sg z zs) (hz:0 < zs.length):∀(n:Nat) (sg:Ids),VRs sg (zai z n) ((List.range (n * zs.length)).map λk=>zs[k % zs.length]!)
 | 0,sg=>by simp[zai,VRs]
 | n+1,sg=>by
  have e:(List.range ((n+1) * zs.length)).map (λk=>zs[k % zs.length]!)=zs ++ (List.range (n * zs.length)).map λk=>zs[k % zs.length]! :=by
   rw[Nat.add_mul,Nat.one_mul,Nat.add_comm,List.range_add,List.map_append,List.map_map];congr 1
   ·apply List.ext_getElem?;intro i;simp only[List.getElem?_map]
    by_cases hi:i < zs.length
    ·simp[Nat.mod_eq_of_lt hi,hi]
    ·simp[hi]
   ·apply List.map_congr_left;intro a _;simp
  rw[e];exact(h sg).append (Hl h hz n sg)
theorem R3 (zs:List Value) (m:Nat):((Array.range m).map λk=>zs.toArray[k % zs.toArray.size]!)=((List.range m).map λk=>zs[k % zs.length]!).toArray:=by
 apply Array.ext';simp
theorem J9 {zs:List Value} (h1:∀u∈zs,u.oneCell'=true) (hz:0 < zs.length) (m:Nat):∀u∈(List.range m).map (λk=>zs[k % zs.length]!),u.oneCell'=true:=λu hu=>by
 obtain⟨k,_,rfl⟩:=List.mem_map.1 hu;have:k % zs.length < zs.length:=Nat.mod_lt _ hz;simp only[this,getElem!_pos];exact h1 _ (List.getElem_mem _)
theorem Ev (hE:E.Ok P) {ρ:Operand->Option AV} {r:Operand->Value} (hr:Mr sg ρ r) {t:TypeId} {len:Nat} {parts:Array (Nat×Operand)} {v:AV} (h:mg E ρ t len parts.toList s=some (v,s')) (A:Ask X sg w s s'):
  Got P X sg w s (Instr.buildSlice t len (parts.map fun(i,x)=>(i,r x))) v s':=by
 replace h:=bnd h;obtain⟨d,hd,h⟩:=h;replace h:=bnd h;obtain⟨e,he,h⟩:=h;replace h:=bnd h;obtain⟨i,hi,h⟩:=h;replace h:=bnd h;obtain⟨_,g1,h⟩:=h;replace h:=bnd h;obtain⟨_,g2,h⟩:=h;replace h:=bnd h;obtain⟨z,hz,h⟩:=h;replace h:=bnd h;obtain⟨_,g3,h⟩:=h;replace h:=bnd h;obtain⟨ps,hp,h⟩:=h;replace h:=bnd h;obtain⟨l,hl,h⟩:=h;obtain⟨rfl,rfl⟩:_=v/\_=s':=by simpa[Tu]using h
 obtain⟨zv,z1,z2,z3⟩:=pp hE hz;have hd':=hE.und _ _ hd;rw[dh he]at hd';have g1:=db (ag g1);have g2:0 < i.size:=by have:=ag g2;rwa [Nat.blt_eq]at this
 have g3:=Nat.eq_of_beq_eq_true (ag g3);have hps:=xy hr hp;have ep:(parts.map fun(i,x)=>(i,r x)).toList=parts.toList.map λx=>(x.1,r x.2):=Yy;have lz:zv.cells.toList.length=i.size:=by rw[(z2 sg).length,g3]
 have hrep:=Hl z2 Yx len sg;rw[lz]at hrep;have hone:∀u∈(List.range (len * i.size)).map (λk=>zv.cells.toList[k % i.size]!),u.oneCell'=true:=by
  have:=J9 z3 Yx (len * i.size)
  rwa [lz]at this
 obtain⟨cs,e1,e2,e3⟩:=we hl hrep hone hps;obtain⟨sg',w',f1,f2,f3⟩:=Hz (P:=P) e A e2 e3;refine⟨_,sg',w',?_,⟨w.heap.size,f2,Xc _,rfl⟩,f3⟩;have e1':Instr.fill (λk=>some (k * i.size,i.size)) ((Array.range (len * i.size)).map λk=>(if len * i.size=0 then(#[]:Array Value)else zv.cells)[k % (if len * i.size=0 then(#[]:Array Value)else zv.cells).size]!) (parts.map fun(i,x)=>(i,r x)).toList=some cs.toArray:=by
  rw[ep,<-e1];congr 1
  by_cases h0:len * i.size=0
  ·rw[h0];simp
  ·rw[if_neg h0];have:=R3 zv.cells.toList (len * i.size);rw[lz]at this;simpa[show zv.cells.size=i.size from lz]using this
 have big:¬len * i.size > 2 ^ 24:=Yx;simp only[Instr.buildSlice,Sem.run_bind,run_underlying hd',Result.andThen_ok,bg (hE.info _ _ hi),big,if_false]
 by_cases h0:len * i.size=0
 ·simp only[h0,if_true,Sem.run_bind,Sem.run_pure,Result.andThen_ok]at e1' ⊢;rw[e1'];simp[f1]
 ·simp only[h0,if_false,Sem.run_bind,z1,Result.andThen_ok,Sem.run_pure]at e1' ⊢;rw[e1'];simp[f1]
def uc (E:Env) (t:TypeId) (a b:AV) (s:St):Option (AV×St):=
 (asInt a).bind λl=>(si l.2).bind λn=>(asInt b).bind λc=>(si c.2).bind λm=>(grd (Nat.ble n m)).bind λ_=>(E.und t).bind λd=>(iw d).bind λe=>(E.info e).bind λi=>(B5 E e).bind λz=>
  (grd (Nat.beq z.length i.size)).bind λ_=>(grd (Nat.blt 0 i.size)).bind λ_=>(grd (Nat.ble (i.bytes * m) 1000000000)).bind λ_=>(grd (Nat.ble m 1000000000)).bind λ_=>
   some (.sl s.fresh 0 n m,s.new (.cells (m * i.size) false e i.size z .nil))
theorem B6 {n:Nat} (h:n<=1000000000):IntKind.i64.wrap (n:Int)=(n:Int):=IntWalk.i64_in _ Yx
theorem Fg (hE:E.Ok P) {t:TypeId} {a b v:AV} {u y:Value} (h:uc E t a b s=some (v,s')) (ha:VR sg a u) (hb:VR sg b y) (A:Ask X sg w s s'):Got P X sg w s (Instr.makeSlice t u y) v s':=by
 replace h:=bnd h;obtain⟨l,hl,h⟩:=h;replace h:=bnd h;obtain⟨n,hn,h⟩:=h;replace h:=bnd h;obtain⟨c,hc,h⟩:=h;replace h:=bnd h;obtain⟨m,hm,h⟩:=h;replace h:=bnd h;obtain⟨_,g1,h⟩:=h;replace h:=bnd h;obtain⟨d,hd,h⟩:=h;replace h:=bnd h;obtain⟨e,he,h⟩:=h;replace h:=bnd h;obtain⟨i,hi,h⟩:=h;replace h:=bnd h;obtain⟨z,hz,h⟩:=h;replace h:=bnd h;obtain⟨_,g2,h⟩:=h;replace h:=bnd h;obtain⟨_,g3,h⟩:=h;replace h:=bnd h;obtain⟨_,g4,h⟩:=h;replace h:=bnd h;obtain⟨_,g5,h⟩:=h;obtain⟨rfl,rfl⟩:_=v/\_=s':=by simpa using h
 rw[ew hl,rm hn]at ha;rw[ew hc,rm hm]at hb;obtain rfl:u=_:=ha;obtain rfl:y=_:=hb;obtain⟨zv,z1,z2,z3⟩:=pp hE hz;have hd':=hE.und _ _ hd;rw[dh he]at hd';have g1:=db (ag g1);have g2:=Nat.eq_of_beq_eq_true (ag g2);have g3:0 < i.size:=by have:=ag g3;rwa [Nat.blt_eq]at this
 have g4:=db (ag g4);have g5:=db (ag g5);have lz:zv.cells.size=i.size:=by rw[<-g2];exact(z2 sg).length
 have hnf:sg s.fresh=none:=A.new s.fresh (Xc _) (Nat.lt_succ_self _);have big:¬((i.bytes:Int) * (m:Int) > 2 ^ 48):=by
  rw[<-Int.natCast_mul];generalize i.bytes * m=q at g4;omega
 have wm:=B6 g5;have wn:=B6 (Nat.le_trans g1 g5)
 let o:Obj:= .cells ((Array.range (m * i.size)).map λk=>zv.cells[k % zv.cells.size]!) e
 have hk:BR (sg.with s.fresh w.heap.size (m * i.size)) (.cells (m * i.size) false e i.size z .nil) o:=by
  refine⟨_,(0,0),rfl,.inl (Xc _),Yy,λ_=>by simp,λj hj=>?_⟩;have hlt:j % zv.cells.size < zv.cells.toList.length:=by
   show j % zv.cells.size < zv.cells.size;exact Nat.mod_lt _ Yx
  have hx:z[j % i.size]?=some (z.getD (j % i.size) .unk):=by
   have:j % i.size < z.length:=by rw[g2];exact Nat.mod_lt _ g3
   simp[this]
  obtain⟨u,hu,hr⟩:=(z2 (sg.with s.fresh w.heap.size (m * i.size))).get _ _ hx;have hu':zv.cells[j % i.size]?=some u:=by simpa using hu
  refine⟨u,?_,z3 u (List.mem_of_getElem? hu),?_⟩
  ·simp only[Array.getElem?_map,Array.getElem?_range,hj,if_true,Option.map_some];rw[lz];rw[getElem!_def,hu']
  ·unfold cellAt;simpa using hr
 refine⟨.slice (some ⟨w.heap.size,0,none⟩) n m,sg.with s.fresh w.heap.size (m * i.size),{w with heap:=w.heap.push o},?_,⟨_,Ids.with_self ..,g1,rfl⟩,dx.alloc A.holds A.lt hnf hk (by show _=_;simp) rfl rfl rfl rfl⟩;have q1:¬((n:Int) < 0):=Yx;have q2:¬((m:Int) < 0):=Yx;have q3:¬((m:Int) < (n:Int)):=Yx;have q0:¬(m=0\/i.size=0)\/m=0:=Yx;simp only[Instr.makeSlice,Sem.run_bind,run_underlying hd',Result.andThen_ok,Go.asInt,asIntOf,Sem.run_pure,eu (hE.info _ _ hi),wm,wn,q1,q2,q3,big,bg (hE.info _ _ hi),decide_false,Bool.or_false,Bool.false_eq_true,if_false,run_askRoom,Int.toNat_natCast]
 by_cases h0:m * i.size=0
 ·have er:Array.range 0=#[]:=rfl;simp[h0,o,newRow,er]
 ·simp only[h0,if_false,Sem.run_bind,z1,Result.andThen_ok,Sem.run_pure];simp[newRow,o]
end
end
end RX
end
section
namespace RX
noncomputable section
def u8 (c:UInt8):AV:= .int .u8 c.toNat
def Jy (size:Nat) (y:AV) (s:St):Option (List AV×Nat×St):=match kt y with
 | some q=>(s.heap.get q.b).bind λk=>(qv k).bind λr=>(grd (Nat.ble (q.off+q.len * size) r.size)).bind λ_=>some (cj r.per r.zs r.ov q.off (q.len * size),q.len,s.saw q.b)
 | none=>match mi y with
  | some l=>(grd (Nat.beq size 1)).bind λ_=>some (l.map u8,l.length,s)
  | none=>(kz y).bind λ_=>some ([],0,s)
section
variable {P:Program} {E:Env} {X:Nat->Prop} {sg:Ids} {w:World} {s s' s1:St}
theorem zeo (l:List UInt8) (w:World):(Builtin.firstCells 1 l.length (.string ⟨⟨l⟩⟩)).run P w= .ok (l.map λb=>Value.int .u8 b.toNat).toArray w:=by
 have e:((⟨⟨l⟩⟩:ByteArray).extract 0 l.length)=⟨⟨l⟩⟩:=by rw[pu];simp
 simp[Builtin.firstCells,e]
theorem M5 (sg:Ids):∀l:List UInt8,VRs sg (l.map u8) (l.map λb=>Value.int .u8 b.toNat)
 | []=>rfl
 | _c :: l=>⟨_,_,rfl,rfl,M5 sg l⟩
theorem uv {size n:Nat} {y:AV} {u:Value} {xs:List AV} (h:Jy size y s=some (xs,n,s1)) (hy:VR sg y u) (A:Ask X sg w s s') (hrd:∀b,s1.rd.testBit b=true->s'.rd.testBit b=true):
  ∃cs:List Value,VRs sg xs cs/\(∀v∈cs,v.oneCell'=true)/\cs.length=n * size/\(∀w2,(Builtin.lenOf u).run P w2= .ok n w2)/\(∀w2:World,w2.heap=w.heap->(Builtin.firstCells size n u).run P w2= .ok cs.toArray w2)/\
   ((∃b,s1=s.saw b)\/s1=s):=by
 unfold Jy at h;cases hq:kt y with
 | some q=>
  rw[hq]at h;replace h:=bnd h;obtain⟨k,hk,h⟩:=h;replace h:=bnd h;obtain⟨r,hr,h⟩:=h;replace h:=bnd h;obtain⟨_,g,h⟩:=h;obtain⟨rfl,rfl,rfl⟩:_=xs/\_=n/\_=s1:=by simpa using h
  obtain⟨p,c,hp,hc,_,_,rfl⟩:=dy hq hy;obtain⟨_,q',o,e1,e2,e3,_⟩:=A.at hk (.inl (hrd _ (ey s q.b)));rw[hp]at e1;obtain rfl:=Xa e1;rw[fu hr]at e3;obtain⟨cs,c1,c2,c3,c4⟩:=rh e3 e2 (db (ag g));refine⟨cs,c1,c2,c3,λw2=>rfl,λw2 hw=>?_,.inl ⟨_,rfl⟩⟩;refine run_firstCells_some w2 _ _ _ _ _ cs c3 λj v hj=>?_;have:=c4 j v hj;unfold World.cell? at this ⊢;rw[hw];exact this
 | none=>
  rw[hq]at h;dsimp only at h;cases hl:mi y with
  | some l=>
   rw[hl]at h;replace h:=bnd h;obtain⟨_,g,h⟩:=h;obtain⟨rfl,rfl,rfl⟩:_=xs/\_=n/\_=s1:=by simpa using h
   obtain rfl:size=1:=Nat.eq_of_beq_eq_true (ag g);rw[ig hl]at hy;obtain rfl:u=_:=hy;exact⟨_,M5 sg l,λv hv=>by obtain⟨b,_,rfl⟩:=List.mem_map.1 hv;rfl,Yy,λw2=>rfl,λw2 _=>zeo l w2,.inr rfl⟩
  | none=>
   rw[hl]at h;replace h:=bnd h;obtain⟨_,g,h⟩:=h;obtain⟨rfl,rfl,rfl⟩:[]=xs/\0=n/\s=s1:=by simpa[eq_comm]using h
   rw[fj g]at hy;obtain rfl:u=_:=hy;exact⟨[],rfl,Yy,Yy,λw2=>rfl,λw2 _=>by simp[Builtin.firstCells],.inr rfl⟩
def Hx:TypeDesc->Bool
 | .int _=>false
 | _=>true
def zbx (E:Env) (t:TypeId):Option (TypeId×TypeInfo):=(E.und t).bind λd=>(iw d).bind λe=>(E.info e).bind λi=>(grd (Nat.blt 0 i.size)).bind λ_=>some (e,i)
theorem Ls (hE:E.Ok P) {t:TypeId} {x:TypeId×TypeInfo} (h:zbx E t=some x):P.underlying t=some (.slice x.1)/\P.info? x.1=some x.2/\0 < x.2.size:=by
 replace h:=bnd h;obtain⟨d,hd,h⟩:=h;replace h:=bnd h;obtain⟨e,he,h⟩:=h;replace h:=bnd h;obtain⟨i,hi,h⟩:=h;replace h:=bnd h;obtain⟨_,g,h⟩:=h;obtain rfl:=Xa h;have:=hE.und _ _ hd;rw[dh he]at this;exact⟨this,hE.info _ _ hi,by have:=ag g;rwa [Nat.blt_eq]at this⟩
theorem zm {t e ty:TypeId} {i:TypeInfo} {base:Option Addr} {sLen sCap:Nat} {u:Value} (hu:P.underlying t=some (.slice e)) (hi:P.info? e=some i) {ts:Array TypeId} {args:Array Value} (h0:ts[0]?=some t) (h1:args[0]?=some (.slice base sLen sCap)) (h2:args[1]?=some u)
  (hz:∀xt,ts[1]?=some xt->∃d,P.underlying xt=some d/\Hx d=true) {n:Nat} (hn:∀w2,(Builtin.lenOf u).run P w2= .ok n w2) {cs:List Value} (hf:(Builtin.firstCells i.size n u).run P w= .ok cs.toArray w) (hc:sLen+n<=sCap):
  (Builtin.append_ ts ty args).run P w=match base with
   | some a=>((storeCells (a.add (sLen * i.size)) cs).run P w).andThen λ_ w'=> .ok (.slice base (sLen+n) sCap) w'
   | none=> .ok (.slice none (sLen+n) sCap) w:=by
 have hi':=λw=>bg hi w;cases hx:ts[1]? with
 | none=>
  simp only[Builtin.append_,h0,h1,h2,hx,Sem.run_bind,run_underlying hu,Result.andThen_ok,hi',Bool.false_eq_true,if_false,hn,hc,if_true,Bool.not_false,hf,Sem.run_pure];cases base with
  | none=>simp
  | some a=>simp
 | some xt=>
  obtain⟨d,hd,hd2⟩:=hz xt hx;cases d <;> first
   | (exact Bool.noConfusion hd2)
   | (
    simp only[Builtin.append_,h0,h1,h2,hx,Sem.run_bind,run_underlying hu,run_underlying hd,Result.andThen_ok,hi',Bool.false_eq_true,if_false,hn,hc,if_true,Bool.not_false,hf,Sem.run_pure];cases base with
    | none=>simp
    | some a=>simp)
theorem uo {t e ty:TypeId} {i:TypeInfo} {sLen sCap:Nat} {s0 u:Value} {b0:Option Addr} (hs0:s0= .slice b0 sLen sCap) {z:Value} (hu:P.underlying t=some (.slice e)) (hi:P.info? e=some i) (hz0:i.zero=some z) {ts:Array TypeId} {args:Array Value} (h0:ts[0]?=some t) (h1:args[0]?=some s0) (h2:args[1]?=some u)
  (hz:∀xt,ts[1]?=some xt->∃d,P.underlying xt=some d/\Hx d=true) {n:Nat} (hn:∀w2,(Builtin.lenOf u).run P w2= .ok n w2) {cs old:List Value} (hf:∀w2:World,w2.heap=w.heap->(Builtin.firstCells i.size n u).run P w2= .ok cs.toArray w2)
  (hf0:∀w2:World,w2.heap=w.heap->(Builtin.firstCells i.size sLen s0).run P w2= .ok old.toArray w2) (hc:¬sLen+n<=sCap) (_hle:sLen<=sCap) (hb:(sLen+n) * i.bytes<=140737488355328) (hb2:sLen+n<=1000000000):
  ∃(m:Nat) (rest:Array Value),sLen+n<=m/\rest.size=(m - (sLen+n)) * z.cells.size/\(Builtin.append_ ts ty args).run P w= .ok (.slice (some ⟨w.heap.size,0,none⟩) (sLen+n) m) {w with heap:=w.heap.push (.cells (old.toArray ++ cs.toArray ++ rest) e),drawn:=w.drawn+1}:=by
 have hi':=λw=>bg hi w;have hi2:=λw=>eu hi w;have hp48:(2:Nat) ^ 48=281474976710656:=Yz;have hbig:¬(Builtin.nextslicecap (sLen+n) sCap * i.bytes > 2 ^ 48):=by
  rw[hp48];have:=growslice_fits (need:=sLen+n) (old:=sCap) (bytes:=i.bytes) Yx hb;omega
 have hmx:IntKind.i64.max=9223372036854775807:=Yz;have hmax:¬(((sLen+n:Nat):Int) > IntKind.i64.max):=by rw[hmx];omega
 have hq:(Question.appendCap (sLen+n) sCap e).forced=false:=rfl;refine⟨(Question.appendCap (sLen+n) sCap e).cut (w.tape w.drawn (.appendCap (sLen+n) sCap e)),Builtin.zeroCells z.cells ((Question.appendCap (sLen+n) sCap e).cut (w.tape w.drawn (.appendCap (sLen+n) sCap e)) - (sLen+n)),?_,by simp[Builtin.zeroCells],?_⟩
 ·unfold Question.cut;exact Nat.le_add_right _ _
 have k1:=hf {heap:=w.heap,tape:=w.tape,drawn:=w.drawn+1,os:=w.os,output:=w.output} rfl;have k0:=hf0 {heap:=w.heap,tape:=w.tape,drawn:=w.drawn+1,os:=w.os,output:=w.output} rfl;have hzv:∀w,(zeroValue e).run P w= .ok z w:=λw=>by simp[zeroValue,hi2,hz0]
 subst hs0;clear hmx hp48;cases hx:ts[1]? with
 | none=>
  simp only[Builtin.append_,h0,h1,h2,hx,Sem.run_bind,run_underlying hu,Result.andThen_ok,hi',hi2,Bool.false_eq_true,if_false,hn,hc,Bool.not_false,if_true,Sem.run_pure,hmax,false_and,hbig,run_choose,hq,run_askRoom,hzv];rw[k0];simp only[Result.andThen_ok];rw[k1];rfl
 | some xt=>
  obtain⟨d,hd,hd2⟩:=hz xt hx;cases d <;> first
   | (exact Bool.noConfusion hd2)
   | (
    simp only[Builtin.append_,h0,h1,h2,hx,Sem.run_bind,run_underlying hu,run_underlying hd,Result.andThen_ok,hi',hi2,Bool.false_eq_true,if_false,hn,hc,Bool.not_false,if_true,Sem.run_pure,hmax,false_and,hbig,run_choose,hq,run_askRoom,hzv];rw[k0];simp only[Result.andThen_ok];rw[k1];rfl)
theorem Ask.like (A:Ask X sg w s s') (h:s1.heap=s.heap) (hf:s1.fresh=s.fresh):Ask X sg w s1 s':=by
 refine⟨by rw[h];exact A.holds,λb hb=>?_,λb h1 h2=>A.foot b h1 ?_,λb h1 h2=>A.new b (by rw[<-hf];exact h1) h2⟩
 ·rw[hf];exact A.wf b (by unfold St.alive at hb ⊢;rw[<-h];exact hb)
 ·unfold St.alive at h2 ⊢;rw[<-h];exact h2
theorem dx.like {sg':Ids} {w':World} {s2:St} (k:dx X sg w s1 sg' w' s2) (hf:s1.fresh=s.fresh):dx X sg w s sg' w' s2:=by
 have e:∀b,fk X s s2 b->fk X s1 s2 b:=λb hb=>by unfold fk at hb ⊢;rw[hf];exact hb
 refine⟨k.ext,λb p h=>by rw[<-hf];exact k.dom b p h,λb p h1 h2=>k.new b p (by rw[hf];exact h1) h2,?_,k.size,k.os,k.tape,k.output,k.frame⟩;exact⟨λb hb=>k.holds.cell b (e b hb),λb c p hb hc=>k.holds.inj b c p (e b hb) (e c hc)⟩
def Mq (s s1:St):Prop:=s1.heap=s.heap/\s1.fresh=s.fresh
theorem Mq.of {b:Nat} (h:s1=s.saw b):Mq s s1:=by subst h;exact⟨rfl,rfl⟩
theorem pw (h:(∃b,s1=s.saw b)\/s1=s):Mq s s1:=by
 rcases h with ⟨b,rfl⟩ | rfl
 iterate 2 ·exact⟨rfl,rfl⟩
theorem zaF {sg:Ids} {xs:List AV} {vs:List Value} (elem:TypeId) (h:VRs sg xs vs) (h1:∀v∈vs,v.oneCell'=true) (rest:Array Value) (n:Nat) (hn:n=xs.length):BR sg (.cells n true elem n xs .nil) (.cells (vs.toArray ++ rest) elem):=by
 have hl:=h.length;refine⟨vs.toArray ++ rest,(0,0),rfl,.inl (Xc _),by simp[hl,hn],λe=>(by cases e),λi hi=>?_⟩;have hx:xs[i]?=some (cellAt n xs .nil i):=by
  unfold cellAt;have:i < xs.length:=Yx;simp[Nat.mod_eq_of_lt hi,this]
 obtain⟨v,hv,hr⟩:=h.get i _ hx;refine⟨v,?_,h1 v (List.mem_of_getElem? hv),hr⟩;have hlt:=(List.getElem?_eq_some_iff.1 hv).1;rw[Array.getElem?_append_left (by simpa using hlt)];simpa using hv
theorem Tv {sg:Ids} {ys:List AV} {old cs:List Value} {per:Nat} {zs:List AV} {ov:T AV} {m:Nat} (elem:TypeId) (h0:VRs sg (cj per zs ov 0 m) old) (h:VRs sg ys cs) (h1:∀v∈old,v.oneCell'=true) (h2:∀v∈cs,v.oneCell'=true) (rest:Array Value):
  BR sg (.cells (m+ys.length) true elem per zs (setCells ov m ys)) (.cells (old.toArray ++ cs.toArray ++ rest) elem):=by
 have l0:=h0.length;rw[en]at l0;have l1:=h.length;refine⟨_,(0,0),rfl,.inl (Xc _),by simp[l0,l1],λe=>(by cases e),λi hi=>?_⟩;rw[ou]
 by_cases hm:m<=i/\i < m+ys.length
 ·rw[if_pos hm];have hx:ys[i - m]?=some (ys.getD (i - m) .unk):=by
   have:i - m < ys.length:=Yx;simp[this]
  obtain⟨v,hv,hr⟩:=h.get _ _ hx;refine⟨v,?_,h2 v (List.mem_of_getElem? hv),hr⟩;have hlt:=(List.getElem?_eq_some_iff.1 hv).1;rw[Array.getElem?_append_left (by simp;omega),Array.getElem?_append_right (by simp;omega)];simpa[l0]using hv
 ·rw[if_neg hm];have hi':i < m:=Yx;obtain⟨v,hv,hr⟩:=h0.get _ _ (kf per zs ov m 0 i hi');refine⟨v,?_,h1 v (List.mem_of_getElem? hv),by rwa [Nat.zero_add]at hr⟩;rw[Array.getElem?_append_left (by simp;omega),Array.getElem?_append_left (by simp;omega)];simpa using hv
theorem U6 {sg:Ids} {size per p off m:Nat} {opn:Bool} {elem:TypeId} {zs:List AV} {ov:T AV} {o:Obj} {xs:List AV} {vs:List Value} (hb:BR sg (.cells size opn elem per zs ov) o) (hp:w.heap[p]?=some o) (hoff:off<=size) (hm:Sz m o) (hn:off+xs.length<=m)
  (hr:VRs sg xs vs) (h1:∀v∈vs,v.oneCell'=true):
  ∃o',(storeCells ⟨p,off,none⟩ vs).run P w= .ok () (w.putObj p o')/\BR sg (.cells (off+xs.length) true elem per zs (setCells ov off xs)) o'/\Sz m o':=by
 obtain⟨c,fz,rfl,h0,h2,h3,h4⟩:=hb;have hlen:=hr.length;have hm':c.size=m:=hm;obtain⟨c',e1,e2,e3⟩:=i6 P p off elem fz vs 0 c w hp h0 (by simp;omega) h1;refine⟨_,e1,⟨c',fz,rfl,by rw[e2];exact h0,Yx,λh=>(by cases h),λi hi=>?_⟩,e2.trans hm'⟩;rw[e3,ou,hlen];simp only[Nat.add_zero]
 by_cases h:off<=i/\i < off+xs.length
 ·rw[if_pos h,if_pos h];have hx:xs[i - off]?=some (xs.getD (i - off) .unk):=by
   have:i - off < xs.length:=Yx;simp[this]
  obtain⟨v,hv,hr'⟩:=hr.get _ _ hx;exact⟨v,hv,h1 v (List.mem_of_getElem? hv),hr'⟩
 ·rw[if_neg h,if_neg h];exact h4 i Yx
def appTs (E:Env) (ts:Array TypeId):Option Unit:=match ts.toList with
 | _ :: t :: _=>(E.und t).bind λd=>grd (Hx d)
 | _=>some ()
theorem zb2 (hE:E.Ok P) {ts:Array TypeId} {u:Unit} (h:appTs E ts=some u):∀xt,ts[1]?=some xt->∃d,P.underlying xt=some d/\Hx d=true:=λxt hx=>by
 obtain⟨l⟩:=ts;have hx:l[1]?=some xt:=by simpa using hx
 cases l with
 | nil=>cases hx
 | cons a l=>cases l with
  | nil=>cases hx
  | cons b l=>
   obtain rfl:b=xt:=by simpa using hx
   obtain⟨d,hd,h⟩:=bnd (show(E.und b).bind _=some u from h);exact⟨d,hE.und _ _ hd,ag h⟩
def J6 (E:Env) (e:TypeId) (i:TypeInfo) (len:Nat):Option Unit:=
 (B5 E e).bind λz=>(grd (Nat.beq z.length i.size)).bind λ_=>(grd (Nat.ble (len * i.bytes) 140737488355328)).bind λ_=>grd (Nat.ble len 1000000000)
theorem Ck (hE:E.Ok P) {e:TypeId} {i:TypeInfo} {len:Nat} {u:Unit} (hi:P.info? e=some i) (h:J6 E e i len=some u):(∃z,i.zero=some z/\z.cells.size=i.size)/\len * i.bytes<=140737488355328/\len<=1000000000:=by
 replace h:=bnd h;obtain⟨z,hz,h⟩:=h;replace h:=bnd h;obtain⟨_,g1,h⟩:=h;replace h:=bnd h;obtain⟨_,g2,h⟩:=h;refine⟨?_,db (ag g2),db (ag h)⟩;replace hz:=bnd hz;obtain⟨i',hi',hz⟩:=hz;replace hz:=bnd hz;obtain⟨zv,hzv,hz⟩:=hz;have:=hE.info _ _ hi';rw[hi]at this;obtain rfl:=Xa this;refine⟨zv,hzv,?_⟩;have:=(j6 (gt ⟨λ_=>none,λ_=>0⟩ zv) hz).1.length;have g1:=Nat.eq_of_beq_eq_true (ag g1);simp only[Array.length_toList]at this;omega
def vw (E:Env) (s:St) (e:TypeId) (i:TypeInfo) (len:Nat) (xs:List AV):Option (AV×St):=
 (J6 E e i len).bind λ_=>some (.slu s.fresh 0 len i.size,s.new (.cells xs.length true e xs.length xs .nil))
def Jm (E:Env) (ts:Array TypeId) (x y:AV) (s:St):Option (AV×St):=
 (ts[0]?).bind λt=>(zbx E t).bind λei=>(appTs E ts).bind λ_=>(Jy ei.2.size y s).bind λsrc=>match kt x with
  | some q=>(s.heap.get q.b).bind λk=>(qv k).bind λr=>match q.cap with
   | some c=>match Nat.ble (q.len+src.2.1) c with
    | true=>(Nw src.2.2 q.b r (q.off+q.len * ei.2.size) src.1).bind λs2=>some (.sl q.b q.off (q.len+src.2.1) c,s2)
    | false=>(grd (Nat.ble (q.off+q.len * ei.2.size) r.size)).bind λ_=>vw E (src.2.2.saw q.b) ei.1 ei.2 (q.len+src.2.1) (cj r.per r.zs r.ov q.off (q.len * ei.2.size) ++ src.1)
   | none=>(grd (Nat.beq q.off 0)).bind λ_=>(grd (Nat.beq q.es ei.2.size)).bind λ_=>(grd (Nat.beq r.elem ei.1)).bind λ_=>(grd (Nat.ble (q.len * ei.2.size) r.size)).bind λ_=>(J6 E ei.1 ei.2 (q.len+src.2.1)).bind λ_=>
    some (.slu src.2.2.fresh 0 (q.len+src.2.1) ei.2.size,src.2.2.move q.b (.cells (q.len * ei.2.size+src.1.length) true ei.1 r.per r.zs (setCells r.ov (q.len * ei.2.size) src.1)))
  | none=>(kz x).bind λ_=>match src.2.1 with
   | 0=>some (.val (.slice none 0 0),src.2.2)
   | n+1=>vw E src.2.2 ei.1 ei.2 (n+1) src.1
theorem Qp {b off:Nat} {r:Row} {xs:List AV} (h:Nw s b r off xs=some s'):s'.rd=s.rd:=by
 replace h:=bnd h;obtain⟨_,_,h⟩:=h;split at h <;> (obtain rfl:=Xa h;rfl)
theorem zi {n b c:Nat} (h:n.testBit c=true):(n ||| 2 ^ b).testBit c=true:=(cd _ _ _).2 (.inl h)
theorem Gk {e:TypeId} {i:TypeInfo} {len m:Nat} {xs:List AV} {v:AV} {vs:List Value} {rest:Array Value} {u:Value} {sem:Sem Value} (h:vw E s e i len xs=some (v,s')) (A:Ask X sg w s s') (hx:VRs sg xs vs) (h1:∀u∈vs,u.oneCell'=true)
  (hm:len<=m) (hs:m * i.size=vs.length+rest.size) (hu:u= .slice (some ⟨w.heap.size,0,none⟩) len m) (hr:sem.run P w= .ok u {w with heap:=w.heap.push (.cells (vs.toArray ++ rest) e),drawn:=w.drawn+1}):Got P X sg w s sem v s':=by
 replace h:=bnd h;obtain⟨_,_,h⟩:=h;obtain⟨rfl,rfl⟩:_=v/\_=s':=by simpa using h
 have hn:sg s.fresh=none:=A.new s.fresh (Xc _) (Nat.lt_succ_self _);have hk:=(zaF e hx h1 rest _ rfl).mono (Ids.with_ext w.heap.size (m * i.size) hn);refine⟨u,_,_,hr,?_,dx.alloc (n:=m * i.size) (o:= .cells (vs.toArray ++ rest) e) A.holds A.lt hn hk ?_ rfl rfl rfl rfl⟩
 ·rw[hu];exact⟨w.heap.size,m,Ids.with_self ..,hm,by rw[Ids.with_sz];omega,rfl⟩
 ·show _=_;simp[hs]
theorem Pp (hE:E.Ok P) {ts:Array TypeId} {ty:TypeId} {x y v:AV} {ux uy:Value} (h:Jm E ts x y s=some (v,s')) (hx:VR sg x ux) (hy:VR sg y uy) (A:Ask X sg w s s'):Got P X sg w s (Builtin.append_ ts ty #[ux,uy]) v s':=by
 replace h:=bnd h;obtain⟨t,ht,h⟩:=h;replace h:=bnd h;obtain⟨ei,hei,h⟩:=h;replace h:=bnd h;obtain⟨_,hts,h⟩:=h;replace h:=bnd h;obtain⟨⟨ys,n,s1⟩,hsrc,h⟩:=h;obtain⟨hu,hi,hsz⟩:=Ls hE hei;have hz:=zb2 hE hts;cases hq:kt x with
 | some q=>
  rw[hq]at h;replace h:=bnd h;obtain⟨k,hk,h⟩:=h;replace h:=bnd h;obtain⟨r,hr,h⟩:=h;obtain⟨p,c,hp,hc,hcap,hes,rfl⟩:=dy hq hx;cases hqc:q.cap with
  | some cc=>
   rw[hqc]at h;obtain rfl:=hcap cc hqc;dsimp only at h;cases hb:Nat.ble (q.len+n) c with
   | true=>
    rw[hb]at h;obtain⟨s2,hput,h⟩:=bnd h;obtain⟨rfl,rfl⟩:_=v/\_=s':=by simpa using h
    obtain⟨cs,c1,c2,c3,c4,c5,c6⟩:=uv (P:=P) hsrc hy A (λb hb=>by rw[Qp hput];exact hb);obtain⟨g1,g2⟩:=pw c6;obtain⟨w',f1,f2⟩:=Bl (P:=P) hput (by rw[g1];exact hk) hr hp c1 c2 (A.like g1 g2);refine⟨_,sg,w',?_,⟨p,hp,db hb,rfl⟩,f2.like g2⟩;rw[zm hu hi ht rfl rfl hz c4 (c5 w rfl) (db hb)];simp[jr,f1]
   | false=>
    rw[hb]at h;obtain⟨_,hle,h⟩:=bnd h;have hs':s'=(s1.saw q.b).new (.cells (cj r.per r.zs r.ov q.off (q.len * ei.2.size) ++ ys).length true ei.1 (cj r.per r.zs r.ov q.off (q.len * ei.2.size) ++ ys).length (cj r.per r.zs r.ov q.off (q.len * ei.2.size) ++ ys) .nil):=by
     obtain⟨_,_,h'⟩:=bnd h;exact(Prod.mk.inj (Xa h')).2.symm
    obtain⟨cs,c1,c2,c3,c4,c5,c6⟩:=uv (P:=P) hsrc hy A (λb hb=>by rw[hs'];exact zi hb);obtain⟨g1,g2⟩:=pw c6;obtain⟨_,p',o,e1,e2,e3,_⟩:=A.at hk (.inl (by rw[hs'];exact ey s1 q.b));rw[hp]at e1;obtain rfl:=Xa e1;rw[fu hr]at e3;obtain⟨old,d1,d2,d3,d4⟩:=rh e3 e2 (db (ag hle));obtain⟨_,hroom,_⟩:=bnd h;obtain⟨⟨z,hz0,hzs⟩,hb1,hb2⟩:=Ck hE hi hroom;have hnc:¬q.len+n<=c:=λhh=>by
     rw[Nat.ble_eq_true_of_le hh]at hb;cases hb
    have hold:∀w2:World,w2.heap=w.heap->(Builtin.firstCells ei.2.size q.len (.slice (some ⟨p,q.off,none⟩) q.len c)).run P w2= .ok old.toArray w2:=λw2 hw=>by
     refine run_firstCells_some w2 _ _ _ _ _ old d3 λj v hj=>?_;have:=d4 j v hj;unfold World.cell? at this ⊢;rw[hw];exact this
    obtain⟨m,rest,m1,m2,m3⟩:=uo (P:=P) (ty:=ty) rfl hu hi hz0 (args:=#[.slice (some ⟨p,q.off,none⟩) q.len c,uy]) ht rfl rfl hz c4 c5 hold hnc hc hb1 hb2;have e0:old.toArray ++ cs.toArray=(old ++ cs).toArray:=Yy;rw[e0]at m3;have G:=Gk (P:=P) h ((A.like g1 g2).like (s1:=s1.saw q.b) rfl rfl) (d1.append c1) (λu hu=>by
     rcases List.mem_append.1 hu with hu | hu
     ·exact d2 u hu
     ·exact c2 u hu) m1 (by rw[List.length_append,d3,c3,m2,hzs,<-Nat.add_mul,<-Nat.add_mul];congr 1;omega) rfl m3
    obtain⟨u,sg',w',q1,q2,q3⟩:=G;exact⟨u,sg',w',q1,q2,q3.like (s1:=s1.saw q.b) g2⟩
  | none=>
   rw[hqc]at h;replace h:=bnd h;obtain⟨_,h0,h⟩:=h;replace h:=bnd h;obtain⟨_,hes',h⟩:=h;replace h:=bnd h;obtain⟨_,hel,h⟩:=h;replace h:=bnd h;obtain⟨_,hle,h⟩:=h;replace h:=bnd h;obtain⟨_,hroom,h⟩:=h;obtain⟨rfl,rfl⟩:_=v/\_=s':=by simpa using h
   have h0:=Nat.eq_of_beq_eq_true (ag h0);have hes':=Nat.eq_of_beq_eq_true (ag hes');have hel:=Nat.eq_of_beq_eq_true (ag hel);have hle:=db (ag hle);have hes:=hes hqc;obtain⟨⟨z,hz0,hzs⟩,hb1,hb2⟩:=Ck hE hi hroom;obtain⟨cs,c1,c2,c3,c4,c5,c6⟩:=uv (P:=P) hsrc hy A (λb hb=>hb);obtain⟨g1,g2⟩:=pw c6;have A1:=A.like g1 g2;obtain⟨hX,p',o,e1,e2,e3,e4⟩:=A.at hk (.inr ((cd _ _ _).2 (.inr rfl)));rw[hp]at e1;obtain rfl:=Xa e1;rw[fu hr,hel]at e3;have hn:sg s1.fresh=none:=A1.new s1.fresh (Xc _) (Nat.lt_succ_self _);have hyl:ys.length=n * ei.2.size:=by rw[<-c3,c1.length]
   by_cases hcc:q.len+n<=c
   ·have room:q.len * ei.2.size+ys.length<=sg.sz q.b:=by
     rw[hyl,<-Nat.add_mul];refine Nat.le_trans (Nat.mul_le_mul_right _ hcc) ?_;rw[<-hes'];omega
    obtain⟨o',f1,f2,f3⟩:=U6 (P:=P) e3 e2 hle e4 room c1 c2;have hp':p < w.heap.size:=(Array.getElem?_eq_some_iff.1 e2).1;refine⟨.slice (some ⟨p,0,none⟩) (q.len+n) c,sg.with s1.fresh p (sg.sz q.b),w.putObj p o',?_,⟨p,c,Ids.with_self ..,hcc,by rw[Ids.with_sz,<-hes'];omega,rfl⟩,(dx.move (w':=w.putObj p o') A1.holds A1.lt hX hp hn (f2.mono (Ids.with_ext _ _ hn)) f3 (.inl ⟨rfl,rfl⟩) rfl rfl rfl).like g2⟩;rw[zm hu hi ht rfl rfl hz c4 (c5 w rfl) hcc,h0];simp[jr,f1]
   ·obtain⟨old,d1,d2,d3,d4⟩:=rh (off:=q.off) (n:=q.len * ei.2.size) e3 e2 Yx;have hold:∀w2:World,w2.heap=w.heap->(Builtin.firstCells ei.2.size q.len (.slice (some ⟨p,q.off,none⟩) q.len c)).run P w2= .ok old.toArray w2:=λw2 hw=>by
     refine run_firstCells_some w2 _ _ _ _ _ old d3 λj v hj=>?_;have:=d4 j v hj;unfold World.cell? at this ⊢;rw[hw];exact this
    obtain⟨m,rest,m1,m2,m3⟩:=uo (P:=P) (ty:=ty) rfl hu hi hz0 (args:=#[.slice (some ⟨p,q.off,none⟩) q.len c,uy]) ht rfl rfl hz c4 c5 hold hcc hc hb1 hb2;rw[h0]at d1;have hrow:=(Tv ei.1 d1 c1 d2 c2 rest).mono (Ids.with_ext w.heap.size (m * ei.2.size) hn);have hszm:(old.toArray ++ cs.toArray ++ rest).size=m * ei.2.size:=by
     simp only[Array.size_append,List.size_toArray];rw[d3,c3,m2,hzs,<-Nat.add_mul,<-Nat.add_mul];congr 1;omega
    exact⟨_,sg.with s1.fresh w.heap.size (m * ei.2.size),_,m3,⟨w.heap.size,m,Ids.with_self ..,m1,by rw[Ids.with_sz];exact Nat.le_of_eq (Nat.zero_add _),rfl⟩,(dx.move (w':={w with heap:=w.heap.push (.cells (old.toArray ++ cs.toArray ++ rest) ei.1),drawn:=w.drawn+1}) A1.holds A1.lt hX hp hn hrow hszm (.inr ⟨rfl,rfl⟩) rfl rfl rfl).like g2⟩
 | none=>
  rw[hq]at h;replace h:=bnd h;obtain⟨_,hnil,h⟩:=h;rw[fj hnil]at hx;obtain rfl:ux=_:=hx;cases n with
  | zero=>
   obtain⟨rfl,rfl⟩:_=v/\_=s':=by simpa using h
   obtain⟨cs,c1,c2,c3,c4,c5,c6⟩:=uv (P:=P) hsrc hy A (λb hb=>hb);obtain⟨g1,g2⟩:=pw c6;refine⟨.slice none 0 0,sg,w,?_,rfl,dx.same g1 g2 A.holds rfl rfl rfl rfl⟩;rw[zm hu hi ht rfl rfl hz c4 (c5 w rfl) (Xc _)]
  | succ n=>
   have hs':s'=s1.new (.cells ys.length true ei.1 ys.length ys .nil):=by
    obtain⟨_,_,h'⟩:=bnd (show(J6 E ei.1 ei.2 (n+1)).bind _=_ from h);exact(Prod.mk.inj (Xa h')).2.symm
   obtain⟨cs,c1,c2,c3,c4,c5,c6⟩:=uv (P:=P) hsrc hy A (λb hb=>by rw[hs'];exact hb);obtain⟨g1,g2⟩:=pw c6;obtain⟨_,hroom,_⟩:=bnd (show(J6 E ei.1 ei.2 (n+1)).bind _=_ from h);obtain⟨⟨z,hz0,hzs⟩,hb1,hb2⟩:=Ck hE hi hroom;have hold:∀w2:World,w2.heap=w.heap->(Builtin.firstCells ei.2.size 0 (.slice none 0 0)).run P w2= .ok ([]:List Value).toArray w2:=λw2 _=>by simp[Builtin.firstCells]
   obtain⟨m,rest,m1,m2,m3⟩:=uo (P:=P) (sLen:=0) (sCap:=0) (ty:=ty) rfl hu hi hz0 (args:=#[.slice none 0 0,uy]) ht rfl rfl hz c4 c5 hold Yx (Xc _) (by rw[Nat.zero_add];exact hb1) (by rw[Nat.zero_add];exact hb2);rw[Nat.zero_add]at m1 m2 m3;have e0:([]:List Value).toArray ++ cs.toArray=cs.toArray:=Yy;rw[e0]at m3;obtain⟨u,sg',w',q1,q2,q3⟩:=Gk (P:=P) h (A.like g1 g2) c1 c2 m1 (by rw[c3,m2,hzs,<-Nat.add_mul];congr 1;omega) rfl m3;exact⟨u,sg',w',q1,q2,q3.like g2⟩
end
end
end RX
end
section
namespace RX
noncomputable section
section
variable {P:Program} {E:Env} {X:Nat->Prop} {sg:Ids} {w:World} {s s' s1:St}
def goI (n:Nat):AV:= .int .i64 n
theorem Fy {size n m:Nat} {y:AV} {u:Value} {xs:List AV} (h:Jy size y s=some (xs,n,s1)) (hm:m<=n) (hy:VR sg y u) (A:Ask X sg w s s') (hrd:∀b,s1.rd.testBit b=true->s'.rd.testBit b=true):
  ∃cs:List Value,VRs sg (xs.take (m * size)) cs/\(∀v∈cs,v.oneCell'=true)/\(∀w2,(Builtin.lenOf u).run P w2= .ok n w2)/\(Builtin.firstCells size m u).run P w= .ok cs.toArray w/\Mq s s1:=by
 unfold Jy at h;cases hq:kt y with
 | some q=>
  rw[hq]at h;replace h:=bnd h;obtain⟨k,hk,h⟩:=h;replace h:=bnd h;obtain⟨r,hr,h⟩:=h;replace h:=bnd h;obtain⟨_,g,h⟩:=h;obtain⟨rfl,rfl,rfl⟩:_=xs/\_=n/\_=s1:=by simpa using h
  obtain⟨p,c,hp,hc,_,_,rfl⟩:=dy hq hy;obtain⟨_,q',o,e1,e2,e3,_⟩:=A.at hk (.inl (hrd _ (ey s q.b)));rw[hp]at e1;obtain rfl:=Xa e1;rw[fu hr]at e3;obtain⟨cs,c1,c2,c3,c4⟩:=rh e3 e2 (db (ag g));have hle:m * size<=q.len * size:=Nat.mul_le_mul_right _ hm;refine⟨cs.take (m * size),c1.take _,λv hv=>c2 v (List.mem_of_mem_take hv),λw2=>rfl,?_,rfl,rfl⟩;refine run_firstCells_some w _ _ _ _ _ _ (by rw[List.length_take];omega) λj v hj=>?_;rw[List.getElem?_take]at hj;split at hj
  ·exact c4 j v hj
  ·cases hj
 | none=>
  rw[hq]at h;dsimp only at h;cases hl:mi y with
  | some l=>
   rw[hl]at h;replace h:=bnd h;obtain⟨_,g,h⟩:=h;obtain⟨rfl,rfl,rfl⟩:_=xs/\_=n/\_=s1:=by simpa using h
   obtain rfl:size=1:=Nat.eq_of_beq_eq_true (ag g);rw[ig hl]at hy;obtain rfl:u=_:=hy;refine⟨(l.take m).map λb=>Value.int .u8 b.toNat,?_,λv hv=>by obtain⟨b,_,rfl⟩:=List.mem_map.1 hv;rfl,λw2=>rfl,?_,rfl,rfl⟩
   ·rw[Nat.mul_one,<-List.map_take];exact M5 sg _
   ·have e:((⟨⟨l⟩⟩:ByteArray).extract 0 m)=⟨⟨l.take m⟩⟩:=by rw[pu];simp
    simp[Builtin.firstCells,e]
  | none=>
   rw[hl]at h;replace h:=bnd h;obtain⟨_,g,h⟩:=h;obtain⟨rfl,rfl,rfl⟩:[]=xs/\0=n/\s=s1:=by simpa[eq_comm]using h
   rw[fj g]at hy;obtain rfl:u=_:=hy;exact⟨[],by rw[List.take_nil];rfl,Yy,λw2=>rfl,by simp[Builtin.firstCells],rfl,rfl⟩
def zbH (E:Env) (ts:Array TypeId) (x y:AV) (s:St):Option (AV×St):=
 (ts[0]?).bind λt=>(zbx E t).bind λei=>(Jy ei.2.size y s).bind λsrc=>match kt x with
  | some q=>(s.heap.get q.b).bind λk=>(qv k).bind λr=>(Nw src.2.2 q.b r q.off (src.1.take (Nat.min src.2.1 q.len * ei.2.size))).bind λs2=>some (goI (Nat.min src.2.1 q.len),s2)
  | none=>(kz x).bind λ_=>some (goI 0,src.2.2)
theorem zbG (hE:E.Ok P) {ts:Array TypeId} {ty:TypeId} {x y v:AV} {ux uy:Value} (h:zbH E ts x y s=some (v,s')) (hx:VR sg x ux) (hy:VR sg y uy) (A:Ask X sg w s s'):Got P X sg w s (Builtin.copy_ ts ty #[ux,uy]) v s':=by
 replace h:=bnd h;obtain⟨t,ht,h⟩:=h;replace h:=bnd h;obtain⟨ei,hei,h⟩:=h;replace h:=bnd h;obtain⟨⟨ys,n,s1⟩,hsrc,h⟩:=h;obtain⟨hu,hi,hsz⟩:=Ls hE hei;have hi':=λw=>bg hi w;cases hq:kt x with
 | some q=>
  rw[hq]at h;replace h:=bnd h;obtain⟨k,hk,h⟩:=h;replace h:=bnd h;obtain⟨r,hr,h⟩:=h;obtain⟨s2,hput,h⟩:=bnd h;obtain⟨rfl,rfl⟩:_=v/\_=s':=by simpa using h
  obtain⟨p,c,hp,hc,_,_,rfl⟩:=dy hq hx;obtain⟨cs,c1,c2,c4,c5,g1,g2⟩:=Fy (P:=P) (m:=Nat.min n q.len) hsrc (Nat.min_le_left _ _) hy A (λb hb=>by rw[Qp hput];exact hb);obtain⟨w',f1,f2⟩:=Bl (P:=P) hput (by rw[g1];exact hk) hr hp c1 c2 (A.like g1 g2);refine⟨_,sg,w',?_,rfl,f2.like g2⟩;simp only[Builtin.copy_,ht,List.getElem?_toArray,List.getElem?_cons_zero,List.getElem?_cons_succ,Sem.run_bind,run_underlying hu,Result.andThen_ok,c4,hi',c5,f1,Sem.run_pure];rfl
 | none=>
  rw[hq]at h;replace h:=bnd h;obtain⟨_,hnil,h⟩:=h;rw[fj hnil]at hx;obtain rfl:ux=_:=hx;obtain⟨rfl,rfl⟩:_=v/\_=s':=by simpa using h
  obtain⟨cs,c1,c2,c4,c5,g1,g2⟩:=Fy (P:=P) (m:=0) hsrc (Nat.zero_le _) hy A (λb hb=>hb);refine⟨.int .i64 0,sg,w,?_,rfl,dx.same g1 g2 A.holds rfl rfl rfl rfl⟩;have hm:Nat.min n 0=0:=Nat.min_zero n;simp only[Builtin.copy_,ht,List.getElem?_toArray,List.getElem?_cons_zero,List.getElem?_cons_succ,Sem.run_bind,run_underlying hu,Result.andThen_ok,c4,hi',hm,c5,Sem.run_pure];rfl
def lenA (E:Env) (ts:Array TypeId) (x:AV):Option AV:=
 (ts[0]?).bind λt=>(E.und t).bind λd=>match jz d with
  | true=>(mi x).bind λl=>some (goI l.length)
  | false=>(iw d).bind λ_=>match kt x with
   | some q=>some (goI q.len)
   | none=>(kz x).bind λ_=>some (goI 0)
theorem lenA_ok (hE:E.Ok P) {ts:Array TypeId} {ty:TypeId} {x v:AV} {ux:Value} (h:lenA E ts x=some v) (hx:VR sg x ux) (A:Ask X sg w s s):Got P X sg w s (Builtin.len_ ts ty #[ux]) v s:=by
 replace h:=bnd h;obtain⟨t,ht,h⟩:=h;replace h:=bnd h;obtain⟨d,hd,h⟩:=h;have hd':=hE.und _ _ hd;cases hs:jz d with
 | true=>
  rw[hs]at h;obtain⟨l,hl,h⟩:=bnd h;obtain rfl:=Xa h;rw[ig hl]at hx;obtain rfl:ux=_:=hx;rw[jd hs]at hd';refine Got.pure A (u:= .int .i64 l.length) ?_ rfl;have e:(⟨⟨l⟩⟩:ByteArray).size=l.length:=rfl;simp[Builtin.len_,ht,run_underlying hd',goInt,e]
 | false=>
  rw[hs]at h;obtain⟨e,he,h⟩:=bnd h;rw[dh he]at hd';cases hq:kt x with
  | some q=>
   rw[hq]at h;obtain rfl:=Xa h;obtain⟨p,c,hp,hc,_,_,rfl⟩:=dy hq hx;refine Got.pure A (u:= .int .i64 q.len) ?_ rfl;simp[Builtin.len_,ht,run_underlying hd',goInt]
  | none=>
   rw[hq]at h;obtain⟨_,hn,h⟩:=bnd h;obtain rfl:=Xa h;rw[fj hn]at hx;obtain rfl:ux=_:=hx;refine Got.pure A (u:= .int .i64 0) ?_ rfl;simp[Builtin.len_,ht,run_underlying hd',goInt]
def capA (E:Env) (ts:Array TypeId) (x:AV):Option AV:=
 (ts[0]?).bind λt=>(E.und t).bind λd=>(iw d).bind λ_=>match kt x with
  | some q=>q.cap.bind λc=>some (goI c)
  | none=>(kz x).bind λ_=>some (goI 0)
theorem capA_ok (hE:E.Ok P) {ts:Array TypeId} {ty:TypeId} {x v:AV} {ux:Value} (h:capA E ts x=some v) (hx:VR sg x ux) (A:Ask X sg w s s):Got P X sg w s (Builtin.cap_ ts ty #[ux]) v s:=by
 replace h:=bnd h;obtain⟨t,ht,h⟩:=h;replace h:=bnd h;obtain⟨d,hd,h⟩:=h;have hd':=hE.und _ _ hd;obtain⟨e,he,h⟩:=bnd h;rw[dh he]at hd';cases hq:kt x with
 | some q=>
  rw[hq]at h;obtain⟨c',hc',h⟩:=bnd h;obtain rfl:=Xa h;obtain⟨p,c,hp,hc,hcap,_,rfl⟩:=dy hq hx;obtain rfl:=hcap _ hc';refine Got.pure A (u:= .int .i64 c) ?_ rfl;simp[Builtin.cap_,ht,run_underlying hd',goInt]
 | none=>
  rw[hq]at h;obtain⟨_,hn,h⟩:=bnd h;obtain rfl:=Xa h;rw[fj hn]at hx;obtain rfl:ux=_:=hx;refine Got.pure A (u:= .int .i64 0) ?_ rfl;simp[Builtin.cap_,ht,run_underlying hd',goInt]
theorem Got.ev {m:Sem Value} {r:Value} (h:RX.ev P m=some r) (A:Ask X sg w s s):Got P X sg w s m (ye r) s:=Got.pure A (Ef h w) (gt sg r)
def O4 (E:Env) (ts:Array TypeId) (x:AV) (s:St):Option (AV×St):=
 (ts[0]?).bind λt=>(E.und t).bind λd=>(iw d).bind λe=>(B5 E e).bind λz=>(kt x).bind λq=>(grd (Nat.blt 0 q.len)).bind λ_=>(grd (Nat.blt 0 z.length)).bind λ_=>(s.heap.get q.b).bind λk=>(qv k).bind λr=>(Nw s q.b r q.off (zai z q.len)).bind λs2=>some (.tup [],s2)
theorem Wl (hE:E.Ok P) {ts:Array TypeId} {ty:TypeId} {x v:AV} {ux:Value} (h:O4 E ts x s=some (v,s')) (hx:VR sg x ux) (A:Ask X sg w s s'):Got P X sg w s (Builtin.clear_ ts ty #[ux]) v s':=by
 replace h:=bnd h;obtain⟨t,ht,h⟩:=h;replace h:=bnd h;obtain⟨d,hd,h⟩:=h;have hd':=hE.und _ _ hd;obtain⟨e,he,h⟩:=bnd h;rw[dh he]at hd';replace h:=bnd h;obtain⟨z,hz,h⟩:=h;replace h:=bnd h;obtain⟨q,hq,h⟩:=h;replace h:=bnd h;obtain⟨_,hl,h⟩:=h;replace h:=bnd h;obtain⟨_,hzl,h⟩:=h;replace h:=bnd h;obtain⟨k,hk,h⟩:=h;replace h:=bnd h;obtain⟨r,hr,h⟩:=h;obtain⟨s2,hput,h⟩:=bnd h;obtain⟨rfl,rfl⟩:_=v/\_=s':=by simpa using h
 obtain⟨p,c,hp,hc,_,_,rfl⟩:=dy hq hx;obtain⟨zv,z1,z2,z3⟩:=pp hE hz;have hl:0 < q.len:=by have:=ag hl;rwa [Nat.blt_eq]at this
 have hzl:0 < z.length:=by have:=ag hzl;rwa [Nat.blt_eq]at this
 have hlz:zv.cells.toList.length=z.length:=(z2 sg).length;have hrep:=Hl z2 Yx q.len sg;have hone:=J9 z3 Yx (q.len * zv.cells.toList.length);obtain⟨w',f1,f2⟩:=Bl (P:=P) hput hk hr hp hrep hone A;refine⟨.tuple #[],sg,w',?_,⟨[],rfl,rfl⟩,f2⟩;have hzc:(Builtin.zeroCells zv.cells q.len).toList=(List.range (q.len * zv.cells.toList.length)).map λk=>zv.cells.toList[k % zv.cells.toList.length]! :=by
  have:=R3 zv.cells.toList (q.len * zv.cells.toList.length);simp only[Array.toArray_toList]at this;exact congrArg Array.toList this
 obtain⟨n,hn⟩:∃n,q.len=n+1:=⟨q.len - 1,Yx⟩;rw[hn]at hzc f1 ⊢;simp only[Builtin.clear_,ht,List.getElem?_toArray,List.getElem?_cons_zero,Sem.run_bind,run_underlying hd',Result.andThen_ok,z1,hzc,f1,Sem.run_pure]
end
end
end RX
end
section
namespace RX
noncomputable section
def vq:TypeDesc->Option TypeId
 | .pointer e=>some e
 | _=>none
theorem lk {d:TypeDesc} {e:TypeId} (h:vq d=some e):d= .pointer e:=by
 cases d <;> first | (cases h;done) | (obtain rfl:=Xa h;rfl)
def intOf:TypeDesc->Option IntKind
 | .int k=>some k
 | _=>none
theorem Of {d:TypeDesc} {e:IntKind} (h:intOf d=some e):d= .int e:=by
 cases d <;> first | (cases h;done) | (obtain rfl:=Xa h;rfl)
def Rb:TypeDesc->Option (TypeId×TypeId)
 | .map k e=>some (k,e)
 | _=>none
theorem ub {d:TypeDesc} {e:TypeId×TypeId} (h:Rb d=some e):d= .map e.1 e.2:=by
 cases d <;> first | (cases h;done) | (obtain rfl:=Xa h;rfl)
def rk:TypeDesc->Option (Array (String×TypeId))
 | .interface m=>some m
 | _=>none
theorem Im {d:TypeDesc} {e:Array (String×TypeId)} (h:rk d=some e):d= .interface e:=by
 cases d <;> first | (cases h;done) | (obtain rfl:=Xa h;rfl)
def Ds:TypeDesc->Bool
 | .unsafePointer=>true
 | _=>false
theorem sk {d:TypeDesc} (h:Ds d=true):d= .unsafePointer:=by
 cases d <;> first | rfl | (cases h;done)
def isU8:TypeDesc->Bool
 | .int .u8=>true
 | _=>false
theorem Gi {d:TypeDesc} (h:isU8 d=true):d= .int .u8:=by
 unfold isU8 at h;split at h
 ·rfl
 ·cases h
def asAgg:AV->Option (List AV)
 | .agg l=>some l
 | _=>none
theorem Po {a:AV} {l:List AV} (h:asAgg a=some l):a= .agg l:=by
 cases a <;> first | (cases h;done) | (obtain rfl:=Xa h;rfl)
def Ji:AV->Option (TypeId×AV)
 | .iface t v=>some (t,v)
 | _=>none
theorem wt {a:AV} {l:TypeId×AV} (h:Ji a=some l):a= .iface l.1 l.2:=by
 cases a <;> first | (cases h;done) | (obtain rfl:=Xa h;rfl)
section
variable {P:Program} {E:Env} {X:Nat->Prop} {sg:Ids} {w:World} {s s' s1:St}
def partA (E:Env) (t:TypeId) (l:List AV) (off:Nat):Option AV:=
 (E.info t).bind λi=>(E.und t).bind λd=>match Mm d with
  | true=>some (.agg ((l.take (off+i.size)).drop off))
  | false=>l[off]?
theorem zay (hE:E.Ok P) {t:TypeId} {l:List AV} {cs:List Value} {off:Nat} {v:AV} (h:partA E t l off=some v) (hl:VRs sg l cs):∃u,(part t ⟨cs⟩ off).run P w= .ok u w/\VR sg v u:=by
 replace h:=bnd h;obtain⟨i,hi,h⟩:=h;replace h:=bnd h;obtain⟨d,hd,h⟩:=h;have hd':=qb (hE.und _ _ hd) w;have hi':=bg (hE.info _ _ hi) w;cases hg:Mm d with
 | true=>
  rw[hg]at h hd';obtain rfl:=Xa h;refine⟨.agg ⟨(cs.take (off+i.size)).drop off⟩,?_,⟨_,(hl.take _).drop _,rfl⟩⟩;simp[part,hd',hi',List.extract_eq_take_drop,List.drop_take]
 | false=>
  rw[hg]at h hd';obtain⟨u,hu,hr⟩:=hl.get off v h;refine⟨u,?_,hr⟩;simp[part,hd',hu]
def zbl (E:Env) (t:TypeId) (x ix:AV):Option AV:=
 (asInt ix).bind λk=>(si k.2).bind λn=>(E.und t).bind λd=>match tc d with
  | some q=>(grd (Nat.blt n q.1)).bind λ_=>(asAgg x).bind λl=>(E.info q.2).bind λi=>partA E q.2 l (n * i.size)
  | none=>(grd (jz d)).bind λ_=>(mi x).bind λl=>(l[n]?).bind λc=>some (u8 c)
theorem U4 (hE:E.Ok P) {t:TypeId} {x ix v:AV} {u y:Value} (h:zbl E t x ix=some v) (hx:VR sg x u) (hi:VR sg ix y) (A:Ask X sg w s s):Got P X sg w s (Instr.index t u y) v s:=by
 replace h:=bnd h;obtain⟨k,hk,h⟩:=h;replace h:=bnd h;obtain⟨n,hn,h⟩:=h;replace h:=bnd h;obtain⟨d,hd,h⟩:=h;rw[ew hk]at hi;obtain rfl:y=_:=hi;have hd':=hE.und _ _ hd;have hn':=rm hn;cases hq:tc d with
 | some q=>
  rw[hq]at h;obtain⟨_,hb,h⟩:=bnd h;obtain⟨l,hl,h⟩:=bnd h;obtain⟨i,hi,h⟩:=bnd h;rw[Po hl]at hx;obtain⟨cs,hcs,rfl⟩:=hx;rw[lw hq]at hd';have hlt:n < q.1:=by have:=ag hb;rwa [Nat.blt_eq]at this
  obtain⟨u,e1,e2⟩:=zay (w:=w) hE h hcs;refine Got.pure A (u:=u) ?_ e2;simp[Instr.index,asIntOf,run_underlying hd',hn',hlt,bg (hE.info _ _ hi),e1]
 | none=>
  rw[hq]at h;obtain⟨_,hs,h⟩:=bnd h;obtain⟨l,hl,h⟩:=bnd h;obtain⟨c,hc,h⟩:=bnd h;obtain rfl:=Xa h;rw[ig hl]at hx;obtain rfl:u=_:=hx;rw[jd (ag hs)]at hd';refine Got.pure A (u:= .int .u8 c.toNat) ?_ rfl;have e:(⟨⟨l⟩⟩:ByteArray)[n]?=some c:=by
   have hlt:n < (⟨⟨l⟩⟩:ByteArray).size:=(List.getElem?_eq_some_iff.1 hc).1;rw[getElem?_pos (⟨⟨l⟩⟩:ByteArray) n hlt];exact congrArg some (List.getElem?_eq_some_iff.1 hc).2
  simp[Instr.index,asIntOf,run_underlying hd',hn',e]
def Ry (E:Env) (x:AV) (t:TypeId) (ok:Bool):Option AV:=
 (Ji x).bind λy=>(E.und t).bind λd=>match rk d with
  | some want=>(E.info y.1).bind λi=>match Instr.missingMethod want i.methods with
   | none=>some (match ok with | true=> .tup [x,.bool true] | false=>x)
   | some _=>match ok with
    | true=>(E.info t).bind λj=>j.zero.bind λz=>some (.tup [ye z,.bool false])
    | false=>none
  | none=>match Nat.beq y.1 t with
   | true=>some (match ok with | true=> .tup [y.2,.bool true] | false=>y.2)
   | false=>match ok with
    | true=>(E.info t).bind λj=>j.zero.bind λz=>some (.tup [ye z,.bool false])
    | false=>none
theorem tq {t:TypeId} {i:TypeInfo} {z:Value} (h:P.info? t=some i) (hz:i.zero=some z) (w:World):(zeroValue t).run P w= .ok z w:=by simp[zeroValue,eu h,hz]
theorem Pj (hE:E.Ok P) {x v:AV} {xt t:TypeId} {ok:Bool} {u:Value} (h:Ry E x t ok=some v) (hx:VR sg x u) (A:Ask X sg w s s):Got P X sg w s (Instr.typeAssert u xt t ok) v s:=by
 replace h:=bnd h;obtain⟨y,hy,h⟩:=h;replace h:=bnd h;obtain⟨d,hd,h⟩:=h;have hd':=hE.und _ _ hd;have hx':=hx;rw[wt hy]at hx';obtain⟨z,hz,rfl⟩:=hx';cases hi:rk d with
 | some want=>
  rw[hi]at h;rw[Im hi]at hd';obtain⟨i,hi2,h⟩:=bnd h;have hti:=eu (hE.info _ _ hi2) w;cases hm:Instr.missingMethod want i.methods with
  | none=>
   rw[hm]at h;cases ok with
   | true=>
    obtain rfl:=Xa h;refine Got.pure A (u:= .tuple #[.iface y.1 z,.bool true]) ?_ ⟨_,⟨_,_,rfl,hx,⟨_,_,rfl,rfl,rfl⟩⟩,rfl⟩;simp[Instr.typeAssert,run_underlying hd',hti,hm]
   | false=>
    obtain rfl:=Xa h;refine Got.pure A (u:= .iface y.1 z) ?_ hx;simp[Instr.typeAssert,run_underlying hd',hti,hm]
  | some m=>
   rw[hm]at h;cases ok with
   | true=>
    obtain⟨j,hj,h⟩:=bnd h;obtain⟨zv,hzv,h⟩:=bnd h;obtain rfl:=Xa h;refine Got.pure A (u:= .tuple #[zv,.bool false]) ?_ ⟨_,⟨_,_,rfl,gt sg zv,⟨_,_,rfl,rfl,rfl⟩⟩,rfl⟩;simp[Instr.typeAssert,run_underlying hd',hti,hm,tq (hE.info _ _ hj) hzv]
   | false=>cases h
 | none=>
  rw[hi]at h;have hne:∀ms,d≠.interface ms:=λms e=>by rw[e]at hi;cases hi
  cases hb:Nat.beq y.1 t with
  | true=>
   have hb':=Nat.eq_of_beq_eq_true hb;rw[hb]at h;cases ok with
   | true=>
    obtain rfl:=Xa h;refine Got.pure A (u:= .tuple #[z,.bool true]) ?_ ⟨_,⟨_,_,rfl,hz,⟨_,_,rfl,rfl,rfl⟩⟩,rfl⟩;cases d <;> first | (exact absurd rfl (hne _)) | simp[Instr.typeAssert,run_underlying hd',hb']
   | false=>
    obtain rfl:=Xa h;refine Got.pure A (u:=z) ?_ hz;cases d <;> first | (exact absurd rfl (hne _)) | simp[Instr.typeAssert,run_underlying hd',hb']
  | false=>
   have hb':¬y.1=t:=λe=>by rw[<-Nat.beq_eq,hb]at e;cases e
   rw[hb]at h;cases ok with
   | true=>
    obtain⟨j,hj,h⟩:=bnd h;obtain⟨zv,hzv,h⟩:=bnd h;obtain rfl:=Xa h;refine Got.pure A (u:= .tuple #[zv,.bool false]) ?_ ⟨_,⟨_,_,rfl,gt sg zv,⟨_,_,rfl,rfl,rfl⟩⟩,rfl⟩;cases d <;> first | (exact absurd rfl (hne _)) | simp[Instr.typeAssert,run_underlying hd',hb',tq (hE.info _ _ hj) hzv]
   | false=>cases h
end
end
end RX
end
section
namespace RX
noncomputable section
def k8:List UInt8->List UInt8->Bool
 | [],[]=>true
 | a :: x,b :: y=>match Nat.beq a.toNat b.toNat with
  | true=>k8 x y
  | false=>false
 | _,_=>false
theorem j3:∀a b:List UInt8,k8 a b=(a == b)
 | [],[]=>rfl
 | [],_ :: _=>rfl
 | _ :: _,[]=>rfl
 | a :: x,b :: y=>by
  unfold k8;rw[List.cons_beq_cons]
  by_cases h:a=b
  ·subst h;have:Nat.beq a.toNat a.toNat=true:=Nat.beq_refl _;rw[this];simp[j3 x y]
  ·have:Nat.beq a.toNat b.toNat=false:=by
    rw[<-Bool.not_eq_true,Nat.beq_eq];exact λe=>h (UInt8.toNat_inj.1 e)
   rw[this];simp[h]
def Z1 (op:BinOp) (a b:List UInt8):Option AV:=match op with
 | .add=>(grd (Nat.ble (a.length+b.length) 1000000000)).bind λ_=>some (.str (a ++ b))
 | .eql=>some (.bool (k8 a b))
 | .neq=>some (.bool (!(k8 a b)))
 | _=>none
def eqB (op:BinOp) (b:Bool):Option AV:=match op with
 | .eql=>some (.bool b)
 | .neq=>some (.bool (!b))
 | _=>none
def Id:AV->AV->Nat
 | .ptr ..,.val (.pointer none)=>1
 | .sl ..,.val (.slice none 0 0)=>2
 | .slu ..,.val (.slice none 0 0)=>2
 | .map ..,.val (.map none)=>3
 | .iface ..,.val .nilIface=>4
 | _,_=>0
def kindD:TypeDesc->Nat
 | .pointer _=>1
 | .slice _=>2
 | .map _ _=>3
 | .interface _=>4
 | _=>0
def ptrCmp (E:Env) (op:BinOp) (t:TypeId) (p q:Nat×Nat):Option AV:=
 (E.und t).bind λd=>(vq d).bind λe=>(E.info e).bind λi=>(grd (Nat.blt 0 i.size)).bind λ_=>(grd (Nat.beq p.1 q.1)).bind λ_=>eqB op (Nat.beq p.2 q.2)
def binA (E:Env) (P:Program) (op:BinOp) (t:TypeId) (ox oy:Operand) (x y:AV):Option AV:=match asInt x with
 | some a=>(asInt y).bind λb=>(ev P (Go.binOp op t (.int a.1 a.2) (.int b.1 b.2))).bind λr=>some (ye r)
 | none=>match mi x with
  | some a=>(mi y).bind λb=>Z1 op a b
  | none=>match Id x y with
   | k+1=>(E.und t).bind λd=>(grd (Nat.beq (kindD d) (k+1))).bind λ_=>eqB op false
   | 0=>match lu x with
    | some p=>(lu y).bind λq=>ptrCmp E op t p q
    | none=>(ql x).bind λu=>(ql y).bind λv=>(ev P (do eqGuard op t ox oy u v;Go.binOp op t u v)).bind λr=>some (ye r)
section
variable {P:Program} {E:Env} {X:Nat->Prop} {sg:Ids} {w:World} {s s' s1:St}
theorem Sj {op:BinOp} {t:TypeId} {a b:List UInt8} {v:AV} (h:Z1 op a b=some v) (w:World):∃u,(Go.binOp op t (.string ⟨⟨a⟩⟩) (.string ⟨⟨b⟩⟩)).run P w= .ok u w/\VR sg v u:=by
 cases op with
 | add=>
  obtain⟨_,g,h⟩:=bnd (show(grd _).bind _=some v from h);obtain rfl:=Xa h;have g:=db (ag g);refine⟨.string ⟨⟨a ++ b⟩⟩,?_,rfl⟩;have hmx:IntKind.i64.max=9223372036854775807:=Yz;have e1:(⟨⟨a⟩⟩:ByteArray).size=a.length:=rfl;have e2:(⟨⟨b⟩⟩:ByteArray).size=b.length:=rfl;have e3:(⟨⟨a⟩⟩:ByteArray) ++ ⟨⟨b⟩⟩=⟨⟨a ++ b⟩⟩:=by
   apply ByteArray.ext;simp
  have big:¬(((a.length+b.length:Nat):Int) > IntKind.i64.max):=by rw[hmx];omega
  have:(Go.binOp .add t (.string ⟨⟨a⟩⟩) (.string ⟨⟨b⟩⟩))=Op.stringOp .add ⟨⟨a⟩⟩ ⟨⟨b⟩⟩:=rfl;rw[this];unfold Op.stringOp;simp only[e1,e2,big,if_false,e3,Sem.run_pure]
 | eql=>
  obtain rfl:=Xa h;refine⟨.bool (k8 a b),?_,rfl⟩;have:(Go.binOp .eql t (.string ⟨⟨a⟩⟩) (.string ⟨⟨b⟩⟩))=Op.stringOp .eql ⟨⟨a⟩⟩ ⟨⟨b⟩⟩:=rfl;rw[this];unfold Op.stringOp;simp only[ByteArray.toList_eq,j3,Sem.run_pure]
 | neq=>
  obtain rfl:=Xa h;refine⟨.bool (!(k8 a b)),?_,rfl⟩;have:(Go.binOp .neq t (.string ⟨⟨a⟩⟩) (.string ⟨⟨b⟩⟩))=Op.stringOp .neq ⟨⟨a⟩⟩ ⟨⟨b⟩⟩:=rfl;rw[this];unfold Op.stringOp;simp only[ByteArray.toList_eq,j3,Sem.run_pure]
 | _=>cases h
theorem yp {op:BinOp} {t:TypeId} {a b:Value} {r:Bool} {v:AV} (h:eqB op r=some v) (w:World) (h1:Go.binOp .eql t a b=(do let r<-Op.equal t a b;pure (.bool r))) (h1':Go.binOp .neq t a b=(do let r<-Op.equal t a b;pure (.bool (!r))))
  (h2:∀d,(Op.equalIn (d+1) t a b).run P w= .ok r w):∃u,(Go.binOp op t a b).run P w= .ok u w/\VR sg v u:=by
 have h3:(Op.equal t a b).run P w= .ok r w:=h2 9999;cases op with
 | eql=>
  obtain rfl:=Xa h;exact⟨.bool r,by rw[h1];simp[h3],rfl⟩
 | neq=>
  obtain rfl:=Xa h;exact⟨.bool (!r),by rw[h1'];simp[h3],rfl⟩
 | _=>cases h
theorem binA_ok (hE:E.Ok P) {op:BinOp} {t:TypeId} {ox oy:Operand} {x y v:AV} {ux uy:Value} (h:binA E P op t ox oy x y=some v) (hx:VR sg x ux) (hy:VR sg y uy) (A:Ask X sg w s s):
  Got P X sg w s (do eqGuard op t ox oy ux uy;Go.binOp op t ux uy) v s:=by
 unfold binA at h;have fin:∀u,(eqGuard op t ox oy ux uy).run P w= .ok () w->(Go.binOp op t ux uy).run P w= .ok u w->VR sg v u->Got P X sg w s (do eqGuard op t ox oy ux uy;Go.binOp op t ux uy) v s:=λu h1 h2 h3=>
  Got.pure A (u:=u) (by simp[h1,h2]) h3
 cases ha:asInt x with
 | some a=>
  rw[ha]at h;obtain⟨b,hb,h⟩:=bnd h;obtain⟨r,hr,h⟩:=bnd h;obtain rfl:=Xa h;rw[ew ha]at hx;rw[ew hb]at hy;obtain rfl:ux=_:=hx;obtain rfl:uy=_:=hy;exact fin r (by cases op <;> rfl) (Ef hr w) (gt sg r)
 | none=>
  rw[ha]at h;dsimp only at h;cases hs:mi x with
  | some a=>
   rw[hs]at h;obtain⟨b,hb,h⟩:=bnd h;rw[ig hs]at hx;rw[ig hb]at hy;obtain rfl:ux=_:=hx;obtain rfl:uy=_:=hy;obtain⟨u,e1,e2⟩:=Sj (P:=P) (t:=t) (sg:=sg) h w;exact fin u (by cases op <;> rfl) e1 e2
  | none=>
   rw[hs]at h;dsimp only at h;cases hk:Id x y with
   | succ k=>
    rw[hk]at h;obtain⟨d,hd,h⟩:=bnd h;obtain⟨_,hg,h⟩:=bnd h;have hg:=Nat.eq_of_beq_eq_true (ag hg);have hd':=hE.und _ _ hd;unfold Id at hk;split at hk
    ·obtain rfl:0=k:=Nat.succ.inj hk;have hdp:∃e,d= .pointer e:=by cases d <;> first | exact⟨_,rfl⟩ | (cases hg;done)
     obtain⟨e,rfl⟩:=hdp;obtain⟨p,hp,rfl⟩:=hx;obtain rfl:uy=_:=hy;obtain⟨u,e1,e2⟩:=yp (P:=P) (sg:=sg) (t:=t) (a:= .pointer (some ⟨p,_,none⟩)) (b:= .pointer none) h w rfl rfl (λd=>by simp[Op.equalIn,run_underlying hd']);exact fin u (by cases op <;> rfl) e1 e2
    ·obtain rfl:1=k:=Nat.succ.inj hk;have hdp:∃e,d= .slice e:=by cases d <;> first | exact⟨_,rfl⟩ | (cases hg;done)
     obtain⟨e,rfl⟩:=hdp;obtain⟨p,hp,_,rfl⟩:=hx;obtain rfl:uy=_:=hy;obtain⟨u,e1,e2⟩:=yp (P:=P) (sg:=sg) (t:=t) (a:= .slice (some ⟨p,_,none⟩) _ _) (b:= .slice none 0 0) h w rfl rfl (λd=>by simp[Op.equalIn,run_underlying hd']);exact fin u (by cases op <;> rfl) e1 e2
    ·obtain rfl:1=k:=Nat.succ.inj hk;have hdp:∃e,d= .slice e:=by cases d <;> first | exact⟨_,rfl⟩ | (cases hg;done)
     obtain⟨e,rfl⟩:=hdp;obtain⟨p,c,hp,_,_,rfl⟩:=hx;obtain rfl:uy=_:=hy;obtain⟨u,e1,e2⟩:=yp (P:=P) (sg:=sg) (t:=t) (a:= .slice (some ⟨p,_,none⟩) _ c) (b:= .slice none 0 0) h w rfl rfl (λd=>by simp[Op.equalIn,run_underlying hd']);exact fin u (by cases op <;> rfl) e1 e2
    ·obtain rfl:2=k:=Nat.succ.inj hk;have hdp:∃k e,d= .map k e:=by cases d <;> first | exact⟨_,_,rfl⟩ | (cases hg;done)
     obtain⟨_,e,rfl⟩:=hdp;obtain⟨p,hp,rfl⟩:=hx;obtain rfl:uy=_:=hy;obtain⟨u,e1,e2⟩:=yp (P:=P) (sg:=sg) (t:=t) (a:= .map (some p)) (b:= .map none) h w rfl rfl (λd=>by simp[Op.equalIn,run_underlying hd']);exact fin u (by cases op <;> rfl) e1 e2
    ·obtain rfl:3=k:=Nat.succ.inj hk;have hdp:∃e,d= .interface e:=by cases d <;> first | exact⟨_,rfl⟩ | (cases hg;done)
     obtain⟨e,rfl⟩:=hdp;obtain⟨p,hp,rfl⟩:=hx;obtain rfl:uy=_:=hy;obtain⟨u,e1,e2⟩:=yp (P:=P) (sg:=sg) (t:=t) (a:= .iface _ p) (b:= .nilIface) h w rfl rfl (λd=>by simp[Op.equalIn,run_underlying hd']);exact fin u (by cases op <;> rfl) e1 e2
    ·cases hk
   | zero=>
    rw[hk]at h;dsimp only at h;cases hp:lu x with
    | some p=>
     rw[hp]at h;obtain⟨q,hq,h⟩:=bnd h;obtain⟨d,hd,h⟩:=bnd h;obtain⟨e,he,h⟩:=bnd h;obtain⟨i,hi,h⟩:=bnd h;obtain⟨_,hz,h⟩:=bnd h;obtain⟨_,hpq,h⟩:=bnd h;have hz:i.size≠0:=by have:=ag hz;rw[Nat.blt_eq]at this;omega
     have hpq:=Nat.eq_of_beq_eq_true (ag hpq);have hd':=hE.und _ _ hd;rw[lk he]at hd';rw[dk hp]at hx;rw[dk hq]at hy;obtain⟨a,ha,rfl⟩:=hx;obtain⟨b,hb,rfl⟩:=hy;rw[hpq,hb]at ha;obtain rfl:=Xa ha;have hbeq:((⟨b,p.2,none⟩:Addr) == ⟨b,q.2,none⟩)=Nat.beq p.2 q.2:=by
      rw[Bool.eq_iff_iff];simp
     obtain⟨u,e1,e2⟩:=yp (P:=P) (sg:=sg) (t:=t) (a:= .pointer (some ⟨b,p.2,none⟩)) (b:= .pointer (some ⟨b,q.2,none⟩)) h w rfl rfl (λd=>by
      simp only[Op.equalIn,Sem.run_bind,run_underlying hd',Result.andThen_ok,bg (hE.info _ _ hi),hz,ne_eq,not_false_eq_true,if_true,sameAddr,beq_self_eq_true,hbeq];rfl)
     exact fin u (by cases op <;> rfl) e1 e2
    | none=>
     rw[hp]at h;obtain⟨a,ha,h⟩:=bnd h;obtain⟨b,hb,h⟩:=bnd h;obtain⟨r,hr,h⟩:=bnd h;obtain rfl:=Xa h;obtain rfl:=m7 _ _ _ ha hx;obtain rfl:=m7 _ _ _ hb hy;exact Got.ev hr A
end
end
end RX
end
end Go.Proofs.YtimcfaoabaflkaaGreatDoor
