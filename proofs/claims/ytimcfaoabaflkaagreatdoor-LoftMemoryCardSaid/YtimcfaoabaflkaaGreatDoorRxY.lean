/- RX, part 23: what the summaries of functions without a body say is so. -/
import Derived.Test.YtimcfaoabaflkaaGreatDoorRxR
import Derived.Laws.Externs
import Derived.Lib.Bytealg
namespace Go.Proofs.YtimcfaoabaflkaaGreatDoor
namespace RX
noncomputable section
section
variable {P:Program} {f:FuncId} {fn:Func}
theorem Ae {sg:Ids} {args:List AV} {us:List Value} {x:List UInt8×Nat} (h:ut args=some x) (hv:VRs sg args us):us=[.string ⟨⟨x.1⟩⟩,.int .u8 (x.2:Int)]/\x.2 < 256:=by
 unfold ut at h;split at h
 ·rename_i l c;obtain⟨n,hn,h⟩:=bnd h;obtain⟨_,hb,h⟩:=bnd h;obtain rfl:=Xa h;obtain⟨u1,_,rfl,h1,u2,_,rfl,h2,h3⟩:=hv;obtain rfl:u1=_:=h1;obtain rfl:u2=_:=h2;obtain rfl:_=[]:=h3;rw[rm hn];exact⟨rfl,by have:=ag hb;rwa [Nat.blt_eq]at this⟩
 ·cases h
theorem Md {b:UInt8} {n:Nat} (h:n < 256):Nat.beq b.toNat n=(b == n.toUInt8):=by
 rw[Bool.eq_iff_iff,Nat.beq_eq,beq_iff_eq];constructor
 ·intro e;apply UInt8.toNat_inj.1;rw[e,UInt8.toNat_ofNat'];exact(Nat.mod_eq_of_lt h).symm
 ·intro e;rw[e,UInt8.toNat_ofNat'];exact Nat.mod_eq_of_lt h
theorem zej {n:Nat} (hn:n < 256):∀(l:List UInt8) (i:Nat),Yf n i l=((List.range l.length).find? λk=>l.getD k 0 == n.toUInt8).map (·+ i)
 | [],i=>by simp[Yf]
 | b :: l,i=>by
  unfold Yf;rw[List.length_cons,List.range_succ_eq_map,List.find?_cons];simp only[List.getD_cons_zero];rw[Md hn];cases hb:(b == n.toUInt8)with
  | true=>simp
  | false=>
   dsimp only;rw[zej hn l (i+1),List.find?_map];simp only[Option.map_map];congr 1;funext k;simp only[Function.comp];omega
theorem oq {n:Nat} (hn:n < 256):∀(l:List UInt8) (k:Nat),rt n l k=l.foldl (λm x=>if x == n.toUInt8 then m+1 else m) k
 | [],k=>rfl
 | b :: l,k=>by
  unfold rt;rw[Md hn,List.foldl_cons];cases hb:(b == n.toUInt8)with
  | true=>exact oq hn l (k+1)
  | false=>exact oq hn l k
theorem Mc {β:Type} (g:β->UInt8->β) (z:β) (l:List UInt8):(⟨⟨l⟩⟩:ByteArray).foldl g z=l.foldl g z:=Lib.foldl_data g z ⟨⟨l⟩⟩
theorem D8 (c:UInt8):∀(l:List UInt8) (k:Nat),l.foldl (fun(n:Int) y=>if y == c then n+1 else n) (k:Int)=((l.foldl (fun(m:Nat) y=>if y == c then m+1 else m) k:Nat):Int)
 | [],_=>rfl
 | b :: l,k=>by
  simp only[List.foldl_cons]
  by_cases h:(b == c)=true
  ·rw[if_pos h,if_pos h];exact D8 c l (k+1)
  ·rw[if_neg h,if_neg h];exact D8 c l k
theorem Ba (hf:P.funcs[f]?=some fn) (hname:(fn.name == "runtime.NumGoroutine")=false) (hb:fn.body.isNone=true) (hn:Extern.findNext fn=none) (he:Extern.find fn=some Extern.BytealgIndexByte.indexByte):Hc P f jm:=by
 intro X sg w s s' args us v h hv A;obtain⟨x,hx,h⟩:=bnd h;obtain⟨rfl,hlt⟩:=Ae hx hv;have hfind:((List.range (⟨⟨x.1⟩⟩:ByteArray).size).find? λi=>(⟨⟨x.1⟩⟩:ByteArray)[i]! == x.2.toUInt8)=(List.range x.1.length).find? λk=>x.1.getD k 0 == x.2.toUInt8:=by
  have e:(⟨⟨x.1⟩⟩:ByteArray).size=x.1.length:=rfl;rw[e];congr 1;funext i;congr 1
  by_cases hi:i < x.1.length
  ·have h1:(⟨⟨x.1⟩⟩:ByteArray)[i]! =x.1[i]:=by
    rw[getElem!_pos (⟨⟨x.1⟩⟩:ByteArray) i hi];rfl
   rw[h1];simp[hi]
  ·have h1:(⟨⟨x.1⟩⟩:ByteArray)[i]! =default:=getElem!_neg (⟨⟨x.1⟩⟩:ByteArray) i hi;rw[h1];simp[hi];rfl
 have hrun:(Extern.BytealgIndexByte.indexByte #[.string ⟨⟨x.1⟩⟩,.int .u8 (x.2:Int)]).run P w= .ok (match Yf x.2 0 x.1 with | some i=>goInt i | none=>goInt (-1)) w:=by
  have hdef:Extern.BytealgIndexByte.indexByte #[.string ⟨⟨x.1⟩⟩,.int .u8 (x.2:Int)]=(match (List.range (⟨⟨x.1⟩⟩:ByteArray).size).find? λi=>(⟨⟨x.1⟩⟩:ByteArray)[i]! == ((x.2:Int).toNat).toUInt8 with | some i=>pure (goInt i) | none=>pure (goInt (-1)):Sem Value):=rfl;rw[zej hlt,hdef,Int.toNat_natCast,hfind];cases (List.range x.1.length).find? λk=>x.1.getD k 0 == x.2.toUInt8 <;> simp
 have hcall:(callFunc f ⟨[.string ⟨⟨x.1⟩⟩,.int .u8 (x.2:Int)]⟩).run P w= .ok (.value (match Yf x.2 0 x.1 with | some i=>goInt i | none=>goInt (-1))) w:=by
  rw[run_callFunc_extern hf hname hb hn he,hrun];rfl
 cases hi:Yf x.2 0 x.1 with
 | some i=>
  rw[hi]at h hcall;obtain⟨rfl,rfl⟩:=Prod.mk.inj (Xa h);exact⟨_,sg,w,hcall,rfl,dx.refl A.holds⟩
 | none=>
  rw[hi]at h hcall;obtain⟨rfl,rfl⟩:=Prod.mk.inj (Xa h);exact⟨_,sg,w,hcall,rfl,dx.refl A.holds⟩
theorem Lp (hf:P.funcs[f]?=some fn) (hname:(fn.name == "runtime.NumGoroutine")=false) (hb:fn.body.isNone=true) (hn:Extern.findNext fn=none) (he:Extern.find fn=some Extern.BytealgCount.count):Hc P f qq:=by
 intro X sg w s s' args us v h hv A;obtain⟨x,hx,h⟩:=bnd h;obtain⟨rfl,hlt⟩:=Ae hx hv;obtain⟨rfl,rfl⟩:=Prod.mk.inj (Xa h);refine⟨.int .i64 (rt x.2 x.1 0),sg,w,?_,rfl,dx.refl A.holds⟩;rw[run_callFunc_extern hf hname hb hn he];have hdef:Extern.BytealgCount.count #[.string ⟨⟨x.1⟩⟩,.int .u8 (x.2:Int)]=(pure (goInt ((⟨⟨x.1⟩⟩:ByteArray).foldl (λn y=>if y == ((x.2:Int).toNat).toUInt8 then n+1 else n) (0:Nat))):Sem Value):=rfl;show((Extern.BytealgCount.count #[.string ⟨⟨x.1⟩⟩,.int .u8 (x.2:Int)]).run P w).andThen _=_;rw[hdef,Int.toNat_natCast,oq hlt,Mc,D8];rfl
theorem Om (hf:P.funcs[f]?=some fn) (hname:(fn.name == "runtime.NumGoroutine")=false) (hb:fn.body.isNone=true) (hn:Extern.findNext fn=none) (he:Extern.find fn=some Extern.AbiNoEscape.same):Hc P f og:=by
 intro X sg w s s' args us v h hv A;unfold og at h;split at h
 ·obtain⟨rfl,rfl⟩:=Prod.mk.inj (Xa h);obtain⟨u,_,rfl,h1,h2⟩:=hv;obtain rfl:_=[]:=h2;refine⟨u,sg,w,?_,h1,dx.refl A.holds⟩;rw[run_callFunc_extern hf hname hb hn he];rfl
 ·cases h
theorem Lq (hf:P.funcs[f]?=some fn) (hname:(fn.name == "runtime.NumGoroutine")=false) (hb:fn.body.isNone=true) (hn:Extern.findNext fn=none) (he:Extern.find fn=some Extern.MapsClone.clone):Hc P f lr:=by
 intro X sg w s s' args us v h hv A;unfold lr at h;split at h
 ·rename_i t b;obtain⟨k,hk,h⟩:=bnd h;obtain⟨m,hm,h⟩:=bnd h;obtain⟨rfl,rfl⟩:=Prod.mk.inj (Xa h);obtain⟨u,_,rfl,h1,h2⟩:=hv;obtain rfl:_=[]:=h2;obtain⟨z,h1,rfl⟩:=h1;obtain⟨p,hp,rfl⟩:=h1;obtain⟨hX,ces,e2,e3⟩:=ua A hk hm (.inl (ey s b)) hp;have hgo:(getObj p).run P w= .ok (.map ⟨ces⟩ m.2) w:=da e2 (λ_ _ _ e=>by cases e);have A1:=A.like (s1:=s.saw b) rfl rfl;have hn':sg s.fresh=none:=A.new s.fresh (Xc _) (Nat.lt_succ_self _);have hbr:BR (sg.with s.fresh w.heap.size 0) (.map m.1 m.2) (.map ⟨ces⟩ m.2):=⟨ces,rfl,ERs.mono (Ids.with_ext _ _ hn') _ _ e3⟩;refine⟨.iface t (.map (some w.heap.size)),sg.with s.fresh w.heap.size 0,{w with heap:=w.heap.push (.map ⟨ces⟩ m.2)},?_,⟨_,⟨_,Ids.with_self ..,rfl⟩,rfl⟩,(dx.alloc (w':={w with heap:=w.heap.push (.map ⟨ces⟩ m.2)}) (n:=0) (o:= .map ⟨ces⟩ m.2) A1.holds A1.lt hn' hbr trivial rfl rfl rfl rfl).like rfl⟩;rw[run_callFunc_extern hf hname hb hn he];have hdef:Extern.MapsClone.clone #[.iface t (.map (some p))]=(do
   let o<-getObj p
   match o with
   | .map entries clock=>do
    let r<-newObj (.map entries clock)
    pure (.iface t (.map (some r)))
   | _=>stuck "maps.clone: a map expected" :Sem Value):=rfl
  show((Extern.MapsClone.clone #[.iface t (.map (some p))]).run P w).andThen _=_;rw[hdef];simp[hgo]
 ·cases h
theorem Ar:∀(n t:Nat) (acc:Array Value),(Extern.BytealgMakeNoZero.digits n t acc).size=n+acc.size
 | 0,_,acc=>by simp[Extern.BytealgMakeNoZero.digits]
 | n+1,t,acc=>by
  unfold Extern.BytealgMakeNoZero.digits;rw[Ar n];simp;omega
theorem Eh:∀(n t:Nat) (acc:Array Value),(∀v∈acc,v.oneCell'=true)->∀v∈Extern.BytealgMakeNoZero.digits n t acc,v.oneCell'=true
 | 0,_,acc,h=>by simpa[Extern.BytealgMakeNoZero.digits]using h
 | n+1,t,acc,h=>by
  unfold Extern.BytealgMakeNoZero.digits;refine Eh n _ _ λv hv=>?_;rcases Array.mem_push.1 hv with hv | rfl
  ·exact h v hv
  ·rfl
theorem On {params results:Array TypeId} {t e:TypeId} (hres:results[0]?=some t) (ht:P.underlying t=some (.slice e)) (hf:P.funcs[f]?=some fn) (hname:(fn.name == "runtime.NumGoroutine")=false) (hb:fn.body.isNone=true) (hn:Extern.findNext fn=none) (he:Extern.find fn=some (Extern.BytealgMakeNoZero.makeNoZero params results)):Hc P f (oh e):=by
 intro X sg w s s' args us v h hv A;unfold oh at h;split at h
 ·obtain⟨n,hn0,h⟩:=bnd h;obtain⟨_,hle,h⟩:=bnd h;obtain⟨rfl,rfl⟩:=Prod.mk.inj (Xa h);obtain⟨u,_,rfl,h1,h2⟩:=hv;obtain rfl:_=[]:=h2;obtain rfl:u=_:=h1;have hle:=db (ag hle);rw[rm hn0];have hnf:sg s.fresh=none:=A.new s.fresh (Xc _) (Nat.lt_succ_self _)
  let c:=(Question.appendCap n 0 e).cut (w.tape w.drawn (.appendCap n 0 e))
  have hc:n<=c:=Nat.le_add_right _ _
  let q:Question:= .extern "internal/bytealg.MakeNoZero.bytes" 0
  let cells:=Extern.BytealgMakeNoZero.digits c (q.cut (w.tape (w.drawn+1) q)) #[]
  have hsz:cells.size=c:=by have:=Ar c (q.cut (w.tape (w.drawn+1) q)) #[];simpa using this
  have hk:BR (sg.with s.fresh w.heap.size c) (.cells n true e 1 [.unk] .nil) (.cells cells e):=by
   refine⟨cells,(0,0),rfl,.inl (Xc _),by rw[hsz];exact hc,λh=>(by cases h),λi hi=>?_⟩;have hlt:i < cells.size:=by rw[hsz];omega
   have h1:=Eh c (q.cut (w.tape (w.drawn+1) q)) #[] Yy cells[i] (Array.getElem_mem hlt);refine⟨cells[i],by simp[hlt],h1,?_⟩;unfold cellAt;rw[T.get_nil];have:([AV.unk]:List AV).getD (i % 1) .unk= .unk:=by rw[Nat.mod_one];rfl
   rw[this];exact h1
  refine⟨.slice (some ⟨w.heap.size,0,none⟩) n c,sg.with s.fresh w.heap.size c,{w with heap:=w.heap.push (.cells cells e),drawn:=w.drawn+2},?_,⟨w.heap.size,c,Ids.with_self ..,hc,by rw[Ids.with_sz];omega,rfl⟩,dx.alloc (w':={w with heap:=w.heap.push (.cells cells e),drawn:=w.drawn+2}) (n:=c) (o:= .cells cells e) A.holds A.lt hnf hk hsz rfl rfl rfl rfl⟩;rw[run_callFunc_extern hf hname hb hn he];have hgt:¬((n:Int) > 2 ^ 48):=Yx;have q1:(Question.appendCap n 0 e).forced=false:=rfl;have q2:q.forced=false:=rfl;have hdef:Extern.BytealgMakeNoZero.makeNoZero params results #[.int .i64 (n:Int)]=(do
   let some t:=results[0]? | stuck "bytealg.MakeNoZero: no result type"
   let .slice elem<-underlying t | stuck "bytealg.MakeNoZero: slice type expected"
   if (n:Int) < 0 || (n:Int) > 2 ^ 48 then runtimePanic (.error "makeslice: len out of range")
   let cap<-choose (.appendCap (n:Int).toNat 0 elem)
   askRoom cap
   let bytes<-choose (.extern "internal/bytealg.MakeNoZero.bytes" 0)
   let a<-newRow elem (Extern.BytealgMakeNoZero.digits cap bytes #[])
   pure (.slice (some a) (n:Int).toNat cap):Sem Value):=rfl
  show((Extern.BytealgMakeNoZero.makeNoZero params results #[.int .i64 (n:Int)]).run P w).andThen _=_;rw[hdef,hres];simp only[Sem.run_bind,run_underlying ht,Result.andThen_ok,Int.toNat_natCast];have hcond:(decide ((n:Int) < 0) || decide ((n:Int) > 2 ^ 48))=false:=by
   rw[Bool.or_eq_false_iff];exact⟨decide_eq_false Yx,decide_eq_false hgt⟩
  rw[hcond];simp[q1,q2,run_askRoom,newRow,cells,c,q];rfl
 ·cases h
theorem yo:∀args s v s',jm args s=some (v,s')->Abs s s':=by
 intro args s v s' h;obtain⟨x,_,h⟩:=bnd h;cases hi:Yf x.2 0 x.1 with
 | some i=>rw[hi]at h;obtain⟨_,rfl⟩:=Prod.mk.inj (Xa h);exact Abs.refl _
 | none=>rw[hi]at h;obtain⟨_,rfl⟩:=Prod.mk.inj (Xa h);exact Abs.refl _
theorem Is:∀args s v s',qq args s=some (v,s')->Abs s s':=by
 intro args s v s' h;obtain⟨x,_,h⟩:=bnd h;obtain⟨_,rfl⟩:=Prod.mk.inj (Xa h);exact Abs.refl _
theorem Ln:∀args s v s',og args s=some (v,s')->Abs s s':=by
 intro args s v s' h;unfold og at h;split at h
 ·obtain⟨_,rfl⟩:=Prod.mk.inj (Xa h);exact Abs.refl _
 ·cases h
theorem Lo (e:TypeId):∀args s v s',oh e args s=some (v,s')->Abs s s':=by
 intro args s v s' h;unfold oh at h;split at h
 ·(iterate 2 obtain⟨_,_,h⟩:=bnd h);obtain⟨_,rfl⟩:=Prod.mk.inj (Xa h);exact Abs.new _
 ·cases h
theorem Iu:∀args s v s',lr args s=some (v,s')->Abs s s':=by
 intro args s v s' h;unfold lr at h;split at h
 ·(iterate 2 obtain⟨_,_,h⟩:=bnd h);obtain⟨_,rfl⟩:=Prod.mk.inj (Xa h);exact(Abs.saw _ _).trans (Abs.new _)
 ·cases h
end
end
end RX
end Go.Proofs.YtimcfaoabaflkaaGreatDoor
