/- loft/disk.go: disks. -/
import Derived.Test.YtimcfaoabaflkaaGreatDoorSteps
import Derived.Deep.MidRow
import Derived.Deep.Upon
import Derived.Laws.Tables
import Derived.Laws.Rows
import Derived.Deep.DeepCutAuto
namespace Go.Proofs.YtimcfaoabaflkaaGreatDoor
open AbA AbI
set_option maxHeartbeats 4000000
set_option maxRecDepth 100000
open Go.Proofs.Tryz
section
open Go.RowKit Go.Shelf
theorem wc {w:World} {base:Nat} {e:TypeId} {size:Nat} {v:Value} {n:Nat} {xs:List Value} (h:w.ownsRow base e size v n xs):∃a cap,v= .slice a n cap:=by
 rcases h.2 with ⟨rfl,rfl⟩ | ⟨g,cap,cur,rfl,_⟩
 ·exact⟨none,0,rfl⟩
 ·exact⟨_,cap,rfl⟩
theorem GrL.of_grown' {W W':World} {row:Option Nat} (h:W.grownBy W' row):GrL row.toList W W':=
 ⟨h.os,h.tape,h.output,h.size,λk hk hn=>h.block k hk (λe=>hn (by rw[<-e];simp)),trivial⟩
def rotU (x:Int) (j:Nat):Int:=bits .or .u32 (x * 2 ^ (32 - j) % 4294967296) (x / 2 ^ (32 - (32 - j)))
theorem zag (x:Int) (j:Nat) (w:World) (h1:1<=j) (h2:j<=31) (he:bits BinOp.and IntKind.u64 (IntKind.u64.wrap (-(j:Int))) 31=((32 - j:Nat):Int)):
  Calls prog 232 #[.int .u32 x,Yp (-(j:Int))] w λe w'=>e= .returned (.int .u32 (rotU x j))/\w=w':=by
 obtain⟨n,hn⟩:∃n,32 - j=n:=⟨_,rfl⟩;have hn1:1<=n:=Yi;have hn2:n<=31:=Yi;unfold rotU;rw[hn]at he ⊢;clear hn h1 h2;go_enter func232,ntmps232;go_wp2;go_ret;exact⟨rfl,rfl⟩
def Sd (x:Int) (l:List Nat):Int:=l.foldl (λa j=>bits .xor .u32 a (rotU x j)) 0
theorem Sc (x:Int) (l:List Nat) (g cap:Nat) (w:World) (_hg:g < w.heap.size) (hl:l.length<=100) (hc:∀i (h:i < l.length),w.cell? ⟨g,i,none⟩=some (.int .i64 l[i]))
  (hj:∀j∈l,1<=j/\j<=31/\bits BinOp.and IntKind.u64 (IntKind.u64.wrap (-(j:Int))) 31=((32 - j:Nat):Int)):
  Calls prog 172 #[.int .u32 x,.slice (Yn g) l.length cap] w λe w'=>e= .returned (.int .u32 (Sd x l))/\w=w':=by
 have HC:=Hd hc;have HJ:=Hd (fun(i:Nat) (h:i < l.length) w=>zag x l[i] w (hj _ (List.getElem_mem h)).1 (hj _ (List.getElem_mem h)).2.1 (hj _ (List.getElem_mem h)).2.2);have HB:=Hd (fun(i:Nat) (h:i < l.length)=>hj _ (List.getElem_mem h));obtain⟨r,hr⟩:∃r,Sd x l=r:=⟨_,rfl⟩;have HR:=Hd hr;rw[hr];clear hc hj hr;go_enter func172,ntmps172;go_wp2;go_loop [5,10] (λp q=>∃i:Nat,q= .int .i64 i/\i<=l.length/\∃y,p= .int .u32 y/\Hid (Sd x (l.take i)=y)) (λ_ q=>l.length - (intOf q).toNat)
 case atStart=>exact⟨0,rfl,Yi,0,rfl,Hd rfl⟩
 case round=>
  obtain⟨i,rfl,hi,y,rfl,HY⟩:=hrel
  by_cases hil:i < l.length
  ·have hil':(i:Int) < l.length:=Yi;have hcell:=HC.out i hil;have RO:=Hd (HJ.out i hil);obtain⟨b1,b2,_⟩:=HB.out i hil;have HT:=Hd (show Sd x (l.take (i+1))=bits .xor .u32 (Sd x (l.take i)) (rotU x l[i]) by rw[List.take_succ_eq_append_getElem hil];unfold Sd;rw[List.foldl_append];rfl);generalize l[i]=j at *;go_wp2_with fail;refine(RO.out _).mono ?_;rintro e w1 ⟨rfl,rfl⟩;go_wp2;exact⟨⟨i+1,Yj,Yi,_,rfl,Hd (by rw[HT.out,HY.out])⟩,by simp[intOf];omega⟩
  ·have hil':¬(i:Int) < l.length:=Yi;obtain rfl:i=l.length:=Yi;obtain rfl:r=y:=by have:=HY.out;rw[List.take_length]at this;exact HR.out.symm.trans this
   go_wp2;go_ret;exact⟨rfl,rfl⟩
theorem ss (b:Nat) (T:TypeId):∀(vs:List Value) (o:Nat) (w:World) (c:Array Value),w.heap[b]?=some (.cells c T (0,0))->o+vs.length<=c.size->
  (w.setCells b o vs).heap[b]?=some (.cells (c.toList.take o ++ vs ++ c.toList.drop (o+vs.length)).toArray T (0,0))
 | [],o,w,c,h,_=>by
  rw[World.setCells,h];simp
 | v :: r,o,w,c,h,hl=>by
  rw[World.setCells];have h':=dz h o v;rw[ss b T r (o+1) _ _ h' (by simp at hl ⊢;omega)];congr 2;apply Array.ext';simp only[List.length_cons,Array.toList_setIfInBounds]at hl ⊢;have hz:c.toList.length=c.size:=rfl;generalize c.toList=L at *;have e:L.set o v=L.take o ++ v :: L.drop (o+1):=by rw[List.set_eq_take_append_cons_drop,if_pos Yi]
  have ht:(L.take o).length=o:=by rw[List.length_take];omega
  rw[e];have e1:(L.take o ++ v :: L.drop (o+1)).take (o+1)=L.take o ++ [v]:=by
   rw[List.take_append,ht,List.take_of_length_le Yi];simp
  have e2:(L.take o ++ v :: L.drop (o+1)).drop (o+1+r.length)=L.drop (o+(r.length+1)):=by
   rw[List.drop_append,ht,List.drop_of_length_le Yi];rw[show o+1+r.length - o=r.length+1 by omega,List.drop_succ_cons,List.drop_drop];simp only[List.nil_append];congr 1;omega
  rw[e1,e2];simp
theorem GrL.setCells {l:List Nat} {w:World} (b:Nat):∀(vs:List Value) (o:Nat) (w':World),GrL l w w'->(w.heap.size<=b\/b∈l)->GrL l w (w'.setCells b o vs)
 | [],_,_,g,_=>g
 | v :: r,o,w',g,h=>by
  rw[World.setCells];exact GrL.setCells b r (o+1) _ (g.set ⟨b,o,none⟩ v h) h
def UB (w:World) (b n:Nat) (T:TypeId):Prop:=∃W:List Int,W.length=n/\w.heap[b]?=some (.cells (W.map (Value.int .u32)).toArray T (0,0))
theorem UB.gr {w w':World} {b n:Nat} {T:TypeId} (h:UB w b n T) (g:Gr w w'):UB w' b n T:=by
 obtain⟨W,h1,h2⟩:=h;exact⟨W,h1,g.heap h2⟩
theorem UB.grl {w w':World} {b n:Nat} {T:TypeId} {l:List Nat} (h:UB w b n T) (g:GrL l w w') (hb:b∉l):UB w' b n T:=by
 obtain⟨W,h1,h2⟩:=h;exact⟨W,h1,(g.block b (ai h2) hb).trans h2⟩
theorem UB.lt {w:World} {b n:Nat} {T:TypeId} (h:UB w b n T):b < w.heap.size:=by
 obtain⟨W,h1,h2⟩:=h;exact ai h2
theorem UB.cell {w:World} {b n:Nat} {T:TypeId} (h:UB w b n T) {i:Nat} (hi:i < n):∃x,w.cell? ⟨b,i,none⟩=some (.int .u32 x):=by
 obtain⟨W,rfl,h2⟩:=h;refine⟨W[i],?_⟩;rw[(ed h2).1];simp[hi]
theorem UB.fr {w:World} {b n:Nat} {T:TypeId} (h:UB w b n T) (i:Nat):w.frozen? ⟨b,i,none⟩=false:=by
 obtain⟨W,rfl,h2⟩:=h;exact(ed h2).2.1 i
theorem UB.set {w:World} {b n:Nat} {T:TypeId} (h:UB w b n T) (i:Nat) (x:Int):UB (w.setCell (Yo b i) (.int .u32 x)) b n T:=by
 obtain⟨W,h1,h2⟩:=h;refine⟨W.set i x,by simp[h1],?_⟩;rw[dz h2];congr 2;apply Array.ext';simp[List.map_set]
theorem UB.keep {w:World} {b b' n i:Nat} {T:TypeId} {x:Value} (h:UB w b n T) (hn:b≠b'):UB (w.setCell (Yo b' i) x) b n T:=by
 obtain⟨W,h1,h2⟩:=h;exact⟨W,h1,qj b' i x h2 hn⟩
theorem GrL.setRow {l:List Nat} {w w':World} (g:GrL l w w') (p:Nat) (C:Array Value) (h:w.heap.size<=p\/p∈l):GrL l w (w'.setRow p C):=by
 have e:(w'.setRow p C).heap=w'.heap.modify p fun | .cells _ elem frozen=> .cells C elem frozen | o=>o:=rfl;refine⟨g.os,g.tape,g.output,by rw[e];simpa using g.size,λk hk hn=>?_,trivial⟩;rw[e,Array.getElem?_modify,if_neg (by rintro rfl;rcases h with h | h;omega;exact hn h)];exact g.block k hk hn
theorem zdo (l:List Int):(l.map (Value.int .u32)).toArray.all (·.oneCell')=true:=by
 rw[Array.all_eq_true_iff_forall_mem];intro x hx;simp only[List.mem_toArray,List.mem_map]at hx;obtain⟨n,_,rfl⟩:=hx;rfl
def roundK:List Int:=[1116352408,1899447441,3049323471,3921009573,961987163,1508970993,2453635748,2870763221,3624381080,310598401,607225278,1426881987,1925078388,2162078206,2614888103,3248222580,3835390401,4022224774,264347078,604807628,770255983,1249150122,1555081692,1996064986,2554220882,2821834349,2952996808,3210313671,3336571891,3584528711,113926993,338241895,666307205,773529912,1294757372,1396182291,1695183700,1986661051,2177026350,2456956037,2730485921,2820302411,3259730800,3345764771,3516065817,3600352804,4094571909,275423344,430227734,506948616,659060556,883997877,958139571,1322822218,1537002063,1747873779,1955562222,2024104815,2227730452,2361852424,2428436474,2756734187,3204031479,3329325298]
theorem Ss (w:World):Calls prog 170 #[] w λe w'=>e= .returned (.agg (roundK.map (Value.int .u32)).toArray)/\Gr w w':=by
 go_enter func170,ntmps170;go_upto_region 1 with (fail);generalize hX:Obj.cells _ 280 (0,0)=X;have hX2:∃c:Array Value,X= .cells c 280 (0,0)/\c.size=64:=⟨_,hX.symm,rfl⟩;clear hX;obtain⟨c,rfl,hc⟩:=hX2;have hb:=ae w (.cells c 280 (0,0));have g0:Gr w (w.alloc (.cells c 280 (0,0))):=(Yu w).alloc _;generalize w.alloc (.cells c 280 (0,0))=W at *;obtain⟨p,hp⟩:∃p,w.heap.size=p:=⟨_,rfl⟩;rw[hp]at hb;rw[hp];have HP:=Hd hp;clear hp;apply wp_region_lit;refine wpList_build rfl _ _ rfl Yh ?_;generalize hC:Option.getD _ #[]=C;have hC2:C=(roundK.map (Value.int .u32)).toArray:=hC.symm.trans Yh;clear hC;have hC3:C.size=64:=by rw[hC2];rfl
 have hC4:C.all (·.oneCell')=true:=by rw[hC2];exact zdo _
 refine wpList_store_row rfl _ _ _ rfl p C rfl rfl _ c hb (by rw[hC3];kernel_rfl) (by rw[hc,hC3]) hC4 ?_;have hb2:=setRow_heap W p c C _ _ hb;have gp:GrL [p] W (W.setRow p C):=(GrL.of_gr (Yu W)).setRow p C (Or.inr Yj);generalize W.setRow p C=W2 at *;have HC2:=Hd hC2;clear hC2 hb;go_wp2;exact bodyPost_ret (v:= .agg C) (results_cell_row results170 _ W2 p _ C _ _ rfl hb2 underlying280 rfl (by rw[hC3];kernel_rfl)) rfl ⟨by rw[HC2.out],GrL.gr g0 gp (λi hi=>by obtain rfl:=List.mem_singleton.1 hi;exact Nat.le_of_eq HP.out)⟩
end
end Go.Proofs.YtimcfaoabaflkaaGreatDoor
