/- Journals, and how many records somebody has, among a law's arguments. -/
import Derived.Test.YtimcfaoabaflkaaGreatDoorIdle
import Derived.Test.YtimcfaoabaflkaaGreatDoorLLib
import Derived.Deep.Slices
import Derived.ReadAgain
import Derived.Test.YtimcfaoabaflkaaGreatDoorLNum
import Derived.Test.YtimcfaoabaflkaaGreatDoorLSum0
import Derived.Test.YtimcfaoabaflkaaGreatDoorLDisk
import Derived.Laws.OwnMore
import Derived.Laws.CopyOwn
import Derived.Great.Walk
import Derived.OwnWalk
namespace Go.Proofs.YtimcfaoabaflkaaGreatDoor
open AbA AbI
set_option maxHeartbeats 4000000
set_option maxRecDepth 100000
open Go.Proofs.Tryz
section
open Go.ChangeShapes Go.WideShapes Go.ChangeAt Go.RowKit Go.Joins Go.Deep
theorem J2:∀t e,t < prog.types.size→prog.underlying t=some (.slice e)→0 < prog.cellsOf e:=slices_full_of _ Yh
theorem againJ {H:Type} {enc:TypeId×Value→H} {W W':World} {t:TypeId} {v:Value} {d:DataW H} {p:List MemPlace} (h:DataW.Trod enc prog W 0 (fun _=>true) true t v d p) (g:Gr W W') (ht:t < prog.types.size):
  DataW.Trod enc prog W' 0 (fun b=>decide (b < W.heap.size)) true t v d p:=by
 obtain⟨n,hn⟩:=h;have hl:=DataW.trod_lt n _ _ _ hn;have h2:=DataW.trod_carry n _ _ _ hn (fun q hq=>g.b.same (hl q hq));have h3:DataW.Trod enc prog W' 0 (fun _=>true) true t v d p:=⟨n,h2⟩;exact h3.respare (kids_rows laidOut mapsRow) J2 ht (fun q hq=>decide_eq_true (hl q hq))
section
variable {H:Type} {enc:TypeId×Value→H} {W:World}
theorem Pc:prog.cellsOf 36=4:=Yh
theorem zbP:prog.cellsOf 9=1:=Yh
theorem Et:prog.cellsOf 3=1:=Yh
theorem list4 {α:Type} {l:List α} (h:l.length=4):∃a b c d,l=[a,b,c,d]:=by
 match l,h with
 | [a,b,c,d],_=>exact⟨a,b,c,d,rfl⟩
theorem rec_of {n:Nat} {cs:List Value} {x:DataW H×List MemPlace} (h:DataW.trod enc prog W 0 (fun _=>true) true n 36 cs=some x):∃r:Rc,cs=r.cells:=by
 obtain⟨xs,m, -, -,hl,hlen,hf⟩:=DataW.trod_struct underlying36 h;rw[Pc]at hl;obtain⟨c0,c1,c2,c3,rfl⟩:=list4 hl;obtain⟨y0,y1,y2,y3,rfl⟩:=list4 (show xs.length=4 from hlen);have q0:DataW.trod enc prog W 0 (fun _=>true) true m 3 (([c0,c1,c2,c3].drop 0).take (prog.cellsOf 3))=some y0:=hf 0 _ rfl;rw[Et]at q0;have q1:DataW.trod enc prog W 0 (fun _=>true) true m 3 (([c0,c1,c2,c3].drop 1).take (prog.cellsOf 3))=some y1:=hf 1 _ rfl;rw[Et]at q1;have q2:DataW.trod enc prog W 0 (fun _=>true) true m 3 (([c0,c1,c2,c3].drop 2).take (prog.cellsOf 3))=some y2:=hf 2 _ rfl;rw[Et]at q2;have q3:DataW.trod enc prog W 0 (fun _=>true) true m 9 (([c0,c1,c2,c3].drop 3).take (prog.cellsOf 9))=some y3:=hf 3 _ rfl;rw[zbP]at q3;obtain⟨s,e0, -, -⟩:=DataW.trod_int underlying3 q0;obtain⟨k,e1, -, -⟩:=DataW.trod_int underlying3 q1;obtain⟨d,e2, -, -⟩:=DataW.trod_int underlying3 q2;obtain⟨t,e3, -, -⟩:=DataW.trod_string underlying9 q3;replace e0:[c0]=_:=e0;replace e1:[c1]=_:=e1;replace e2:[c2]=_:=e2;replace e3:[c3]=_:=e3;simp only[List.cons.injEq,and_true]at e0 e1 e2 e3;subst e0;subst e1;subst e2;subst e3;exact⟨⟨s,k,d,t⟩,rfl⟩
theorem Ti {b0:Nat} {r:Reach} {v:Value} {d:DataW H} {p:List MemPlace} (hv:Value.okWide prog W r b0 22 v) (h:DataW.Trod enc prog W 0 (fun _=>true) true 22 v d p):
  ∃l:List Rc,dc W v l:=by
 obtain⟨a0,len,cap,rfl⟩:=okWide_slice underlying22 hv;obtain⟨fuel,hf⟩:=h;rcases open_slice underlying22 hf with ⟨hcs, -⟩ | ⟨a,len',cap',m,n,D,Pl,hcs,hb,hl,hm,hmm, -,hx⟩
 ·simp[Value.cells]at hcs;obtain⟨rfl,rfl,rfl⟩:=hcs;exact⟨[],dc.nil _ _ _⟩
 ·simp[Value.cells]at hcs;obtain⟨rfl,rfl,rfl⟩:=hcs;simp only[if_true]at hmm;subst hmm;have each:∀i,i < len→∃r:Rc,∃g off,a=⟨g,off,none⟩∧g < W.heap.size∧W.cell? ⟨g,off+i * 4,none⟩=some (.int .i64 r.s)∧W.cell? ⟨g,off+i * 4+1,none⟩=some (.int .i64 r.k)∧W.cell? ⟨g,off+i * 4+2,none⟩=some (.int .i64 r.d)∧
    W.cell? ⟨g,off+i * 4+3,none⟩=some (.string r.t):=fun i hi=>by
   obtain⟨cs',h1,h2⟩:=hx i Yi;rw[Pc]at h1;obtain⟨-, -,hc⟩:=World.cells?_some h1;obtain⟨r,rfl⟩:=rec_of h2;have c0:=hc 0 Yi;have c1:=hc 1 Yi;have c2:=hc 2 Yi;have c3:=hc 3 Yi;obtain⟨b,off,spot⟩:=a;have hspot:spot=none:=by
    obtain⟨cs0,h0, -⟩:=hx 0 Yi;rw[Pc]at h0;have:=World.cell?_spot (((World.cells?_some h0).2.2 0 Yi).trans (List.getElem?_eq_getElem (by rw[(World.cells?_some h0).2.1];omega)));simpa[Addr.add]using this
   subst hspot;rw[add_plain,add_plain]at c0 c1 c2 c3;refine⟨r,b,off,rfl,?_,c0,c1,c2,c3⟩;exact World.block_lt_of_cell? _ _ c0
  have:Inhabited Rc:=⟨⟨0,0,0,ByteArray.empty⟩⟩;obtain⟨F,hF⟩:=choose_lt each;have hlen:((List.range len).map F).length=len:=Yj;refine⟨(List.range len).map F,some a,_,by rw[hlen],by rw[hlen];omega,fun j hj=>?_⟩;rw[hlen]at hj;have ej:((List.range len).map F)[j]=F j:=Yj;rw[ej];obtain⟨g,off,rfl,hg,c0,c1,c2,c3⟩:=hF j hj;exact⟨g,off,rfl,hg,c0,c1,c2,c3⟩
end
end
section
open Go.ChangeShapes Go.WideShapes Go.ChangeAt Go.RowKit Go.Joins
theorem Ej {W:World} (h:laidMetH prog laid7 W):W.cell? ⟨7,15,none⟩=some (.int .u8 4)∧7 < W.heap.size:=by
 rw[MakeChecks.laidMetH_plain _ _ _ Yh]at h;obtain⟨ps,⟨g0,t0,cs0,f0,p0,q0,hg0,ht0,hv0,hd0,⟨g1,t1,cs1,f1,p1,q1,hg1,ht1,hv1,hd1,_,_⟩,_⟩,_,_⟩:=h;obtain rfl:=Yt ((show prog.globalNamed "math/bits.deBruijn64tab" =some 7 by kernel_rfl).symm.trans hg1)
 obtain rfl:=Yt ((show(prog.globals[7]?).map (·.type)=some 211 by kernel_rfl).symm.trans ht1);have hd:DataW.trod _ prog W 0 _ _ f1 211 cs1.toList=some (Lib.tabData .u8 (intsOf RX.t7),p1):=hd1;have hc:=Lib.cells_of_tab (n:=64) (e:=5) underlying211 underlying5 Yh Yh hd;have h1:=World.var?_cell hg1 hv1 15;have h2:cs1[15]?=some (.int .u8 4):=by
  rw[←Array.getElem?_toList];have:cs1.toList=(intsOf RX.t7).map (Value.int .u8):=by first | exact hc | (rw[hc];done) | (rw[←hc];done) | (have:=congrArg Array.toList hc;simpa using this)
  rw[this];rfl
 obtain⟨e,fz,hh⟩:=heap_of_var hg1 hv1;exact⟨h1.trans h2,(Array.getElem?_eq_some_iff.1 hh).1⟩
end
section
open Go.RowKit Go.Shelf
def YB (w:World) (b n:Nat) (T:TypeId):Prop:=∃Z:List Int,Z.length=n∧w.heap[b]?=some (.cells (Z.map (Value.int .u8)).toArray T (0,0))
theorem YB.gr {w w':World} {b n:Nat} {T:TypeId} (h:YB w b n T) (g:Gr w w'):YB w' b n T:=by
 obtain⟨Z,h1,h2⟩:=h;exact⟨Z,h1,g.heap h2⟩
theorem YB.grl {w w':World} {b n:Nat} {T:TypeId} {l:List Nat} (h:YB w b n T) (g:GrL l w w') (hb:b∉l):YB w' b n T:=by
 obtain⟨Z,h1,h2⟩:=h;exact⟨Z,h1,(g.block b (ai h2) hb).trans h2⟩
theorem YB.lt {w:World} {b n:Nat} {T:TypeId} (h:YB w b n T):b < w.heap.size:=by
 obtain⟨Z,h1,h2⟩:=h;exact ai h2
theorem YB.cell {w:World} {b n:Nat} {T:TypeId} (h:YB w b n T) {i:Nat} (hi:i < n):∃x,w.cell? ⟨b,i,none⟩=some (.int .u8 x):=by
 obtain⟨Z,rfl,h2⟩:=h;refine⟨Z[i],?_⟩;rw[(ab h2).1];simp[hi]
theorem YB.fr {w:World} {b n:Nat} {T:TypeId} (h:YB w b n T) (i:Nat):w.frozen? ⟨b,i,none⟩=false:=by
 obtain⟨Z,rfl,h2⟩:=h;exact(ab h2).2.1 i
theorem YB.set {w:World} {b n:Nat} {T:TypeId} (h:YB w b n T) (i:Nat) (x:Int):YB (w.setCell (Yo b i) (Ys x)) b n T:=by
 obtain⟨Z,h1,h2⟩:=h;refine⟨Z.set i x,by simp[h1],?_⟩;rw[dz h2];congr 2;apply Array.ext';simp[List.map_set]
theorem YB.row {w:World} {b:Nat} {T:TypeId} {Z:List Int} (h:w.heap[b]?=some (.cells (Z.map (Value.int .u8)).toArray T (0,0))) (o:Nat) (zs:List Int) (ho:o+zs.length≤Z.length):
  YB (w.setRow b ((Z.map (Value.int .u8)).toArray.toList.take o ++ (zs.map (Value.int .u8) ++ (Z.map (Value.int .u8)).toArray.toList.drop (o+(zs.map (Value.int .u8)).length))).toArray) b Z.length T:=by
 refine⟨Z.take o ++ (zs ++ Z.drop (o+zs.length)),by simp;omega,?_⟩;rw[setRow_heap w b _ _ _ _ h];simp
theorem YB.cells {w:World} {b n:Nat} {T:TypeId} {Z:List Int} (h:w.heap[b]?=some (.cells (Z.map (Value.int .u8)).toArray T (0,0))) (hZ:Z.length=n) (o:Nat) (zs:List Int) (ho:o+zs.length≤n):YB (w.setCells b o (zs.map (Value.int .u8))) b n T:=by
 refine⟨Z.take o ++ (zs ++ Z.drop (o+zs.length)),by simp;omega,?_⟩;rw[ss b T _ o w _ h (by simp;omega)];simp
theorem Jc {P:Program} {F:Value→World→Prop} {R:World→Prop} {o:Oper} {a:Act} {w:World} (s x:Operand) (t:TypeId)
  (ho:o.op= .call {callee:= .builtin .append,args:=#[s,x],argTypes:=#[t,t]})
  (base:Nat) (e:TypeId) (i:TypeInfo) (z:Value) (size bytes:Nat) (ht:P.underlying t=some (.slice e)) (hi:P.info? e=some i) (hz:i.zero=some z)
  (hsize:i.size=size) (hby:i.bytes=bytes) (hzs:z.cells.size=size) (hsz:0 < size)
  (v:Value) (n:Nat) (xs:List Value) (hs:a.eval s=v) (hown:w.ownsRow base e size v n xs)
  (ad:Addr) (m c:Nat) (news:List Value) (hx:a.eval x= .slice (some ad) m c) (hl:news.length=m * size) (hnews:∀j u,news[j]?=some u→w.cell? (ad.add j)=some u) (h1:∀u∈news,u.oneCell'=true)
  (h63:n+m≤maxLen) (hbytes:(n+m) * bytes≤140737488355328) (hbase:base≤w.heap.size)
  (h:∀v' w',w'.ownsRow base e size v' (n+m) (xs ++ news)→w.grownBy w' v.ownBlock→F v' w'∧R w'):ii P F R ((execOp a.eval o).run P w):=by
 obtain⟨v',w',hr,h2,h3,_⟩:=run_append_own (P:=P) w base t o.type e i z size bytes ht hi hz hsize hby hzs hsz v n xs hown ad m c news hl hnews h1 h63 hbytes hbase;unfold execOp;simp only[ho,resolve,invoke,builtin,Sem.run_bind,Sem.run_pure,Result.andThen_ok,List.map_toArray,List.map_cons,List.map_nil,hs,hx,hr];exact h v' w' h2 h3
theorem fold_set:∀(l:List Value) (k off:Nat) (Z:Array Value),off+k+l.length≤Z.size→
  ((l.zipIdx k).foldl (fun(cs:Array Value) (x:Value×Nat)=>cs.setIfInBounds (off+x.2) x.1) Z).toList=Z.toList.take (off+k) ++ l ++ Z.toList.drop (off+k+l.length)
 | [],k,off,Z,h=>by simp
 | v :: r,k,off,Z,h=>by
  simp only[List.length_cons]at h;rw[List.zipIdx_cons,List.foldl_cons,fold_set r (k+1) off _ (by simp;omega)];simp only[Array.toList_setIfInBounds,List.length_cons];have hz:Z.toList.length=Z.size:=rfl;generalize Z.toList=L at *;rw[List.set_eq_take_append_cons_drop,if_pos Yi];have ht:(L.take (off+k)).length=off+k:=by rw[List.length_take];omega
  have e1:(L.take (off+k) ++ v :: L.drop (off+k+1)).take (off+(k+1))=L.take (off+k) ++ [v]:=by
   rw[List.take_append,ht,show off+(k+1) - (off+k)=1 by omega];simp[List.take_take]
  have e2:(L.take (off+k) ++ v :: L.drop (off+k+1)).drop (off+(k+1)+r.length)=L.drop (off+k+(r.length+1)):=by
   rw[List.drop_append,ht,show(L.take (off+k)).drop (off+(k+1)+r.length)=[]from List.drop_eq_nil_of_le Yi,show off+(k+1)+r.length - (off+k)=r.length+1 by omega];simp[List.drop_drop];congr 1;omega
  rw[e1,e2];simp
theorem fill_fold (C Z:Array Value) (off:Nat) (h:off+C.size≤Z.size):
  C.zipIdx.foldl (fun(cs:Array Value) (x:Value×Nat)=>cs.setIfInBounds (off+x.2) x.1) Z=(Z.toList.take off ++ C.toList ++ Z.toList.drop (off+C.size)).toArray:=by
 apply Array.ext';rw[←Array.foldl_toList,Array.toList_zipIdx,fold_set C.toList 0 off Z (by have:C.toList.length=C.size:=rfl;omega)];simp
end
section
open Go.RowKit Go.Shelf Go.Lib
def j0 (d:Nat):UInt8:=if d < 10 then UInt8.ofNat (48+d)else UInt8.ofNat (87+d)
def Dz:Nat→Nat→List UInt8
 | 0,_=>[]
 | f+1,n=>if n < 16 then [j0 n]else Dz f (n / 16) ++ [j0 (n % 16)]
def cf (n:Nat):List UInt8:=Dz 17 n
theorem k6 (f n:Nat):Dz (f+1) n=if n < 16 then [j0 n]else Dz f (n / 16) ++ [j0 (n % 16)]:=rfl
theorem yl:∀(f g n:Nat),n < 16 ^ (f+1)→f≤g→Dz (f+1) n=Dz (g+1) n
 | 0,g,n,h,_=>by
  have h':n < 16:=by simpa using h
  rw[k6,k6,if_pos h',if_pos h']
 | f+1,0,n,h,hg=>by omega
 | f+1,g+1,n,h,hg=>by
  rw[k6 (f+1),k6 (g+1)];split
  ·rfl
  ·have h1:n / 16 < 16 ^ (f+1):=by
    rw[Nat.pow_succ]at h;omega
   rw[yl f g (n / 16) h1 Yi]
theorem lp {n:Nat} (h:n < 16):cf n=[j0 n]:=by
 unfold cf;rw[k6,if_pos h]
theorem m6 {n:Nat} (h:16≤n) (hn:n < 2 ^ 64):cf n=cf (n / 16) ++ [j0 (n % 16)]:=by
 unfold cf;rw[k6,if_neg Yi,yl 15 16 (n / 16) Yi Yi]
theorem Le:∀(f n:Nat),(Dz f n).length≤f
 | 0,_=>Nat.zero_le _
 | f+1,n=>by
  rw[Dz];split
  ·simp
  ·have:=Le f (n / 16);simp;exact this
theorem gf {n:Nat} (hn:n < 2 ^ 64):1≤(cf n).length∧(cf n).length≤16:=by
 have e:cf n=Dz 16 n:=(yl 15 16 n Yi Yi).symm;rw[e];refine⟨?_,Le 16 n⟩;rw[k6];split <;> simp
theorem TZ64 (w:World) (ht:w.cell? ⟨7,15,none⟩=some (.int .u8 4)):
  Calls prog 312 #[Yq 16] w fun e w'=>e= .returned (Yp 4)∧Gr w w':=by
 have q1:IntKind.u64.wrap (-16)=18446744073709551600:=Yh;have q2:bits .and .u64 16 18446744073709551600=16:=Yh;have q3:IntKind.u64.wrap 4573923408821661840=4573923408821661840:=Yh;go_enter func312,ntmps312;go_wp2;go_ret;exact⟨rfl,Yu _⟩
theorem TZ16 (w:World) (ht:w.cell? ⟨7,15,none⟩=some (.int .u8 4)):
  Calls prog 303 #[Yq 16] w fun e w'=>e= .returned (Yp 4)∧Gr w w':=by
 have TZ:=hid (TZ64 w ht);clear ht;go_enter func303,ntmps303;go_wp2_with fail;refine TZ.out.mono ?_;rintro e w1 ⟨rfl,hg⟩;go_wp2;go_ret;exact⟨rfl,hg⟩
theorem pow16 (w:World):Calls prog 302 #[Yp 16] w fun e w'=>e= .returned (.bool true)∧Gr w w':=by
 have q1:bits .and .i64 16 15=0:=Yh;go_enter func302,ntmps302;go_wp2;go_ret;exact⟨rfl,Yu _⟩
theorem and15 (m:Nat) (h:m < 2 ^ 64):bits .and .u64 (m:Int) 15=((m % 16:Nat):Int):=by
 have:=bits_mask .u64 64 Yk (fun n h0 h1=>IntWalk.u64_in n Yi) 4 Yk (m:Int) Yi Yi;have e:((m % 16:Nat):Int)=(m:Int) % 16:=Yi;rw[e];exact this
def ZB (w:World) (b k:Nat) (L:List UInt8):Prop:=∃Z:List Int,Z.length=65∧w.heap[b]?=some (.cells (Z.map (Value.int .u8)).toArray 407 (0,0))∧Z.drop k=L.map fun c=>(c.toNat:Int)
theorem ZB.gr {w w':World} {b k:Nat} {L:List UInt8} (h:ZB w b k L) (g:Gr w w'):ZB w' b k L:=by
 obtain⟨Z,h1,h2,h3⟩:=h;exact⟨Z,h1,g.heap h2,h3⟩
theorem ZB.cell {w:World} {b k:Nat} {L:List UInt8} (h:ZB w b k L) (j:Nat) (hj:j < 65):∃x,w.cell? ⟨b,j,none⟩=some (.int .u8 x)∧w.frozen? ⟨b,j,none⟩=false:=by
 obtain⟨Z,h1,h2,h3⟩:=h;obtain⟨c,f,z⟩:=ab h2;exact⟨Z[j],by rw[c];simp[show j < Z.length by omega],f j⟩
theorem ZB.put {w:World} {b j:Nat} {L:List UInt8} (h:ZB w b (j+1) L) (c:UInt8) (hj:j < 65):ZB (w.setCell (Yo b j) (Ys c.toNat)) b j (c :: L):=by
 obtain⟨Z,h1,h2,h3⟩:=h;refine⟨Z.set j c.toNat,by simpa using h1,?_,?_⟩
 ·rw[dz h2];congr 2;apply Array.ext';simp[List.map_set]
 ·have e:(Z.set j c.toNat).drop j=(c.toNat:Int) :: Z.drop (j+1):=by
   rw[List.drop_eq_getElem_cons (by rw[List.length_set];omega),List.getElem_set_self,List.drop_set_of_lt Yi]
  rw[e,h3];rfl
theorem Nz:∀(L:List UInt8),strOfNums (L.map fun c=>(c.toNat:Int))=⟨L.toArray⟩:=fun L=>by
 unfold strOfNums;congr 1;rw[List.map_map];congr 1;have:((fun x:Int=>UInt8.ofNat x.toNat)∘fun c:UInt8=>(c.toNat:Int))=id:=by
  funext c;simp
 first | rw[this,List.map_id] | (simp)
theorem ZB.conv {w:World} {b k:Nat} {L:List UInt8} (h:ZB w b k L) (hk:k≤65):∀c,(convert 205 9 (.slice (some ⟨b,k,none⟩) (65 - k) c)).run prog w= .ok (.string ⟨L.toArray⟩) w:=fun c=>by
 obtain⟨Z,h1,h2,h3⟩:=h;rw[←Nz,←h3];exact run_convert_bytes_arg w 205 5 underlying205 underlying5 b k (65 - k) c (Z.drop k) (by rw[List.length_drop];omega) (fun i hi=>by
  rw[(ab h2).1];have e:k+i < Z.length:=Yi;simp[List.getD,e]) 9 underlying9
theorem digs:∀{j:Nat} (_:j < 16) (h2:j < (⟨#[48,49,50,51,52,53,54,55,56,57,97,98,99,100,101,102,103,104,105,106,107,108,109,110,111,112,113,114,115,116,117,118,119,120,121,122]⟩:ByteArray).size),(⟨#[48,49,50,51,52,53,54,55,56,57,97,98,99,100,101,102,103,104,105,106,107,108,109,110,111,112,113,114,115,116,117,118,119,120,121,122]⟩:ByteArray)[j]'h2=j0 j
 | 0,_,_=>rfl
 | 1,_,_=>rfl
 | 2,_,_=>rfl
 | 3,_,_=>rfl
 | 4,_,_=>rfl
 | 5,_,_=>rfl
 | 6,_,_=>rfl
 | 7,_,_=>rfl
 | 8,_,_=>rfl
 | 9,_,_=>rfl
 | 10,_,_=>rfl
 | 11,_,_=>rfl
 | 12,_,_=>rfl
 | 13,_,_=>rfl
 | 14,_,_=>rfl
 | 15,_,_=>rfl
 | _+16,h,_=>absurd h Yi
theorem zero65:Tryz.zeroCells407=((List.replicate 65 (0:Int)).map (Value.int .u8)).toArray:=Yh
theorem fmt16 (n:Nat) (hn:n < 2 ^ 64) (w:World) (ht:w.cell? ⟨7,15,none⟩=some (.int .u8 4)):
  Calls prog 287 #[.slice none 0 0,n,Yp 16,.bool false,.bool false] w fun e w'=>e= .returned (.tuple #[.slice none 0 0,.string ⟨(cf n).toArray⟩])∧Gr w w':=by
 have TZ:=hid (fun u (g:Gr w u)=>TZ16 u ((g.cells.1 _ _ (World.block_lt_of_cell? _ _ ht)).trans ht));have PW:=hid (fun u=>pow16 u);clear ht;go_enter func287,ntmps287;go_upto_region 4 with (fail);have bx:=ae w (.cells Tryz.zeroCells407 407);have g0:Gr w (w.alloc (.cells Tryz.zeroCells407 407)):=(Yu w).alloc _;generalize w.alloc (.cells Tryz.zeroCells407 407)=W at *;obtain⟨b,hb⟩:∃b,w.heap.size=b:=⟨_,rfl⟩;rw[hb]at bx;simp only[hb];have HB:=hid hb;clear hb;have HZ:Hid (ZB W b 65 []):=hid ⟨List.replicate 65 0,Yj,by rw[bx,zero65],Yj⟩;clear bx;go_wp2_with fail;refine(PW.out _).mono ?_;rintro e w1 ⟨rfl,hg1⟩;go_wp2_with fail;refine(TZ.out _ (g0.trans hg1)).mono ?_;rintro e w2 ⟨rfl,hg2⟩;have G2:=(g0.trans hg1).trans hg2;have HZ2:=hid (HZ.out.gr (hg1.trans hg2));clear HZ hg1 hg2 PW TZ;have hlen:=gf hn;go_wp2;go_loopw [1,13] (fun u q wr=>∃(m:Nat) (L:List UInt8),u= .int .u64 m∧q= .int .i64 ((65 - L.length:Nat):Int)∧m < 2 ^ 64∧L.length+(cf m).length≤16∧Hid (cf n=cf m ++ L)∧GrL [b] w2 wr∧Hid (ZB wr b (65 - L.length) L)) (fun u _ _=>(intOf u).toNat)
 case atStart=>exact⟨n,[],rfl,rfl,hn,by simpa using hlen.2,hid Yj,GrL.of_gr (Yu _),HZ2⟩
 case round=>
  obtain⟨m,L,rfl,rfl,hm,hL,HN,gr,HZ⟩:=hrel;have hl1:=(gf hm).1;obtain⟨k,hk⟩:∃k,65 - L.length=k+1:=⟨64 - L.length,Yi⟩;rw[hk]at HZ;simp only[hk];have hk64:k < 65:=Yi;have hk64':(k:Int) < 65:=Yi;have hk0:(0:Int)≤k:=Yi;obtain⟨x0,c0,f0⟩:=HZ.out.cell k hk64
  by_cases h16:16≤m
  ·have h16':(16:Int)≤m:=Yi;have ha:=and15 m hm;have hm16:m % 16 < 16:=Nat.mod_lt _ Yi;go_wp2;have hst:=m6 h16 hm;have hlen2:(cf m).length=(cf (m / 16)).length+1:=by rw[hst,List.length_append];rfl
   have hkl:65 - (j0 (m % 16) :: L).length=k:=by rw[List.length_cons];omega
   rw[digs hm16];refine⟨⟨m / 16,j0 (m % 16) :: L,Yj,by rw[hkl],Yi,by rw[List.length_cons];omega,hid (by rw[HN.out,hst];simp),GrL.set gr _ _ (Or.inr Yj),hid (by rw[hkl];exact HZ.out.put _ hk64)⟩,by simp[intOf];omega⟩
  ·have h16':¬(16:Int)≤m:=Yi;have hm16:m < 16:=Yi;go_wp2;rw[digs hm16];have HZ3:=hid (HZ.out.put (j0 m) hk64);have G3:GrL [b] w2 (wr.setCell (Yo b k) (Ys (j0 m).toNat)):=GrL.set gr _ _ (Or.inr Yj);generalize wr.setCell (Yo b k) (Ys (j0 m).toNat)=W3 at *;have hst:=lp hm16;have hLn:cf n=j0 m :: L:=by rw[HN.out,hst];rfl
   have hkL:65 - k=(j0 m :: L).length:=by rw[List.length_cons];omega
   have hcv:=HZ3.out.conv Yi;rw[show 65 - k=L.length+1 from by omega]at hcv;have HLN:=hid hLn;clear hLn;have hk65:(k:Int)≤65:=Yi;have hk65':¬65=k:=Yi;have HR:=hid (GrL.gr G2 G3 (fun i hi=>by rw[HB.out];simp at hi;omega));clear G3 HZ3 HZ HN gr c0 f0;go_simp;go_wp2;go_ret2;exact⟨(by rw[HLN.out];rfl),HR.out⟩
theorem Bf (n:Nat) (hn:n < 2 ^ 64) (w:World) (ht:w.cell? ⟨7,15,none⟩=some (.int .u8 4)):
  Calls prog 260 #[n,Yp 16] w fun e w'=>e= .returned (.string ⟨(cf n).toArray⟩)∧Gr w w':=by
 have F:=hid (fmt16 n hn w ht);clear ht;go_enter func260,ntmps260;go_wp2_with fail;refine F.out.mono ?_;rintro e w1 ⟨rfl,hg⟩;go_wp2;go_ret;exact⟨rfl,hg⟩
theorem pd (n:Nat) (hn:n < 2 ^ 64) (w:World) (ht:w.cell? ⟨7,15,none⟩=some (.int .u8 4)):
  Calls prog 216 #[n,Yp 16] w fun e w'=>e= .returned (.string ⟨(cf n).toArray⟩)∧Gr w w':=by
 have F:=hid (Bf n hn w ht);clear ht;go_enter func216,ntmps216;go_wp2_with fail;refine F.out.mono ?_;rintro e w1 ⟨rfl,hg⟩;go_wp2;go_ret;exact⟨rfl,hg⟩
end
end Go.Proofs.YtimcfaoabaflkaaGreatDoor
