/- reference 04: Check, Act. -/
import Derived.Test.YtimcfaoabaflkaaGreatDoorRRun
import Derived.Test.YtimcfaoabaflkaaGreatDoorRSr
import Derived.Test.YtimcfaoabaflkaaGreatDoorRForm
import Derived.Test.YtimcfaoabaflkaaGreatDoorTrZ
import Derived.Test.YtimcfaoabaflkaaGreatDoorJDel
import Derived.Test.YtimcfaoabaflkaaGreatDoorTrO
import Derived.Test.YtimcfaoabaflkaaGreatDoorTrV
import Derived.Test.YtimcfaoabaflkaaGreatDoorLLib
import Derived.Test.YtimcfaoabaflkaaGreatDoorLDisk
import Derived.OwnWalk
import Derived.Lib.Overlaps
import Derived.Lib.AppendZerosOnto
import Derived.Shelf.RegionOpenPlain
namespace Go.Proofs.YtimcfaoabaflkaaGreatDoor
open AbA AbI
set_option maxHeartbeats 8000000
set_option maxRecDepth 100000
open Go.Proofs.Tryz
section
open Go.RowKit Go.Shelf Go.Lib
theorem Cq (p0 p1 p2 p3 p4 p5 p6 p7:Nat) (L:List S8) (A:List Ac) (pv av:Value) (w:World) (hv:bo w 8 pv (L.map S8.cs)) (hok:∀s∈L,s.ok) (hP:S8.ok ⟨p0,p1,p2,p3,p4,p5,p6,p7⟩) (hav:l5 w av A):
  Calls prog 12 #[.agg #[p0,p1,p2,p3,p4,p5,p6,p7,pv,av]] w fun e w'=>e= .returned (.tuple #[Yp (du ⟨p0,p1,p2,p3,p4,p5,p6,p7⟩ L A).1,Yp (du ⟨p0,p1,p2,p3,p4,p5,p6,p7⟩ L A).2])∧Gr w w':=by
 obtain⟨aa,ac,rfl,_,_⟩:=id hav.1;obtain⟨pa,pc_,rfl,_,_⟩:=id hv;rw[List.length_map]at hav hv ⊢;rw[List.length_map];have h0:=ae w (.cells #[p0,p1,p2,p3,p4,p5,p6,p7,.slice pa L.length pc_,.slice aa A.length ac] 45);have gI:=(Yu w).alloc (.cells #[p0,p1,p2,p3,p4,p5,p6,p7,.slice pa L.length pc_,.slice aa A.length ac] 45);have H0:=hid h0;have GI:=hid gI;have RU:=hid (zan p0 p1 p2 p3 p4 p5 p6 p7 L A (.slice pa L.length pc_) (.slice aa A.length ac) _ (hv.gr gI) hok hP (hav.gr gI));clear h0 gI hv hok hP hav;obtain⟨⟨i,r⟩,hC⟩:∃C,du ⟨p0,p1,p2,p3,p4,p5,p6,p7⟩ L A=C:=⟨_,rfl⟩;rw[hC]at RU;rw[hC];clear hC;go_enter func12,ntmps12;obtain⟨x0,y0,z0⟩:=bw H0.out;go_wp2_with fail;clear x0 y0 z0;refine(RU.out).mono ?_;rintro e w1 ⟨⟨⟨f,on⟩,rfl⟩,g1⟩;have G1:=hid ((GI.out.trans g1).alloc (.cells (tn (f,on)) 100));clear g1 RU;go_wp2;exact bodyPost_ret (v:= .tuple #[Yp i,Yp r]) (by simp[results,results12,go_sem]) rfl ⟨Yj,G1.out⟩
theorem L5 {P:S8} {L:List S8} {A:List Ac} (h:(du P L A).2=0):A.length≤60:=by
 unfold du at h;split at h
 ·rename_i hc;exact absurd h hc
 ·split at h
  ·cases h
  ·omega
end
section
open Go.RowKit Go.Shelf Go.Lib
theorem az.whole {u:World} {base g cap:Nat} {Q:List Q3} (HB:az u base (.slice (Yn g) Q.length cap) Q) (i:Nat) (hi:i < Q.length) (q:Q3) (hq:Q[i]=q) (L':List S8) (A':List Ac) (sp sa:Sv)
  (hp:u.ownsRow base 39 8 sp.v L'.length (L'.flatMap S8.cs)) (ha:u.ownsRow base 54 10 sa.v A'.length (A'.flatMap Ac.cs)):
  az (u.setCells g (i * 13) [Yp q.k.id,Yp q.k.size,Yp q.k.st,q.k.blank.a0,q.k.blank.a1,q.k.blank.a2,q.k.blank.a3,q.k.blank.a4,q.k.blank.a5,q.k.blank.a6,q.k.blank.a7,sp.v,sa.v]) base (.slice (Yn g) Q.length cap) (Q.set i ⟨{q.k with pieces:=L',acts:=A'},sp,sa⟩):=by
 have h0:az u base (.slice (some ⟨g,0,none⟩) Q.length cap) Q∧QOk u base ⟨{q.k with pieces:=L'},sp,q.a⟩∧QOk u base ⟨{q.k with pieces:=L',acts:=A'},sp,sa⟩:=⟨HB,⟨hp,(HB.q q (hq▸List.getElem_mem hi)).a⟩,⟨hp,ha⟩⟩;have h1:=gd h0 rfl i 0 hi Yk (Yp q.k.id) (by rw[hq];rfl);have h2:=gd h1 rfl i 1 hi Yk (Yp q.k.size) (by rw[hq];rfl);have h3:=gd h2 rfl i 2 hi Yk (Yp q.k.st) (by rw[hq];rfl);have h4:=h3.1.hist i hi q hq L' A' sp sa h3.2.1.p h3.2.2.a;have e:u.setCells g (i * 13) [Yp q.k.id,Yp q.k.size,Yp q.k.st,q.k.blank.a0,q.k.blank.a1,q.k.blank.a2,q.k.blank.a3,q.k.blank.a4,q.k.blank.a5,q.k.blank.a6,q.k.blank.a7,sp.v,sa.v]=(((u.setCell (Yo g (i * 13+0)) (Yp q.k.id)).setCell (Yo g (i * 13+1)) (Yp q.k.size)).setCell (Yo g (i * 13+2)) (Yp q.k.st)).setCells g (i * 13+3) [q.k.blank.a0,q.k.blank.a1,q.k.blank.a2,q.k.blank.a3,q.k.blank.a4,q.k.blank.a5,q.k.blank.a6,q.k.blank.a7,sp.v,sa.v]:=by simp only[World.setCells,Nat.add_assoc,Nat.reduceAdd,Nat.add_zero]
 rw[e];exact h4
theorem E0 {u:World} {base g cap:Nat} {Q:List Q3} (HB:az u base (.slice (Yn g) Q.length cap) Q) (i:Nat) (hi:i < Q.length) (q:Q3) (hq:Q[i]=q):u.rangeAt g (i * 13) q.cs:=fun j v hv=>by
 have hj:j < 13:=by
  have:=(List.getElem?_eq_some_iff.1 hv).1
  rwa [Q3.cs_len]at this
 exact gc Q3.cs 13 Q3.cs_len HB.r i j hi hj v (by rw[hq];exact hv)
theorem az.off {w w':World} {base q:Nat} {v:Value} {Q:List Q3} {c:Array Value} (h:az w base v Q) (g:GrL [q] w w') (hq:w.heap[q]?=some (.cells c 47 (0,0))) (hne:v.ownBlock≠some q):az w' base v Q:=by
 have key:∀{T:TypeId} {k n:Nat} {x:Value} {xs:List Value},w.ownsRow base T k x n xs→T≠47→w'.ownsRow base T k x n xs:=fun ho hT=>fv ho g (fun b hb hm=>by
  rw[List.mem_singleton.1 hm]at hb;obtain⟨cur,h1⟩:=bi ho hb;rw[hq]at h1;simp only[Option.some.injEq,Obj.cells.injEq]at h1;exact hT h1.2.1.symm)
 exact⟨fv h.r g (fun b hb hm=>by rw[List.mem_singleton.1 hm]at hb;exact hne hb),fun z hz=>⟨key (h.q z hz).p Yk,key (h.q z hz).a Yk⟩⟩
theorem Bo (u:World) (z cs:Array Value) (T:TypeId):∃V,(u.alloc (.cells z T (0,0))).setRow u.heap.size cs=V∧V.heap[u.heap.size]?=some (.cells cs T (0,0))∧Gr u V:=
 ⟨_,rfl,setRow_heap _ _ _ _ _ _ (ae u _),((Yu u).alloc _).setRow _ _ (Yv _)⟩
end
section
open Go.RowKit Go.Shelf Go.Lib
theorem zch (n:Int) (v:Value) (w:World) (hc:(decide (n=3) || decide (n=5))=false):
  Calls prog 16 #[Yp n,v] w fun e w'=>e= .returned (.tuple #[.slice none 0 0,Yp 1])∧Gr w w':=by
 have CH:=hid (Y8 n v w hc);clear hc;go_enter func16,ntmps16;go_wp2_with fail;refine CH.out.mono ?_;rintro e w1 ⟨rfl,hg1⟩;go_wp2;go_ret2;exact⟨rfl,hg1⟩
theorem K9 (l:List Rc) (x:Rc):(n9 l x).length=l.length+1:=by
 have:=(yk l x).length_eq;simpa using this
end
section
open Go.RowKit Go.Shelf
theorem zcQ (base:Nat) (s:Value) (l:List Rc) (x:Rc) (g2 c2:Nat) (w:World) (hb:base≤w.heap.size) (hs:w.ownsRow base 36 4 s l.length (rcs l)) (hx:w.heap[g2]?=some (.cells x.cells.toArray 36 (0,0))) (hl:l.length≤1000000):
  Calls prog 43 #[s,Yp l.length,.slice (Yn g2) 1 c2] w fun e w'=>∃v',e= .returned v'∧w'.ownsRow base 36 4 v' (l ++ [x]).length (rcs (l ++ [x]))∧GrL s.ownBlock.toList w w':=by
 obtain⟨i0,hi,hz0,hz1,hz2⟩:=info_parts Dw;have HS:=hid hs;have hxl:rcs (l ++ [x])=rcs l ++ x.cells:=by rw[Np];simp[rcs]
 have hn1:(l ++ [x]).length=l.length+1:=Yj;rw[hxl,hn1];have one:∀v∈x.cells,v.oneCell'=true:=fun v hv=>Ho [x] v (by simpa[rcs]using hv);have hcx:=(bw hx).1;have HCX:=hid hcx;have HONE:=hid one;have hxlen:x.cells.length=1 * 4:=rfl;have HXL:=hid hxlen;generalize x.cells=xc at *;clear hx hcx one hxl hn1 hxlen;have hsf:∃a cap,s= .slice a l.length cap∧l.length≤cap∧cap≤9223372036854775807:=by
  rcases hs.2 with ⟨rfl,hz⟩ | ⟨g,cap,cur,rfl,_,_,h1,h2,_⟩
  ·rw[hz];exact⟨none,0,rfl,Yv _,Yi⟩
  ·exact⟨_,cap,rfl,h1,by unfold maxLen at h2;omega⟩
 obtain⟨a,cap,rfl,hcap,hcm⟩:=hsf;clear hs;have hl0:(0:Int)≤l.length:=Yi;have hc0:(l.length:Int)≤cap:=Yi
 by_cases hk:cap=l.length
 ·subst hk;go_enter func43,ntmps43;go_wp2_with (at_builtin;refine wpList_append_own _ rfl _ _ 22 rfl base 36 i0 _ 4 40 underlying22 hi hz0 hz1 hz2 rfl Yk _ _ _ rfl HS.out ⟨g2,0,none⟩ 1 c2 xc rfl HXL.out ?c1 ?c2 ?c3 ?c4 ?c5 ?c6)
  case c1=>
   intro j u hu;rw[Addr.add_mid,Nat.zero_add,HCX.out j];simpa using hu
  case c2=>exact HONE.out
  case c3=>unfold maxLen;omega
  case c4=>omega
  case c5=>exact hb
  case c6=>
   intro v' w1 hown hgrow _;go_wp2;go_ret;exact⟨v',rfl,hown,GrL.of_grown' hgrow⟩
 ·have hk2:(l.length:Int) < cap:=Yi;go_enter func43,ntmps43;go_wp2_with (at_builtin;refine wpList_append_own _ rfl _ _ 22 rfl base 36 i0 _ 4 40 underlying22 hi hz0 hz1 hz2 rfl Yk _ _ _ rfl HS.out ⟨g2,0,none⟩ 1 c2 xc rfl HXL.out ?c1 ?c2 ?c3 ?c4 ?c5 ?c6)
  case c1=>
   intro j u hu;rw[Addr.add_mid,Nat.zero_add,HCX.out j];simpa using hu
  case c2=>exact HONE.out
  case c3=>unfold maxLen;omega
  case c4=>omega
  case c5=>exact hb
  case c6=>
   intro v' w1 hown hgrow _;go_wp2;go_ret;exact⟨v',rfl,hown,GrL.of_grown' hgrow⟩
end
section
open Go.RowKit Go.Shelf Go.Lib
theorem zcO {P:Program} (w:World) (dT sT ty elem:TypeId) (b o dLen dCap:Nat) (a:Addr) (sLen sCap k:Nat) (cs:List Value)
  (hu:P.underlying dT=some (.slice elem)) (hs:(P.info? elem).map (·.size)=some k) (hn:cs.length=Nat.min sLen dLen * k)
  (hsrc:∀j v,cs[j]?=some v→w.cell? (a.add j)=some v) (hc:∀j,j < cs.length→(w.cell? ⟨b,o+j,none⟩).isSome=true) (hf:∀j,j < cs.length→w.frozen? ⟨b,o+j,none⟩=false) (h1:∀v∈cs,v.oneCell'=true):
  (Builtin.copy_ #[dT,sT] ty #[.slice (some ⟨b,o,none⟩) dLen dCap,.slice (some a) sLen sCap]).run P w= .ok (goInt (Nat.min sLen dLen)) (w.setCells b o cs):=by
 have hl:=run_firstCells_some (P:=P) w k (Nat.min sLen dLen) a sLen sCap cs hn hsrc;have hst:=run_storeCells_cells (P:=P) b o cs 0 w (by simpa using hc) (by simpa using hf) h1;cases hq:P.info? elem with
 | none=>simp[hq]at hs
 | some i=>
  have hi:i.size=k:=by simpa[hq]using hs
  subst hi;simp[Builtin.copy_,run_underlying hu,Builtin.lenOf,sizeOf,typeInfo,hq,hl,hst]
theorem Yb {P:Program} (w:World) {o:Oper} {a:Act} {K:Act→World→Prop} {Q:Exit→Act→World→Prop} (d s:Operand) (t t':TypeId)
  (ho:o.op= .call {callee:= .builtin .copy,args:=#[d,s],argTypes:=#[t,t']}) (v u:Value) (hd:a.eval d=v) (hs:a.eval s=u) {v':Value} {w':World}
  (hr:(Builtin.copy_ #[t,t'] o.type #[v,u]).run P w= .ok v' w') (h:K (a.put o.dst v') w'):o.wp P a w K Q:=by
 unfold Oper.wp execOp;simp only[ho,resolve,invoke,builtin,Sem.run_bind,Sem.run_pure,Result.andThen_ok,List.map_toArray,List.map_cons,List.map_nil,hd,hs,hr];exact h
theorem yb {P:Program} (w:World) {ops:Array Oper} {rest:List Oper} {o:Oper} {a:Act} {Q:Exit→Act→World→Prop} (hgd:o.guard=none) (d s:Operand) (t t':TypeId)
  (ho:o.op= .call {callee:= .builtin .copy,args:=#[d,s],argTypes:=#[t,t']}) (v u:Value) (hd:a.eval d=v) (hs:a.eval s=u) {v':Value} {w':World}
  (hr:(Builtin.copy_ #[t,t'] o.type #[v,u]).run P w= .ok v' w') (h:wpList P ops Q rest (a.put o.dst v') w'):wpList P ops Q (o :: rest) a w:=
 wpList_plain hgd fun _ hK=>Yb w d s t t' ho v u hd hs hr (hK _ _ h)
theorem zdc {pre post x L:List Value} (h:L.take (pre.length+post.length)=pre ++ post) (hx:pre.length+x.length+post.length≤L.length):
  ∃rest,(L.take (pre.length+x.length) ++ post ++ L.drop (pre.length+x.length+post.length)).take pre.length ++ x ++ (L.take (pre.length+x.length) ++ post ++ L.drop (pre.length+x.length+post.length)).drop (pre.length+x.length)=pre ++ x ++ post ++ rest∧(pre ++ x ++ post ++ rest).length=L.length:=by
 refine⟨L.drop (pre.length+x.length+post.length),?_,?_⟩
 ·have e0:(L.take (pre.length+x.length)).length=pre.length+x.length:=by rw[List.length_take];omega
  have e1:L.take pre.length=pre:=by
   have:=congrArg (List.take pre.length) h;rw[List.take_take,Nat.min_eq_left Yi,List.take_left]at this;exact this
  have e2:(L.take (pre.length+x.length) ++ post ++ L.drop (pre.length+x.length+post.length)).take pre.length=pre:=by
   rw[List.append_assoc,List.take_append_of_le_length Yi,List.take_take,Nat.min_eq_left Yi,e1]
  have e3:(L.take (pre.length+x.length) ++ post ++ L.drop (pre.length+x.length+post.length)).drop (pre.length+x.length)=post ++ L.drop (pre.length+x.length+post.length):=by
   rw[List.append_assoc,List.drop_append_of_le_length Yi,List.drop_eq_nil_of_le Yi,List.nil_append]
  rw[e2,e3];simp only[List.append_assoc]
 ·simp only[List.length_append,List.length_drop];omega
theorem zcE:∀(l:List Rc) (i:Nat),(rcs l).drop (i * 4)=rcs (l.drop i)
 | _,0=>by simp
 | [],i+1=>by simp[rcs]
 | y :: l,i+1=>by
  rw[show(i+1) * 4=i * 4+4 from by omega,List.drop_succ_cons];show(y.cells ++ rcs l).drop (i * 4+4)=rcs (l.drop i);rw[←zcE l i,Nat.add_comm (i * 4) 4,←List.drop_drop];rfl
theorem zc0 (l:List Rc) (i:Nat) (x:Rc):rcs (l.take i ++ [x] ++ l.drop i)=rcs (l.take i) ++ x.cells ++ rcs (l.drop i):=by
 rw[Np,Np];simp[rcs]
theorem zdO:(prog.info? 36).map (·.size)=some 4:=by
 obtain⟨i0,hi,hz0,hz1,hz2⟩:=info_parts Dw;rw[hi];simp[hz1]
theorem P7 (u:World) (g o:Nat) (T:TypeId) (C:Array Value) (h:u.heap[g]?=some (.cells C T (0,0))) (a:Addr) (dLen sLen:Nat) (cs:List Value) (hn:cs.length=Nat.min sLen dLen * 4)
  (hsrc:∀j v,cs[j]?=some v→u.cell? (a.add j)=some v) (hfit:o+cs.length≤C.size) (h1:∀v∈cs,v.oneCell'=true):
  (∀ty dc sc,(Builtin.copy_ #[22,22] ty #[.slice (some ⟨g,o,none⟩) dLen dc,.slice (some a) sLen sc]).run prog u= .ok (goInt (Nat.min sLen dLen)) (u.setCells g o cs))∧
  (u.setCells g o cs).heap[g]?=some (.cells (C.toList.take o ++ cs ++ C.toList.drop (o+cs.length)).toArray T (0,0))∧GrL [g] u (u.setCells g o cs):=by
 refine⟨fun ty dc sc=>?_,ss g T cs o u C h hfit,GrL.setCells g cs o u (GrL.of_gr (Yu u)) (Or.inr Yj)⟩;obtain⟨c1,f1,z1⟩:=bw h;exact zcO u _ _ ty 36 g o dLen dc a sLen sc 4 cs underlying22 zdO hn hsrc (fun j hj=>by rw[c1,Array.getElem?_eq_getElem Yi];rfl) (fun j _=>f1 _) h1
theorem zdE {base g cap i:Nat} {l:List Rc} {u:World} (ho:u.ownsRow base 36 4 (.slice (Yn g) l.length cap) l.length (rcs l)) (hi:i < l.length) (hc:l.length+1≤cap):
  ∃(C:Array Value) (u':World),C.size=cap * 4∧C.toList.take (l.length * 4)=rcs l∧cap≤maxLen∧base≤g∧
  (∀ty dc sc,(Builtin.copy_ #[22,22] ty #[.slice (some ⟨g,(i+1) * 4,none⟩) (l.length - i) dc,.slice (some ⟨g,i * 4,none⟩) (l.length+1 - i) sc]).run prog u= .ok (goInt ((l.length - i:Nat):Int)) u')∧
  u'.heap[g]?=some (.cells (C.toList.take ((i+1) * 4) ++ rcs (l.drop i) ++ C.toList.drop ((i+1) * 4+(l.length - i) * 4)).toArray 36 (0,0))∧GrL [g] u u':=by
 rcases ho.2 with ⟨hv,_⟩ | ⟨g',cap',cur,hv,hb,hg,hcap,hmax,hsz,htk⟩
 ·cases hv
 injection hv with ha _ hcc
 subst hcc;injection ha with ha
 injection ha with ha
 subst ha;have hlen:(rcs (l.drop i)).length=(l.length - i) * 4:=by rw[vf,List.length_drop]
 have hmin:Nat.min (l.length+1 - i) (l.length - i)=l.length - i:=Nat.min_eq_right Yi;obtain⟨h1,h2,h3⟩:=P7 u g ((i+1) * 4) _ cur hg ⟨g,i * 4,none⟩ (l.length - i) (l.length+1 - i) (rcs (l.drop i)) (by rw[hmin,hlen]) (fun j v hj=>by
   rw[Addr.add_mid];have hj4:j < (l.length - i) * 4:=by rw[←hlen];exact(List.getElem?_eq_some_iff.1 hj).1
   rw[ho.cellAt (i * 4+j) Yi,←List.getElem?_drop,zcE];exact hj) (by rw[hlen,hsz];omega) (Ho _)
 rw[hmin]at h1;rw[hlen]at h2;exact⟨cur,_,hsz,htk,hmax,hb,h1,h2,h3⟩
theorem zdD {base g cap i g2:Nat} {l:List Rc} {x:Rc} {u:World} {C:Array Value} (hsz:C.size=cap * 4) (htk:C.toList.take (l.length * 4)=rcs l) (hmax:cap≤maxLen) (hb:base≤g) (hi:i < l.length) (hc:l.length+1≤cap)
  (hg:u.heap[g]?=some (.cells (C.toList.take ((i+1) * 4) ++ rcs (l.drop i) ++ C.toList.drop ((i+1) * 4+(l.length - i) * 4)).toArray 36 (0,0))) (hx:u.heap[g2]?=some (.cells x.cells.toArray 36 (0,0))):
  ∃u':World,(∀ty dc sc,(Builtin.copy_ #[22,22] ty #[.slice (some ⟨g,i * 4,none⟩) (l.length+1 - i) dc,.slice (Yn g2) 1 sc]).run prog u= .ok (goInt 1) u')∧
   u'.ownsRow base 36 4 (.slice (Yn g) (l.length+1) cap) (l.length+1) (rcs (l.take i ++ [x] ++ l.drop i))∧GrL [g] u u':=by
 have hlen:(rcs (l.drop i)).length=(l.length - i) * 4:=by rw[vf,List.length_drop]
 have hlt:(rcs (l.take i)).length=i * 4:=by rw[vf,List.length_take,Nat.min_eq_left Yi]
 have hmin:Nat.min 1 (l.length+1 - i)=1:=Nat.min_eq_left Yi;have hxl:x.cells.length=4:=rfl;have hCl:C.toList.length=cap * 4:=by rw[Array.length_toList,hsz]
 have hcs:rcs l=rcs (l.take i) ++ rcs (l.drop i):=by rw[←Np,List.take_append_drop]
 obtain⟨rest,e1,e2⟩:=zdc (pre:=rcs (l.take i)) (post:=rcs (l.drop i)) (x:=x.cells) (L:=C.toList) (by rw[hlt,hlen,←hcs,←htk];congr 1;omega) (by rw[hlt,hlen,hxl,hCl];omega);rw[hlt,hlen,hxl]at e1;have e4:i * 4+4=(i+1) * 4:=Yi;rw[e4]at e1;have hD:(C.toList.take ((i+1) * 4) ++ rcs (l.drop i) ++ C.toList.drop ((i+1) * 4+(l.length - i) * 4)).length=cap * 4:=by
  simp only[List.length_append,List.length_take,List.length_drop,hCl,hlen];omega
 obtain⟨c1,f1,z1⟩:=bw hx;obtain⟨h1,h2,h3⟩:=P7 u g (i * 4) _ _ hg ⟨g2,0,none⟩ (l.length+1 - i) 1 x.cells (by rw[hmin,hxl]) (fun j v hj=>by
   rw[Addr.add_mid,Nat.zero_add,c1];simpa using hj) (by rw[hxl,List.size_toArray,hD];omega) (fun v hv=>Ho [x] v (by simpa[rcs]using hv))
 rw[hmin]at h1;refine⟨_,h1,?_,h3⟩;rw[hxl,e4]at h2;simp only[]at h2;rw[e1]at h2;have hrl:(rcs (l.take i ++ [x] ++ l.drop i)).length=(l.length+1) * 4:=by
  rw[vf];simp only[List.length_append,List.length_take,List.length_drop,List.length_singleton];omega
 refine⟨hrl,.inr ⟨g,cap,_,rfl,hb,h2,hc,hmax,by rw[List.size_toArray,e2,hCl],?_⟩⟩;rw[zc0]at hrl ⊢;rw[←hrl];exact List.take_left
theorem zdC:prog.underlying 3=some (.int .i64):=underlying3
theorem ins_app {base g cap i:Nat} {l:List Rc} {u:World} (ho:u.ownsRow base 36 4 (.slice (Yn g) l.length cap) l.length (rcs l)) (hi:i < l.length) (hc:cap < l.length+1) (hl:l.length≤1000000):
  ∃(N G:Nat) (C:Array Value) (u':World),(∀ty,(Builtin.append_ #[22,3] ty #[.slice (Yn g) i cap,Yp ((l.length:Int)+1 - i)]).run prog u= .ok (.slice (Yn N) (l.length+1) G) u')∧
   u'.heap[N]?=some (.cells C 36 (0,0))∧C.size=G * 4∧C.toList.take (i * 4)=rcs (l.take i)∧l.length+1≤G∧G≤maxLen∧u.heap.size≤N∧Gr u u':=by
 obtain⟨i0,hI,hz0,hz1,hz2⟩:=info_parts Dw;have hcap:cap=l.length:=by
  rcases ho.2 with ⟨hv,_⟩ | ⟨g',cap',cur,hv,hb,hg,hcap,hmax,hsz,htk⟩
  ·cases hv
  injection hv with ha _ hcc
  omega
 have hlt:(rcs (l.take i)).length=i * 4:=by rw[vf,List.length_take,Nat.min_eq_left Yi]
 have hold:(Builtin.firstCells i0.size i (.slice (Yn g) i cap)).run prog u.drew= .ok (rcs (l.take i)).toArray u.drew:=by
  rw[hz1];refine run_firstCells_some u.drew 4 i ⟨g,0,none⟩ i cap (rcs (l.take i)) hlt (fun j v hj=>?_);rw[Addr.add_mid,Nat.zero_add];have hj4:j < i * 4:=by rw[←hlt];exact(List.getElem?_eq_some_iff.1 hj).1
  show u.cell? ⟨g,j,none⟩=some v;rw[ho.cellAt j Yi,←hj,←zc6,List.getElem?_take,if_pos hj4]
 have hk:i+(l.length+1 - i)=l.length+1:=Yi;have hkk:(l.length:Int)+1 - i=((l.length+1 - i:Nat):Int):=Yi;have hbig:(l.length+1) * i0.bytes≤140737488355328:=by rw[hz2];omega
 have hr:=fun ty=>Lib.run_append_grow_zeros u 22 3 ty 36 i0 _ .i64 .i64 underlying22 zdC hI hz0 (Yn g) i cap (rcs (l.take i)) hold (l.length+1 - i) Yi (by rw[hz1];omega) Yi Yi (by rw[hz2];omega) (by rw[hk];exact growslice_fits hc hbig);rw[hk]at hr;refine⟨_,_,_,_,fun ty=>by rw[hkk];exact hr ty,heap_alloc_new u.drew _,?_,?_,grownCap_ge u _ _ _,grownCap_le_maxLen u _ _ _ (by unfold maxLen;omega),Yv _,(Yu u).drew.alloc _⟩
 ·have hge:=grownCap_ge u (l.length+1) cap 36;simp only[Array.size_append,List.size_toArray,size_zeroCells,hlt];show i * 4+(l.length+1 - i) * 4+(grownCap u (l.length+1) cap 36 - (l.length+1)) * 4=_;omega
 ·simp only[Array.toList_append,List.append_assoc];rw[←hlt];exact List.take_left
theorem zdR {N G i n g2:Nat} {pre:List Value} {x:Rc} {u:World} {C:Array Value} (hN:u.heap[N]?=some (.cells C 36 (0,0))) (hsz:C.size=G * 4) (htk:C.toList.take (i * 4)=pre) (hi:i < n) (hG:n+1≤G)
  (hx:u.heap[g2]?=some (.cells x.cells.toArray 36 (0,0))):
  ∃(D:Array Value) (u':World),(∀ty dc sc,(Builtin.copy_ #[22,22] ty #[.slice (some ⟨N,i * 4,none⟩) (n+1 - i) dc,.slice (Yn g2) 1 sc]).run prog u= .ok (goInt 1) u')∧
   u'.heap[N]?=some (.cells D 36 (0,0))∧D.size=G * 4∧D.toList.take ((i+1) * 4)=pre ++ x.cells∧GrL [N] u u':=by
 have hmin:Nat.min 1 (n+1 - i)=1:=Nat.min_eq_left Yi;have hxl:x.cells.length=4:=rfl;obtain⟨c1,f1,z1⟩:=bw hx;obtain⟨h1,h2,h3⟩:=P7 u N (i * 4) _ _ hN ⟨g2,0,none⟩ (n+1 - i) 1 x.cells (by rw[hmin,hxl]) (fun j v hj=>by
   rw[Addr.add_mid,Nat.zero_add,c1];simpa using hj) (by rw[hxl,hsz];omega) (fun v hv=>Ho [x] v (by simpa[rcs]using hv))
 rw[hmin]at h1;have hCl:C.toList.length=G * 4:=by rw[Array.length_toList,hsz]
 have hpl:pre.length=i * 4:=by rw[←htk,List.length_take,hCl];omega
 refine⟨_,_,h1,h2,?_,?_,h3⟩
 ·rw[List.size_toArray];simp only[List.length_append,List.length_take,List.length_drop,hCl,hxl];omega
 ·rw[htk];have:(i+1) * 4=(pre ++ x.cells).length:=by rw[List.length_append,hpl,hxl];omega
  rw[this];exact List.take_left
theorem zdQ {base base' g cap N G i:Nat} {l:List Rc} {x:Rc} {u:World} {D:Array Value} (ho:u.ownsRow base 36 4 (.slice (Yn g) l.length cap) l.length (rcs l)) (hb:base'≤N) (hi:i < l.length) (hG:l.length+1≤G) (hmax:G≤maxLen)
  (hN:u.heap[N]?=some (.cells D 36 (0,0))) (hsz:D.size=G * 4) (htk:D.toList.take ((i+1) * 4)=rcs (l.take i) ++ x.cells):
  ∃(u':World),(∀ty dc sc,(Builtin.copy_ #[22,22] ty #[.slice (some ⟨N,(i+1) * 4,none⟩) (l.length - i) dc,.slice (some ⟨g,i * 4,none⟩) (l.length - i) sc]).run prog u= .ok (goInt ((l.length - i:Nat):Int)) u')∧
   u'.ownsRow base' 36 4 (.slice (Yn N) (l.length+1) G) (l.length+1) (rcs (l.take i ++ [x] ++ l.drop i))∧GrL [N] u u':=by
 have hlen:(rcs (l.drop i)).length=(l.length - i) * 4:=by rw[vf,List.length_drop]
 have hmin:Nat.min (l.length - i) (l.length - i)=l.length - i:=Nat.min_eq_left (Yv _);have hDl:D.toList.length=G * 4:=by rw[Array.length_toList,hsz]
 obtain⟨h1,h2,h3⟩:=P7 u N ((i+1) * 4) _ _ hN ⟨g,i * 4,none⟩ (l.length - i) (l.length - i) (rcs (l.drop i)) (by rw[hmin,hlen]) (fun j v hj=>by
   rw[Addr.add_mid];have hj4:j < (l.length - i) * 4:=by rw[←hlen];exact(List.getElem?_eq_some_iff.1 hj).1
   rw[ho.cellAt (i * 4+j) Yi,←List.getElem?_drop,zcE];exact hj) (by rw[hlen,hsz];omega) (Ho _)
 rw[hmin]at h1;refine⟨_,h1,?_,h3⟩;have hrl:(rcs (l.take i ++ [x] ++ l.drop i)).length=(l.length+1) * 4:=by
  rw[vf];simp only[List.length_append,List.length_take,List.length_drop,List.length_singleton];omega
 refine⟨hrl,.inr ⟨N,G,_,rfl,hb,h2,hG,hmax,?_,?_⟩⟩
 ·rw[List.size_toArray];simp only[List.length_append,List.length_take,List.length_drop,hDl,hlen];omega
 ·rw[htk,zc0];rw[zc0]at hrl;rw[←hrl];exact List.take_left
end
section
open Go.RowKit Go.Shelf Go.Lib
theorem yc {P:Program} {ops:Array Oper} {o:Oper} {a:Act} {w:World} {K:Act→World→Prop} {Q:Exit→Act→World→Prop} {E:Prop}
  (hg:o.guard=none) (d x:Operand) (dT sT:TypeId) (hop:o.op=Op.call {callee:=Callee.builtin Builtin.copy,args:=#[d,x],argTypes:=#[dT,sT]})
  (v u:Value) (hd:a.eval d=v) (hx:a.eval x=u) {v':Value} {w':World} (hr:(Builtin.copy_ #[dT,sT] o.type #[v,u]).run P w= .ok v' w') (hK:K (a.put o.dst v') w'):
  if Region.wanted o (yielded ops a.tmps)=true then Oper.wp P o a w K Q else E:=by
 have hw:Region.wanted o (yielded ops a.tmps)=true:=by simp[Region.wanted,hg]
 rw[if_pos hw];exact Yb w d x dT sT hop v u hd hx hr hK
theorem zcu {w:World} {b:Nat} {C:Array Value} {T:TypeId} {f:Nat×Nat} (h:w.heap[b]?=some (.cells C T f)):w.shape? b=some (T,C.size):=by
 simp[World.shape?,h]
theorem zcM (base g cap i:Nat) (l:List Rc) (x:Rc) (g2 c2:Nat) (w:World) (hs:w.ownsRow base 36 4 (.slice (Yn g) l.length cap) l.length (rcs l)) (hx:w.heap[g2]?=some (.cells x.cells.toArray 36 (0,0))) (hne:g2≠g) (hi:i < l.length) (hl:l.length≤1000000) (hroom:l.length+1≤cap):
  Calls prog 43 #[.slice (Yn g) l.length cap,Yp i,.slice (Yn g2) 1 c2] w fun e w'=>∃v',e= .returned v'∧w'.ownsRow base 36 4 v' (l.length+1) (rcs (l.take i ++ [x] ++ l.drop i))∧GrL [g] w w':=by
 obtain⟨C,u1,hsz,htk,hmax,hb,hr1,hg1,hG1⟩:=zdE (u:=w.drew) hs.drew hi hroom;have hx1:u1.heap[g2]?=some (.cells x.cells.toArray 36 (0,0)):=(hG1.block g2 (ai hx) (by simpa using hne)).trans hx;obtain⟨u2,hr2,ho2,hG2⟩:=zdD (base:=base) hsz htk hmax hb hi hroom hg1 hx1;have HO:=hid ho2;have G:=((GrL.of_gr (l:=[g]) (Yu w).drew).trans hG1).trans hG2;have hov:∀lb cb,(callFunc 97 #[.slice (Yn g2) 1 c2,.slice (some ⟨g,(i+1) * 4,none⟩) lb cb]).run prog w= .ok (.value (.bool false)) w:=fun lb cb=>by
  rcases hs.2 with ⟨hv,_⟩ | ⟨g',cap',cur,hv,hb,hgg,hcap,hmax,hsz,htk⟩
  ·cases hv
  injection hv with ha _ hcc
  injection ha with ha
  injection ha with ha
  subst ha;subst hcc;rw[run_callFunc_extern func97 Yh Yh Yh (e:=Extern.SlicesOverlaps.overlaps #[22,22] #[4]) Yh,
   Lib.run_overlaps_apart w 22 4 36 underlying22 4 Tryz.sizeOf36 ⟨g2,0,none⟩ ⟨g,(i+1) * 4,none⟩ 1 c2 lb cb hne _ _ _ _ (zcu hx) (zcu hgg) Yi ((bw hx).2.1 0) ((bw hx).2.1 _)]
  rfl
 have hz2:¬((i:Int)=(l.length:Int)):=Yi;have hcm:cap≤9223372036854775807:=by unfold maxLen at hmax;omega
 have hin:i≤l.length:=Yi;have hb2:¬(cap=i+1):=Yi;have hb3:(i:Int)≤(l.length:Int)+1:=Yi;have hb4:¬(cap=i):=Yi;have hb5:¬(cap:Int) < (l.length:Int)+1:=Yi;have hb6:i+1≤l.length+1:=Yi;have mixed:prog.follows .mixedOrders=true:=Yh;have hw1:IntKind.i64.wrap ((i:Int)+1)=(i:Int)+1:=by rw[IntKind.wrap_i64];omega
 have hb1:(0:Int)≤(i:Int)+1:=Yi;have htn:((i:Int)+1).toNat=i+1:=Yi;have hin':(i:Int)≤(l.length:Int):=Yi;clear ho2 hG1 hG2 hx hx1 hs hg1 hsz htk hmax;go_enter func43,ntmps43;go_wp2_with (simp only[hov]);go_region_law_o (refine yc rfl _ _ 22 22 rfl _ _ (by simp[Act.eval,Act.put]) (by simp[Act.eval,Act.put]) (hr1 _ _ _) ?_);go_wp2_with (at_builtin;refine yb _ rfl _ _ 22 22 rfl _ _ rfl rfl (hr2 _ _ _) ?_);go_ret;exact⟨_,rfl,HO.out,G⟩
theorem zcN (base g cap i:Nat) (l:List Rc) (x:Rc) (g2 c2:Nat) (w:World) (hbw:base≤w.heap.size) (hs:w.ownsRow base 36 4 (.slice (Yn g) l.length cap) l.length (rcs l)) (hx:w.heap[g2]?=some (.cells x.cells.toArray 36 (0,0))) (hi:i < l.length) (hl:l.length≤1000000) (hroom:cap < l.length+1):
  Calls prog 43 #[.slice (Yn g) l.length cap,Yp i,.slice (Yn g2) 1 c2] w fun e w'=>∃v',e= .returned v'∧w'.ownsRow base 36 4 v' (l.length+1) (rcs (l.take i ++ [x] ++ l.drop i))∧GrL [g] w w':=by
 obtain⟨N,G,C,u1,hr1,hN1,hsz,htk,hG,hmax,hNw,g1⟩:=ins_app hs hi hroom hl;obtain⟨D,u2,hr2,hN2,hsz2,htk2,g2'⟩:=zdR (i:=i) hN1 hsz htk hi hG (g1.heap hx);have hgw:g < w.heap.size:=(hs.lt g rfl).2;have hgN:g≠N:=Yi;have hs2:u2.ownsRow base 36 4 (.slice (Yn g) l.length cap) l.length (rcs l):=Ny (ek hs g1) g2' (fun k hk=>by
  have:k=g:=by simpa[Value.ownBlock,eq_comm]using hk
  subst this;simpa using hgN)
 obtain⟨u3,hr3,ho3,g3⟩:=zdQ (base':=base) (x:=x) (u:=u2.drew) hs2.drew Yi hi hG hmax hN2 hsz2 htk2;have HO:=hid ho3;have GG:GrL [g] w u3:=GrL.of_gr (GrL.gr (GrL.gr g1 g2' (fun k hk=>by simp at hk;omega)).drew g3 (fun k hk=>by simp at hk;omega));have hz2:¬((i:Int)=(l.length:Int)):=Yi;have hcm:G≤9223372036854775807:=by unfold maxLen at hmax;omega
 have hin:i≤l.length:=Yi;have hGi:¬(G=i):=Yi;have hGi1:¬(G=i+1):=Yi;have hci:¬(cap=i):=by
  rcases hs.2 with ⟨hv,_⟩ | ⟨_,_,_,hv,_,_,hcap,_⟩
  ·cases hv
  ·injection hv with _ _ hcc;omega
 have hcc:cap≤1000000:=Yi;have hic:i≤cap:=by
  rcases hs.2 with ⟨hv,_⟩ | ⟨_,_,_,hv,_,_,hcap,_⟩
  ·cases hv
  ·injection hv with _ _ hcc;omega
 have hb3:(i:Int)≤(l.length:Int)+1:=Yi;have hb5:(cap:Int) < (l.length:Int)+1:=Yi;have hb6:i+1≤l.length+1:=Yi;have mixed:prog.follows .mixedOrders=true:=Yh;have hw1:IntKind.i64.wrap ((i:Int)+1)=(i:Int)+1:=by rw[IntKind.wrap_i64];omega
 have hb1:(0:Int)≤(i:Int)+1:=Yi;have htn:((i:Int)+1).toNat=i+1:=Yi;have hin':(i:Int)≤(l.length:Int):=Yi;clear ho3 g3 hs2 g2' hx hs hN2 hsz2 htk2 hN1 hsz htk hmax g1 hNw;go_enter func43,ntmps43;go_wp2_with (first
  | (at_builtin;refine Lib.wpList_append_run _ rfl _ _ _ _ rfl _ _ rfl rfl _ _ (hr1 _) ?_)
  | (at_builtin;refine yb _ rfl _ _ 22 22 rfl _ _ rfl rfl (hr2 _ _ _) ?_))
 go_region_law_o (refine yc rfl _ _ 22 22 rfl _ _ (by simp[Act.eval,Act.put]) (by simp[Act.eval,Act.put]) (hr3 _ _ _) ?_);go_wp2;go_ret;exact⟨_,rfl,HO.out,GG⟩
theorem zdg (base:Nat) (s:Value) (l:List Rc) (x:Rc) (i g2 c2:Nat) (w:World) (hb:base≤w.heap.size) (hs:w.ownsRow base 36 4 s l.length (rcs l)) (hx:w.heap[g2]?=some (.cells x.cells.toArray 36 (0,0))) (hne:s.ownBlock≠some g2) (hi:i≤l.length) (hl:l.length≤1000000):
  Calls prog 43 #[s,Yp i,.slice (Yn g2) 1 c2] w fun e w'=>∃v',e= .returned v'∧w'.ownsRow base 36 4 v' (l.take i ++ [x] ++ l.drop i).length (rcs (l.take i ++ [x] ++ l.drop i))∧GrL s.ownBlock.toList w w':=by
 by_cases hil:i < l.length
 ·have hlen:(l.take i ++ [x] ++ l.drop i).length=l.length+1:=by
   simp only[List.length_append,List.length_take,List.length_drop,List.length_singleton];omega
  rw[hlen];have hs0:=hs;rcases hs.2 with ⟨_,hz⟩ | ⟨g,cap,cur,rfl, -⟩
  ·omega
  have hne':g2≠g:=fun e=>hne (by subst e;rfl)
  by_cases hroom:l.length+1≤cap
  ·exact zcM base g cap i l x g2 c2 w hs0 hx hne' hil hl hroom
  ·exact zcN base g cap i l x g2 c2 w hb hs0 hx hil hl Yi
 ·obtain rfl:i=l.length:=Yi;rw[List.take_length,List.drop_length,List.append_nil];exact zcQ base s l x g2 c2 w hb hs hx hl
end
end Go.Proofs.YtimcfaoabaflkaaGreatDoor
