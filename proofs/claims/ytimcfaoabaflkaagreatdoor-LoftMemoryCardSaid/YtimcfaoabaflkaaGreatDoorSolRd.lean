/- solid: Read. -/
import Derived.Test.YtimcfaoabaflkaaGreatDoorPU
import Derived.Lib.SplitLaws
namespace Go.Proofs.YtimcfaoabaflkaaGreatDoor
open AbBase
open AbA AbI
set_option maxHeartbeats 16000000
set_option maxRecDepth 100000
open Go.Proofs.Tryz
section
open Go.RowKit Go.Shelf Go.Lib
theorem uw (sep:ByteArray):∀(k:Nat) (s:ByteArray),∀x∈splitB sep 0 k s,x.size<=s.size
 | 0,s=>by
  intro x hx;rw[splitB_zero]at hx;rw[List.mem_singleton.1 hx];exact Yv _
 | k+1,s=>by
  intro x hx;unfold splitB at hx;split at hx
  ·rw[List.mem_singleton.1 hx];exact Yv _
  ·rcases List.mem_cons.1 hx with rfl | hx
   ·rw[ByteArray.size_extract];omega
   ·have:=uw sep k _ x hx;rw[ByteArray.size_extract]at this;omega
abbrev plA (Q:List Nat):Array Value:=(Q.map λn:Nat=>Value.int .u64 (n:Int)).toArray
theorem Hv (Q:List Nat) (j n:Nat):(plA Q).setIfInBounds j n=plA (Q.set j n):=by
 apply Array.ext';simp[plA,List.map_set]
theorem Ch (l:List UInt8) (hl:l.length<=100000) (h:∀P:List Nat,P.length=8->(∀p∈P,p < 2 ^ 64)->dg P≠l) (w:World) (tw:TW w) (ht:w.cell? ⟨7,15,none⟩=some (.int .u8 4)):
  Calls prog 83 #[sv l] w λe w'=>e= .returned (.tuple #[Av 0 0 0 0 0 0 0 0,Yp 4])/\Gr w w':=by
 have hmf:∀(fn:Fn) (first cap:Array Value) (w:World),(Instr.makeFunc fn first cap).run prog w= .ok (.func fn first cap) w:=λ_ _ _ _=>rfl;have bp:=ae w (.cells Zc 39);have bq:=ae (w.alloc (.cells Zc 39)) (.cells #[Yp 0] 29);have bp:=((Yu _).alloc (.cells #[Yp 0] 29)).heap bp;have g0:Gr w ((w.alloc (.cells Zc 39)).alloc (.cells #[Yp 0] 29)):=((Yu w).alloc _).alloc _;simp only[World.size_alloc]at bq;obtain⟨mx,hmx⟩:=(tw.gr g0).m;have SP:=hid (Tryz.strings_Split ⟨l.toArray⟩ ⟨#[46]⟩ mx _ (by show l.length < _;omega) hmx Yk);have PY:=hid (λn (hn:n < 2 ^ 64) u (g:Gr w u)=>Gb n hn u (tw.gr g) ((g.cells.1 _ _ (World.block_lt_of_cell? _ _ ht)).trans ht));have PN:=hid (λx hx hh u (g:Gr w u)=>zaw x hx hh u (tw.gr g) ((g.cells.1 _ _ (World.block_lt_of_cell? _ _ ht)).trans ht));have SW:=hid (λp0 p1 p2 p3 p4 p5 p6 p7 hP u (g:Gr w u)=>nt p0 p1 p2 p3 p4 p5 p6 p7 hP u ((g.cells.1 _ _ (World.block_lt_of_cell? _ _ ht)).trans ht));have HH:=hid h;have hlen:=splitB_all ⟨#[46]⟩ Yk 0 _ ⟨l.toArray⟩ rfl;have hsm:=uw ⟨#[46]⟩ (countB ⟨l.toArray⟩ ⟨#[46]⟩) ⟨l.toArray⟩;have hcl:=countB_le ⟨#[46]⟩ Yk _ ⟨l.toArray⟩ (Yv _);have hsz:(⟨l.toArray⟩:ByteArray).size=l.length:=rfl;rw[hsz]at hsm hcl;clear tw ht h hmx;go_enter_defers func83,ntmps83;go_wp2_with fail;refine SP.out.mono ?_;rintro e w1 ⟨rfl,hw1⟩;have g1:Gr w w1:=by rw[hw1];exact g0.alloc _
 have gW:Gr ((w.alloc (.cells Zc 39)).alloc (.cells #[Yp 0] 29)) w1:=by rw[hw1];exact(Yu _).alloc _
 have bb:w1.heap[((w.alloc (.cells Zc 39)).alloc (.cells #[Yp 0] 29)).heap.size]?=some (.cells ((splitB ⟨#[46]⟩ 0 (countB ⟨l.toArray⟩ ⟨#[46]⟩) ⟨l.toArray⟩).map Value.string).toArray 9 (0,0)):=by rw[hw1];exact ae _ _
 have bp:=gW.heap bp;have bq:=gW.heap bq;generalize splitB ⟨#[46]⟩ 0 (countB ⟨l.toArray⟩ ⟨#[46]⟩) ⟨l.toArray⟩=X at *;generalize countB ⟨l.toArray⟩ ⟨#[46]⟩=K at *;have hb:((w.alloc (.cells Zc 39)).alloc (.cells #[Yp 0] 29)).heap.size=w.heap.size+1+1:=by simp only[World.size_alloc]
 rw[hb]at bb;simp only[hb];obtain⟨p,hp⟩:∃p,w.heap.size=p:=⟨_,rfl⟩;obtain⟨q,hq⟩:∃q,p+1=q:=⟨_,rfl⟩;obtain⟨b,hbb⟩:∃b,q+1=b:=⟨_,rfl⟩;rw[hp,hq,hbb]at bb;rw[hp,hq]at bq;rw[hp]at bp;simp only[hp,hq,hbb];have hpq:p≠q:=Yi;have hbp:b≠p:=Yi;have hbq:b≠q:=Yi;have FIN:Hid (∀u,GrL [p,q] w1 u->Gr w u):=hid (λu g=>GrL.gr g1 g (λi hi=>by simp at hi;omega));clear SP hw1 gW g0 hb hp hq hbb hsz;go_wp2;go_loopw [4,5,10] (λ_ _ r wr=>∃(j:Nat) (Q:List Nat),r= .int .i64 j/\j<=K+1/\Q.length=8/\Hid (∀n∈Q,n < 2 ^ 64)/\GrL [p,q] w1 wr/\Hid (wr.heap[p]?=some (.cells (plA Q) 39 (0,0))/\wr.heap[q]?=some (.cells #[Yp 0] 29 (0,0)))) (λ_ _ r _=>K+1 - (intOf r).toNat)
 case atStart=>exact⟨0,[0,0,0,0,0,0,0,0],rfl,Yi,rfl,hid Yk,GrL.of_gr (Yu _),hid ⟨bp,bq⟩⟩
 case round=>
  obtain⟨j,Q,rfl,hj,hQ,HQ,gr,HB⟩:=hrel;have bb2:=(gr.block b (ai bb) (by simp;omega)).trans bb;have HG:=hid (FIN.out _ gr)
  by_cases hjK:j < K+1
  ·have hjK':(j:Int) < (K:Int)+1:=Yi;have hj0:(0:Int)<=j:=Yi;have hxs:X[j]'Yi∈X:=List.getElem_mem _;have hx1:=hsm _ hxs;have hce:wr.cell? ⟨b,j,none⟩=some (.string (X[j]'Yi)):=by
    rw[(ed bb2).1];simp[show j < X.length by omega]
   have hzb:=(ed bb2).2.2;generalize X[j]'Yi=x at *;obtain⟨xl,hxl⟩:∃xl:List UInt8,x=⟨xl.toArray⟩:=⟨x.data.toList,rfl⟩;subst hxl;replace hx1:xl.length<=l.length:=hx1;clear hxs
   by_cases h8:8<=j
   ·have h8':(8:Int)<=j:=Yi;have TP:=HB.out.1;have TQ:=HB.out.2;have TG:=gr;go_wp2;refine leaves_cons (f:=137) (args:=#[Ym p,Ym q]) Yj (by simp[go_sem]) ?_;refine(oz p q _ (Yp 0) [] _ TP (by simp[hQ]) TQ hpq).mono ?_;rintro e u' w9 ⟨rfl,rfl,hp9,hq9,hg9⟩;have G9:=FIN.out _ (TG.trans hg9);obtain⟨cp,fp,zp⟩:=ed hp9;obtain⟨cq,fq,zq⟩:=ed hq9;clear TP TQ TG hg9;simp[Leaves,settle,results,results83,go_sem,cp,cq];exact G9
   ·have h8':¬(8:Int)<=j:=Yi
    by_cases hc:∃n,n < 2 ^ 64/\xl=cf n
    ·obtain⟨n,hn,rfl⟩:=hc;go_wp2_with fail;refine(PY.out n hn _ HG.out).mono ?_;rintro e w5 ⟨rfl,hg5⟩;have bp5:=hg5.heap HB.out.1;have bq5:=hg5.heap HB.out.2;have c5:=(ed bp5).1 j;have f5:=(ed bp5).2.1 j;have z5:=(ed bp5).2.2;have hcj:(plA Q)[j]?=some (.int .u64 (Q[j]'Yi:Nat)):=by simp[plA,show j < Q.length by omega]
     rw[hcj]at c5;have e5:=dz bp5 j n;rw[Hv]at e5;have gs:=GrL.set (gr.trans (GrL.of_gr (l:=[p,q]) hg5)) ⟨p,j,none⟩ n (Or.inr Yj);have eq5:=((GrL.set (l:=[p]) (GrL.of_gr (Yu w5)) ⟨p,j,none⟩ n (Or.inr Yj)).block q (ai bq5) (by simp;omega)).trans bq5;have HB5:=hid (And.intro e5 eq5);have HQ5:Hid (∀m∈Q.set j n,m < 2 ^ 64):=hid (λm hm=>by
      rcases List.mem_or_eq_of_mem_set hm with h | rfl
      ·exact HQ.out m h
      ·exact hn)
     have hj8:(j:Int) < 8:=Yi;clear e5 eq5 bp5 bq5 HB hcj HQ hce bb2;go_wp2;refine⟨⟨j+1,Q.set j n,Yj,Yi,by simpa using hQ,HQ5,gs,HB5⟩,by simp[intOf];omega⟩
    ·have PX:=hid (PN.out xl Yi (λn hn e=>hc ⟨n,hn,e⟩) _ HG.out);go_wp2_with fail;refine PX.out.mono ?_;rintro e w5 ⟨rfl,hg5⟩;have TP:=hg5.heap HB.out.1;have TQ:=hg5.heap HB.out.2;have TG:=gr.trans (GrL.of_gr (l:=[p,q]) hg5);go_wp2;refine leaves_cons (f:=137) (args:=#[Ym p,Ym q]) Yj (by simp[go_sem]) ?_;refine(oz p q _ (Yp 0) [] _ TP (by simp[hQ]) TQ hpq).mono ?_;rintro e u' w9 ⟨rfl,rfl,hp9,hq9,hg9⟩;have G9:=FIN.out _ (TG.trans hg9);obtain⟨cp,fp,zp⟩:=ed hp9;obtain⟨cq,fq,zq⟩:=ed hq9;clear TP TQ TG hg9;simp[Leaves,settle,results,results83,go_sem,cp,cq];exact G9
  ·have hjK':¬(j:Int) < (K:Int)+1:=Yi;have hne:=HH.out Q hQ HQ.out;obtain⟨q0,q1,q2,q3,q4,q5,q6,q7,rfl⟩:=lst8 hQ;have WX:=hid (SW.out q0 q1 q2 q3 q4 q5 q6 q7 HQ.out _ HG.out);have bp3:wr.heap[p]?=some (.cells #[q0,q1,q2,q3,q4,q5,q6,q7] 39 (0,0)):=HB.out.1;obtain⟨cp3,fp3,zp3⟩:=ed bp3;have hne2:(dg [q0,q1,q2,q3,q4,q5,q6,q7] == l)=false:=beq_eq_false_iff_ne.2 hne;clear hne;generalize dg [q0,q1,q2,q3,q4,q5,q6,q7]=T at *;go_wp2_with fail;refine WX.out.mono ?_;rintro e w5 ⟨rfl,hg5⟩;clear cp3 fp3 zp3;have TP:=hg5.heap bp3;have TQ:=hg5.heap HB.out.2;have TG:=gr.trans (GrL.of_gr (l:=[p,q]) hg5);go_wp2;refine leaves_cons (f:=137) (args:=#[Ym p,Ym q]) Yj (by simp[go_sem]) ?_;refine(oz p q _ (Yp 0) [] _ TP (by rfl) TQ hpq).mono ?_;rintro e u' w9 ⟨rfl,rfl,hp9,hq9,hg9⟩;have G9:=FIN.out _ (TG.trans hg9);obtain⟨cp,fp,zp⟩:=ed hp9;obtain⟨cq,fq,zq⟩:=ed hq9;clear TP TQ TG hg9;simp[Leaves,settle,results,results83,go_sem,cp,cq];exact G9
theorem yx {P:List Nat}:∀(k i:Nat),gj P k<=i->i < k->P.getD i 0=0
 | 0,i,_,h=>absurd h (Nat.not_lt_zero _)
 | 1,i,h1,h=>by
  have:gj P 1=1:=rfl;omega
 | k+2,i,h1,h=>by
  have e:gj P (k+2)=if P.getD (k+1) 0=0 then gj P (k+1)else k+2:=rfl;rw[e]at h1
  by_cases hz:P.getD (k+1) 0=0
  ·rw[if_pos hz]at h1
   by_cases hi:i=k+1
   ·subst hi;exact hz
   ·exact yx (k+1) i h1 Yi
  ·rw[if_neg hz]at h1;omega
theorem qr {P:List Nat}:∀(k:Nat),1<=k->1<=gj P k
 | 0,h=>absurd h Yi
 | 1,_=>Yv _
 | k+2,_=>by
  have e:gj P (k+2)=if P.getD (k+1) 0=0 then gj P (k+1)else k+2:=rfl;rw[e];split
  ·exact qr (k+1) Yi
  ·omega
def C6 (P:List Nat) (j:Nat):List Nat:=P.take j ++ List.replicate (8 - j) 0
theorem zaA {P:List Nat} {j:Nat} (hP:P.length=8) (hj:j<=8):(C6 P j).length=8:=by
 unfold C6;rw[List.length_append,List.length_take,List.length_replicate];omega
theorem zaz {P:List Nat} {j:Nat} (hP:P.length=8) (hj:j < 8):(C6 P j).set j (P.getD j 0)=C6 P (j+1):=by
 have h1:(P.take j).length=j:=by rw[List.length_take];omega
 unfold C6;rw[List.set_append_right _ _ Yi,h1,Nat.sub_self,List.take_succ_eq_append_getElem (by omega:j < P.length),kc (by omega:j < P.length)];obtain⟨m,hm⟩:∃m,8 - j=m+1:=⟨7 - j,Yi⟩;rw[hm,show 8 - (j+1)=m from by omega,List.replicate_succ,List.set_cons_zero,List.append_assoc];rfl
theorem zaB {P:List Nat} (hP:P.length=8):C6 P (gj P 8)=P:=by
 have hk:=rs P 8;apply List.ext_getElem?;intro i;have hl:(P.take (gj P 8)).length=gj P 8:=by rw[List.length_take];omega
 unfold C6
 by_cases hi:i < gj P 8
 ·rw[List.getElem?_append_left Yi,List.getElem?_take,if_pos hi]
 ·rw[List.getElem?_append_right Yi,hl,List.getElem?_replicate]
  by_cases h8:i < 8
  ·have hz:=yx (P:=P) 8 i Yi h8;rw[kc (by omega:i < P.length)]at hz;rw[if_pos Yi,List.getElem?_eq_getElem (by omega:i < P.length),hz]
  ·rw[if_neg Yi,List.getElem?_eq_none Yi]
theorem Dr (ws:List (List UInt8)) (hn:ws.length<=8) (h:∀l∈ws,l.length<=16):(Lib.join ws [46]).length<=1000:=by
 cases ws with
 | nil=>simp[Lib.join]
 | cons x r=>
  have h1:=zes 16 _ h;rw[Lib.join_length];simp only[List.length_cons,List.length_nil]at *;omega
theorem p8 (p0 p1 p2 p3 p4 p5 p6 p7:Nat) (hP:∀p∈[p0,p1,p2,p3,p4,p5,p6,p7],p < 2 ^ 64) (w:World) (tw:TW w) (ht:w.cell? ⟨7,15,none⟩=some (.int .u8 4)):
  Calls prog 83 #[sv (dg [p0,p1,p2,p3,p4,p5,p6,p7])] w λe w'=>e= .returned (.tuple #[Av p0 p1 p2 p3 p4 p5 p6 p7,Yp 0])/\Gr w w':=by
 have hmf:∀(fn:Fn) (first cap:Array Value) (w:World),(Instr.makeFunc fn first cap).run prog w= .ok (.func fn first cap) w:=λ_ _ _ _=>rfl;have bp:=ae w (.cells Zc 39);have bq:=ae (w.alloc (.cells Zc 39)) (.cells #[Yp 0] 29);have bp:=((Yu _).alloc (.cells #[Yp 0] 29)).heap bp;have g0:Gr w ((w.alloc (.cells Zc 39)).alloc (.cells #[Yp 0] 29)):=((Yu w).alloc _).alloc _;simp only[World.size_alloc]at bq;obtain⟨mx,hmx⟩:=(tw.gr g0).m;have PY:=hid (λn (hn:n < 2 ^ 64) u (g:Gr w u)=>Gb n hn u (tw.gr g) ((g.cells.1 _ _ (World.block_lt_of_cell? _ _ ht)).trans ht));have SW:=hid (λu (g:Gr w u)=>nt p0 p1 p2 p3 p4 p5 p6 p7 hP u ((g.cells.1 _ _ (World.block_lt_of_cell? _ _ ht)).trans ht));have HPL:=hid hP;obtain⟨P,hPd⟩:∃P,[p0,p1,p2,p3,p4,p5,p6,p7]=P:=⟨_,rfl⟩;have hPl:P.length=8:=by rw[<-hPd];rfl
 rw[hPd]at SW HPL ⊢;have hk8:=rs P 8;have hk1:=qr (P:=P) 8 Yi;have hcut:=zaB hPl;obtain⟨k,hk⟩:∃k,gj P 8=k:=⟨_,rfl⟩;have hwl:((P.take k).map cf).length=k:=by rw[List.length_map,List.length_take];omega
 obtain⟨hc1,hc2⟩:=J0 ((P.take k).map cf) (by intro hn;rw[hn]at hwl;simp at hwl;omega) (λx hx=>by
  obtain⟨n,_,rfl⟩:=List.mem_map.1 hx;exact Dy _ _)
 have hT:dg P=Lib.join ((P.take k).map cf) [46]:=by unfold dg;rw[hk]
 rw[<-hT]at hc1 hc2;have hTl:(dg P).length<=1000:=by
  rw[hT];exact Dr _ Yi (λx hx=>by
   obtain⟨n,hn,rfl⟩:=List.mem_map.1 hx;exact(gf (HPL.out n (List.mem_of_mem_take hn))).2)
 have SP:=hid (Tryz.strings_Split ⟨(dg P).toArray⟩ ⟨#[46]⟩ mx _ (by show(dg P).length < _;omega) hmx Yk);rw[hc2,hc1,hwl]at SP;rw[hk]at hcut hk8 hk1;clear tw ht hP hmx hc1 hc2 hT hk;generalize dg P=T at *;go_enter_defers func83,ntmps83;go_wp2_with fail;refine SP.out.mono ?_;rintro e w1 ⟨rfl,hw1⟩;have g1:Gr w w1:=by rw[hw1];exact g0.alloc _
 have gW:Gr ((w.alloc (.cells Zc 39)).alloc (.cells #[Yp 0] 29)) w1:=by rw[hw1];exact(Yu _).alloc _
 have bb:w1.heap[((w.alloc (.cells Zc 39)).alloc (.cells #[Yp 0] 29)).heap.size]?=some (.cells ((((P.take k).map cf).map λl=>(⟨l.toArray⟩:ByteArray)).map Value.string).toArray 9 (0,0)):=by rw[hw1];exact ae _ _
 have bp:=gW.heap bp;have bq:=gW.heap bq;have hb:((w.alloc (.cells Zc 39)).alloc (.cells #[Yp 0] 29)).heap.size=w.heap.size+1+1:=by simp only[World.size_alloc]
 rw[hb]at bb;simp only[hb];have hk11:k - 1+1=k:=Yi;simp only[hk11];obtain⟨p,hp⟩:∃p,w.heap.size=p:=⟨_,rfl⟩;obtain⟨q,hq⟩:∃q,p+1=q:=⟨_,rfl⟩;obtain⟨b,hbb⟩:∃b,q+1=b:=⟨_,rfl⟩;rw[hp,hq,hbb]at bb;rw[hp,hq]at bq;rw[hp]at bp;simp only[hp,hq,hbb];have hpq:p≠q:=Yi;have hbp:b≠p:=Yi;have hbq:b≠q:=Yi;have FIN:Hid (∀u,GrL [p,q] w1 u->Gr w u):=hid (λu g=>GrL.gr g1 g (λi hi=>by simp at hi;omega));have BB:=hid bb;have hzb:=ai bb;clear SP hw1 gW g0 hb hp hq hbb bb;go_wp2;go_loopw [4,5,10] (λ_ _ r wr=>∃(j:Nat),r= .int .i64 j/\j<=k/\GrL [p,q] w1 wr/\Hid (wr.heap[p]?=some (.cells (plA (C6 P j)) 39 (0,0))/\wr.heap[q]?=some (.cells #[Yp 0] 29 (0,0)))) (λ_ _ r _=>k - (intOf r).toNat)
 case atStart=>exact⟨0,rfl,Yi,GrL.of_gr (Yu _),hid ⟨bp,bq⟩⟩
 case round=>
  obtain⟨j,rfl,hj,gr,HB⟩:=hrel;have HG:=hid (FIN.out _ gr)
  by_cases hjk:j < k
  ·have hjk':(j:Int) < k:=Yi;have hj0:(0:Int)<=j:=Yi;have hj8n:j < 8:=Yi;have hj8:(j:Int) < 8:=Yi;have h8':¬(8:Int)<=j:=Yi;have hce:wr.cell? ⟨b,j,none⟩=some (.string ⟨(cf (P.getD j 0)).toArray⟩):=by
    rw[(ed ((gr.block b hzb (by simp;omega)).trans BB.out)).1,kc (by omega:j < P.length)];simp[show j < P.length by omega,hjk]
   have hzb2:b < wr.heap.size:=World.block_lt_of_cell? _ _ hce;have hn:P.getD j 0 < 2 ^ 64:=by
    rw[kc (by omega:j < P.length)];exact HPL.out _ (List.getElem_mem _)
   have HSET:=hid (zaz hPl hj8n);have hpl:=zaA hPl (Nat.le_of_lt hj8n);generalize P.getD j 0=n at *;go_wp2_with fail;refine(PY.out n hn _ HG.out).mono ?_;rintro e w5 ⟨rfl,hg5⟩;have bp5:=hg5.heap HB.out.1;have bq5:=hg5.heap HB.out.2;have c5:=(ed bp5).1 j;have f5:=(ed bp5).2.1 j;have z5:=(ed bp5).2.2;have hcj:(plA (C6 P j))[j]?=some (.int .u64 ((C6 P j)[j]'Yi:Nat)):=by simp[plA,show j < (C6 P j).length by omega]
   rw[hcj]at c5;have e5:=dz bp5 j n;rw[Hv,HSET.out]at e5;have gs:=GrL.set (gr.trans (GrL.of_gr (l:=[p,q]) hg5)) ⟨p,j,none⟩ n (Or.inr Yj);have eq5:=((GrL.set (l:=[p]) (GrL.of_gr (Yu w5)) ⟨p,j,none⟩ n (Or.inr Yj)).block q (ai bq5) (by simp;omega)).trans bq5;have HB5:=hid (And.intro e5 eq5);clear e5 eq5 bp5 bq5 HB hcj hce HSET;go_wp2;refine⟨⟨j+1,Yj,Yi,gs,HB5⟩,by simp[intOf];omega⟩
  ·have hjk':¬(j:Int) < k:=Yi;obtain rfl:j=k:=Yi;have WX:=hid (SW.out _ HG.out);have bp3:=HB.out.1;rw[hcut,<-hPd]at bp3;replace bp3:wr.heap[p]?=some (.cells #[p0,p1,p2,p3,p4,p5,p6,p7] 39 (0,0)):=bp3;obtain⟨cp3,fp3,zp3⟩:=ed bp3;have hTT:(T == T)=true:=beq_iff_eq.2 rfl;go_wp2_with fail;refine WX.out.mono ?_;rintro e w5 ⟨rfl,hg5⟩;clear cp3 fp3 zp3;have bp5:=hg5.heap bp3;have bq5:=hg5.heap HB.out.2;obtain⟨cp5,fp5,zp5⟩:=ed bp5;obtain⟨cq5,fq5,zq5⟩:=ed bq5;have g5:=gr.trans (GrL.of_gr (l:=[p,q]) hg5);go_wp2;have e8:=(dz (dz (dz (dz (dz (dz (dz (dz bp5 0 p0) 1 p1) 2 p2) 3 p3) 4 p4) 5 p5) 6 p6) 7 p7);replace e8:_=some (Obj.cells #[p0,p1,p2,p3,p4,p5,p6,p7] 39 (0,0)):=e8;have g8:=(GrL.set (GrL.set (GrL.set (GrL.set (GrL.set (GrL.set (GrL.set (GrL.set (GrL.of_gr (l:=[p]) (Yu w5)) ⟨p,0,none⟩ p0 (Or.inr Yj)) ⟨p,1,none⟩ p1 (Or.inr Yj)) ⟨p,2,none⟩ p2 (Or.inr Yj)) ⟨p,3,none⟩ p3 (Or.inr Yj)) ⟨p,4,none⟩ p4 (Or.inr Yj)) ⟨p,5,none⟩ p5 (Or.inr Yj)) ⟨p,6,none⟩ p6 (Or.inr Yj)) ⟨p,7,none⟩ p7 (Or.inr Yj));have g8':=(GrL.set (GrL.set (GrL.set (GrL.set (GrL.set (GrL.set (GrL.set (GrL.set g5 ⟨p,0,none⟩ p0 (Or.inr Yj)) ⟨p,1,none⟩ p1 (Or.inr Yj)) ⟨p,2,none⟩ p2 (Or.inr Yj)) ⟨p,3,none⟩ p3 (Or.inr Yj)) ⟨p,4,none⟩ p4 (Or.inr Yj)) ⟨p,5,none⟩ p5 (Or.inr Yj)) ⟨p,6,none⟩ p6 (Or.inr Yj)) ⟨p,7,none⟩ p7 (Or.inr Yj));generalize ((((((((w5.setCell (Yo p 0) p0).setCell (Yo p 1) p1).setCell (Yo p 2) p2).setCell (Yo p 3) p3).setCell (Yo p 4) p4).setCell (Yo p 5) p5).setCell (Yo p 6) p6).setCell (Yo p 7) p7)=W8 at *;have hq8:W8.heap[q]?=some (.cells #[Yp 0] 29 (0,0)):=(g8.block q (ai bq5) (by simpa using Ne.symm hpq)).trans bq5;have e9:=dz hq8 0 (Yp 0);replace e9:_=some (Obj.cells #[Yp 0] 29 (0,0)):=e9;have h9:=((GrL.set (l:=[q]) (GrL.of_gr (Yu W8)) ⟨q,0,none⟩ (Yp 0) (Or.inr Yj)).block p (ai e8) (by simpa using hpq)).trans e8;have g9:=FIN.out _ (GrL.set g8' ⟨q,0,none⟩ (Yp 0) (Or.inr Yj));generalize W8.setCell (Yo q 0) (Yp 0)=W9 at *;refine leaves_cons (f:=137) (args:=#[Ym p,Ym q]) Yj (by simp[go_sem]) ?_;refine(L8 ⟨p,0,none⟩ ⟨q,0,none⟩ _).mono ?_;rintro e u' w' ⟨rfl,rfl,rfl⟩;obtain⟨cp9,fp9,zp9⟩:=ed h9;obtain⟨cq9,fq9,zq9⟩:=ed e9;clear e8 g8 g8' hq8 e9 h9;simp[Leaves,settle,results,results83,go_sem,cp9,cq9];exact g9
theorem Dv:(prog.info? 39).map (λi=>(i.zero,i.size,i.bytes))=some (some (.agg Zc),8,64):=Yh
theorem nk (A B:List UInt8):(⟨A.toArray⟩ ++ ⟨B.toArray⟩:ByteArray)=⟨(A ++ B).toArray⟩:=by
 apply ByteArray.ext;rw[ByteArray.data_append];simp
def dl (k:Nat) (pc:Int) (c:List Nat):List UInt8:=if k=1 then [99,117,116,32] ++ dg c else if k=2 then [102,105,116,32] ++ Lib.itoa pc else [116,97,107,101,32] ++ Lib.itoa pc
def wrV (k:Nat) (pc:Int) (c:List Nat):Value:=if okA 8 k pc c then .tuple #[sv (dl k pc c),Yp 0]else .tuple #[.string ⟨#[]⟩,Yp 1]
theorem Bj (P:List Nat) (hl:P.length=8) (hP:∀p∈P,p < 2 ^ 64):(dg P).length<=1000:=by
 unfold dg;refine Dr _ ?_ (λx hx=>?_)
 ·rw[List.length_map,List.length_take];omega
 ·obtain⟨n,hn,rfl⟩:=List.mem_map.1 hx;exact(gf (hP n (List.mem_of_mem_take hn))).2
abbrev oneS:List Value:=[Yq 1,Yq 0,Yq 0,Yq 0,Yq 0,Yq 0,Yq 0,Yq 0]
def zaH (i:Nat):List Value:=(List.replicate i oneS).flatten
theorem Tk (i:Nat):zaH (i+1)=zaH i ++ oneS:=by
 unfold zaH;rw[List.replicate_succ',List.flatten_append];simp
theorem af {u:World} {g i:Nat} {c:Array Value} {T:TypeId} (s:Value) (hv:u.heap[g]?=some (.cells c T (0,0))):(u.setCell (Yo g i) s).heap[g]?=some (.cells (c.setIfInBounds i s) T (0,0)):=by
 have:(u.setCell (Yo g i) s).heap=u.heap.modify g fun | .cells c elem fr=> .cells (c.setIfInBounds i s) elem fr | o=>o:=rfl;rw[this,Array.getElem?_modify];simp[hv]
theorem zaI:∀v∈oneS,v.oneCell'=true:=by
 intro v hv;simp only[List.mem_cons,List.not_mem_nil,or_false]at hv;rcases hv with rfl | rfl | rfl | rfl | rfl | rfl | rfl | rfl <;> rfl
theorem Sn {base:Nat} {v:Value} {W:World} (h:W.ownsRow base 39 8 v 8 (zaH 8)):ef W v (List.replicate 8 [1,0,0,0,0,0,0,0]):=by
 have h':=h;rcases h.2 with ⟨_,hn⟩ | ⟨g,cap,cur,rfl,hb,hg,hcap,_⟩
 ·cases hn
 ·refine⟨_,cap,rfl,hcap,λj hj=>⟨g,0,rfl,ai hg,1,0,0,0,0,0,0,0,by rw[List.getElem_replicate],by rw[List.getElem_replicate];simp,?_⟩⟩;have hj:j < 8:=by simpa using hj
  rcases(by omega:j=0\/j=1\/j=2\/j=3\/j=4\/j=5\/j=6\/j=7)with rfl | rfl | rfl | rfl | rfl | rfl | rfl | rfl
  all_goals exact⟨h'.cellAt _ Yk,h'.cellAt _ Yk,h'.cellAt _ Yk,h'.cellAt _ Yk,h'.cellAt _ Yk,h'.cellAt _ Yk,h'.cellAt _ Yk,h'.cellAt _ Yk⟩
theorem L6 (k:Nat) (pc:Int) (c:List Nat):Er [1,0,0,0,0,0,0,0] (List.replicate 8 [1,0,0,0,0,0,0,0]) k pc c=if okA 8 k pc c then 0 else 1:=by
 have h:ci [1,0,0,0,0,0,0,0] (List.replicate 8 [1,0,0,0,0,0,0,0])=0:=Yk;rw[Er,h];rfl
theorem jc {n k:Nat} {pc:Int} {c:List Nat} (h:okA n k pc c=true):(k=1/\pc=0)\/((k=2\/k=3)/\∃i:Nat,i < n/\pc=i):=by
 unfold okA at h;rw[Bool.or_eq_true]at h;rcases h with h | h
 ·simp only[Bool.and_eq_true,decide_eq_true_eq]at h;exact .inl h.1
 ·simp only[Bool.and_eq_true,Bool.or_eq_true,decide_eq_true_eq]at h;obtain⟨⟨⟨hk,h0⟩,h1⟩,hz⟩:=h;exact .inr ⟨hk,pc.toNat,Yi,Yi⟩
theorem Ad (k:Nat) (pc:Int) (c0 c1 c2 c3 c4 c5 c6 c7:Nat) (hP:∀p∈[c0,c1,c2,c3,c4,c5,c6,c7],p < 2 ^ 64) (w:World) (tw:TW w) (ht:w.cell? ⟨7,15,none⟩=some (.int .u8 4)):
  Calls prog 142 #[.agg #[Ys k,Yp pc,c0,c1,c2,c3,c4,c5,c6,c7]] w λe w'=>e= .returned (wrV k pc [c0,c1,c2,c3,c4,c5,c6,c7])/\Gr w w':=by
 have SW:=hid (λu (g:Gr w u)=>nt c0 c1 c2 c3 c4 c5 c6 c7 hP u ((g.cells.1 _ _ (World.block_lt_of_cell? _ _ ht)).trans ht));have IT:=hid (λn h1 h2 u (g:Gr w u)=>Mv n u h1 h2 (tw.gr g).t);obtain⟨R,hR⟩:∃R,wrV k pc [c0,c1,c2,c3,c4,c5,c6,c7]=R:=⟨_,rfl⟩;have HR:=hid hR;have TL:=hid (Bj [c0,c1,c2,c3,c4,c5,c6,c7] rfl hP);rw[hR];clear hR tw ht hP;obtain⟨i0,hi,hz0,hz1,hz2⟩:=info_parts Dv;have gi:Gr w ((w.alloc (.cells #[Ys k,Yp pc,c0,c1,c2,c3,c4,c5,c6,c7] 54)).alloc (.cells #[Yq 1,Yq 0,Yq 0,Yq 0,Yq 0,Yq 0,Yq 0,Yq 0,.slice none 0 0] 42)):=((Yu w).alloc _).alloc _;have i1:=ae (w.alloc (.cells #[Ys k,Yp pc,c0,c1,c2,c3,c4,c5,c6,c7] 54)) (.cells #[Yq 1,Yq 0,Yq 0,Yq 0,Yq 0,Yq 0,Yq 0,Yq 0,.slice none 0 0] 42);have i2:=((Yu _).alloc (.cells #[Yq 1,Yq 0,Yq 0,Yq 0,Yq 0,Yq 0,Yq 0,Yq 0,.slice none 0 0] 42)).heap (ae w (.cells #[Ys k,Yp pc,c0,c1,c2,c3,c4,c5,c6,c7] 54));rw[World.size_alloc]at i1;have GI:=hid gi;have I1:=hid i1;have I2:=hid i2;clear gi i1 i2;go_enter func142,ntmps142;go_wp2;go_loopw [8] (λr wr=>∃(i:Nat) (o:Value),r= .int .i64 i/\i<=8/\Hid (wr.heap[w.heap.size+1]?=some (.cells #[Yq 1,Yq 0,Yq 0,Yq 0,Yq 0,Yq 0,Yq 0,Yq 0,o] 42 (0,0)))/\Hid (wr.heap[w.heap.size]?=some (.cells #[Ys k,Yp pc,c0,c1,c2,c3,c4,c5,c6,c7] 54 (0,0)))/\Hid (wr.ownsRow (w.heap.size+2) 39 8 o i (zaH i))/\Gr w wr) (λr _=>8 - (intOf r).toNat)
 case atStart=>exact⟨0,.slice none 0 0,rfl,Yi,I1,I2,hid (World.ownsRow_nil _ _ _ _),GI.out⟩
 case round=>
  obtain⟨i,o,rfl,hi8,HP,HA,HO,gr⟩:=hrel
  by_cases hil:i < 8
  ·have hil':(i:Int) < 8:=Yi;obtain⟨a5,cp5,rfl⟩:=wc HO.out;have hpb:=HP.out;obtain⟨s1,t1,z1⟩:=ed hpb;have HOA:=hid (ek HO.out ((Yu wr).alloc (.cells #[Yq 1,Yq 0,Yq 0,Yq 0,Yq 0,Yq 0,Yq 0,Yq 0] 39)));have HCX:=hid (ed (ae wr (.cells #[Yq 1,Yq 0,Yq 0,Yq 0,Yq 0,Yq 0,Yq 0,Yq 0] 39))).1;have HPA:=hid (((Yu wr).alloc (.cells #[Yq 1,Yq 0,Yq 0,Yq 0,Yq 0,Yq 0,Yq 0,Yq 0] 39)).heap HP.out);have HAA:=hid (((Yu wr).alloc (.cells #[Yq 1,Yq 0,Yq 0,Yq 0,Yq 0,Yq 0,Yq 0,Yq 0] 39)).heap HA.out);have HB:Hid (w.heap.size+2<=(wr.alloc (.cells #[Yq 1,Yq 0,Yq 0,Yq 0,Yq 0,Yq 0,Yq 0,Yq 0] 39)).heap.size):=hid (by rw[World.size_alloc];omega);clear hpb;go_wp2_with (at_builtin;refine wpList_append_own _ rfl _ _ 40 rfl (w.heap.size+2) 39 i0 _ 8 64 underlying40 hi hz0 hz1 hz2 rfl Yk _ _ _ rfl HOA.out ⟨wr.heap.size,0,none⟩ 1 1 oneS rfl rfl ?c1 ?c2 ?c3 ?c4 ?c5 ?c6)
   case c1=>
    intro j u hu;rw[Addr.add_mid,Nat.zero_add,HCX.out j];simpa using hu
   case c2=>exact zaI
   case c3=>unfold maxLen;omega
   case c4=>omega
   case c5=>exact HB.out
   case c6=>
    intro v' w1 hown hgrow _;have hne:∀b,b < w.heap.size+2->b∉(Value.slice a5 i cp5).ownBlock.toList:=λb hb hm=>by
     have:=(HOA.out.lt b (by simpa using hm)).1;omega
    have GL:=GrL.of_grown' hgrow;have p1:=GL.heap HPA.out (hne _ Yi);have a1:=GL.heap HAA.out (hne _ Yi);have G1:Gr w w1:=GrL.gr (gr.alloc _) GL (λk hk=>by have:=(HOA.out.lt k (by simpa using hk)).1;omega);have P2:=af (i:=8) v' p1;have A2:(w1.setCell (Yo (w.heap.size+1) 8) v').heap[w.heap.size]?=_:=(Below.heap_setCell _ ⟨w.heap.size+1,8,none⟩ _ _ (by show w.heap.size≠w.heap.size+1;omega)).trans a1;have O2:=ownsRow_setCell_below hown (a:=⟨w.heap.size+1,8,none⟩) (by show w.heap.size+1 < w.heap.size+2;omega) v';rw[<-Tk]at O2;have G2:Gr w (w1.setCell (Yo (w.heap.size+1) 8) v'):=G1.set _ _ (by show w.heap.size<=w.heap.size+1;omega);have HP2:=hid P2;have HA2:=hid A2;have HO2:=hid O2;have HG2:=hid G2;obtain⟨s2,t2,z2⟩:=ed p1;have hone:v'.oneCell'=true:=by
     obtain⟨b1,b2,rfl⟩:=wc hown;rfl
    obtain⟨b1,b2,rfl⟩:=wc hown;clear hne GL p1 a1 G1 P2 A2 O2 G2 hown hgrow HPA HAA HOA HCX;go_wp2;exact⟨⟨i+1,_,Yj,Yi,HP2,HA2,HO2,HG2.out⟩,by simp[intOf];omega⟩
  ·obtain rfl:i=8:=Yi;obtain⟨a5,cp5,rfl⟩:=wc HO.out;have hpb:=HP.out;obtain⟨s1,t1,z1⟩:=ed hpb;obtain⟨s2,t2,z2⟩:=ed HA.out;have CA:=hid (Bh 1 0 0 0 0 0 0 0 k pc c0 c1 c2 c3 c4 c5 c6 c7 _ _ wr (Sn HO.out));have hch:=L6 k pc [c0,c1,c2,c3,c4,c5,c6,c7];have HCH:=hid hch;clear hch hpb;go_wp2_with fail;refine CA.out.mono ?_;rintro e w1 ⟨rfl,g1⟩;rw[HCH.out];have G1:=hid (gr.trans g1);obtain⟨s3,t3,z3⟩:=ed (g1.heap HA.out);clear s1 t1 z1 s2 t2 z2 CA g1 gr HP HO I1 I2 GI;cases hok:okA 8 k pc [c0,c1,c2,c3,c4,c5,c6,c7]
   ·have hr:R= .tuple #[.string ⟨#[]⟩,Yp 1]:=by rw[<-HR.out,wrV,hok];rfl
    subst hr;clear HR SW IT;go_wp2;exact bodyPost_ret (v:= .tuple #[.string ⟨#[]⟩,Yp 1]) (by simp[results,results142,go_sem]) rfl ⟨rfl,G1.out⟩
   ·have HR:Hid (.tuple #[sv (dl k pc [c0,c1,c2,c3,c4,c5,c6,c7]),Yp 0]=R):=hid (by rw[<-HR.out,wrV,hok];rfl);have hd:=jc hok;rcases hd with ⟨rfl,rfl⟩ | ⟨hk,i,hi,rfl⟩
    ·have hl:¬9223372036854775807 < 4+(dg [c0,c1,c2,c3,c4,c5,c6,c7]).length:=by have:=TL.out;omega
     go_wp2_with fail;refine(SW.out _ G1.out).mono ?_;rintro e w2 ⟨rfl,g2⟩;have G2:=hid (G1.out.trans g2);rw[show dl 1 0 [c0,c1,c2,c3,c4,c5,c6,c7]=[99,117,116,32] ++ dg [c0,c1,c2,c3,c4,c5,c6,c7]from rfl]at HR;generalize dg [c0,c1,c2,c3,c4,c5,c6,c7]=S at *;clear g2;have EQS:=hid (nk [99,117,116,32] S);go_wp2;obtain rfl:=HR.out;have EQS:=EQS.out;exact bodyPost_ret (v:= .tuple #[sv ([99,117,116,32] ++ S),Yp 0]) (by simp[results,results142,go_sem,EQS]) rfl ⟨rfl,G2.out⟩
    ·obtain⟨B,hB⟩:∃B,Lib.itoa (i:Int)=B:=⟨_,rfl⟩;have hBl:B.length<=1000:=by
      have:=Lib.itoa_length_le (i:Int) Yi Yi;rw[hB]at this;omega
     have IT:=hid (IT.out (i:Int) Yi Yi);rw[hB]at IT;rcases hk with rfl | rfl
     ·have hl:¬9223372036854775807 < 4+B.length:=Yi;rw[show dl 2 i [c0,c1,c2,c3,c4,c5,c6,c7]=[102,105,116,32] ++ Lib.itoa i from rfl,hB]at HR;clear hB hBl;go_wp2_with fail;refine(IT.out _ G1.out).mono ?_;rintro e w2 ⟨rfl,g2⟩;have G2:=hid (G1.out.trans g2);have EQS:=nk [102,105,116,32] B;have EQS:=hid EQS;clear g2;go_wp2;obtain rfl:=HR.out;have EQS:=EQS.out;exact bodyPost_ret (v:= .tuple #[sv ([102,105,116,32] ++ B),Yp 0]) (by simp[results,results142,go_sem]) rfl ⟨rfl,G2.out⟩
     ·have hl:¬9223372036854775807 < 5+B.length:=Yi;rw[show dl 3 i [c0,c1,c2,c3,c4,c5,c6,c7]=[116,97,107,101,32] ++ Lib.itoa i from rfl,hB]at HR;clear hB hBl;go_wp2_with fail;refine(IT.out _ G1.out).mono ?_;rintro e w2 ⟨rfl,g2⟩;have G2:=hid (G1.out.trans g2);have EQS:=hid (nk [116,97,107,101,32] B);clear g2;go_wp2;obtain rfl:=HR.out;have EQS:=EQS.out;exact bodyPost_ret (v:= .tuple #[sv ([116,97,107,101,32] ++ B),Yp 0]) (by simp[results,results142,go_sem,EQS]) rfl ⟨rfl,G2.out⟩
def StrsAt (w:World) (g:Nat) (L:List (List UInt8)):Prop:=g < w.heap.size/\∀j (hj:j < L.length),w.cell? ⟨g,j,none⟩=some (sv L[j])
theorem xf (g cap:Nat) (L:List (List UInt8)) (x:List UInt8) (w:World) (hv:StrsAt w g L) (hl:L.length<=8):
  Calls prog 141 #[.slice (Yn g) L.length cap,sv x] w λe w'=>∃r:Int,e= .returned (Yp r)/\((r= -1/\x∉L)\/∃i:Nat,r=i/\L[i]?=some x)/\Gr w w':=by
 obtain⟨hg,hc⟩:=hv;have HC:=hid hc;clear hc;go_enter func141,ntmps141;go_wp2;go_loopw [8] (λr wr=>∃i:Nat,r= .int .i64 i/\i<=L.length/\Hid (∀j (hj:j < L.length),j < i->L[j]≠x)/\Gr w wr) (λr _=>L.length - (intOf r).toNat)
 case atStart=>exact⟨0,rfl,Yi,hid (λj hj h=>absurd h (Nat.not_lt_zero _)),Yu _⟩
 case round=>
  obtain⟨i,rfl,hi,HS,gr⟩:=hrel
  by_cases hil:i < L.length
  ·have hil':(i:Int) < L.length:=Yi;have c0:=(gr.cells.1 g i hg).trans (HC.out i hil);have hg2:g < wr.heap.size:=Nat.lt_of_lt_of_le hg gr.b.size
   by_cases hz:L[i]=x
   ·have hm:Hid (L[i]?=some x):=hid (by rw[List.getElem?_eq_getElem hil,hz]);have he:(x == L[i])=true:=by simp[hz]
    clear hz HC;generalize L[i]=y at *;go_wp2;go_ret;exact⟨i,rfl,.inr ⟨i,rfl,hm.out⟩,gr⟩
   ·have HS2:Hid (∀j (hj:j < L.length),j < i+1->L[j]≠x):=hid (λj hj hji=>by
     rcases Nat.lt_or_ge j i with h | h
     ·exact HS.out j hj h
     ·obtain rfl:j=i:=Yi;exact hz)
    have he:(x == L[i])=false:=by simpa using λh=>hz h.symm
    clear hz HC;generalize L[i]=y at *;go_wp2;exact⟨⟨i+1,Yj,Yi,HS2,gr⟩,by simp[intOf];omega⟩
  ·have hil':¬(i:Int) < L.length:=Yi;go_wp2;go_ret;refine⟨-1,rfl,.inl ⟨rfl,λh=>?_⟩,gr⟩;obtain⟨j,hj,hh⟩:=List.getElem_of_mem h;exact HS.out j hj Yi hh
end
end Go.Proofs.YtimcfaoabaflkaaGreatDoor
