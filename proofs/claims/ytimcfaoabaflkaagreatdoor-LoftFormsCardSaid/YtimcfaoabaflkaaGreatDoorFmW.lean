/- LoftForms: stricklelaw09.with. -/
import Derived.Test.YtimcfaoabaflkaaGreatDoorJDel
import Derived.Test.YtimcfaoabaflkaaGreatDoorTrZ
import Derived.Test.YtimcfaoabaflkaaGreatDoorRSm
import Derived.Test.YtimcfaoabaflkaaGreatDoorRForm
import Derived.Test.YtimcfaoabaflkaaGreatDoorJMerge
namespace Go.Proofs.YtimcfaoabaflkaaGreatDoor
open AbA AbI
set_option maxHeartbeats 16000000
set_option maxRecDepth 100000
open Go.Proofs.Tryz
theorem Xh {P:Prop} (h:P:=by
 refine⟨?_,?_,?_,?_,?_,?_,?_,?_,?_,?_,?_,?_,?_,?_,trivial⟩ <;> (first | exact trivial | exact osGr | (refine⟨osK,?_⟩;intro V u hu hk;refine⟨Yh,aw Yh ?_⟩;obtain⟨hc,hf,hz⟩:=hu.cells;go_simp;skip) | (refine⟨osK,?_⟩;intro V u hu hk;refine⟨Yh,?_⟩;obtain⟨hc,hf,hz⟩:=hu.cells;go_simp;skip) | (intro V u hu hk;refine⟨Yh,?_⟩;obtain⟨hc,hf,hz⟩:=hu.cells;go_simp;first | exact⟨rfl,Yu _⟩ | skip) | (intro V u hu hk;show _=false;kernel_rfl))):P:=h
section
open Go.RowKit Go.Shelf Go.Lib
def nc (l:List Rc) (x:Rc):List Rc:=l.takeWhile (fun y=>decide (y.s≤x.s)) ++ x :: l.dropWhile (fun y=>decide (y.s≤x.s))
theorem zdL {l:List Rc} {x:Rc} {k:Nat} (h:∀j (hj:j < l.length),j < k→l[j].s≤x.s) (hx:∀hj:k < l.length,x.s < l[k].s):nc l x=l.take k ++ [x] ++ l.drop k:=by
 have h1:l.takeWhile (fun y=>decide (y.s≤x.s))=l.take k∧l.dropWhile (fun y=>decide (y.s≤x.s))=l.drop k:=by
  induction l generalizing k with
  | nil=>simp
  | cons a r ih=>
   cases k with
   | zero=>
    have:x.s < a.s:=hx Yj;simp[this]
   | succ k=>
    have h0:a.s≤x.s:=h 0 Yj Yi;have:=ih (k:=k) (fun j hj hjk=>by have:=h (j+1) (by simpa using hj) Yi;simpa using this) (fun hj=>by have:=hx (by simpa using hj);simpa using this);simp[h0,this.1,this.2]
 unfold nc;rw[h1.1,h1.2];simp
theorem M9 {P:Program} {R:World→Prop} {o:Oper} {a:Act} {w:World} (t:TypeId) (x:Operand) (lo hi:Option Operand) (ho:o.op= .slice t x lo hi none) (v':Value)
  (hr:(Instr.sliceAt t (a.eval x) (lo.map a.eval) (hi.map a.eval) none).run P w= .ok v' w) (h:R w):Mx P v' R ((execOp a.eval o).run P w):=by
 unfold execOp;simp only[ho,Option.map_none,Sem.run_bind,Sem.run_pure,hr,Result.andThen_ok];exact⟨rfl,h⟩
theorem zc5 {w:World} {a:Option Addr} {cap:Nat} {l:List Rc} (h:dr w (.slice a l.length cap) l) (k:Nat) (hk:k≤l.length):
  ∃p q,(∀u,(Instr.sliceAt 22 (.slice a l.length cap) none (some (.int .i64 k)) none).run prog u= .ok p u)∧(∀u,(Instr.sliceAt 22 (.slice a l.length cap) (some (.int .i64 k)) none none).run prog u= .ok q u)∧dr w p (l.take k)∧dr w q (l.drop k):=by
 obtain⟨a',cap',hv,hc,hr⟩:=id h;injection hv with e1 _ e2
 subst e1;subst e2;refine⟨sliced a 0 k cap 4,sliced a k l.length cap 4,fun u=>?_,fun u=>?_,?_,?_⟩
 ·rw[run_sliceAt_slice _ _ _ _ _ _ Yh,run_slice_h _ _ _ _ _ Yh _ _ Yi Yi];simp[show prog.elem 22=36 by kernel_rfl,Tryz.sizeOf36]
 ·rw[run_sliceAt_slice _ _ _ _ _ _ Yh,run_slice_l _ _ _ _ _ Yh _ _ Yi Yi];simp[show prog.elem 22=36 by kernel_rfl,Tryz.sizeOf36]
 ·cases k with
  | zero=>exact dr.nil _ _ _
  | succ k=>
   obtain⟨g,o,rfl, -⟩:=hr 0 Yi;have:sliced (some ⟨g,o,none⟩) 0 (k+1) cap 4= .slice (some ⟨g,o,none⟩) (k+1) cap:=by
    unfold sliced;rw[if_neg Yi];rfl
   rw[this];exact dr.takeS h _ hk
 ·by_cases he:k=l.length
  ·subst he;rw[List.drop_length];unfold sliced;rw[Nat.sub_self];exact dr.nil _ _ _
  ·obtain⟨g,o,rfl, -⟩:=hr 0 Yi;unfold sliced;rw[if_neg Yi];rw[Option.map_some,show(Addr.mk g o none).add (k * 4)=⟨g,o+k * 4,none⟩ by by_cases h0:k=0 <;> simp[Addr.add,h0] <;> omega];exact dr.dropS h k _ rfl hk
theorem zdF (v:Value) (l:List Rc) (x:Rc) (w:World) (hv:dr w v l) (hl:l.length≤1000):
  Calls prog 14 #[v,x.v] w fun e w'=>∃v',e= .returned v'∧w'.ownsRow w.heap.size 36 4 v' (nc l x).length (rcs (nc l x))∧Gr w w':=by
 have HV:=hid hv;obtain⟨a,cl,rfl,hcl,hcell⟩:=hv;have HC:=hid hcell;obtain⟨xs,xk,xd,xt⟩:=x;unfold Rc.v;have g0:=(Yu w).alloc (.cells #[Yp xs,Yp xk,Yp xd,.string xt] 36);have h0:=ae w (.cells #[Yp xs,Yp xk,Yp xd,.string xt] 36);clear hcell;go_enter func14,ntmps14;go_wp2;generalize w.alloc (.cells #[Yp xs,Yp xk,Yp xd,.string xt] 36)=W at *;obtain⟨p,hp⟩:∃p,w.heap.size=p:=⟨_,rfl⟩;rw[hp]at h0;simp only[hp];have HP:=hid hp;clear hp;go_loopw [5] (fun q wr=>∃k:Nat,q= .int .i64 k∧k≤l.length∧Hid (∀j (hj:j < l.length),j < k→l[j].s≤xs)∧Gr W wr) (fun q _=>l.length - (intOf q).toNat)
 case atStart=>exact⟨0,rfl,Yi,hid (fun j _ h=>absurd h (Nat.not_lt_zero _)),Yu _⟩
 case round=>
  obtain⟨k,rfl,hk,HB,gi⟩:=hrel;have hk0:(0:Int)≤k:=Yi;have hx:=gi.heap h0;obtain⟨cx,fx,zx⟩:=bw hx;have GW:=hid (g0.trans gi);refine dite (k < l.length) (fun hkl=>?ra) (fun hkl=>?rb)
  case' ra=>
   have hkl':(k:Int) < l.length:=Yi;obtain⟨g,o,rfl,hgl,c0,c1,c2,c3⟩:=HC.out k hkl;rw[←GW.out.cells.1 g _ hgl]at c0;have hzg:g < wr.heap.size:=Nat.lt_of_lt_of_le hgl GW.out.b.size;clear c1 c2 c3;refine dite (l[k].s≤xs) (fun hq=>?rc) (fun hq=>?rd)
  case rc=>
   have HB2:Hid (∀j (hj:j < l.length),j < k+1→l[j].s≤xs):=hid (fun j hj h=>by
    rcases Nat.lt_or_ge j k with h2 | h2
    ·exact HB.out j hj h2
    ·obtain rfl:j=k:=Yi;exact hq)
   generalize l[k].s=y at *;go_wp2_with fail;refine ah [.val (Yp k),.val (.slice (some ⟨g,o,none⟩) l.length cl),.val (Yp l.length),.val (.bool true),.val (.bool true),.val (.slice (some ⟨g,o,none⟩) l.length cl),.val (Yp k),.val (.pointer (some ⟨g,o+k * 4,none⟩)),.val (.pointer (some ⟨g,o+k * 4,none⟩)),.val (Yp y),.val (Ym p),.val (Yp xs),.val (.bool true),.val (.bool true)] Yh Yh (fun V=>finT) ?_ ?_
   ·exact Xh
   ·intro V u hg hsx;have gu:=gi.trans hg;clear HB HC HV hq c0 hzg cx fx zx hx hsx hg gi;go_simp;go_wp2;exact⟨⟨k+1,Yj,Yi,HB2,gu⟩,by simp[intOf];omega⟩
  case' rd=>
   have HE:Hid (∀h:k < l.length,xs < l[k].s):=hid (fun _=>by omega);generalize l[k].s=y at c0 hq;have hq2:decide (y≤xs)=false:=decide_eq_false hq;go_wp2_with fail;refine ah [.val (Yp k),.val (.slice (some ⟨g,o,none⟩) l.length cl),.val (Yp l.length),.val (.bool true),.val (.bool true),.val (.slice (some ⟨g,o,none⟩) l.length cl),.val (Yp k),.val (.pointer (some ⟨g,o+k * 4,none⟩)),.val (.pointer (some ⟨g,o+k * 4,none⟩)),.val (Yp y),.val (Ym p),.val (Yp xs),.val (.bool false),.val (.bool false)] Yh Yh (fun V=>finT) ?rd1 ?rd2
   ·exact Xh
   generalize some (Addr.mk g o none)=a at *;clear c0 hzg hq hq2 hkl'
  case' rb=>
   have HE:Hid (∀h:k < l.length,xs < l[k].s):=hid (fun h=>absurd h hkl);go_wp2_with fail;refine ah [.val (Yp k),.val (.slice a l.length cl),.val (Yp l.length),.val (.bool false),.val (.bool false),.off,.off,.off,.off,.off,.off,.off,.off,.val (.bool false)] Yh Yh (fun V=>finT) (by refine⟨?_,?_,?_,?_,?_,?_,?_,?_,?_,?_,?_,?_,?_,?_,trivial⟩ <;> (first | exact trivial | exact osGr | (refine⟨osK,?_⟩;intro V u hu hk;refine⟨Yh,aw Yh ?_⟩;obtain⟨hc,hf,hz⟩:=hu.cells;go_simp;skip) | (refine⟨osK,?_⟩;intro V u hu hk;refine⟨Yh,?_⟩;obtain⟨hc,hf,hz⟩:=hu.cells;go_simp;skip) | (intro V u hu hk;refine⟨Yh,?_⟩;obtain⟨hc,hf,hz⟩:=hu.cells;go_simp;first | exact⟨rfl,Yu _⟩ | skip) | (intro V u hu hk;show _=false;kernel_rfl))) ?rb2
  all_goals
   intro V UU hg hsx;have GU:=GW.out.trans hg;have HX:=hg.heap hx;have HINS:Hid (nc l (Rc.mk xs xk xd xt)=l.take k ++ [Rc.mk xs xk xd xt] ++ l.drop k):=hid (zdL HB.out HE.out);obtain⟨P1,P2,hr1,hr2,hp1,hp2⟩:=zc5 (HV.out.gr GU) k hk;have R1:=hid hr1;have R2:=hid hr2;have HS1:=hid hp1;have HSV:=hid hp2;obtain⟨q1,hq1⟩:∃q,UU.heap.size=q:=⟨_,rfl⟩;have HQ:=hid (fun u2 (h:Gr UU u2)=>show q1≤u2.heap.size by rw[←hq1];exact h.b.size);have HQ1:=hid hq1;have HXX:=hid HX;clear cx fx zx hx hsx hg gi HB HC HV HE hr1 hr2 hp1 hp2 hq1 HX h0 g0 GW;go_simp;go_wp2_with fail;refine bm [12] (fun u2=>Gr UU u2) (fun _=>True) [7,11] (fun u2 u3 h g=>h.trans g) (fun _ _ _ _=>trivial) (Yu _) trivial Yh
    [.sat (fun v u2=>∃b,v= .slice (Yn b) 0 0∧(q1≤b∧u2.heap[b]?=some (.cells #[] 36 (0,0)))),.val (.slice a l.length cl),.val (Yp k),.val P1,.sat (fun v u2=>u2.ownsRow q1 36 4 v (l.take k).length (rcs (l.take k))),
     .val (.agg #[Yp xs,Yp xk,Yp xd,.string xt]),.sat (fun v u2=>∃b,v= .slice (Yn b) 1 1∧u2.heap[b]?=some (.cells #[Yp xs,Yp xk,Yp xd,.string xt] 36 (0,0))),
     .turn (fun v u2=>u2.ownsRow q1 36 4 v (l.take k ++ [Rc.mk xs xk xd xt]).length (rcs (l.take k ++ [Rc.mk xs xk xd xt]))) [0,4,6],.val (.slice a l.length cl),.val (Yp k),.val P2,.turn (fun v u2=>u2.ownsRow q1 36 4 v (l.take k ++ [Rc.mk xs xk xd xt] ++ l.drop k).length (rcs (l.take k ++ [Rc.mk xs xk xd xt] ++ l.drop k))) [0,4,6,7],.later] Yh Yh (fun V=>finT) ?_ ?_
   ·refine⟨?_,?_,?_,?_,?_,?_,?_,?_,?_,?_,?_,?_,?_,trivial⟩
    ·refine⟨fun v u2 u3 h g=>?_,fun V u2 hu hj hk=>⟨Yh,?_⟩⟩
     ·obtain⟨b,h1,h2,h3⟩:=h;exact⟨b,h1,h2,g.heap h3⟩
     ·have hq:=HQ.out _ hu;go_simp;exact⟨⟨_,rfl,hq,ae _ _⟩,(Yu _).alloc _⟩
    iterate 2 ·(intro V u2 hu hj hk;refine⟨Yh,?_⟩;go_simp;first | exact⟨rfl,Yu _⟩ | skip)
    ·(intro V u2 hu hj hk;refine⟨Yh,?_⟩;exact M9 _ _ _ _ rfl P1 (R1.out u2) (Yu _))
    ·refine⟨fun v u2 u3 h g=>ek h g,fun V u2 hu hj hk=>⟨Yh,?_⟩⟩;obtain⟨b,hv,hb1,hb2⟩:=hk 0 (fun v u2=>∃b,v= .slice (Yn b) 0 0∧(q1≤b∧u2.heap[b]?=some (.cells #[] 36 (0,0)))) Yh Yh;obtain⟨v',u3,hr,h1,h2⟩:=o4 u2 q1 22 b hb1 hb2 _ _ (HS1.out.gr hu) (by rw[List.length_take];omega) (HQ.out _ hu);exact ar _ _ 22 22 rfl _ _ hv rfl hr ⟨h1,h2⟩
    ·(intro V u2 hu hj hk;refine⟨Yh,?_⟩;obtain⟨cx,fx,zx⟩:=bw (hu.heap HXX.out);go_simp;first | exact⟨rfl,Yu _⟩ | skip)
    ·refine⟨fun v u2 u3 h g=>?_,fun V u2 hu hj hk=>⟨Yh,?_⟩⟩
     ·obtain⟨b,h1,h3⟩:=h;exact⟨b,h1,g.heap h3⟩
     ·go_simp;exact⟨⟨_,rfl,ae _ _⟩,(Yu _).alloc _⟩
    ·refine⟨fun v u2 u3 h g=>ek h g,fun V u2 hu hj hk=>⟨Yh,?_⟩⟩;refine ju (R:=fun u2=>Gr UU u2) (J:=fun _=>True) (dj:=[7,11]) (k:=7) (drop:=[0,4,6]) (V:=V) (u:=u2) Yh Yh ?_;have h4:=hk 4 (fun v u2=>u2.ownsRow q1 36 4 v (l.take k).length (rcs (l.take k))) Yh Yh;obtain⟨b,hv,hb⟩:=hk 6 (fun v u2=>∃b,v= .slice (Yn b) 1 1∧u2.heap[b]?=some (.cells #[Yp xs,Yp xk,Yp xd,.string xt] 36 (0,0))) Yh Yh;obtain⟨v',u3,hr,h1,h2⟩:=je u2 q1 22 (V 4) (l.take k) h4 _ [Rc.mk xs xk xd xt] (Cm u2 b _ hb) (by rw[List.length_take,List.length_singleton];omega) (HQ.out _ hu);exact ar _ _ 22 22 rfl _ _ rfl hv hr ⟨h1,GrL.gr hu h2 (fun i hi=>by rw[HQ1.out];exact(h4.lt i (by simpa using hi)).1)⟩
    iterate 2 ·(intro V u2 hu hj hk;refine⟨Yh,?_⟩;go_simp;first | exact⟨rfl,Yu _⟩ | skip)
    ·(intro V u2 hu hj hk;refine⟨Yh,?_⟩;exact M9 _ _ _ _ rfl P2 (R2.out u2) (Yu _))
    ·refine⟨fun v u2 u3 h g=>ek h g,fun V u2 hu hj hk=>⟨Yh,?_⟩⟩;refine ju (R:=fun u2=>Gr UU u2) (J:=fun _=>True) (dj:=[7,11]) (k:=11) (drop:=[0,4,6,7]) (V:=V) (u:=u2) Yh Yh ?_;have h4:=hk 7 (fun v u2=>u2.ownsRow q1 36 4 v (l.take k ++ [Rc.mk xs xk xd xt]).length (rcs (l.take k ++ [Rc.mk xs xk xd xt]))) Yh Yh;obtain⟨v',u3,hr,h1,h2⟩:=je u2 q1 22 (V 7) (l.take k ++ [Rc.mk xs xk xd xt]) h4 _ (l.drop k) (HSV.out.gr hu) (by simp only[List.length_append,List.length_take,List.length_drop,List.length_singleton];omega) (HQ.out _ hu);exact ar _ _ 22 22 rfl _ _ rfl rfl hr ⟨h1,GrL.gr hu h2 (fun i hi=>by rw[HQ1.out];exact(h4.lt i (by simpa using hi)).1)⟩
    ·exact trivial
   ·intro V u3 hg2 hs2;have h15:=hs2 11 _ rfl;rw[←HINS.out]at h15;have HN:=hid (World.ownsRow.mono (base':=w.heap.size) h15 (by rw[←HQ1.out];exact GU.b.size));have G2:=hid (GU.trans hg2);clear h15 hs2 hg2 HQ HQ1 HS1 HSV R1 R2 HXX HINS;refine⟨⟨some 4,_,_,_,_,_⟩,rfl,rfl,?_⟩;generalize V 11=v15 at *;go_simp;refine Fa.fin ?_;go_simp;go_wp2;go_ret;exact⟨_,rfl,HN.out,G2.out⟩
end
section
open Go.RowKit Go.Shelf Go.Lib
theorem X2 (l:List Rc) (x:Rc):(nc l x).Perm (l ++ [x]):=by
 unfold nc;refine List.perm_middle.trans ?_;rw[List.takeWhile_append_dropWhile];exact(List.perm_append_singleton x l).symm
theorem zdr (l:List Rc) (x:Rc):(nc l x).length=l.length+1:=by
 rw[(X2 l x).length_eq,List.length_append];rfl
theorem zcR (l:List Rc) (x y:Rc):y∈nc l x↔y∈l∨y=x:=by
 rw[(X2 l x).mem_iff,List.mem_append,List.mem_singleton]
theorem zds {l:List Rc} {x y:Rc} (h:Pz (nc l x)) (hy:y∈l) (hs:y.s=x.s):y.k < x.k:=by
 unfold nc at h;obtain⟨h1,h2,h3⟩:=List.pairwise_append.1 h;obtain⟨h4,h5⟩:=List.pairwise_cons.1 h2;rw[←List.takeWhile_append_dropWhile (p:=fun y=>decide (y.s≤x.s)) (l:=l),List.mem_append]at hy;rcases hy with hy | hy
 ·have:=h3 y hy x List.mem_cons_self;unfold rz at this;omega
 ·exfalso;cases hd:l.dropWhile (fun y=>decide (y.s≤x.s))with
  | nil=>rw[hd]at hy;cases hy
  | cons a r=>
   have ha:¬a.s≤x.s:=by
    have:=List.head?_dropWhile_not (fun y:Rc=>decide (y.s≤x.s)) l;rw[hd]at this;simpa using this
   rw[hd]at hy h5;rcases List.mem_cons.1 hy with rfl | hy
   ·omega
   ·have:=(List.pairwise_cons.1 h5).1 y hy;unfold rz at this;omega
theorem zcF {n:Int} {l m:List Rc} {x:Rc} (ha:Fd n l) (hb:Fd n (nc l x)) (h:rr l (nc l x)=some m):m=nc l x:=by
 rcases zdz ha hb with ⟨h1,_⟩ | ⟨m',h1,_,h3,h4,_⟩
 ·rw[h1]at h;cases h
 ·rw[h1]at h;injection h with h
  rw[←h];refine zc8 h3 (zbK hb) fun y=>?_;rw[h4,zcR];exact⟨fun h=>h.elim Or.inl id,Or.inr⟩
def xb (l:List Rc) (x:Rc):Prop:=∀y∈l,¬(y.d > x.d∨y.d=x.d∧y.s > x.s)
theorem zc7 {l:List Rc} {x:Rc} (hl:Pz l) (h:Pz (nc l x)) (hb:xb l x):i7 (nc l x)=i7 l ++ [x]:=by
 have hg:=Bn l [] List.Pairwise.nil hl (fun a ha=>by cases ha);have hp:(i7 l).Perm l:=by simpa[i7]using hg.2
 refine(zaE h ((List.Perm.append_right [x] hp).trans (X2 l x).symm) ?_).symm;refine List.pairwise_append.2 ⟨hg.1.imp fun {a b} hab=>?_,List.pairwise_singleton _ _,fun a ha b hb'=>?_⟩
 ·have:=(Jf a b).1 hab;rw[Bv];omega
 ·rw[List.mem_singleton]at hb';subst hb';have hy:=hp.mem_iff.1 ha;have h1:=hb a hy;have h2:=zds h hy;rw[Bv];omega
theorem tR_with {n:Int} {l m:List Rc} {x:Rc} (h0:(tR n l).1=0) (hm:mR n l (nc l x)=(0,m)) (hb:xb l x) (hn:zbg (ee x.t)=false):
  tR n m=(0,(ay (tR n l).2.1 (ee x.t)).1,(tR n l).2.2 ++ [(ay (tR n l).2.1 (ee x.t)).2]):=by
 have hc:(cR n l).2=0:=by
  unfold tR at h0
  by_cases h:(cR n l).2=0
  ·exact h
  ·rw[if_neg h]at h0;exact absurd h0 h
 obtain⟨-, -,ha⟩:=zcw hc;unfold mR at hm;rw[if_pos hc]at hm
 by_cases h2:(cR n (nc l x)).2=0
 ·rw[if_pos h2]at hm;obtain⟨hmn, -,hb2⟩:=zcw h2;cases hk:rr l (nc l x)with
  | none=>rw[hk]at hm;cases hm
  | some m'=>
   rw[hk]at hm;obtain rfl:m'=m:=congrArg Prod.snd hm;obtain rfl:=zcF ha hb2 hk;unfold tR;rw[if_pos h2,if_pos hc,zc7 (zbK ha) (zbK hb2) hb,zdt _ _ hn]
 ·rw[if_neg h2]at hm;exact absurd (congrArg Prod.fst hm) h2
theorem zdh {n:Int} {l:List Rc} (h0:(tR n l).1=0):mny n=true∧Fd n l∧(tR n l).2=pg (i7 l):=by
 unfold tR at h0 ⊢
 by_cases h:(cR n l).2=0
 ·rw[if_pos h];obtain⟨h1, -,h2⟩:=zcw h;exact⟨h1,h2,rfl⟩
 ·rw[if_neg h]at h0;exact absurd h0 h
theorem tR_bad {n:Int} {l:List Rc} (h0:(tR n l).1≠0):(tR n l).2=([],[]):=by
 unfold tR at h0 ⊢
 by_cases h:(cR n l).2=0
 ·rw[if_pos h]at h0;exact absurd rfl h0
 ·rw[if_neg h]
theorem tR_step {n:Int} {l m:List Rc} {x:Rc} (h0:(tR n l).1=0) (hm:mR n l (nc l x)=(0,m)) (hb:xb l x):
  ∃K E e,tR n m=(0,K,E ++ [e])∧E.length=l.length∧(zbg (ee x.t)=true→e=0)∧(zbg (ee x.t)=false→E=(tR n l).2.2∧(e≠0→K=(tR n l).2.1)∧(e=0→b9 K=b9 (tR n l).2.1+1)):=by
 obtain⟨_,ha,h2⟩:=zdh h0;cases hn:zbg (ee x.t)with
 | false=>
  refine⟨_,_,_,tR_with h0 hm hb hn,?_,(fun h=>by cases h),fun _=>⟨rfl,fun h=>zcK h,fun h=>zcv h hn⟩⟩;rw[h2,Zq,C8]
 | true=>
  have hc:(cR n l).2=0:=by
   unfold tR at h0
   by_cases h:(cR n l).2=0
   ·exact h
   ·rw[if_neg h]at h0;exact absurd h0 h
  unfold mR at hm;rw[if_pos hc]at hm
  by_cases h3:(cR n (nc l x)).2=0
  ·rw[if_pos h3]at hm;obtain⟨-, -,hb2⟩:=zcw h3;cases hk:rr l (nc l x)with
   | none=>rw[hk]at hm;cases hm
   | some m'=>
    rw[hk]at hm;obtain rfl:m'=m:=congrArg Prod.snd hm;obtain rfl:=zcF ha hb2 hk;have e1:=zc7 (zbK ha) (zbK hb2) hb;refine⟨(bf (bj (i7 l ++ [x])) ((i7 l ++ [x]).map fun x=>ee x.t)).1,(bf (bj (i7 l ++ [x])) ((i7 l).map fun x=>ee x.t)).2,0,?_,?_,fun _=>rfl,(fun h=>by cases h)⟩
    ·unfold tR;rw[if_pos h3,e1];unfold pg;refine congrArg (Prod.mk 0) (Prod.ext rfl ?_);show(bf (bj (i7 l ++ [x])) ((i7 l ++ [x]).map fun x=>ee x.t)).2=_;rw[List.map_append,ph];show _ ++ (bf _ [ee x.t]).2=_;rw[show∀K,(bf K [ee x.t]).2=[0]from fun K=>by show [(ay K (ee x.t)).2]=[0];rw[zcJ hn]]
    ·rw[ol,List.length_map,C8]
  ·rw[if_neg h3]at hm;exact absurd (congrArg Prod.fst hm) h3
theorem mR_with {n:Int} {l m:List Rc} {x:Rc} (h0:(tR n l).1=0) (hm:mR n l (nc l x)=(0,m)):m=nc l x:=by
 have ha:=(zdh h0).2.1;have hmn:=(zdh h0).1;unfold mR at hm;rw[if_pos (show(cR n l).2=0 by rw[cR_of hmn ha])]at hm
 by_cases h2:(cR n (nc l x)).2=0
 ·rw[if_pos h2]at hm;obtain⟨-, -,hb2⟩:=zcw h2;cases hk:rr l (nc l x)with
  | none=>rw[hk]at hm;cases hm
  | some m'=>
   rw[hk]at hm;obtain rfl:m'=m:=congrArg Prod.snd hm;exact zcF ha hb2 hk
 ·rw[if_neg h2]at hm;exact absurd (congrArg Prod.fst hm) h2
def zcL (l:List Rc) (s:Int):Nat:=(l.filter fun y=>decide (y.s=s)).length
end
section
open Go.RowKit Go.Shelf Go.Lib
def X8 (w:World) (v:Value) (l:List Nat):Prop:=∃a cap,v= .slice a l.length cap∧l.length≤cap∧∀i (hi:i < l.length),∃g,a=some ⟨g,0,none⟩∧g < w.heap.size∧w.cell? ⟨g,i,none⟩=some (.int .i64 (l[i]:Nat))
theorem X8.gr {w w':World} {v:Value} {l:List Nat} (h:X8 w v l) (g:Gr w w'):X8 w' v l:=by
 obtain⟨a,c,hv,hc,h⟩:=h;refine⟨a,c,hv,hc,fun i hi=>?_⟩;obtain⟨b,h1,h2,h3⟩:=h i hi;exact⟨b,h1,Nat.lt_of_lt_of_le h2 g.b.size,(g.cells.1 b i h2).trans h3⟩
theorem X8.take {w:World} {a:Option Addr} {n c:Nat} {l:List Nat} (h:X8 w (.slice a n c) l) (k:Nat) (hk:k≤l.length):X8 w (.slice a k c) (l.take k):=by
 obtain⟨a',c',hv,hc,h⟩:=h;injection hv with e1 e2 e3
 subst e1;subst e3;have hl:(l.take k).length=k:=by rw[List.length_take];omega
 refine⟨_,_,by rw[hl],Yi,fun i hi=>?_⟩;rw[List.getElem_take];exact h i Yi
theorem zcx (x y:Value) (l m:List Nat) (w:World) (hx:X8 w x l) (hy:X8 w y m) (hlm:l.length=m.length) (hl:l.length≤1000000):
  Calls prog 11 #[x,y] w fun e w'=>e= .returned (.bool (decide (l=m)))∧Gr w w':=by
 obtain⟨a,c,rfl, -,hx⟩:=hx;obtain⟨a',c',rfl, -,hy⟩:=hy;have HX:=hid hx;have HY:=hid hy;clear hx hy;obtain⟨N,hN⟩:∃N,l.length=N:=⟨_,rfl⟩;have hM:m.length=N:=Yi;rw[hN,hM];rw[hN]at hl;go_enter func11,ntmps11;go_wp2;go_loopw [5] (fun u wr=>∃i:Nat,u= .int .i64 i∧i≤N∧Hid (∀j (hj:j < i) (h1:j < l.length) (h2:j < m.length),l[j]=m[j])∧Gr w wr) (fun u _=>N - (intOf u).toNat)
 case atStart=>exact⟨0,rfl,Yi,hid (fun j hj=>absurd hj (Nat.not_lt_zero _)),Yu _⟩
 case round=>
  obtain⟨i,rfl,hi,HB,gr⟩:=hrel
  by_cases hil:i < N
  ·have hil':(i:Int) < N:=Yi;have hi0:(0:Int)≤i:=Yi;have him:i < m.length:=Yi;have hil2:i < l.length:=Yi;obtain⟨g,rfl,hg,hc⟩:=HX.out i Yi;obtain⟨g',rfl,hg',hc'⟩:=HY.out i him;have HC:=hid hc;have HC':=hid hc';have HG:=hid gr;refine dite (l[i]=m[i]) (fun he=>?pa) (fun he=>?pb)
   case pa=>
    have HN:Hid (∀j (hj:j < i+1) (h1:j < l.length) (h2:j < m.length),l[j]=m[j]):=hid (fun j hj h1 h2=>by
     rcases Nat.lt_or_ge j i with h | h
     ·exact HB.out j h h1 h2
     ·obtain rfl:j=i:=Yi;exact he)
    rw[←he]at HC';clear he;have hd:Hid True:=hid trivial;generalize l[i]=e1 at *;clear hc hc' gr HB HX HY;go_upto_region 6 with (fail);refine ah [.val (.slice (Yn g) N c),.val (Yp i),.val (.pointer (some ⟨g,i,none⟩)),.val (Yp e1),.val (.slice (Yn g') N c'),.val (Yp i),.val (.pointer (some ⟨g',i,none⟩)),.val (Yp e1),.val (.bool false)] Yh Yh (fun V=>finT) ?_ ?_
    ·refine⟨?_,?_,?_,?_,?_,?_,?_,?_,?_,trivial⟩
     all_goals (intro V u hu hk;refine⟨Yh,?_⟩;have k0:=((HG.out.trans hu).cells.1 g i hg).trans HC.out;have k1:=((HG.out.trans hu).cells.1 g' i hg').trans HC'.out;go_simp;first | exact⟨rfl,Yu _⟩ | skip)
    ·intro V u hg2 hs;have HG2:=hid (HG.out.trans hg2);clear hs hg2;go_wp2_with fail;exact⟨⟨i+1,Yj,Yi,HN,HG2.out⟩,by simp[intOf];omega⟩
   case pb=>
    have HN:Hid (decide (l=m)=false):=hid (decide_eq_false (fun h=>he (by subst h;rfl)));have hd:Hid ((((l[i]:Nat):Int) !=((m[i]:Nat):Int))=true):=hid (by simp;omega);clear he;generalize l[i]=e1 at *;generalize m[i]=e2 at *;clear hc hc' gr HB HX HY;go_upto_region 6 with (fail);refine ah [.val (.slice (Yn g) N c),.val (Yp i),.val (.pointer (some ⟨g,i,none⟩)),.val (Yp e1),.val (.slice (Yn g') N c'),.val (Yp i),.val (.pointer (some ⟨g',i,none⟩)),.val (Yp e2),.val (.bool true)] Yh Yh (fun V=>finT) ?_ ?_
    ·refine⟨?_,?_,?_,?_,?_,?_,?_,?_,?_,trivial⟩
     all_goals (intro V u hu hk;refine⟨Yh,?_⟩;have k0:=((HG.out.trans hu).cells.1 g i hg).trans HC.out;have k1:=((HG.out.trans hu).cells.1 g' i hg').trans HC'.out;go_simp;first | exact⟨rfl,Yu _⟩ | (rw[hd.out];exact⟨rfl,Yu _⟩) | skip)
    ·intro V u hg2 hs;have HG2:=hid (HG.out.trans hg2);clear hs hg2;go_wp2_with fail;go_ret;exact⟨by rw[HN.out];rfl,HG2.out⟩
  ·have hil':¬(i:Int) < N:=Yi;have e:l=m:=List.ext_getElem hlm fun j h1 h2=>HB.out j Yi h1 h2;go_wp2_with fail;go_ret;exact⟨rfl,gr⟩
end
section
open Go.RowKit Go.Shelf Go.Lib
theorem N9 {α:Type} {l:List α} {i:Nat} (hi:i < l.length):l.take (i+1)=l.take i ++ [l[i]]:=by rw[List.take_succ_eq_append_getElem hi]
theorem zc3 {l:List Nat} {i:Nat} (hi:i < l.length):q8 (l.take (i+1))=q8 (l.take i)+(if l[i]=0 then 1 else 0):=by
 unfold q8;rw[N9 hi,List.filter_append,List.length_append]
 by_cases h:l[i]=0 <;> simp[h]
theorem zcV {K:List Kp} {i:Nat} (hi:i < K.length):b9 (K.take (i+1))=b9 (K.take i)+1+K[i].acts.length+K[i].pieces.length:=by
 unfold b9;rw[N9 hi,List.map_append,List.sum_append];simp[Kp.many];omega
theorem zcU (K:List Kp) (i:Nat):b9 (K.take i)≤b9 K:=by
 have:b9 K=b9 (K.take i)+b9 (K.drop i):=by
  unfold b9;rw[←List.sum_append,←List.map_append,List.take_append_drop]
 omega
theorem zcq (K:List Kp):K.length≤b9 K:=by
 unfold b9
 induction K with
 | nil=>exact Nat.zero_le _
 | cons k K ih=>
  rw[List.map_cons,List.sum_cons,List.length_cons];have:1≤k.many:=by unfold Kp.many;omega
  omega
theorem zdG {l:List Rc} {i:Nat} (s:Int) (hi:i < l.length):zcL (l.take (i+1)) s=zcL (l.take i) s+(if l[i].s=s then 1 else 0):=by
 unfold zcL;rw[N9 hi,List.filter_append,List.length_append]
 by_cases h:l[i].s=s <;> simp[h]
theorem zdm (l:List Rc) (s:Int):zcL l s≤l.length:=List.length_filter_le _ _
theorem zda {l:List Rc} {x:Rc} {i:Nat} (hi:i < l.length) (h:xb (l.take i) x) (hn:¬(l[i].d > x.d∨l[i].d=x.d∧l[i].s > x.s)):xb (l.take (i+1)) x:=by
 intro y hy;rw[N9 hi,List.mem_append,List.mem_singleton]at hy;rcases hy with hy | rfl
 ·exact h y hy
 ·exact hn
theorem zdf {l:List Rc} {x y:Rc} (h:xb l x) (hd:y.d=x.d) (hs:y.s=x.s):xb l y:=by
 intro z hz;rw[hd,hs];exact h z hz
theorem zdl {w:World} {base:Nat} {v:Value} {l:List Nat} (h:w.ownsRow base 29 1 v l.length (l.flatMap m8)):X8 w v l:=by
 obtain⟨a,c,rfl,hc⟩:=aj h;exact⟨a,c,rfl,hc,fun i hi=>zbt h i hi⟩
theorem q9 (l:List Nat):q8 l≤l.length:=List.length_filter_le _ _
theorem Y9:∀(fs:List (Option Fm)) (K:List Kp),(∀f∈fs,∀g,f=some g→g.ok)→(∀k∈K,k.fit∧k.blank.ok)→∀k∈(bf K fs).1,k.fit∧k.blank.ok
 | [],_K,_,h=>h
 | f :: r,_K,hf,h=>Y9 r _ (fun g hg=>hf g (List.mem_cons_of_mem _ hg)) (fun k hk=>⟨Eg (fun k hk=>(h k hk).1) (hf f List.mem_cons_self) k hk,Iw (fun k hk=>(h k hk).2) f k hk⟩)
theorem zdN (l:List Rc):∀k∈(pg l).1,k.fit∧k.blank.ok:=by
 refine Y9 _ _ (fun g hg f hf=>?_) (fun k hk=>?_)
 ·obtain⟨x,_,e⟩:=List.mem_map.1 hg;exact(cu (e.trans hf)).1
 ·have:=(ie l).mem_iff.1 hk;obtain⟨x,_,e⟩:=List.mem_filterMap.1 this;refine⟨?_,N6 e⟩;obtain⟨h1,h2⟩:=Dd e;exact⟨fun s hs=>(by rw[h1]at hs;cases hs),fun s hs=>(by rw[h2]at hs;cases hs)⟩
theorem zc4 {n:Int} {l:List Rc} (h0:(tR n l).1=0):(tR n l).2.2.length=l.length∧b9 (tR n l).2.1=q8 (tR n l).2.2∧(∀k∈(tR n l).2.1,du k.blank k.pieces k.acts=(0,0)∧k.fit∧k.blank.ok)∧IdS (tR n l).2.1:=by
 obtain⟨hm,ha,h2⟩:=zdh h0;rw[h2];refine⟨xh l,zdu _,fun k hk=>?_,zdM (zdT hm ha)⟩;exact⟨(Sf _ k hk).1,zdN _ k hk⟩
theorem zcY (x:Value) (nn:Int) (a0 a1 a2 a3 a4 a5 a6 a7 k:Nat) (p:Int) (c0 c1 c2 c3 c4 c5 c6 c7:Nat) (u:World):(Instr.field 56 (.agg #[x,Yp nn,a0,a1,a2,a3,a4,a5,a6,a7,Ys k,Yp p,c0,c1,c2,c3,c4,c5,c6,c7]) 0).run prog u= .ok x u:=Yh
end
end Go.Proofs.YtimcfaoabaflkaaGreatDoor
