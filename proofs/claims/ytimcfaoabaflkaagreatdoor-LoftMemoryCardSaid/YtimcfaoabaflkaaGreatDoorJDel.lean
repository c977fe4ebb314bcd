/- loft: missing$1; slices.DeleteFunc over records; missing. -/
import Derived.Test.YtimcfaoabaflkaaGreatDoorTRow
namespace Go.Proofs.YtimcfaoabaflkaaGreatDoor
open AbA AbI
set_option maxHeartbeats 8000000
set_option maxRecDepth 100000
open Go.Proofs.Tryz
section
open Go.RowKit Go.Shelf Go.Lib
theorem zeG (x:Rc) (px q:Nat) (f:Nat->Int) (w:World) (hp:w.cell? ⟨px,0,none⟩=some (.slice (Yn q) 5 5)) (hq:∀s,s < 5->w.cell? ⟨q,s,none⟩=some (.int .i64 (f s))) (hpl:px < w.heap.size) (hql:q < w.heap.size) (h0:0<=x.s) (h4:x.s<=4):
  Calls prog 105 #[x.v,Ym px] w λe w'=>e= .returned (.bool (decide (x.k<=f x.s.toNat)))/\Gr w w':=by
 have HX:x.v= .agg #[Yp x.s,Yp x.k,Yp x.d,.string x.t]:=rfl;rw[HX];clear HX;obtain⟨sn,hsn⟩:∃n:Nat,x.s=n:=⟨x.s.toNat,Yi⟩;have est:x.s.toNat=sn:=Yi;have hsn5:sn < 5:=Yi;have hsn4:(sn:Int) < 5:=Yi;have hsn0:(0:Int)<=sn:=Yi;have hsn3:(sn:Int).toNat=sn:=Yi;rw[est];have cq:=hq sn hsn5;rw[hsn];clear hq h0 h4 hsn est;generalize x.k=k at *;generalize x.d=d at *;generalize x.t=t at *;generalize f sn=fs at *;obtain⟨b,hb⟩:∃b,decide (k<=fs)=b:=⟨_,rfl⟩;rw[hb];have bx:=ae w (.cells #[Yp sn,Yp k,Yp d,.string t] 36);have g0:Gr w (w.alloc (.cells #[Yp sn,Yp k,Yp d,.string t] 36)):=(Yu w).alloc _;have cp':=(g0.cells.1 px 0 hpl).trans hp;have cq':=(g0.cells.1 q sn hql).trans cq;have zp:px < (w.alloc (.cells #[Yp sn,Yp k,Yp d,.string t] 36)).heap.size:=Nat.lt_of_lt_of_le hpl g0.b.size;have zq:q < (w.alloc (.cells #[Yp sn,Yp k,Yp d,.string t] 36)).heap.size:=Nat.lt_of_lt_of_le hql g0.b.size;clear hp cq hpl hql;go_enter func105,ntmps105;go_wp2_with fail;generalize w.alloc (.cells #[Yp sn,Yp k,Yp d,.string t] 36)=W at *;obtain⟨p,hp⟩:∃p,w.heap.size=p:=⟨_,rfl⟩;rw[hp]at bx;rw[hp];clear hp;obtain⟨cx,fx,zx⟩:=ed bx;refine ah [.val (.pointer (some ⟨p,1,none⟩)),.val (Yp k),.val (.slice (Yn q) 5 5),.val (Ym p),.val (Yp sn),.val (.pointer (some ⟨q,sn,none⟩)),.val (Yp fs),.val (.bool b),.val (.bool b)] Yh Yh (λV=>finT) ?_ ?_
 ·refine⟨?_,?_,?_,?_,?_,?_,?_,?_,?_,trivial⟩ <;> exact osA
 ·intro V u hg hsx;have gu:=g0.trans hg;go_simp;go_wp2;go_ret;exact⟨rfl,gu⟩
theorem zeH {base:Nat} {T:TypeId} {g cap n:Nat}:∀(zs:List Value) (o:Nat) (xs:List Value) (w:World),w.ownsRow base T 4 (.slice (Yn g) n cap) n xs->
  ∃xs',(w.setCells g o zs).ownsRow base T 4 (.slice (Yn g) n cap) n xs'/\xs'.take o=xs.take o/\GrL [g] w (w.setCells g o zs)
 | [],_,xs,w,h=>⟨xs,h,rfl,GrL.of_gr (Yu w)⟩
 | u :: zs,o,xs,w,h=>by
  obtain⟨h1, -⟩:=h.stored o u;obtain⟨xs',h2,h3,h4⟩:=zeH zs (o+1) _ _ h1;refine⟨xs',h2,?_,(GrL.set (l:=[g]) (GrL.of_gr (Yu w)) ⟨g,o,none⟩ u (Or.inr Yj)).trans h4⟩;have:=congrArg (List.take o) h3;rw[List.take_take,List.take_take,Nat.min_eq_left (Nat.le_succ o),List.take_set_of_le (Yv o)]at this;exact this
theorem own_cut {base:Nat} {T:TypeId} {g cap n k:Nat} {xs:List Value} {w:World} (h:w.ownsRow base T 4 (.slice (Yn g) n cap) n xs) (hk:k<=n):
  w.ownsRow base T 4 (.slice (Yn g) k cap) k (xs.take (k * 4)):=by
 rcases h.2 with ⟨hv,_⟩ | ⟨g',cap',cur,hv,hb,hg,hcap,hmax,hsz,htk⟩
 ·cases hv
 injection hv with ha _ hc
 subst hc;injection ha with ha
 injection ha with ha
 subst ha;have hle:k * 4<=n * 4:=Nat.mul_le_mul_right _ hk;refine⟨by rw[List.length_take,h.1];omega,.inr ⟨g,cap,cur,rfl,hb,hg,Yi,hmax,hsz,?_⟩⟩;rw[<-htk,List.take_take,Nat.min_eq_left hle]
theorem zeP:∀(l:List Rc) (j:Nat) (x:Rc) (_:j < l.length),((((rcs l).set (j * 4) (Yp x.s)).set (j * 4+1) (Yp x.k)).set (j * 4+2) (Yp x.d)).set (j * 4+3) (.string x.t)=rcs (l.set j x)
 | y :: l,0,x,_=>rfl
 | y :: l,j+1,x,h=>by
  have e:(j+1) * 4=j * 4+4:=Yi;have:=zeP l j x (by simpa using h);rw[e];show(((([_,_,_,_] ++ rcs l).set (j * 4+4) _).set (j * 4+4+1) _).set (j * 4+4+2) _).set (j * 4+4+3) _=y.cells ++ rcs (l.set j x);rw[<-this];rfl
theorem zc6:∀(l:List Rc) (i:Nat),(rcs l).take (i * 4)=rcs (l.take i)
 | _,0=>by simp[rcs]
 | [],i+1=>by simp[rcs]
 | y :: l,i+1=>by
  rw[show(i+1) * 4=i * 4+4 from by omega,List.take_succ_cons];show(y.cells ++ rcs l).take (i * 4+4)=y.cells ++ rcs (l.take i);rw[<-zc6 l i];rfl
theorem own_put {base:Nat} {g cap:Nat} {L:List Rc} {w:World} (h:w.ownsRow base 36 4 (.slice (Yn g) L.length cap) L.length (rcs L)) (j:Nat) (hj:j < L.length) (x:Rc):
  ((((w.setCell (Yo g (j * 4)) (Yp x.s)).setCell (Yo g (j * 4+1)) (Yp x.k)).setCell (Yo g (j * 4+2)) (Yp x.d)).setCell (Yo g (j * 4+3)) (.string x.t)).ownsRow base 36 4 (.slice (Yn g) L.length cap) L.length (rcs (L.set j x))/\
  GrL [g] w ((((w.setCell (Yo g (j * 4)) (Yp x.s)).setCell (Yo g (j * 4+1)) (Yp x.k)).setCell (Yo g (j * 4+2)) (Yp x.d)).setCell (Yo g (j * 4+3)) (.string x.t)):=by
 rw[<-zeP L j x hj];refine⟨((((h.stored _ _).1.stored _ _).1.stored _ _).1.stored _ _).1,?_⟩;exact GrL.set (GrL.set (GrL.set (GrL.set (GrL.of_gr (Yu w)) _ _ (Or.inr Yj)) _ _ (Or.inr Yj)) _ _ (Or.inr Yj)) _ _ (Or.inr Yj)
theorem zeE (w:World) (g o n c:Nat) (hn:0 < n) (hc:∀j,j < n * 4->(w.cell? ⟨g,o+j,none⟩).isSome=true) (hf:∀j,j < n * 4->w.frozen? ⟨g,o+j,none⟩=false):
  ∃zs,∀ty,(Builtin.clear_ #[22] ty #[.slice (some ⟨g,o,none⟩) n c]).run prog w= .ok (.tuple #[]) (w.setCells g o zs):=by
 obtain⟨i0,hi,hz0,hz1,hz2⟩:=info_parts Dw;have hv:∀w,(zeroValue 36).run prog w= .ok (.agg #[Yp 0,Yp 0,Yp 0,.string ⟨#[]⟩]) w:=λw=>by
  go_simp
 have hzc:Value.cells (.agg #[Yp 0,Yp 0,Yp 0,.string ⟨#[]⟩])=(#[Yp 0,Yp 0,Yp 0,.string ⟨#[]⟩]:Array Value):=rfl;obtain⟨Z,hZ⟩:∃Z,Builtin.zeroCells #[Yp 0,Yp 0,Yp 0,.string ⟨#[]⟩] n=Z:=⟨_,rfl⟩;have hlen:Z.size=n * 4:=by rw[<-hZ];simp[Builtin.zeroCells]
 have hone:∀v∈Z.toList,v.oneCell'=true:=by
  intro v hv;rw[<-hZ,Builtin.zeroCells,Array.toList_map]at hv;obtain⟨i, -,rfl⟩:=List.mem_map.1 hv;have h4:i % 4 < 4:=Nat.mod_lt _ Yi;show(#[Value.int .i64 0,Yp 0,Yp 0,.string ⟨#[]⟩]:Array Value)[i % 4]!.oneCell'=true;generalize i % 4=r at *
  match r,h4 with
  | 0,_=>rfl
  | 1,_=>rfl
  | 2,_=>rfl
  | 3,_=>rfl
 have hst:=run_storeCells_cells (P:=prog) g o Z.toList 0 w (λj hj=>by rw[Nat.add_zero];exact hc j (by rw[Array.length_toList,hlen]at hj;exact hj)) (λj hj=>by rw[Nat.add_zero];exact hf j (by rw[Array.length_toList,hlen]at hj;exact hj)) hone;rw[Nat.add_zero]at hst;obtain⟨m,rfl⟩:∃m,n=m+1:=⟨n - 1,Yi⟩;refine⟨Z.toList,λty=>?_⟩;simp[Builtin.clear_,run_underlying underlying22,hv,hzc,hZ,hst]
theorem ze8 (v:Value) (l:List Rc) (px:Nat) (P:Rc->Bool) (w:World) (hv:ij w v l) (hl:l.length<=1000000)
  (hm:∀j (hj:j < l.length) u,Gr w u->Calls prog 105 #[l[j].v,Ym px] u λe w'=>e= .returned (.bool (P l[j]))/\Gr u w'):
  Calls prog 168 #[v,.func (.func 105) #[] #[Ym px]] w λe w'=>
   ((e= .returned (Yp (-1))/\∀j (hj:j < l.length),P l[j]=false)\/∃k:Nat,∃hk:k < l.length,e= .returned (Yp k)/\P l[k]=true/\∀j (hj:j < l.length),j < k->P l[j]=false)/\Gr w w':=by
 obtain⟨a,cap,rfl,hcap,hcell⟩:=hv;have HC:=hid hcell;have HM:=hid hm;clear hcell hm;go_enter func168,ntmps168;go_wp2;go_loopw [5,8] (λ_ q wr=>∃i:Nat,q= .int .i64 i/\i<=l.length/\Hid (∀j (hj:j < l.length),j < i->P l[j]=false)/\Gr w wr) (λ_ q _=>l.length - (intOf q).toNat)
 case atStart=>exact⟨0,rfl,Yi,hid (λj hj h=>absurd h (Nat.not_lt_zero _)),Yu _⟩
 case round=>
  obtain⟨i,rfl,hi,HS,gr⟩:=hrel
  by_cases hil:i < l.length
  ·have hil':(i:Int) < l.length:=Yi;obtain⟨g,o,rfl,hgl,c0,c1,c2,c3⟩:=HC.out i hil;have hz:g < wr.heap.size:=Nat.lt_of_lt_of_le hgl gr.b.size;rw[<-gr.cells.1 g _ hgl]at c0 c1 c2 c3;have CM:=hid (HM.out i hil);obtain⟨b,hb⟩:∃b,P l[i]=b:=⟨_,rfl⟩;have HB:=hid hb;rw[hb]at CM;clear hb;have HV:Hid (l[i].v= .agg #[Yp l[i].s,Yp l[i].k,Yp l[i].d,.string l[i].t]):=hid rfl;rw[HV.out]at CM;clear HV;generalize l[i].s=xs at *;generalize l[i].k=xk at *;generalize l[i].d=xd at *;generalize l[i].t=xt at *;go_wp2_with fail;refine(CM.out _ gr).mono ?_;rintro e w1 ⟨rfl,hg1⟩;have gu:=gr.trans hg1;clear hg1 c0 c1 c2 c3 hz;cases b
   ·go_wp2;exact⟨⟨i+1,Yj,Yi,hid (λj hj hji=>by
     rcases Nat.lt_or_ge j i with h | h
     ·exact HS.out j hj h
     ·obtain rfl:j=i:=Yi;exact HB.out),gu⟩,by simp[intOf];omega⟩
   ·go_wp2;go_ret;exact⟨.inr ⟨i,hil,rfl,HB.out,HS.out⟩,gu⟩
  ·have hil':¬(i:Int) < l.length:=Yi;obtain rfl:i=l.length:=Yi;go_wp2;go_ret;exact⟨.inl ⟨rfl,λj hj=>HS.out j hj hj⟩,gr⟩
theorem zez {α:Type} (P:α->Bool) {l:List α} {i:Nat} (hi:i < l.length):(l.take (i+1)).filter P=(l.take i).filter P ++ if P l[i]=true then [l[i]]else []:=by
 rw[List.take_succ_eq_append_getElem hi,List.filter_append];congr 1;cases h:P l[i] <;> simp[h]
theorem zeN {α:Type} (P:α->Bool) {l:List α} {k:Nat} (h:∀j (hj:j < l.length),j < k->P l[j]=true):(l.take k).filter P=l.take k:=by
 apply List.filter_eq_self.2;intro a ha;obtain⟨j,hj,rfl⟩:=List.mem_take_iff_getElem.1 ha;exact h j Yi Yi
theorem ze9 (g cap base px:Nat) (l:List Rc) (P:Rc->Bool) (w:World) (hr:w.ownsRow base 36 4 (.slice (Yn g) l.length cap) l.length (rcs l)) (hl:l.length<=1000000)
  (hm:∀j (hj:j < l.length) u,GrL [g] w u->Calls prog 105 #[l[j].v,Ym px] u λe w'=>e= .returned (.bool (!P l[j]))/\Gr u w'):
  Calls prog 104 #[.slice (Yn g) l.length cap,.func (.func 105) #[] #[Ym px]] w λe w'=>∃v',e= .returned v'/\w'.ownsRow base 36 4 v' (l.filter P).length (rcs (l.filter P))/\GrL [g] w w':=by
 have IX:=hid (ze8 _ l px (λx=> !P x) w (qe hr) hl (λj hj u hu=>hm j hj u (GrL.of_gr hu)));have HR:=hid hr;have HM:=hid hm;have hgz:=(hr.lt g rfl).2;have HGB:=hid (hr.lt g rfl).1;clear hr hm;go_enter func104,ntmps104;go_wp2_with fail;refine IX.out.mono ?_;rintro e w1 ⟨⟨rfl,hall⟩ | ⟨k,hk,rfl,hkt,hkf⟩,hg1⟩
 ·have hE:l.filter P=l:=List.filter_eq_self.2 (λa ha=>by
   obtain⟨j,hj,rfl⟩:=List.mem_iff_getElem.1 ha;simpa using hall j hj)
  have HN:=hid (ek HR.out hg1);clear IX hall;go_wp2;go_ret;exact⟨_,rfl,by rw[hE];exact HN.out,GrL.of_gr hg1⟩
 ·have HI:Hid (∃L':List Rc,L'.length=l.length/\L'.take k=(l.take (k+1)).filter P/\L'.drop (k+1)=l.drop (k+1)/\k=((l.take (k+1)).filter P).length/\w1.ownsRow base 36 4 (.slice (Yn g) l.length cap) l.length (rcs L')):=hid (by
   have e1:(l.take (k+1)).filter P=l.take k:=by
    rw[zez P hk,zeN P (λj hj hjk=>by simpa using hkf j hj hjk)];have:P l[k]=false:=by simpa using hkt
    simp[this]
   exact⟨l,rfl,by rw[e1],rfl,by rw[e1,List.length_take];omega,ek HR.out hg1⟩)
  have hk':(k:Int) < l.length:=Yi;have hkn:((k:Int) == -1)=false:=beq_eq_false_iff_ne.2 Yi;have hkn2:¬(k:Int)= -1:=Yi;have G1:GrL [g] w w1:=GrL.of_gr hg1;clear IX hkt hkf hg1;go_wp2;go_loopw [5,6,7] (λp q _ wr=>∃i j:Nat,p= .int .i64 i/\q= .int .i64 j/\i < j/\j<=l.length/\GrL [g] w wr/\Hid (∃L':List Rc,L'.length=l.length/\L'.take i=(l.take j).filter P/\L'.drop j=l.drop j/\i=((l.take j).filter P).length/\wr.ownsRow base 36 4 (.slice (Yn g) l.length cap) l.length (rcs L'))) (λ_ q _ _=>l.length - (intOf q).toNat)
  case atStart=>exact⟨k,k+1,rfl,Yj,Yi,Yi,G1,HI⟩
  case round=>
   obtain⟨i,j,rfl,rfl,hij,hjl0,gr,HL⟩:=hrel
   by_cases hjl:j < l.length
   ·have hjl':(j:Int) < l.length:=Yi;have hil':(i:Int) < l.length:=Yi;have hi0:(0:Int)<=i:=Yi;have hj0:(0:Int)<=j:=Yi;obtain⟨L',hL,htk,hdr,hilen,hown⟩:=HL.out;have hLj:j < L'.length:=Yi;have hLi:i < L'.length:=Yi;have hx:L'[j]=l[j]:=by
     have e1:(L'.drop j)[0]?=(l.drop j)[0]?:=by rw[hdr]
     rw[List.getElem?_drop,List.getElem?_drop,Nat.add_zero,List.getElem?_eq_getElem hLj,List.getElem?_eq_getElem hjl]at e1;exact Yt e1
    have c0:=hown.cellAt (j * 4+0) Yi;have c1:=hown.cellAt (j * 4+1) Yi;have c2:=hown.cellAt (j * 4+2) Yi;have c3:=hown.cellAt (j * 4+3) Yi;rw[No L' j _ hLj Yi,hx]at c0 c1 c2 c3;have hz:g < wr.heap.size:=Nat.lt_of_lt_of_le hgz gr.size;replace c0:wr.cell? ⟨g,j * 4,none⟩=some (.int .i64 l[j].s):=c0;replace c1:wr.cell? ⟨g,j * 4+1,none⟩=some (.int .i64 l[j].k):=c1;replace c2:wr.cell? ⟨g,j * 4+2,none⟩=some (.int .i64 l[j].d):=c2;replace c3:wr.cell? ⟨g,j * 4+3,none⟩=some (.string l[j].t):=c3;have CM:=hid (HM.out j hjl);have HF:=hid (zez P hjl);obtain⟨b,hb⟩:∃b,P l[j]=b:=⟨_,rfl⟩;rw[hb]at CM HF;clear hb;have HV:Hid (l[j].v= .agg #[Yp l[j].s,Yp l[j].k,Yp l[j].d,.string l[j].t]):=hid rfl;rw[HV.out]at CM;have HPUT:=hid (fun(u:World) (h:u.ownsRow base 36 4 (.slice (Yn g) L'.length cap) L'.length (rcs L'))=>own_put h i hLi l[j]);have HDJ:Hid (l.drop (j+1)=L'.drop (j+1)):=hid (by
     have:=congrArg (List.drop 1) hdr;rw[List.drop_drop,List.drop_drop]at this;exact this.symm)
    have HO:=hid hown;have HY:=hid (fun(u:World) (h:u.ownsRow base 36 4 (.slice (Yn g) l.length cap) l.length (rcs L'))=>show u.cell? ⟨g,i * 4,none⟩=some (.int .i64 L'[i].s)/\u.cell? ⟨g,i * 4+1,none⟩=some (.int .i64 L'[i].k)/\u.cell? ⟨g,i * 4+2,none⟩=some (.int .i64 L'[i].d)/\u.cell? ⟨g,i * 4+3,none⟩=some (.string L'[i].t)/\
      u.frozen? ⟨g,i * 4,none⟩=false/\u.frozen? ⟨g,i * 4+1,none⟩=false/\u.frozen? ⟨g,i * 4+2,none⟩=false/\u.frozen? ⟨g,i * 4+3,none⟩=false from by
     have c0:=h.cellAt (i * 4+0) Yi;have c1:=h.cellAt (i * 4+1) Yi;have c2:=h.cellAt (i * 4+2) Yi;have c3:=h.cellAt (i * 4+3) Yi;rw[No L' i _ hLi Yi]at c0 c1 c2 c3;exact⟨c0,c1,c2,c3,h.frozenAt _,h.frozenAt _,h.frozenAt _,h.frozenAt _⟩)
    have HTK:=hid htk;have HIL:=hid hilen;have HDR:=hid hdr;have HXJ:Hid (l[j]=⟨l[j].s,l[j].k,l[j].d,l[j].t⟩):=hid rfl;clear hown htk hdr hilen HV hx;generalize hxj:l[j]=x at *;have HJ:=hid hxj;clear hxj;have bx:=ae wr (.cells #[Yp x.s,Yp x.k,Yp x.d,.string x.t] 36);have gu:GrL [g] w (wr.alloc (.cells #[Yp x.s,Yp x.k,Yp x.d,.string x.t] 36)):=gr.trans (GrL.of_gr ((Yu wr).alloc _));have HO2:=hid (ek HO.out ((Yu wr).alloc (.cells #[Yp x.s,Yp x.k,Yp x.d,.string x.t] 36)));go_wp2_with fail;generalize wr.alloc (.cells #[Yp x.s,Yp x.k,Yp x.d,.string x.t] 36)=W at *;obtain⟨pn,hpn⟩:∃p,wr.heap.size=p:=⟨_,rfl⟩;rw[hpn]at bx hz;rw[hpn];clear hpn c0 c1 c2 c3 HO;refine(CM.out _ gu).mono ?_;rintro e w2 ⟨rfl,hg2⟩;have gu2:=gu.trans (GrL.of_gr (l:=[g]) hg2);have bx2:=hg2.heap bx;have HO3:=hid (ek HO2.out hg2);clear hg2 bx HO2 CM gu;cases b
    ·clear bx2;go_wp2;refine⟨⟨i,j+1,rfl,Yj,Yi,Yi,gu2,hid ⟨L',hL,?_,HDJ.out.symm,?_,HO3.out⟩⟩,by simp[intOf];omega⟩
     ·rw[HF.out,HTK.out];simp
     ·rw[HF.out];simpa using HIL.out
    ·obtain⟨cx,fx,zx⟩:=ed bx2;obtain⟨d0,d1,d2,d3,f0,f1,f2,f3⟩:=HY.out _ HO3.out;have hgn:g≠pn:=Yi;clear bx2;go_wp2;have HP:=HPUT.out w2 (by rw[hL];exact HO3.out);refine⟨⟨i+1,j+1,Yj,Yj,Yi,Yi,gu2.trans HP.2,hid ⟨L'.set i x,by rw[List.length_set];exact hL,?_,?_,?_,?_⟩⟩,by simp[intOf];omega⟩
     ·rw[HF.out,<-HTK.out,List.take_succ_eq_append_getElem (by rw[List.length_set];exact hLi),List.take_set_of_le (Yv i)];simp
     ·rw[List.drop_set_of_lt Yi];exact HDJ.out.symm
     ·rw[HF.out,List.length_append,<-HIL.out];rfl
     ·have:=HP.1;rw[hL]at this;exact this
   ·have hjl':¬(j:Int) < l.length:=Yi;obtain rfl:j=l.length:=Yi;obtain⟨L',hL,htk,hdr,hilen,hown⟩:=HL.out;have hin:i < l.length:=hij;obtain⟨zs,hcl⟩:=zeE wr g (i * 4) (l.length - i) (cap - i) Yi (λt ht=>by
     rw[hown.cellAt (i * 4+t) Yi,List.getElem?_eq_getElem (by rw[vf];omega)];rfl) (λt ht=>hown.frozenAt _)
    obtain⟨xs',o1,o2,o3⟩:=zeH zs (i * 4) _ _ hown;have o4:=own_cut o1 (k:=i) Yi;rw[o2,zc6,htk,List.take_length]at o4;rw[List.take_length]at hilen;have HN:=hid o4;have HI2:=hid hilen;have G3:=gr.trans o3;have hil':(i:Int) < l.length:=Yi;have hi0:(0:Int)<=i:=Yi;have hic0:l.length<=cap:=by
     rcases hown.2 with ⟨hv,_⟩ | ⟨g',cap',cur,hv,_,_,hcap,_⟩
     ·cases hv
     ·injection hv with _ _ hc;omega
    have hic:i<=cap:=Yi;have hne:¬cap=i:=Yi;have hne2:¬cap - i=0:=Yi;clear o1 o2 o3 o4 hown htk hdr hilen hL;go_wp2;go_ret;refine⟨_,rfl,?_,G3⟩;have:=HN.out;rw[<-HI2.out];exact this
theorem Qb (A:Addr) (c:Nat) (w:World):
  Calls prog 40 #[.slice (some A) 0 c] w λe w'=>∃v',e= .returned v'/\w'.ownsRow w.heap.size 36 4 v' 0 []/\Gr w w':=by
 have q22:∀w,(binOp .eql 22 (.slice (some A) 0 c) (.slice none 0 0)).run prog w= .ok (.bool (some A).isNone) w:=λw=>Lib.run_eql_slice_nil w _ _ (some A) 0 c 0 0 underlying22;go_enter func40,ntmps40;go_wp2;go_ret;refine⟨_,rfl,?_,?_⟩
 ·exact World.ownsRow_made w #[] 0 (Yv _) (Nat.zero_le _) Yj
 ·exact(Yu w).alloc _
theorem ij.flat {w:World} {l:List Rc} {g o cap:Nat} (h:ij w (.slice (some ⟨g,o,none⟩) l.length cap) l):∀j u,(rcs l)[j]?=some u->w.cell? ⟨g,o+j,none⟩=some u:=by
 obtain⟨a,cap',hv,hc,hr⟩:=h;injection hv with ha _ hcc
 subst hcc;subst ha;intro j u hu;have hj:j < l.length * 4:=by
  have:=(List.getElem?_eq_some_iff.1 hu).1
  rwa [vf]at this
 have h1:j / 4 < l.length:=Yi;obtain⟨g2,o2,hge,_,c0,c1,c2,c3⟩:=hr (j / 4) h1;obtain⟨rfl,rfl⟩:g2=g/\o2=o:=by injection hge with h;injection h with h h2;exact⟨h.symm,h2.symm⟩
 have h4:j % 4 < 4:=Nat.mod_lt _ Yi;have e:j=j / 4 * 4+j % 4:=Yi;rw[e,No l (j/4) (j%4) h1 h4]at hu;rw[e,<-Nat.add_assoc];generalize j % 4=r at *
 match r,h4 with
 | 0,_=>exact c0.trans hu
 | 1,_=>exact c1.trans hu
 | 2,_=>exact c2.trans hu
 | 3,_=>exact c3.trans hu
theorem Qc (v:Value) (l:List Rc) (w:World) (hr:ij w v l) (hl:l.length<=1000000):
  Calls prog 40 #[v] w λe w'=>∃v',e= .returned v'/\w'.ownsRow w.heap.size 36 4 v' l.length (rcs l)/\Gr w w':=by
 have hr0:=hr;obtain⟨a,cap,rfl,hcap,hcell⟩:=hr;rcases Nat.eq_zero_or_pos l.length with h0 | hpos
 ·obtain rfl:=List.eq_nil_of_length_eq_zero h0;cases a with
  | none=>
   refine(AnyE.slices_Clone_nil Tryz.cloneRec _ cap w).mono ?_;rintro e w' ⟨rfl,rfl⟩;exact⟨_,rfl,World.ownsRow_nil _ _ _ _,Yu _⟩
  | some A=>exact Qb A cap w
 ·obtain⟨g,o,rfl, -⟩:=hcell 0 hpos;obtain⟨i0,hi,hz0,hz1,hz2⟩:=info_parts Dw;refine(AnyE.slices_Clone Tryz.cloneRec i0 _ 4 40 hi hz0 hz1 hz2 rfl Yi Tryz.sizeOf36 g o l.length cap (rcs l) w (vf l) (by unfold maxLen;omega) Yi hr0.flat (Ho l)).mono ?_;rintro e w' ⟨v',rfl,h1,_,h2⟩;exact⟨v',rfl,h1,Gr.of_below h2⟩
theorem ze7 (v:Value) (w:World):
  Calls prog 104 #[.slice none 0 0,v] w λe w'=>e= .returned (.slice none 0 0)/\w'=w:=by
 have IX:Hid (Calls prog 168 #[.slice none 0 0,v] w λe w'=>e= .returned (Yp (-1))/\w'=w):=hid (by
  go_enter func168,ntmps168;go_wp2;refine wp_loop_rounds 3 ?_;rw[rounds_succ];go_wp2;go_ret;exact⟨rfl,rfl⟩)
 go_enter func104,ntmps104;go_wp2_with fail;refine IX.out.mono ?_;rintro e w1 ⟨rfl,rfl⟩;go_wp2;go_ret;exact⟨rfl,rfl⟩
theorem zeZ (f:Nat->Int) (l:List Rc):zeb f l=l.filter λx=> !decide (x.k<=f x.s.toNat):=by
 unfold zeb;congr 1;funext x
 by_cases h:x.k<=f x.s.toNat
 ·rw[decide_eq_true h,decide_eq_false Yi];rfl
 ·rw[decide_eq_false h,decide_eq_true Yi];rfl
theorem zeI (v:Value) (l:List Rc) (q:Nat) (f:Nat->Int) (w:World) (hv:ij w v l) (hl:l.length<=1000000) (hs:∀j (hj:j < l.length),0<=l[j].s/\l[j].s<=4) (hq:∀s,s < 5->w.cell? ⟨q,s,none⟩=some (.int .i64 (f s))) (hql:q < w.heap.size):
  Calls prog 54 #[v,.slice (Yn q) 5 5] w λe w'=>∃v',e= .returned v'/\w'.ownsRow w.heap.size 36 4 v' (zeb f l).length (rcs (zeb f l))/\Gr w w':=by
 have g0:Gr w (w.alloc (.cells #[.slice (Yn q) 5 5] 123)):=(Yu w).alloc _;have bx:=ae w (.cells #[.slice (Yn q) 5 5] 123);have CL:=hid (Qc v l _ (hv.gr g0) hl);have HQ:=hid (fun(u:World) (g:Gr w u) (s:Nat) (h:s < 5)=>(g.cells.1 q s hql).trans (hq s h));have HQL:=hid hql;have HS:=hid hs;have hLN:=zeZ f l;have HLN:=hid hLN;clear hv hs hq hql hLN;go_enter func54,ntmps54;go_wp2_with fail;have hWz:(w.alloc (.cells #[.slice (Yn q) 5 5] 123)).heap.size=w.heap.size+1:=by rw[World.size_alloc]
 generalize w.alloc (.cells #[.slice (Yn q) 5 5] 123)=W at *;obtain⟨px,hpx⟩:∃p,w.heap.size=p:=⟨_,rfl⟩;have HPX:=hid hpx;rw[hpx]at bx hWz
 try simp only[hpx]
 clear hpx;have HWZ:=hid hWz;clear hWz;refine CL.out.mono ?_;rintro e w1 ⟨v1,rfl,hown,hg1⟩;clear CL;obtain⟨a1,c1,rfl⟩:=wc hown;have bx1:=hg1.heap bx;have G:=g0.trans hg1;have MI:Hid (∀j (hj:j < l.length) u,GrL (Value.slice a1 l.length c1).ownBlock.toList w1 u->Calls prog 105 #[l[j].v,Ym px] u λe w'=>e= .returned (.bool (!(λx:Rc=> !decide (x.k<=f x.s.toNat)) l[j]))/\Gr u w'):=hid (λj hj u hu=>by
  have hne:∀b,b < W.heap.size->b∉(Value.slice a1 l.length c1).ownBlock.toList:=λb hb hm=>by
   have:=(hown.lt b (by simpa using hm)).1;omega
  have hpl:px < W.heap.size:=by rw[HWZ.out];omega
  have hql':q < W.heap.size:=Nat.lt_of_lt_of_le HQL.out g0.b.size;have b1:=(hu.block px (ai bx1) (hne px hpl)).trans bx1;have hz1:q < w1.heap.size:=Nat.lt_of_lt_of_le hql' hg1.b.size;have e1:∀s,s < 5->u.cell? ⟨q,s,none⟩=some (.int .i64 (f s)):=λs h=>(World.cell?_of_block (hu.block q hz1 (hne q hql'))).trans (HQ.out _ G s h);have:=zeG l[j] px q f u ((ed b1).1 0) e1 (ai b1) (Nat.lt_of_lt_of_le hz1 hu.size) (HS.out j hj).1 (HS.out j hj).2;simpa using this)
 have DE:Hid (Calls prog 104 #[.slice a1 l.length c1,.func (.func 105) #[] #[Ym px]] w1 λe w'=>∃v',e= .returned v'/\w'.ownsRow W.heap.size 36 4 v' (zeb f l).length (rcs (zeb f l))/\Gr w w'):=hid (by
  rw[HLN.out];have hown0:=hown;rcases hown.2 with ⟨hn,hz⟩ | ⟨g,cap,cur,hvv,_⟩
  ·obtain rfl:=List.eq_nil_of_length_eq_zero hz;injection hn with ha _ hcc
   subst ha;subst hcc;refine(ze7 _ w1).mono ?_;rintro e w' ⟨rfl,rfl⟩;exact⟨_,rfl,World.ownsRow_nil _ _ _ _,G⟩
  ·injection hvv with ha _ hcc
   subst ha;subst hcc;refine(ze9 g c1 W.heap.size px l (λx=> !decide (x.k<=f x.s.toNat)) w1 hown0 hl (λj hj u hu=>MI.out j hj u (by simpa[Value.ownBlock]using hu))).mono ?_;rintro e w' ⟨v',rfl,h1,h2⟩;refine⟨v',rfl,h1,GrL.gr G h2 (λi hi=>?_)⟩;obtain rfl:=List.mem_singleton.1 hi;have:=(hown0.lt i rfl).1;have:=g0.b.size;omega)
 clear MI hown bx bx1 hg1 HLN;go_wp2_with fail;refine DE.out.mono ?_;rintro e w2 ⟨v',rfl,h1,h2⟩;have HN:=hid (World.ownsRow.mono (base':=px) h1 (by rw[HWZ.out];omega));clear h1 DE;go_wp2;go_ret;exact⟨_,rfl,by rw[HPX.out];exact HN.out,h2⟩
theorem zeO (n:Int) (v:Value) (a0 a1 a2 a3 a4:Int) (i0 e0:Int) (w:World) (h0:e0≠0)
  (hc:∀u,Gr w u->Calls prog 39 #[Yp n,v] u λe w'=>e= .returned (.tuple #[Yp i0,Yp e0])/\Gr u w'):
  Calls prog 17 #[Yp n,v,zeM a0 a1 a2 a3 a4] w λe w'=>e= .returned (.tuple #[.slice none 0 0,Yp e0])/\Gr w w':=by
 have CH:=hid hc;have g0:Gr w (w.alloc (.cells #[Yp a0,Yp a1,Yp a2,Yp a3,Yp a4] 61)):=(Yu w).alloc _;have h1:(e0 == 0)=false:=by simpa using h0
 have h2:decide (e0=0)=false:=by simpa using h0
 clear hc;go_enter func17,ntmps17;go_wp2_with fail;refine(CH.out _ g0).mono ?_;rintro e w1 ⟨rfl,hg1⟩;have G:=g0.trans hg1;go_wp2;go_ret2;exact⟨rfl,G⟩
theorem zeK (n:Int) (v:Value) (l:List Rc) (a0 a1 a2 a3 a4:Int) (w:World) (hv:ij w v l) (hl:l.length<=1000000) (hs:∀j (hj:j < l.length),0<=l[j].s/\l[j].s<=4)
  (hc:∀u,Gr w u->Calls prog 39 #[Yp n,v] u λe w'=>e= .returned (.tuple #[Yp 0,Yp 0])/\Gr u w'):
  Calls prog 17 #[Yp n,v,zeM a0 a1 a2 a3 a4] w λe w'=>∃v',e= .returned (.tuple #[v',Yp 0])/\w'.ownsRow w.heap.size 36 4 v' (zeb (hav a0 a1 a2 a3 a4) l).length (rcs (zeb (hav a0 a1 a2 a3 a4) l))/\Gr w w':=by
 have CH:=hid hc;have bx:=ae w (.cells #[Yp a0,Yp a1,Yp a2,Yp a3,Yp a4] 61);have g0:Gr w (w.alloc (.cells #[Yp a0,Yp a1,Yp a2,Yp a3,Yp a4] 61)):=(Yu w).alloc _;have LA:=hid (λu (g:Gr (w.alloc (.cells #[Yp a0,Yp a1,Yp a2,Yp a3,Yp a4] 61)) u)=>zeI v l w.heap.size (hav a0 a1 a2 a3 a4) u (hv.gr (g0.trans g)) hl hs (λs h=>((ed (g.heap bx)).1 s).trans (hav_at a0 a1 a2 a3 a4 h)) (ai (g.heap bx)));generalize zeb (hav a0 a1 a2 a3 a4) l=R at *;clear hc hv hs bx;go_enter func17,ntmps17;go_wp2_with fail;generalize w.alloc (.cells #[Yp a0,Yp a1,Yp a2,Yp a3,Yp a4] 61)=W at *;obtain⟨px,hpx⟩:∃p,w.heap.size=p:=⟨_,rfl⟩;have HPX:=hid hpx;rw[hpx]at LA;simp only[hpx];clear hpx;refine(CH.out _ g0).mono ?_;rintro e w1 ⟨rfl,hg1⟩;have G:=g0.trans hg1;clear g0 CH;go_wp2_with fail;refine(LA.out _ hg1).mono ?_;rintro e w2 ⟨v',rfl,hown,hg2⟩;have HN:=hid (World.ownsRow.mono (base':=px) hown (by rw[<-HPX.out];exact G.b.size));have G2:=G.trans hg2;clear hown hg2;go_wp2;go_ret2;exact⟨_,rfl,by rw[HPX.out];exact HN.out,G2⟩
end
section
def agree (x y:List Rc):Prop:=∀i (h1:i < x.length) (h2:i < y.length),x[i]=y[i]
open Classical in
end
section
open Go.RowKit Go.Shelf Go.Lib Go.Sort
theorem zeT (n:Int) (v:Value) (l:List Rc) (w:World) (hn1: -1000000<=n) (hn2:n<=1000000) (hr:ij w v l) (hl:l.length<=1000000) (ht:∀x∈l,x.t.size<=100000) (hc:(decide (n=3) || decide (n=5))=true) (i e0:Int) (he:ot n l=(i,e0)) (h0:e0≠0):
  Calls prog 16 #[Yp n,v] w λe w'=>e= .returned (.tuple #[.slice none 0 0,Yp e0])/\Gr w w':=by
 have CH:=hid (Fb n v l w hn1 hn2 hr hl ht hc);rw[he]at CH;have h1:(e0 == 0)=false:=by simpa using h0
 have h2:decide (e0=0)=false:=by simpa using h0
 clear hr ht hc he;go_enter func16,ntmps16;go_wp2_with fail;refine CH.out.mono ?_;rintro e w1 ⟨rfl,hg1⟩;go_wp2;go_ret2;exact⟨rfl,hg1⟩
theorem zcg (n:Int) (v:Value) (l:List Rc) (w:World) (hn1: -1000000<=n) (hn2:n<=1000000) (hr:ij w v l) (hl:l.length<=1000000) (ht:∀x∈l,x.t.size<=100000) (hc:(decide (n=3) || decide (n=5))=true) (he:ot n l=(0,0)):
  Calls prog 16 #[Yp n,v] w λe w'=>∃v' l',e= .returned (.tuple #[v',Yp 0])/\l'.Perm l/\Bz l'/\w'.ownsRow w.heap.size 36 4 v' l'.length (rcs l')/\Gr w w':=by
 have CH:=hid (Fb n v l w hn1 hn2 hr hl ht hc);rw[he]at CH;have CL:=hid (λw1 (g:Gr w w1)=>Qc v l w1 (hr.gr g) hl);have SO:=hid (λb v' w1 h=>Yd b v' l w1 h hl);clear hr ht hc he;go_enter func16,ntmps16;go_wp2_with fail;refine CH.out.mono ?_;rintro e w1 ⟨rfl,hg1⟩;go_wp2_with fail;refine(CL.out _ hg1).mono ?_;rintro e w2 ⟨v',rfl,hr2,hg2⟩;go_wp2_with fail;refine(SO.out _ _ _ hr2).mono ?_;rintro e w3 ⟨rfl,l',hp,ho,hr3,hg3⟩;have G:Gr w w3:=GrL.gr (hg1.trans hg2) hg3 (λi hi=>by
  have:=(hr2.lt i (by simpa using hi)).1;have:=hg1.b.size;omega)
 have hr4:=World.ownsRow.mono (base':=w.heap.size) hr3 hg1.b.size;clear hg3 hr3 hr2 hg2 SO CL CH hg1;go_wp2;go_ret2;exact⟨v',l',rfl,hp,ho,hr4,G⟩
theorem OrdA_is (n:Int) (v:Value) (l:List Rc) (w:World) (hn1: -1000000<=n) (hn2:n<=1000000) (hr:ij w v l) (hl:l.length<=1000000) (ht:∀x∈l,x.t.size<=100000) (hc:(decide (n=3) || decide (n=5))=true) (he:ot n l=(0,0)):
  Calls prog 16 #[Yp n,v] w λe w'=>∃v',e= .returned (.tuple #[v',Yp 0])/\w'.ownsRow w.heap.size 36 4 v' (i7 l).length (rcs (i7 l))/\Gr w w':=by
 refine(zcg n v l w hn1 hn2 hr hl ht hc he).mono ?_;rintro e w' ⟨v',l',h1,h2,h3,h4,h5⟩;obtain rfl:=zaE (zbK (Wr (by rw[he]))) h2 h3;exact⟨v',h1,h4,h5⟩
end
section
open Go.RowKit Go.Shelf Go.Lib
theorem tf {P:Program} (w:World) {ops:Array Oper} {rest:List Oper} {o:Oper} {a:Act} {Q:Exit->Act->World->Prop} (hgd:o.guard=none) (d s:Operand) (t t':TypeId)
  (ho:o.op= .call {callee:= .builtin .append,args:=#[d,s],argTypes:=#[t,t']}) (v u:Value) (hd:a.eval d=v) (hs:a.eval s=u) {v':Value} {w':World}
  (hr:(Builtin.append_ #[t,t'] o.type #[v,u]).run P w= .ok v' w') (h:wpList P ops Q rest (a.put o.dst v') w'):wpList P ops Q (o :: rest) a w:=
 wpList_plain hgd λ_ hK=>by
  unfold Oper.wp execOp;simp only[ho,resolve,invoke,builtin,Sem.run_bind,Sem.run_pure,Result.andThen_ok,List.map_toArray,List.map_cons,List.map_nil,hd,hs,hr];exact hK _ _ h
theorem ij.cells {w:World} {a:Option Addr} {n cap:Nat} {l:List Rc} (h:ij w (.slice a n cap) l):n=l.length/\∀j (hj:j < l.length),∃g o,a=some ⟨g,o,none⟩/\g < w.heap.size/\
  w.cell? ⟨g,o+j * 4,none⟩=some (.int .i64 l[j].s)/\w.cell? ⟨g,o+j * 4+1,none⟩=some (.int .i64 l[j].k)/\w.cell? ⟨g,o+j * 4+2,none⟩=some (.int .i64 l[j].d)/\w.cell? ⟨g,o+j * 4+3,none⟩=some (.string l[j].t):=by
 obtain⟨a',cap',hv,hc,hr⟩:=h;injection hv with h1 h2 h3
 subst h1;exact⟨h2,hr⟩
theorem je (u:World) (base:Nat) (ty:TypeId) (v:Value) (L:List Rc) (hown:u.ownsRow base 36 4 v L.length (rcs L)) (sv:Value) (M:List Rc) (hs:ij u sv M) (hl:L.length+M.length<=1000000) (hb:base<=u.heap.size):
  ∃v' u',(Builtin.append_ #[22,22] ty #[v,sv]).run prog u= .ok v' u'/\u'.ownsRow base 36 4 v' (L ++ M).length (rcs (L ++ M))/\GrL v.ownBlock.toList u u':=by
 obtain⟨i0,hi,hz0,hz1,hz2⟩:=info_parts Dw;have hs0:=hs;obtain⟨a,cap,rfl,hc,hcell⟩:=hs;have key:∀(ad:Addr) (news:List Value),a=some ad->news=rcs M->(∀j x,news[j]?=some x->u.cell? (ad.add j)=some x)->
   ∃v' u',(Builtin.append_ #[22,22] ty #[v,.slice a M.length cap]).run prog u= .ok v' u'/\u'.ownsRow base 36 4 v' (L ++ M).length (rcs (L ++ M))/\GrL v.ownBlock.toList u u':=by
  intro ad news ha hn hx;subst ha;subst hn;obtain⟨v',u',h1,h2,h3,_⟩:=run_append_own (P:=prog) u base 22 ty 36 i0 _ 4 40 underlying22 hi hz0 hz1 hz2 rfl Yk v L.length (rcs L) hown ad M.length cap (rcs M) (vf M) hx (Ho M) (by unfold maxLen;omega) Yi hb;exact⟨v',u',h1,by rw[Np,List.length_append];exact h2,GrL.of_grown' h3⟩
 cases M with
 | nil=>
  cases a with
  | none=>
   obtain⟨ao,co,rfl⟩:=wc hown;have hmc:L.length<=co:=by
    rcases hown.2 with ⟨hv,hz⟩ | ⟨_,_,_,hv,_,_,hcap,_⟩
    iterate 2 ·injection hv with _ _ h;omega
   refine⟨_,u,?_,by simpa using hown,GrL.of_gr (Yu u)⟩;cases ao <;> simp[Builtin.append_,run_underlying underlying22,Tryz.sizeOf36,hmc,Builtin.lenOf,Builtin.firstCells,storeCells]
  | some ad=>exact key ad _ rfl rfl (λj x hj=>by simp[rcs]at hj)
 | cons x M=>
  obtain⟨g,o,rfl, -⟩:=hcell 0 Yj;exact key _ _ rfl rfl (λj x hj=>by rw[Addr.add_mid];exact ij.flat hs0 j x hj)
theorem zd2 (u:World) (base:Nat) (ty:TypeId) (b:Nat) (hb0:base<=b) (hbk:u.heap[b]?=some (.cells #[] 36 (0,0))) (sv:Value) (M:List Rc) (hs:ij u sv M) (hM:M.length<=1000000) (hb:base<=u.heap.size):
  ∃v' u',(Builtin.append_ #[22,22] ty #[.slice (Yn b) 0 0,sv]).run prog u= .ok v' u'/\u'.ownsRow base 36 4 v' M.length (rcs M)/\Gr u u':=by
 obtain⟨i0,hi,hz0,hz1,hz2⟩:=info_parts Dw;have hs0:=hs;obtain⟨a,cap,rfl,hc,hcell⟩:=hs;cases M with
 | nil=>
  have own:u.ownsRow base 36 4 (.slice (Yn b) 0 0) 0 []:=⟨rfl,.inr ⟨b,0,#[],rfl,hb0,hbk,Yv _,Nat.zero_le _,rfl,rfl⟩⟩;cases a with
  | none=>
   refine⟨_,u,?_,own,Yu u⟩;simp[Builtin.append_,run_underlying underlying22,Tryz.sizeOf36,Builtin.lenOf,Builtin.firstCells,storeCells]
  | some ad=>
   have hr:=run_append_room (P:=prog) u 22 ty 36 i0 underlying22 hi b 0 0 #[] hbk ad 0 cap [] Yj (λj x hj=>by simp at hj) (λx hx=>by cases hx) (Yv _) Yj;simp only[List.take_nil,List.drop_nil,List.append_nil]at hr;have e:u.setRow b #[]=u:=setRow_self u b #[] 36 (0,0) hbk;rw[show([]:List Value).toArray=#[]from rfl,e]at hr;exact⟨_,u,hr,own,Yu u⟩
 | cons x M=>
  obtain⟨g,o,rfl, -⟩:=hcell 0 Yj;have hl:=vf (x :: M);have hpos:0 < (x :: M).length:=Yj;generalize x :: M=L at *;have hbytes:(0+L.length) * i0.bytes<=140737488355328:=by rw[hz2];omega
  have hr:=run_append_grow (P:=prog) u 22 ty 36 i0 _ underlying22 hi hz0 ⟨b,0,none⟩ 0 0 [] Yj (λj v hj=>by simp at hj) ⟨g,o,none⟩ L.length cap (rcs L) (by rw[hz1];exact hl) (λj v hj=>by rw[Addr.add_mid];exact ij.flat hs0 j v hj) Yi Yi (growslice_fits Yi hbytes);rw[Nat.zero_add]at hr;refine⟨_,_,hr,⟨hl,.inr ⟨u.heap.size,_,_,rfl,hb,heap_alloc_new u.drew _,grownCap_ge u _ _ _,grownCap_le_maxLen u _ _ _ (by unfold maxLen;omega),?_,?_⟩⟩,(Yu u).drew.alloc _⟩
  ·have hge:=grownCap_ge u L.length 0 36;simp only[Array.size_append,List.size_toArray,size_zeroCells,hl,List.length_nil];show 0+L.length * 4+(grownCap u L.length 0 36 - L.length) * 4=_;omega
  ·simp only[Array.toList_append,List.nil_append];rw[<-hl];exact List.take_left
theorem Cm (w:World) (g:Nat) (x:Rc) (h:w.heap[g]?=some (.cells x.cells.toArray 36 (0,0))):ij w (.slice (Yn g) 1 1) [x]:=by
 obtain⟨c,f,z⟩:=ed h;refine⟨_,1,rfl,Yj,λj hj=>?_⟩;obtain rfl:j=0:=by simpa using hj
 exact⟨g,0,rfl,z,c 0,c 1,c 2,c 3⟩
theorem ar {P:Program} {F:Value->World->Prop} {R:World->Prop} {o:Oper} {a:Act} {w:World} (d s:Operand) (t t':TypeId)
  (ho:o.op= .call {callee:= .builtin .append,args:=#[d,s],argTypes:=#[t,t']}) (v u:Value) (hd:a.eval d=v) (hs:a.eval s=u) {v':Value} {w':World}
  (hr:(Builtin.append_ #[t,t'] o.type #[v,u]).run P w= .ok v' w') (h:F v' w'/\R w'):ii P F R ((execOp a.eval o).run P w):=by
 unfold execOp;simp only[ho,resolve,invoke,builtin,Sem.run_bind,Sem.run_pure,Result.andThen_ok,List.map_toArray,List.map_cons,List.map_nil,hd,hs,hr];exact h
theorem ij.takeS {w:World} {a:Option Addr} {n cap:Nat} {l:List Rc} (h:ij w (.slice a n cap) l) (k:Nat) (hk:k<=l.length):ij w (.slice a k cap) (l.take k):=by
 obtain⟨a',cap',hv,hc,hr⟩:=h;injection hv with h1 h2 h3
 subst h1;subst h3;have e:(l.take k).length=k:=by rw[List.length_take];omega
 refine⟨a,cap,by rw[e],Yi,λj hj=>?_⟩;have hj2:j < l.length:=Yi;obtain⟨g,o,r1,r2,r3⟩:=hr j hj2;refine⟨g,o,r1,r2,?_⟩;rw[List.getElem_take];exact r3
theorem ij.dropS {w:World} {g o n cap:Nat} {l:List Rc} (h:ij w (.slice (some ⟨g,o,none⟩) n cap) l) (k m:Nat) (hm:m=l.length - k) (hk:k<=l.length):ij w (.slice (some ⟨g,o+k * 4,none⟩) m (cap - k)) (l.drop k):=by
 obtain⟨a',cap',hv,hc,hr⟩:=h;injection hv with h1 h2 h3
 subst h1;subst h3;subst hm;have e:(l.drop k).length=l.length - k:=List.length_drop ..;refine⟨_,_,by rw[e],Yi,λj hj=>?_⟩;have hj2:k+j < l.length:=Yi;obtain⟨g',o',r1,r2,r3,r4,r5,r6⟩:=hr (k+j) hj2;injection r1 with r1
 injection r1 with q1 q2
 subst q1;subst q2;refine⟨g,o+k * 4,rfl,r2,?_⟩;rw[List.getElem_drop];have e4:o+(k+j) * 4=o+k * 4+j * 4:=Yi;rw[e4]at r3 r4 r5 r6;exact⟨r3,r4,r5,r6⟩
end
end Go.Proofs.YtimcfaoabaflkaaGreatDoor
