/- reference 09: Told, where Order finds no fault. -/
import Derived.Test.YtimcfaoabaflkaaGreatDoorREnt
import Derived.Test.YtimcfaoabaflkaaGreatDoorJROrd
namespace Go.Proofs.YtimcfaoabaflkaaGreatDoor
open AbBase AbTrV
open AbA AbI
set_option maxHeartbeats 16000000
set_option maxRecDepth 100000
open Go.Proofs.Tryz
open Go.RowKit Go.Shelf Go.Lib
theorem Qm (t:ByteArray) (h:t.size<=1000) (w:World):Calls prog 15 #[.string t] w λe w'=>e= .returned (Ov (ee t)).v/\Gr w w':=by
 obtain⟨⟨l⟩⟩:=t;exact Kc l h w
theorem bo.takeS {w:World} {k n cap j:Nat} {a:Option Addr} {L:List (List Value)} (h:bo w k (.slice a n cap) L) (hj:j<=L.length):bo w k (.slice a j cap) (L.take j):=by
 obtain⟨a',c',e,h2,h3⟩:=h;cases e;have el:(L.take j).length=j:=by rw[List.length_take];omega
 refine⟨a,cap,by rw[el],Yi,λi hi=>?_⟩;have hi2:i < L.length:=Yi;obtain⟨g,o,e1,e2,e3⟩:=h3 i hi2;exact⟨g,o,e1,e2,λq x hx=>e3 q x (by rwa [List.getElem_take]at hx)⟩
theorem bo.dropS {w:World} {k n cap j g o:Nat} {L:List (List Value)} (h:bo w k (.slice (some ⟨g,o,none⟩) n cap) L) (hj:j<=L.length):bo w k (.slice (some ⟨g,o+j * k,none⟩) (n - j) (cap - j)) (L.drop j):=by
 obtain⟨a',c',e,h2,h3⟩:=h;cases e;have el:(L.drop j).length=L.length - j:=List.length_drop ..;refine⟨_,_,by rw[el],Yi,λi hi=>?_⟩;have hi2:j+i < L.length:=Yi;obtain⟨g',o',e1,e2,e3⟩:=h3 (j+i) hi2;cases e1;refine⟨g,o+j * k,rfl,e2,λq x hx=>?_⟩;rw[List.getElem_drop]at hx;have:=e3 q x hx
 rwa [Nat.add_mul,<-Nat.add_assoc]at this
theorem zbi {K:List Kp} {x:Kp} {k:Nat} (hk:k<=K.length) (h1:∀j (hj:j < K.length),j < k->K[j].id < x.id) (h2:∀h:k < K.length,¬K[k].id < x.id):ko K x=K.take k ++ [x] ++ K.drop k:=by
 obtain⟨e1,e2⟩:=He (λy=>decide (y.id < x.id)) K k hk (λj hj hjk=>decide_eq_true (h1 j hj hjk)) (λh=>decide_eq_false (h2 h));unfold ko;rw[e1,e2]
theorem Wx {lo:List Rc} {i:Nat} (hi:i < lo.length):bj (lo.take (i+1))=(ku lo[i]).toList.foldl ko (bj (lo.take i)):=by
 unfold bj;rw[my hi,List.foldl_append]
theorem Ez (l:List Rc):(bj l).length<=l.length:=by
 rw[(ie l).length_eq];exact List.length_filterMap_le ..
def NewKp (lo:Nat) (v:Value) (u2:World):Prop:=∃r c,v= .pointer (Yn r)/\(lo<=r/\(u2.heap[r]?=some (.cells c 47 (0,0))/\c.size=13))
theorem Rq (FF:Option Fm):∃(wl:List UInt8) (nn:Int) (s:S8) (x:Ac),(Ov FF).v= .agg #[sv wl,Yp nn,s.a0,s.a1,s.a2,s.a3,s.a4,s.a5,s.a6,s.a7,Ys x.k,Yp x.p,x.c.a0,x.c.a1,x.c.a2,x.c.a3,x.c.a4,x.c.a5,x.c.a6,x.c.a7]/\((∃m:Nat,FF=some (.new m s)/\nn=m/\(wl == [110,101,119])=true)\/(zbg FF=false/\(wl == [110,101,119])=false)):=by
 cases FF with
 | none=>exact⟨[],0,S8.zero,n5,rfl,Or.inr ⟨rfl,rfl⟩⟩
 | some f=>
  cases f with
  | new m s=>exact⟨[110,101,119],m,s,n5,rfl,Or.inl ⟨m,rfl,rfl,rfl⟩⟩
  | keep m s=>exact⟨[107,101,101,112],m,s,n5,rfl,Or.inr ⟨rfl,rfl⟩⟩
  | act m x=>exact⟨[100,111],m,S8.zero,x,rfl,Or.inr ⟨rfl,rfl⟩⟩
theorem zaT {xr:Rc} {FF:Option Fm} (h:ku xr=match FF with | some (.new n s)=>some ⟨8 * xr.k+xr.s,n,xr.s,s,[],[]⟩ | _=>none) (hn:zbg FF=false):ku xr=none:=by
 rw[h];cases FF with
 | none=>rfl
 | some f=>
  cases f with
  | new _ _=>cases hn
  | keep _ _=>rfl
  | act _ _=>rfl
theorem Iw {K:List Kp} (h:∀k∈K,k.blank.ok) (F:Option Fm):∀k∈(ay K F).1,k.blank.ok:=by
 have key:∀(i:Nat) (x:Kp),i < K.length->x.blank=(K.getD i default).blank->∀k∈K.set i x,k.blank.ok:=λi x hi hx k hk=>by
  rcases List.mem_or_eq_of_mem_set hk with hk | rfl
  ·exact h k hk
  ·rw[hx,In hi];exact h _ (List.getElem_mem hi)
 cases F with
 | none=>exact h
 | some f=>
  cases f with
  | new n s=>exact h
  | keep n s=>
   simp only[ay];cases hf:gh K n with
   | none=>exact h
   | some i=>
    dsimp only;split
    ·exact h
    ·exact key i _ (i8 hf).1 rfl
  | act n a=>
   simp only[ay];cases hf:gh K n with
   | none=>exact h
   | some i=>
    dsimp only;split
    ·exact key i _ (i8 hf).1 rfl
    ·exact h
theorem N6 {x:Rc} {k:Kp} (h:ku x=some k):k.blank.ok:=by
 unfold ku at h;split at h
 ·rename_i n s hf;have hok:=(cu hf).1;cases h;exact hok.2.2.1
 ·cases h
theorem Mf {l:List Rc} {k:Kp} (h:k∈bj l):∃x,ku x=some k:=by
 obtain⟨x,_,e⟩:=List.mem_filterMap.1 ((ie l).mem_iff.1 h);exact⟨x,e⟩
def zu (w wr:World) (b b9:Nat) (oa:Option Addr) (oc:Nat) (lo:List Rc) (o:Value) (i:Nat):Prop:=∃vb Q,wr.heap[b]?=some (.cells #[.slice none 0 0] 27 (0,0))/\wr.heap[b9]?=some (.cells #[vb] 27 (0,0))/\az wr w.heap.size vb Q/\(∀q∈Q,q.k.fit/\q.k.blank.ok)/\Q.length<=1000/\Q.map Q3.k=(bf (bj lo) ((bu lo).take i)).1/\wr.ownsRow w.heap.size 29 1 o i ((bf (bj lo) ((bu lo).take i)).2.flatMap m8)/\wr.ownsRow w.heap.size 36 4 (.slice oa lo.length oc) lo.length (rcs lo)/\Gr w wr
theorem zu.gr {w wr u:World} {b b9 oc i:Nat} {oa:Option Addr} {lo:List Rc} {o:Value} (h:zu w wr b b9 oa oc lo o i) (g:Gr wr u):zu w u b b9 oa oc lo o i:=by
 obtain⟨vb,Q,h1,h2,h3,h4,h5,h6,h7,h8,h9⟩:=h;exact⟨vb,Q,g.heap h1,g.heap h2,h3.gr g,h4,h5,h6,h7.gr1 g,h8.gr1 g,h9.trans g⟩
def Gz (w wr:World) (b b9:Nat) (oa:Option Addr) (oc:Nat) (lo:List Rc) (i:Nat):Prop:=∃vb,wr.heap[b]?=some (.cells #[.slice none 0 0] 27 (0,0))/\wr.heap[b9]?=some (.cells #[vb] 27 (0,0))/\wr.ownsRow w.heap.size 47 13 vb (bj (lo.take i)).length (((bj (lo.take i)).map mk0).flatMap Q3.cs)/\wr.ownsRow w.heap.size 36 4 (.slice oa lo.length oc) lo.length (rcs lo)/\Gr w wr
theorem Gz.gr {w wr u:World} {b b9 oc i:Nat} {oa:Option Addr} {lo:List Rc} (h:Gz w wr b b9 oa oc lo i) (g:Gr wr u):Gz w u b b9 oa oc lo i:=by
 obtain⟨vb,h1,h2,h3,h4,h5⟩:=h;exact⟨vb,g.heap h1,g.heap h2,h3.gr1 g,h4.gr1 g,h5.trans g⟩
theorem zeW (n:Int) (v:Value) (l:List Rc) (w:World) (hv:ij w v l) (hl:l.length<=1000) (ht:∀x∈l,x.t.size<=1000) (hk:Pz l) (hid:∀x∈l,Fo x.s x.k=8 * x.k+x.s) (hc:∀u,Gr w u->Calls prog 55 #[Yp n,v] u λe w'=>e= .returned (.tuple #[Yp 0,Yp 0])/\Gr u w'):
  Calls prog 9 #[Yp n,v] w λe w'=>∃bv ev Q,e= .returned (.tuple #[.agg #[bv],ev,Yp 0])/\az w' w.heap.size bv Q/\Q.map Q3.k=(pg (i7 l)).1/\w'.ownsRow w.heap.size 29 1 ev l.length ((pg (i7 l)).2.flatMap m8)/\Gr w w':=by
 have g0:=(Yu w).alloc (.cells #[.slice none 0 0] 27);have h0:=ae w (.cells #[.slice none 0 0] 27);have OY:=Hd (zao n v l _ (hv.gr g0) hl (λu g=>hc u (g0.trans g)));have hp:(i7 l).Perm l:=by simpa[i7]using (Bn l [] List.Pairwise.nil hk (λa ha=>by cases ha)).2
 have hlen:=C8 l;have HTL:=Hd (λx (hx:x∈i7 l)=>ht x (hp.mem_iff.1 hx));have HIL:=Hd (λx (hx:x∈i7 l)=>hid x (hp.mem_iff.1 hx));have G0:=Hd g0;have H0:=Hd h0;rw[<-hlen];rw[<-hlen]at hl;generalize i7 l=lo at *;clear g0 h0 hv ht hk hid hc hp hlen;go_enter func9,ntmps9;go_wp2_with fail;refine(OY.out).mono ?_;rintro e w1 ⟨vo,rfl,hrow,g1⟩;have HR:=Hd (hrow.mono G0.out.b.size);have HB:=Hd (g1.heap H0.out);have G1:=Hd (G0.out.trans g1);obtain⟨oa,oc,rfl,_⟩:=aj hrow;have RA:=Hd (fun(wr:World) (h:wr.ownsRow w.heap.size 36 4 (.slice oa lo.length oc) lo.length (rcs lo)) (i:Nat) (hi:i < lo.length)=>zak h i hi);clear hrow g1 OY G0 H0;obtain⟨b,hb⟩:∃b,w.heap.size=b:=⟨_,rfl⟩;have HBW:=Hd hb;have ga:=(Yu w1).alloc (.cells #[.slice none 0 0] 27);have h9:=ae w1 (.cells #[.slice none 0 0] 27);have HL1:=Hd (show Gz w (w1.alloc (.cells #[.slice none 0 0] 27)) b w1.heap.size oa oc lo 0 from⟨_,by rw[<-hb];exact ga.heap HB.out,h9,World.ownsRow_nil _ _ _ _,HR.out.gr1 ga,G1.out.trans ga⟩);have HS9:=Hd (show w.heap.size<=w1.heap.size from G1.out.b.size);have HNB:=Hd (show b < w1.heap.size by rw[<-hb];exact ai HB.out);rw[hb];clear ga h9 hb HB HR G1;go_wp2_with fail;generalize w1.alloc (.cells #[.slice none 0 0] 27)=w2 at *;obtain⟨b9,hb9⟩:∃q,w1.heap.size=q:=⟨_,rfl⟩;rw[hb9]at HL1 HS9 HNB;rw[hb9];clear hb9;go_loopw [10] (λu wr=>∃i:Nat,u= .int .i64 i/\i<=lo.length/\Gz w wr b b9 oa oc lo i) (λu _=>lo.length - (intOf u).toNat)
 case atStart=>exact⟨0,rfl,Yi,HL1.out⟩
 case round=>
  clear HL1;obtain⟨i,rfl,hil0,HLR⟩:=hrel;have HL:=Hd HLR;clear HLR
  by_cases hil:i < lo.length
  ·have hil':(i:Int) < lo.length:=Yi;have hi0:(0:Int)<=i:=Yi;obtain⟨vb,hbb,hb9,hvb,hrec,gr⟩:=HL.out;obtain⟨g,rfl,c0,c1,c2,c3⟩:=RA.out wr hrec i hil;have hmem:lo[i]∈lo:=List.getElem_mem hil;have FO:=Hd (λu=>Qm lo[i].t (HTL.out _ hmem) u);have HIX:=Hd (HIL.out _ hmem);have HBN:=Hd (Wx hil);have HNK:Hid (ku lo[i]=match ee lo[i].t with | some (.new n s)=>some ⟨8 * lo[i].k+lo[i].s,n,lo[i].s,s,[],[]⟩ | _=>none):=Hd rfl;have HFK:=Hd (λf (h:ee lo[i].t=some f)=>(cu h).1);obtain⟨xr,hx⟩:∃x,lo[i]=x:=⟨_,rfl⟩;have HX:=Hd hx;rw[hx]at FO HIX HBN HNK HFK c0 c1 c2 c3;clear hx hmem hbb hb9 hvb hrec gr;obtain⟨FF,hFF⟩:∃y,ee xr.t=y:=⟨_,rfl⟩;rw[hFF]at FO HNK HFK;clear hFF;go_wp2_with fail;refine(FO.out _).mono ?_;rintro e w3 ⟨rfl,g3⟩;have HL3:=Hd (HL.out.gr g3);clear g3 FO HL c0 c1 c2 c3;obtain⟨wl,nn,s,x,hEv,hNW⟩:=Rq FF;rw[hEv];have HEV:=Hd hEv;have HNW:=Hd hNW;clear hEv hNW;go_simp;rename_i hK0;refine hK0 _ _ ?_;clear hK0;refine wpList_plain rfl λ_ hK=>?_;go_simp;refine hK _ _ ?_;clear hK;obtain⟨w4,h4,hq4,ga⟩:=Bo w3 Za #[sv wl,Yp nn,s.a0,s.a1,s.a2,s.a3,s.a4,s.a5,s.a6,s.a7,Ys x.k,Yp x.p,x.c.a0,x.c.a1,x.c.a2,x.c.a3,x.c.a4,x.c.a5,x.c.a6,x.c.a7] 56;refine wpList_store_row rfl _ _ _ rfl w3.heap.size #[sv wl,Yp nn,s.a0,s.a1,s.a2,s.a3,s.a4,s.a5,s.a6,s.a7,Ys x.k,Yp x.p,x.c.a0,x.c.a1,x.c.a2,x.c.a3,x.c.a4,x.c.a5,x.c.a6,x.c.a7] rfl rfl _ Za (ae w3 _) Yh rfl (by simp[Value.oneCell']) ?_
   try simp only[Act.put]
   rw[h4];have HQ:=Hd hq4;have HL4:=Hd (HL3.out.gr ga);clear h4 hq4 ga HL3;obtain⟨q,hq⟩:∃q,w3.heap.size=q:=⟨_,rfl⟩;rw[hq]at HQ;rw[hq];clear hq;obtain⟨xq,yq,zq⟩:=ed HQ.out;rcases HNW.out with ⟨m,hFN,rfl,hwn⟩ | ⟨hnn,hwn⟩
   case' inr=>
    have HBS:=Hd (show bj (lo.take (i+1))=bj (lo.take i) by rw[HBN.out,zaT HNK.out hnn];rfl);clear hnn;go_wp2_with fail;exact⟨⟨i+1,Yj,Yi,by have:=HL4.out;unfold Gz at this ⊢;rw[HBS.out];exact this⟩,by simp[intOf];omega⟩
   have HFO:=Hd (HFK.out _ hFN);obtain⟨id,hid⟩:∃y,Fo xr.s xr.k=y:=⟨_,rfl⟩;have HID:=Hd hid;have HBS:=Hd (show bj (lo.take (i+1))=ko (bj (lo.take i)) ⟨id,(m:Nat),xr.s,s,[],[]⟩ by rw[HBN.out,HNK.out,hFN,<-HIX.out,hid];rfl);have IDO:=Hd (λu=>S7 xr.s xr.k u);rw[hid]at IDO;clear hid;go_upto_region 10 with (fail);clear xq yq zq;have RC:=Hd (λu (h:Gr w4 u)=>RA.out u (HL4.out.gr h).choose_spec.2.2.2.1 i hil);rw[HX.out]at RC;refine bz [24] [.val (.slice (Yn g) lo.length oc),.val (Yp i),.val (.pointer (some ⟨g,i * 4,none⟩)),.val (.pointer (some ⟨g,i * 4,none⟩)),.val (Yp xr.s),.val (.slice (Yn g) lo.length oc),.val (Yp i),.val (.pointer (some ⟨g,i * 4,none⟩)),.val (.pointer (some ⟨g,i * 4+1,none⟩)),.val (Yp xr.k),.val (Yp id),.val (.pointer (some ⟨q,1,none⟩)),.val (Yp (m:Nat)),.val (.slice (Yn g) lo.length oc),.val (Yp i),.val (.pointer (some ⟨g,i * 4,none⟩)),.val (.pointer (some ⟨g,i * 4,none⟩)),.val (Yp xr.s),.val (.pointer (some ⟨q,2,none⟩)),.val (.agg (Yc s)),.val (.agg #[s.a0,s.a1,s.a2,s.a3,s.a4,s.a5,s.a6,s.a7,.slice none 0 0]),.val (.agg #[s.a0,s.a1,s.a2,s.a3,s.a4,s.a5,s.a6,s.a7,.slice none 0 0,.slice none 0 0]),.val (.agg #[Yp id,Yp (m:Nat),Yp xr.s,s.a0,s.a1,s.a2,s.a3,s.a4,s.a5,s.a6,s.a7,.slice none 0 0,.slice none 0 0]),.sat (NewKp w4.heap.size),.later] Yh Yh (λV=>finT) ?_ ?_
   ·refine⟨?_,?_,?_,?_,?_,?_,?_,?_,?_,?_,?_,?_,?_,?_,?_,?_,?_,?_,?_,?_,?_,?_,?_,?_,?_,trivial⟩
    iterate 23 ·(intro V u hu hk;refine⟨Yh,?_⟩;obtain⟨xq,yq,zq⟩:=ed (hu.heap HQ.out);obtain⟨g2,e2,a0,a1,a2,a3⟩:=RC.out u hu;cases e2;go_simp;first | exact⟨rfl,Yu _⟩ | exact IDO.out _)
    ·refine⟨λv u u1 h g=>?_,λV u hu hk=>⟨Yh,?_⟩⟩
     ·obtain⟨r,c,h1,h2,h3,h4⟩:=h;exact⟨r,c,h1,h2,g.heap h3,h4⟩
     ·have hz:=hu.b.size;go_simp;exact⟨⟨_,_,rfl,hz,ae _ _,rfl⟩,(Yu _).alloc _⟩
    ·trivial
   intro V u0 hg hs;obtain⟨r,c,e23,hr,hrb,hc⟩:=hs 23 (NewKp w4.heap.size) rfl;obtain⟨u,hu,hq2,gu⟩:∃U,u0.setRow r #[Yp id,Yp (m:Nat),Yp xr.s,s.a0,s.a1,s.a2,s.a3,s.a4,s.a5,s.a6,s.a7,.slice none 0 0,.slice none 0 0]=U/\U.heap[r]?=some (.cells #[Yp id,Yp (m:Nat),Yp xr.s,s.a0,s.a1,s.a2,s.a3,s.a4,s.a5,s.a6,s.a7,.slice none 0 0,.slice none 0 0] 47 (0,0))/\Gr w4 U:=⟨_,rfl,setRow_heap u0 r c _ _ _ hrb,hg.setRow r _ hr⟩;refine⟨⟨none,_,_,_,_,_⟩,rfl,rfl,?_⟩;refine wp_store_row _ _ _ rfl r #[Yp id,Yp (m:Nat),Yp xr.s,s.a0,s.a1,s.a2,s.a3,s.a4,s.a5,s.a6,s.a7,.slice none 0 0,.slice none 0 0] e23 rfl _ c hrb Yh hc (by simp[Value.oneCell']) ?_;refine Fa.fin ?_;rw[hu];have R0:=Hd hq2;have HL5:=Hd (HL4.out.gr gu);generalize V 23=v23 at *;subst e23;clear hs hg hr hrb hq2 gu hu HL4 HQ RC IDO;go_simp;obtain⟨vb,hbb,hb9,hvb,hrec,gr⟩:=HL5.out;have HBL:=Ez (lo.take i);rw[List.length_take]at HBL;obtain⟨K,hK⟩:∃K,bj (lo.take i)=K:=⟨_,rfl⟩;rw[hK]at hvb HBS HBL;clear HL5 hK;have hn:K.length<=1000:=Yi;clear HBL;obtain⟨M,hM⟩:∃M,K.map mk0=M:=⟨_,rfl⟩;rw[hM]at hvb;have hML:M.length=K.length:=by rw[<-hM,List.length_map]
   rw[<-hML]at hvb;have HMK:=Hd (λj (hj:j < M.length) (hj2:j < K.length)=>show M[j].k.id=K[j].id by subst hM;simp[mk0]);obtain⟨X,hX⟩:∃X,(mk0 ⟨id,(m:Nat),xr.s,s,[],[]⟩)=X:=⟨_,rfl⟩;have HXC:=Hd (show X.cs.toArray=(#[Yp id,Yp (m:Nat),Yp xr.s,s.a0,s.a1,s.a2,s.a3,s.a4,s.a5,s.a6,s.a7,.slice none 0 0,.slice none 0 0]:Array Value) by rw[<-hX];rfl);have HINS:=Hd (λk (hk:k<=K.length) (h1:∀j (hj:j < K.length),j < k->K[j].id < id) (h2:∀h:k < K.length,¬K[k].id < id)=>show(ko K ⟨id,(m:Nat),xr.s,s,[],[]⟩).map mk0=M.take k ++ [X] ++ M.drop k by
    rw[zbi hk h1 h2,<-hM,<-hX];simp)
   have HBB:=Hd hbb;have HB9:=Hd hb9;have HVB:=Hd hvb;have HRC:=Hd hrec;have HGR:=Hd gr;have HML:=Hd hML;have hMn:M.length<=1000:=Yi;clear hM hX hbb hb9 hvb hrec gr hML hn;go_wp2_with fail;go_loopw [13] (λu' wi=>∃k:Nat,u'= .int .i64 k/\k<=M.length/\Hid (∀j (hj:j < K.length),j < k->K[j].id < id)/\Gr u wi) (λu' _=>M.length - (intOf u').toNat)
   case atStart=>exact⟨0,rfl,Yi,Hd (λj hj h=>by omega),Yu _⟩
   case round=>
    obtain⟨k,rfl,hkn,HBE,gi⟩:=hrel;have GI:=Hd gi;clear gi;have hk0:(0:Int)<=k:=Yi;have HVI:=HVB.out.gr1 GI.out;refine dite (k < M.length) (λhk=>?kin) (λhk=>?kend)
    case' kin=>
     have hk':(k:Int) < M.length:=Yi;rcases HVI.2 with ⟨hvv,hz⟩ | ⟨gm,cap,cur,hvv,hbm,hcur,hcap,hmax,hsz,htk⟩
     ·omega
     subst hvv;have hkcap:k<=cap:=Yi;have hcne:¬cap=k:=Yi;have hcap64:(cap:Int)<=9223372036854775807:=by unfold maxLen at hmax;omega
     have hkK:k < K.length:=by have:=HML.out;omega
     have hid0:=gc Q3.cs 13 Q3.cs_len HVI k 0 hk Yk (Yp M[k].k.id) rfl;have hgm:gm < wr.heap.size:=ai hcur;rw[Nat.add_zero,HMK.out k hk hkK]at hid0;have HI0:=Hd (λu2 (h:Gr wr u2)=>(h.cells.1 gm _ hgm).trans hid0);obtain⟨idk,hidk⟩:∃y,(K[k]'hkK).id=y:=⟨_,rfl⟩;rw[hidk]at HI0;have HDK:=Hd hidk;clear hid0 hgm hidk hsz htk hcur HVI;go_upto_region 12 with (fail);refine dite (idk < id) (λhlt=>?less) (λhlt=>?more)
     case' less=>
      refine ah [.val (Yp k),.val (Ym b9),.val (.slice (Yn gm) M.length cap),.val (Yp M.length),.val (.bool true),.val (.bool true),.val (Ym b9),.val (.slice (Yn gm) M.length cap),.val (Yp k),.val (.pointer (some ⟨gm,k * 13,none⟩)),.val (.pointer (some ⟨gm,k * 13,none⟩)),.val (Yp idk),.val (Ym r),.val (Yp id),.val (.bool true),.val (.bool true)] Yh Yh (λV=>finT) ?_ ?_
      ·refine⟨?_,?_,?_,?_,?_,?_,?_,?_,?_,?_,?_,?_,?_,?_,?_,?_,trivial⟩
       all_goals first | exact trivial | (intro V u2 hu hk2;refine⟨Yh,?_⟩;obtain⟨c9,f9,z9⟩:=ed ((GI.out.trans hu).heap HB9.out);obtain⟨cr,fr,zr⟩:=ed ((GI.out.trans hu).heap R0.out);have k0:=HI0.out _ hu;go_simp;first | exact⟨rfl,Yu _⟩ | skip) | (show _=false;kernel_rfl) | (intro V u2 hu hk2;kernel_rfl)
      ·intro V wz hg hs;have G2:=Hd (GI.out.trans hg);clear hs hg;go_simp;go_wp2_with fail;exact⟨⟨k+1,Yj,Yi,Hd (λj hj h=>by
        by_cases e:j=k
        ·subst e;rw[HDK.out];exact hlt
        ·exact HBE.out j hj Yi),G2.out⟩,by simp[intOf];omega⟩
     case' more=>
      have HLT:∀h:k < K.length,¬K[k].id < id:=λh=>by rw[HDK.out];exact hlt
      refine ah [.val (Yp k),.val (Ym b9),.val (.slice (Yn gm) M.length cap),.val (Yp M.length),.val (.bool true),.val (.bool true),.val (Ym b9),.val (.slice (Yn gm) M.length cap),.val (Yp k),.val (.pointer (some ⟨gm,k * 13,none⟩)),.val (.pointer (some ⟨gm,k * 13,none⟩)),.val (Yp idk),.val (Ym r),.val (Yp id),.val (.bool false),.val (.bool false)] Yh Yh (λV=>finT) (by
        refine⟨?_,?_,?_,?_,?_,?_,?_,?_,?_,?_,?_,?_,?_,?_,?_,?_,trivial⟩
        all_goals first | exact trivial | (intro V u2 hu hk2;refine⟨Yh,?_⟩;obtain⟨c9,f9,z9⟩:=ed ((GI.out.trans hu).heap HB9.out);obtain⟨cr,fr,zr⟩:=ed ((GI.out.trans hu).heap R0.out);have k0:=HI0.out _ hu;go_simp;first | exact⟨rfl,Yu _⟩ | skip) | (show _=false;kernel_rfl) | (intro V u2 hu hk2;kernel_rfl)) ?_
      intro V wz hg hs;have hrw:=ra Q3.cs 13 Q3.cs_len (HVB.out.gr1 (GI.out.trans hg));have HTK:=Hd (show bo wz 13 (.slice (Yn gm) k cap) ((M.take k).map Q3.cs) by
       rw[List.map_take];exact bo.takeS hrw (by rw[List.length_map];omega))
      have HDR:=Hd (show bo wz 13 (.slice (some ⟨gm,k * 13,none⟩) (M.length - k) (cap - k)) ((M.drop k).map Q3.cs) by
       rw[List.map_drop];have:=bo.dropS hrw (j:=k) (by rw[List.length_map];omega)
       rwa [Nat.zero_add]at this)
      clear hrw hs;go_simp;go_upto_region 14 with (fail);obtain⟨bv,hbv⟩:∃y,Value.slice (Yn gm) M.length cap=y:=⟨_,rfl⟩;obtain⟨tk,htk⟩:∃y,Value.slice (Yn gm) k cap=y:=⟨_,rfl⟩;obtain⟨dr,hdr⟩:∃y,Value.slice (some ⟨gm,k * 13,none⟩) (M.length - k) (cap - k)=y:=⟨_,rfl⟩;rw[htk]at HTK;rw[hdr]at HDR;have HSL:=Hd (And.intro hbv (And.intro htk hdr));clear hbv htk hdr
    case' kend=>
     have hk':¬(k:Int) < M.length:=Yi;have HLT:∀h:k < K.length,¬K[k].id < id:=λh=>by have:=HML.out;omega
     refine HVI.2.elim (λh=>?nilc) (λh=>?somec)
     case' nilc=>
      obtain⟨hvv,hz⟩:=h;subst hvv;have hk0e:k=0:=Yi;clear HVI;go_upto_region 12 with (fail);refine ah [.val (Yp k),.val (Ym b9),.val (.slice none 0 0),.val (Yp 0),.val (.bool false),.val (.bool false),.off,.off,.off,.off,.off,.off,.off,.off,.off,.val (.bool false)] Yh Yh (λV=>finT) (by
        refine⟨?_,?_,?_,?_,?_,?_,?_,?_,?_,?_,?_,?_,?_,?_,?_,?_,trivial⟩
        all_goals first | exact trivial | (intro V u2 hu hk2;refine⟨Yh,?_⟩;obtain⟨c9,f9,z9⟩:=ed ((GI.out.trans hu).heap HB9.out);obtain⟨cr,fr,zr⟩:=ed ((GI.out.trans hu).heap R0.out);go_simp;first | exact⟨rfl,Yu _⟩ | skip) | (show _=false;kernel_rfl) | (intro V u2 hu hk2;kernel_rfl)) ?_
      intro V wz hg hs;have hrw:=ra Q3.cs 13 Q3.cs_len (HVB.out.gr1 (GI.out.trans hg));have hM0:M=[]:=List.eq_nil_of_length_eq_zero hz;have HTK:=Hd (show bo wz 13 (.slice none 0 0) ((M.take k).map Q3.cs) by rw[hM0];simp;exact bo.nil _ _ _ _);have HDR:=Hd (show bo wz 13 (.slice none 0 0) ((M.drop k).map Q3.cs) by rw[hM0];simp;exact bo.nil _ _ _ _);clear hM0;clear hrw hs;go_simp;go_upto_region 14 with (fail);obtain⟨bv,hbv⟩:∃y,Value.slice none 0 0=y:=⟨_,rfl⟩;obtain⟨tk,htk⟩:∃y,Value.slice none 0 0=y:=⟨_,rfl⟩;obtain⟨dr,hdr⟩:∃y,Value.slice none 0 0=y:=⟨_,rfl⟩;rw[htk]at HTK;rw[hdr]at HDR;have HSL:=Hd (And.intro hbv (And.intro htk hdr));clear hbv htk hdr
     case' somec=>
      obtain⟨gm,cap,cur,hvv,hbm,hcur,hcap,hmax,hsz,htk⟩:=h;subst hvv;have hcap64:(cap:Int)<=9223372036854775807:=by unfold maxLen at hmax;omega
      clear HVI hsz htk hcur cur;have hkcap:k<=cap:=Yi;refine dite (k < cap) (λhkc=>?roomc) (λhkc=>?fullc)
      case' roomc=>
       have hcne:¬cap=k:=Yi;go_upto_region 12 with (fail);refine ah [.val (Yp k),.val (Ym b9),.val (.slice (Yn gm) M.length cap),.val (Yp M.length),.val (.bool false),.val (.bool false),.off,.off,.off,.off,.off,.off,.off,.off,.off,.val (.bool false)] Yh Yh (λV=>finT) (by
         refine⟨?_,?_,?_,?_,?_,?_,?_,?_,?_,?_,?_,?_,?_,?_,?_,?_,trivial⟩
         all_goals first | exact trivial | (intro V u2 hu hk2;refine⟨Yh,?_⟩;obtain⟨c9,f9,z9⟩:=ed ((GI.out.trans hu).heap HB9.out);obtain⟨cr,fr,zr⟩:=ed ((GI.out.trans hu).heap R0.out);go_simp;first | exact⟨rfl,Yu _⟩ | skip) | (show _=false;kernel_rfl) | (intro V u2 hu hk2;kernel_rfl)) ?_
       intro V wz hg hs;have hrw:=ra Q3.cs 13 Q3.cs_len (HVB.out.gr1 (GI.out.trans hg));have HTK:=Hd (show bo wz 13 (.slice (Yn gm) k cap) ((M.take k).map Q3.cs) by
        rw[List.map_take];exact bo.takeS hrw (by rw[List.length_map];omega))
       have HDR:=Hd (show bo wz 13 (.slice (some ⟨gm,k * 13,none⟩) (M.length - k) (cap - k)) ((M.drop k).map Q3.cs) by
        rw[List.map_drop];have:=bo.dropS hrw (j:=k) (by rw[List.length_map];omega)
        rwa [Nat.zero_add]at this)
       clear hrw hs;go_simp;go_upto_region 14 with (fail);obtain⟨bv,hbv⟩:∃y,Value.slice (Yn gm) M.length cap=y:=⟨_,rfl⟩;obtain⟨tk,htk⟩:∃y,Value.slice (Yn gm) k cap=y:=⟨_,rfl⟩;obtain⟨dr,hdr⟩:∃y,Value.slice (some ⟨gm,k * 13,none⟩) (M.length - k) (cap - k)=y:=⟨_,rfl⟩;rw[htk]at HTK;rw[hdr]at HDR;have HSL:=Hd (And.intro hbv (And.intro htk hdr));clear hbv htk hdr
      case' fullc=>
       obtain rfl:cap=M.length:=Yi;have hcne:M.length=k:=Yi;go_upto_region 12 with (fail);refine ah [.val (Yp k),.val (Ym b9),.val (.slice (Yn gm) M.length M.length),.val (Yp M.length),.val (.bool false),.val (.bool false),.off,.off,.off,.off,.off,.off,.off,.off,.off,.val (.bool false)] Yh Yh (λV=>finT) (by
         refine⟨?_,?_,?_,?_,?_,?_,?_,?_,?_,?_,?_,?_,?_,?_,?_,?_,trivial⟩
         all_goals first | exact trivial | (intro V u2 hu hk2;refine⟨Yh,?_⟩;obtain⟨c9,f9,z9⟩:=ed ((GI.out.trans hu).heap HB9.out);obtain⟨cr,fr,zr⟩:=ed ((GI.out.trans hu).heap R0.out);go_simp;first | exact⟨rfl,Yu _⟩ | skip) | (show _=false;kernel_rfl) | (intro V u2 hu hk2;kernel_rfl)) ?_
       intro V wz hg hs;have hrw:=ra Q3.cs 13 Q3.cs_len (HVB.out.gr1 (GI.out.trans hg));have HTK:=Hd (show bo wz 13 (.slice (Yn gm) k M.length) ((M.take k).map Q3.cs) by
        rw[List.map_take];exact bo.takeS hrw (by rw[List.length_map];omega))
       have HDR:=Hd (show bo wz 13 (.slice (Yn gm) (M.length - k) 0) ((M.drop k).map Q3.cs) by
        have e:M.drop k=[]:=List.drop_eq_nil_of_le Yi;rw[e,show M.length - k=0 by omega];exact bo.nil _ _ _ _)
       clear hrw hs;go_simp;go_upto_region 14 with (fail);obtain⟨bv,hbv⟩:∃y,Value.slice (Yn gm) M.length M.length=y:=⟨_,rfl⟩;obtain⟨tk,htk⟩:∃y,Value.slice (Yn gm) k M.length=y:=⟨_,rfl⟩;obtain⟨dr,hdr⟩:∃y,Value.slice (Yn gm) (M.length - k) 0=y:=⟨_,rfl⟩;rw[htk]at HTK;rw[hdr]at HDR;have HSL:=Hd (And.intro hbv (And.intro htk hdr));clear hbv htk hdr
    all_goals
     have HGW:=Hd (GI.out.trans hg);have Z9:=Hd (HGW.out.heap HB9.out);have ZB:=Hd (HGW.out.heap HBB.out);have ZR:=Hd (HGW.out.heap R0.out);have ZG:=Hd (HGR.out.trans HGW.out);have HIK:=Hd (HINS.out k (by have:=HML.out;omega) HBE.out (λh=>by have:=HLT h;omega));obtain⟨qz,hqz⟩:∃q,wz.heap.size=q:=⟨_,rfl⟩;have HQZ:=Hd hqz;have HQ:=Hd (λu2 (h:Gr wz u2)=>show qz<=u2.heap.size by rw[<-hqz];exact h.b.size);clear hqz;refine bm [15] (λu=>Gr wz u) (λ_=>True) [8,13] (λu u' h g=>h.trans g) (λu u' h g=>trivial) (Yu _) trivial Yh [.sat (λv u=>∃b0,v= .slice (Yn b0) 0 0/\(qz<=b0/\u.heap[b0]?=some (.cells #[] 47 (0,0)))),.val (Ym b9),.val bv,.val (Yp k),.val tk,.sat (λv u=>u.ownsRow qz 47 13 v (M.take k).length ((M.take k).flatMap Q3.cs)),.val (.agg #[Yp id,Yp (m:Nat),Yp xr.s,s.a0,s.a1,s.a2,s.a3,s.a4,s.a5,s.a6,s.a7,.slice none 0 0,.slice none 0 0]),.sat (λv u=>∃b0,v= .slice (Yn b0) 1 1/\u.heap[b0]?=some (.cells #[Yp id,Yp (m:Nat),Yp xr.s,s.a0,s.a1,s.a2,s.a3,s.a4,s.a5,s.a6,s.a7,.slice none 0 0,.slice none 0 0] 47 (0,0))),.turn (λv u=>u.ownsRow qz 47 13 v (M.take k ++ [X]).length ((M.take k ++ [X]).flatMap Q3.cs)) [0,5,7],.val (Ym b9),.val bv,.val (Yp k),.val dr,.turn (λv u=>u.ownsRow qz 47 13 v (M.take k ++ [X] ++ M.drop k).length ((M.take k ++ [X] ++ M.drop k).flatMap Q3.cs)) [0,5,7,8],.val (Ym b9),.later] Yh Yh (λV=>finT) ?_ ?_
     ·refine⟨?_,?_,?_,?_,?_,?_,?_,?_,?_,?_,?_,?_,?_,?_,?_,trivial,trivial⟩
      ·refine⟨λv u u1 h g=>?_,λV u hu hj hk=>⟨Yh,?_⟩⟩
       ·obtain⟨b0,h1,h2,h3⟩:=h;exact⟨b0,h1,h2,g.heap h3⟩
       ·have hq:=HQ.out _ hu;go_simp;exact⟨⟨_,rfl,hq,ae _ _⟩,(Yu _).alloc _⟩
      iterate 4 ·(intro V u hu hj hk;refine⟨Yh,?_⟩;obtain⟨e1,e2,e3⟩:=HSL.out;subst e1;subst e2;subst e3;obtain⟨c9,f9,z9⟩:=ed (hu.heap Z9.out);obtain⟨cr,fr,zr⟩:=ed (hu.heap ZR.out);go_simp;first | exact⟨rfl,Yu _⟩ | skip)
      ·refine⟨λv u u1 h g=>h.gr1 g,λV u hu hj hk=>⟨Yh,?_⟩⟩;obtain⟨b0,hv,hb1,hb2⟩:=hk 0 (λv u=>∃b0,v= .slice (Yn b0) 0 0/\(qz<=b0/\u.heap[b0]?=some (.cells #[] 47 (0,0)))) Yh Yh;obtain⟨v',u',hr,h1,h2⟩:=Cj Q3.cs Q3.cs_len wj u qz 25 b0 hb1 hb2 tk (M.take k) (HTK.out.gr hu) (by rw[List.length_take];omega) Yk (HQ.out _ hu);exact ar _ _ 25 25 rfl _ _ hv rfl hr ⟨h1,h2⟩
      ·(intro V u hu hj hk;refine⟨Yh,?_⟩;obtain⟨e1,e2,e3⟩:=HSL.out;subst e1;subst e2;subst e3;obtain⟨c9,f9,z9⟩:=ed (hu.heap Z9.out);obtain⟨cr,fr,zr⟩:=ed (hu.heap ZR.out);go_simp;first | exact⟨rfl,Yu _⟩ | skip)
      ·refine⟨λv u u1 h g=>?_,λV u hu hj hk=>⟨Yh,?_⟩⟩
       ·obtain⟨b0,h1,h3⟩:=h;exact⟨b0,h1,g.heap h3⟩
       ·go_simp;exact⟨⟨_,rfl,ae _ _⟩,(Yu _).alloc _⟩
      ·refine⟨λv u u1 h g=>h.gr1 g,λV u hu hj hk=>⟨Yh,?_⟩⟩;refine ju (R:=λu=>Gr wz u) (J:=λ_=>True) (dj:=[8,13]) (k:=8) (drop:=[0,5,7]) (V:=V) (u:=u) Yh Yh ?_;have hp:=hk 5 (λv u=>u.ownsRow qz 47 13 v (M.take k).length ((M.take k).flatMap Q3.cs)) Yh Yh;obtain⟨b0,hv0,hb0⟩:=hk 7 (λv u=>∃b0,v= .slice (Yn b0) 1 1/\u.heap[b0]?=some (.cells #[Yp id,Yp (m:Nat),Yp xr.s,s.a0,s.a1,s.a2,s.a3,s.a4,s.a5,s.a6,s.a7,.slice none 0 0,.slice none 0 0] 47 (0,0))) Yh Yh;obtain⟨v',u',hr,h1,h3⟩:=dw Q3.cs Q3.cs_len Q3.cs_one wj u qz 25 (V 5) _ _ hp (.slice (Yn b0) 1 1) [X] (mb Q3.cs Q3.cs_len X (by rw[HXC.out];exact hb0)) (by rw[List.length_take,List.length_singleton];omega) Yk (HQ.out _ hu);exact ar _ _ 25 25 rfl _ _ rfl hv0 hr ⟨by rw[List.flatMap_append,List.length_append];exact h1,GrL.gr hu h3 (λi hi=>by rw[HQZ.out];exact(hp.lt i (by simpa using hi)).1)⟩
      iterate 4 ·(intro V u hu hj hk;refine⟨Yh,?_⟩;obtain⟨e1,e2,e3⟩:=HSL.out;subst e1;subst e2;subst e3;obtain⟨c9,f9,z9⟩:=ed (hu.heap Z9.out);obtain⟨cr,fr,zr⟩:=ed (hu.heap ZR.out);go_simp;first | exact⟨rfl,Yu _⟩ | skip)
      ·refine⟨λv u u1 h g=>h.gr1 g,λV u hu hj hk=>⟨Yh,?_⟩⟩;refine ju (R:=λu=>Gr wz u) (J:=λ_=>True) (dj:=[8,13]) (k:=13) (drop:=[0,5,7,8]) (V:=V) (u:=u) Yh Yh ?_;have hp:=hk 8 (λv u=>u.ownsRow qz 47 13 v (M.take k ++ [X]).length ((M.take k ++ [X]).flatMap Q3.cs)) Yh Yh;obtain⟨v',u',hr,h1,h3⟩:=dw Q3.cs Q3.cs_len Q3.cs_one wj u qz 25 (V 8) _ _ hp dr (M.drop k) (HDR.out.gr hu) (by rw[List.length_append,List.length_take,List.length_drop,List.length_singleton];omega) Yk (HQ.out _ hu);exact ar _ _ 25 25 rfl _ _ rfl rfl hr ⟨by rw[List.flatMap_append,List.length_append];exact h1,GrL.gr hu h3 (λi hi=>by rw[HQZ.out];exact(hp.lt i (by simpa using hi)).1)⟩
      ·(intro V u hu hj hk;refine⟨Yh,?_⟩;obtain⟨e1,e2,e3⟩:=HSL.out;subst e1;subst e2;subst e3;obtain⟨c9,f9,z9⟩:=ed (hu.heap Z9.out);obtain⟨cr,fr,zr⟩:=ed (hu.heap ZR.out);go_simp;first | exact⟨rfl,Yu _⟩ | skip)
     ·intro V u2 hg hs;have h13:=hs 13 (λv u=>u.ownsRow qz 47 13 v (M.take k ++ [X] ++ M.drop k).length ((M.take k ++ [X] ++ M.drop k).flatMap Q3.cs)) rfl;obtain⟨na,nc,e13,_⟩:=aj h13;obtain⟨nl,hnl⟩:∃y,(M.take k ++ [X] ++ M.drop k).length=y:=⟨_,rfl⟩;rw[hnl]at e13;clear hnl;rw[e13]at h13;have Y9:=hg.heap Z9.out;have YB:=hg.heap ZB.out;have YR:=HRC.out.gr1 (HGW.out.trans hg);have YG:=ZG.out.trans hg;have h14:=h13.mono (show w.heap.size<=qz by rw[<-HQZ.out];exact ZG.out.b.size);have n1:(Value.slice na nl nc).ownBlock≠some b9:=λe=>by
       obtain⟨c,h⟩:=bi h14 e;rw[Y9]at h;simp at h
      have n2:(Value.slice (Yn g) lo.length oc).ownBlock≠some b9:=λe=>by
       obtain⟨c,h⟩:=bi YR e;rw[Y9]at h;simp at h
      have HLN:=Hd (show Gz w (u2.setCell (Yo b9 0) (.slice na nl nc)) b b9 (Yn g) oc lo (i+1)from⟨_,qj b9 0 _ YB (by have:=HNB.out;omega),j9 Y9,by
       have h15:=eh h14 n1 0 (.slice na nl nc);rw[HBS.out,show(ko K _).length=(M.take k ++ [X] ++ M.drop k).length from by rw[<-HIK.out,List.length_map],HIK.out];exact h15,eh YR n2 0 _,YG.set _ _ HS9.out⟩)
      obtain⟨c9,f9,z9⟩:=ed Y9;clear h13 h14 n1 n2 YB YR YG Y9 hs hg;refine⟨⟨none,_,_,_,_,_⟩,rfl,rfl,?_⟩;generalize V 0=v0 at *;generalize V 5=v5 at *;generalize V 7=v7 at *;generalize V 8=v8 at *;generalize V 13=v13 at *;subst e13;go_simp;refine Fa.fin ?_;go_simp;clear c9 f9 z9;generalize u2.setCell (Yo b9 0) (.slice na nl nc)=w9 at *;go_wp2_with fail;exact⟨⟨i+1,Yj,Yi,HLN.out⟩,by simp[intOf];omega⟩
  ·have hdone:=True.intro;obtain rfl:i=lo.length:=Yi;have hil':¬(lo.length:Int) < lo.length:=Yi;obtain⟨vb,hbb,hb9,hvb,hrec,gr⟩:=HL.out;rw[List.take_length]at hvb;have hq1:∀q0∈(bj lo).map mk0,QOk wr w.heap.size q0:=λq0 hq0=>by
    obtain⟨k0,hk0,rfl⟩:=List.mem_map.1 hq0;obtain⟨x,hx⟩:=Mf hk0;exact zaV wr w.heap.size (Dd hx)
   have hq2:∀q0∈(bj lo).map mk0,q0.k.fit/\q0.k.blank.ok:=λq0 hq0=>by
    obtain⟨k0,hk0,rfl⟩:=List.mem_map.1 hq0;obtain⟨x,hx⟩:=Mf hk0;have hnw:=Dd hx;refine⟨⟨λs hs=>?_,λa ha=>?_⟩,N6 hx⟩
    ·rw[Q5,hnw.1]at hs;cases hs
    ·rw[Q5,hnw.2]at ha;cases ha
   have hq3:((bj lo).map mk0).length<=1000:=by rw[List.length_map];exact Nat.le_trans (Ez lo) hl
   have hq4:((bj lo).map mk0).map Q3.k=(bf (bj lo) ((bu lo).take 0)).1:=by rw[H4];rfl
   have hq5:az wr w.heap.size vb ((bj lo).map mk0):=⟨by rw[List.length_map];exact hvb,hq1⟩;have HL3:=Hd (show zu w wr b b9 oa oc lo (.slice none 0 0) 0 from⟨vb,(bj lo).map mk0,hbb,hb9,hq5,hq2,hq3,hq4,World.ownsRow_nil _ _ _ _,hrec,gr⟩);clear hq1 hq2 hq3 hq4 hq5;clear hbb hb9 hvb hrec gr HL;go_wp2_with fail;go_loopw [14,15] (λo u wr=>∃i:Nat,u= .int .i64 i/\i<=lo.length/\zu w wr b b9 oa oc lo o i) (λ_ u _=>lo.length - (intOf u).toNat)
   case atStart=>exact⟨0,rfl,Yi,HL3.out⟩
   case round=>
    clear HL3;obtain⟨i,rfl,hil0,HLR⟩:=hrel;have HL:=Hd HLR;clear HLR hil'
    by_cases hil:i < lo.length
    ·have hil':(i:Int) < lo.length:=Yi;have hi0:(0:Int)<=i:=Yi;obtain⟨vb,Q,hbb,hb9,hbk,hfit,hql,hQm,hev,hrec,gr⟩:=HL.out;obtain⟨g,rfl,c0,c1,c2,c3⟩:=RA.out wr hrec i hil;have hmem:lo[i]∈lo:=List.getElem_mem hil;have FO:=Hd (λu=>Qm lo[i].t (HTL.out _ hmem) u);have HFK:=Hd (λf (h:ee lo[i].t=some f)=>(cu h).1);obtain⟨ea,ec,hoe,_⟩:=aj hev;subst hoe;obtain⟨xr,hx⟩:∃x,lo[i]=x:=⟨_,rfl⟩;have HX:=Hd hx;rw[hx]at FO HFK c0 c1 c2 c3;clear hx hmem hbb hb9 hbk hfit hql hQm hev hrec gr vb Q;obtain⟨FF,hFF⟩:∃y,ee xr.t=y:=⟨_,rfl⟩;have HF0:=Hd hFF;rw[hFF]at FO HFK;clear hFF;go_wp2_with fail;refine(FO.out _).mono ?_;rintro e w3 ⟨rfl,g3⟩;have HL3:=Hd (HL.out.gr g3);clear g3 FO HL c0 c1 c2 c3;obtain⟨wl,nn,s,x,hEv,hNW⟩:=Rq FF;rw[hEv];have HEV:=Hd hEv;have HNW:=Hd hNW;clear hEv hNW;go_simp;rename_i hK0;refine hK0 _ _ ?_;clear hK0;refine wpList_plain rfl λ_ hK=>?_;go_simp;refine hK _ _ ?_;clear hK;obtain⟨w4,h4,hq4,ga⟩:=Bo w3 Za #[sv wl,Yp nn,s.a0,s.a1,s.a2,s.a3,s.a4,s.a5,s.a6,s.a7,Ys x.k,Yp x.p,x.c.a0,x.c.a1,x.c.a2,x.c.a3,x.c.a4,x.c.a5,x.c.a6,x.c.a7] 56;refine wpList_store_row rfl _ _ _ rfl w3.heap.size #[sv wl,Yp nn,s.a0,s.a1,s.a2,s.a3,s.a4,s.a5,s.a6,s.a7,Ys x.k,Yp x.p,x.c.a0,x.c.a1,x.c.a2,x.c.a3,x.c.a4,x.c.a5,x.c.a6,x.c.a7] rfl rfl _ Za (ae w3 _) Yh rfl (by simp[Value.oneCell']) ?_
     try simp only[Act.put]
     rw[h4];have HQ:=Hd hq4;have HL4:=Hd (HL3.out.gr ga);clear h4 hq4 ga HL3;obtain⟨q,hq⟩:∃q,w3.heap.size=q:=⟨_,rfl⟩;rw[hq]at HQ;rw[hq];clear hq;obtain⟨xq,yq,zq⟩:=ed HQ.out;rcases HNW.out with ⟨m,hFN,rfl,hwn⟩ | ⟨hnn,hwn⟩
     ·obtain⟨vb,Q,hbb,hb9,hbk,hfit,hql,hQm,hev,hrec,gr⟩:=HL4.out;obtain⟨Q2,hQ2⟩:∃y,y=Q:=⟨_,rfl⟩;rw[<-hQ2]at hbk hfit hql hQm;clear hQ2;have hN:=j4 (bj lo) hil;rw[HX.out,HF0.out,hFN]at hN;have HER:=Hd (show(0:Nat)=(ay (bf (bj lo) ((bu lo).take i)).1 (ee lo[i].t)).2 by rw[HX.out,HF0.out,hFN];rfl);have HP:=Hd (show _/\_/\_/\_/\_/\Q2.map Q3.k=(bf (bj lo) ((bu lo).take (i+1))).1/\_/\_/\_ from⟨hbb,hb9,hbk,hfit,hql,by rw[hN,hQm];rfl,hev,hrec,gr⟩);clear hbb hb9 hbk hfit hql hQm hev hrec gr hN HL4;go_upto_region 23 with (fail);clear xq yq zq HQ;obtain⟨hbb,hb9,hbk,hfit,hql,hQm,hev,hrec,gr⟩:=HP.out;apply wp_region_lit;(iterate 3 refine wpList_plain rfl λ_ hK=>?_;go_simp;refine hK _ _ ?_;clear hK);have gA:=(Yu w4).alloc (.cells #[Yp 0] 29 (0,0));have hA:=ae w4 (.cells #[Yp 0] 29 (0,0));obtain⟨v',u',hr,h1,h2⟩:=dw m8 (λ_=>rfl) (λy v hv=>by simp only[m8,List.mem_singleton]at hv;rw[hv];rfl) Ox (w4.alloc (.cells #[Yp 0] 29 (0,0))) w.heap.size 28 (.slice ea i ec) i _ (hev.gr1 gA) (.slice (Yn w4.heap.size) 1 1) [0] (mb m8 (λ_=>rfl) 0 hA) (by simp;omega) Yk (Nat.le_trans gr.b.size gA.b.size);refine Lib.wpList_append_run _ rfl _ _ 28 28 rfl _ _ rfl rfl v' u' hr ?_;have hev':=hev.gr1 gA;have nmE:∀j c T,(w4.alloc (.cells #[Yp 0] 29 (0,0))).heap[j]?=some (.cells c T (0,0))->T≠29->j∉(Value.slice ea i ec).ownBlock.toList:=λj c T hb hT=>mo hev' hb hT;have HL9:Hid (zu w u' b b9 (Yn g) oc lo v' (i+1)):=Hd ⟨_,Q2,h2.heap (gA.heap hbb) (nmE _ _ _ (gA.heap hbb) Yk),h2.heap (gA.heap hb9) (nmE _ _ _ (gA.heap hb9) Yk),(hbk.gr gA).grl h2 (λj c T hb hT=>nmE j c T hb (by rcases hT with rfl | rfl | rfl <;> decide)),hfit,hql,hQm,by
       rw[j4 _ hil,<-HER.out,List.flatMap_append];exact h1,fv (hrec.gr1 gA) h2 (λj hb=>by obtain⟨c,h3⟩:=bi (hrec.gr1 gA) hb;exact nmE _ _ _ h3 Yk),GrL.gr (gr.trans gA) h2 (λj hb=>(hev'.lt j (by simpa using hb)).1)⟩
      clear nmE hev' hr h1 h2 gA hA hbb hb9 hbk hfit hql hQm hev hrec gr HP HER;go_wp2_with fail;exact⟨⟨i+1,Yj,Yi,HL9.out⟩,by simp[intOf];omega⟩
     ·obtain⟨vb,Q,hbb,hb9,hbk,hfit,hql,hQm,hev,hrec,gr⟩:=HL4.out;have EN:=Hd (Hr w.heap.size vb Q w4 hbk hql gr.b.size FF (λf h=>HFK.out f h) hnn (λq0 hq0=>(hfit q0 hq0).1) (λq0 hq0=>(hfit q0 hq0).2));rw[HEV.out]at EN;obtain⟨x9,y9,z9⟩:=ed hb9;have HL5:=Hd (And.intro hbb (And.intro hb9 (And.intro hbk (And.intro hfit (And.intro hql (And.intro hQm (And.intro hev (And.intro hrec gr))))))));clear hbb hb9 hbk hfit hql hQm hev hrec gr HL4;go_upto_region 22 with (fail);clear xq yq zq;apply wp_region_lit;refine wpList_plain rfl λ_ hK=>?_;go_simp;refine hK _ _ ?_;clear hK;refine wpList_load_row rfl _ _ rfl q rfl _ #[sv wl,Yp nn,s.a0,s.a1,s.a2,s.a3,s.a4,s.a5,s.a6,s.a7,Ys x.k,Yp x.p,x.c.a0,x.c.a1,x.c.a2,x.c.a3,x.c.a4,x.c.a5,x.c.a6,x.c.a7] _ _ HQ.out underlying56 rfl Yh ?_;clear x9 y9 z9;go_wp2_with fail;refine(EN.out).mono ?_;rintro e w5 ⟨⟨v2,Q2,rr,rfl,hE,hbk2⟩,g5⟩;obtain⟨hbb,hb9,hbk,hfit,hql,hQm,hev,hrec,gr⟩:=HL5.out;rw[hQm]at hE;obtain⟨xa,xc,rfl,_⟩:=aj hbk2.r;have hE1:Q2.map Q3.k=(ay (bf (bj lo) ((bu lo).take i)).1 (ee lo[i].t)).1:=by rw[HX.out,HF0.out,<-hE]
      have HER:=Hd (show rr=(ay (bf (bj lo) ((bu lo).take i)).1 (ee lo[i].t)).2 by rw[HX.out,HF0.out,<-hE]);have hfm:∀k∈(bf (bj lo) ((bu lo).take i)).1,k.fit/\k.blank.ok:=λk hk=>by
       rw[<-hQm]at hk;obtain⟨q0,hq0,rfl⟩:=List.mem_map.1 hk;exact hfit q0 hq0
      have hfit2:∀q0∈Q2,q0.k.fit/\q0.k.blank.ok:=λq0 hq0=>by
       have hm:=List.mem_map_of_mem (f:=Q3.k) hq0;rw[hE1]at hm;exact⟨Eg (λk hk=>(hfm k hk).1) (F:=ee lo[i].t) (λf hf=>(cu hf).1) _ hm,Iw (λk hk=>(hfm k hk).2) _ _ hm⟩
      have hql2:Q2.length<=1000:=by
       have h1:=congrArg List.length hE1;rw[uj,<-hQm,List.length_map,List.length_map]at h1;omega
      have hQm2:Q2.map Q3.k=(bf (bj lo) ((bu lo).take (i+1))).1:=by rw[j4 _ hil,hE1]
      have Y9:=g5.heap hb9;have Yb:=g5.heap hbb;have Ye:=hev.gr1 g5;have Yr:=hrec.gr1 g5;have Yg:=gr.trans g5;have ne1:∀{T:TypeId} {k0 n0:Nat} {x0:Value} {xs0:List Value},w5.ownsRow w.heap.size T k0 x0 n0 xs0->T≠27->x0.ownBlock≠some b9:=λho hT e=>by
       obtain⟨c,h⟩:=bi ho e;rw[Y9]at h;simp only[Option.some.injEq,Obj.cells.injEq]at h;exact hT h.2.1.symm
      have HP:=Hd (show(w5.setCell (Yo b9 0) (.slice xa Q2.length xc)).heap[b]?=some (.cells #[.slice none 0 0] 27 (0,0))/\(w5.setCell (Yo b9 0) (.slice xa Q2.length xc)).heap[b9]?=some (.cells #[.slice xa Q2.length xc] 27 (0,0))/\az (w5.setCell (Yo b9 0) (.slice xa Q2.length xc)) w.heap.size (.slice xa Q2.length xc) Q2/\_/\_/\_/\(w5.setCell (Yo b9 0) (.slice xa Q2.length xc)).ownsRow w.heap.size 29 1 (.slice ea i ec) i ((bf (bj lo) ((bu lo).take i)).2.flatMap m8)/\(w5.setCell (Yo b9 0) (.slice xa Q2.length xc)).ownsRow w.heap.size 36 4 (.slice (Yn g) lo.length oc) lo.length (rcs lo)/\Gr w (w5.setCell (Yo b9 0) (.slice xa Q2.length xc))from⟨qj b9 0 _ Yb (by have:=HNB.out;omega),j9 Y9,hbk2.grl (GrL.set (l:=[b9]) (GrL.of_gr (Yu w5)) ⟨b9,0,none⟩ _ (Or.inr Yj)) (λj c T hj hT hm=>by
       rw[List.mem_singleton.1 hm,Y9]at hj;rcases hT with rfl | rfl | rfl <;> simp at hj),hfit2,hql2,hQm2,eh Ye (ne1 Ye Yk) 0 _,eh Yr (ne1 Yr Yk) 0 _,Yg.set _ _ HS9.out⟩)
      obtain⟨x9,y9,z9⟩:=ed Y9;clear Y9 Yb Ye Yr Yg ne1 hE hE1 hfm hfit2 hql2 hQm2 hbk2 g5 hbb hb9 hbk hfit hql hQm hev hrec gr HL5 EN HQ;go_upto_region 23 with (fail);clear x9 y9 z9;generalize w5.setCell (Yo b9 0) (.slice xa Q2.length xc)=w6 at *;obtain⟨hbb,hb9,hbk,hfit,hql,hQm,hev,hrec,gr⟩:=HP.out;apply wp_region_lit;(iterate 3 refine wpList_plain rfl λ_ hK=>?_;go_simp;refine hK _ _ ?_;clear hK);have gA:=(Yu w6).alloc (.cells #[Yp (rr:Nat)] 29 (0,0));have hA:=ae w6 (.cells #[Yp (rr:Nat)] 29 (0,0));obtain⟨v',u',hr,h1,h2⟩:=dw m8 (λ_=>rfl) (λy v hv=>by simp only[m8,List.mem_singleton]at hv;rw[hv];rfl) Ox (w6.alloc (.cells #[Yp (rr:Nat)] 29 (0,0))) w.heap.size 28 (.slice ea i ec) i _ (hev.gr1 gA) (.slice (Yn w6.heap.size) 1 1) [rr] (mb m8 (λ_=>rfl) rr hA) (by simp;omega) Yk (Nat.le_trans gr.b.size gA.b.size);refine Lib.wpList_append_run _ rfl _ _ 28 28 rfl _ _ rfl rfl v' u' hr ?_;have hev':=hev.gr1 gA;have nmE:∀j c T,(w6.alloc (.cells #[Yp (rr:Nat)] 29 (0,0))).heap[j]?=some (.cells c T (0,0))->T≠29->j∉(Value.slice ea i ec).ownBlock.toList:=λj c T hb hT=>mo hev' hb hT;have HL9:Hid (zu w u' b b9 (Yn g) oc lo v' (i+1)):=Hd ⟨_,Q2,h2.heap (gA.heap hbb) (nmE _ _ _ (gA.heap hbb) Yk),h2.heap (gA.heap hb9) (nmE _ _ _ (gA.heap hb9) Yk),(hbk.gr gA).grl h2 (λj c T hb hT=>nmE j c T hb (by rcases hT with rfl | rfl | rfl <;> decide)),hfit,hql,hQm,by
       rw[j4 _ hil,<-HER.out,List.flatMap_append];exact h1,fv (hrec.gr1 gA) h2 (λj hb=>by obtain⟨c,h3⟩:=bi (hrec.gr1 gA) hb;exact nmE _ _ _ h3 Yk),GrL.gr (gr.trans gA) h2 (λj hb=>(hev'.lt j (by simpa using hb)).1)⟩
      clear nmE hev' hr h1 h2 gA hA hbb hb9 hbk hfit hql hQm hev hrec gr HP HER;go_wp2_with fail;exact⟨⟨i+1,Yj,Yi,HL9.out⟩,by simp[intOf];omega⟩
    ·have hil':¬(i:Int) < lo.length:=Yi;obtain rfl:i=lo.length:=Yi;have HL':=HL;obtain⟨vb,Q,hbb,hb9,hbk,hfit,hql,hQm,hev,hrec,gr⟩:=HL.out;obtain⟨ea,ec,rfl,_⟩:=aj hev;obtain⟨xa,xc,rfl,_⟩:=aj hbk.r;have HE9:=Hd (And.intro hbb (And.intro hb9 (And.intro hbk (And.intro hQm (And.intro hev gr)))));obtain⟨x9,y9,z9⟩:=ed hb9;obtain⟨xb,yb,zb⟩:=ed hbb;clear hbb hb9 hbk hfit hql hQm hev hrec gr;go_wp2_with fail;clear x9 y9 z9 xb yb zb;obtain⟨hbb,hb9,hbk,hQm,hev,gr⟩:=HE9.out;obtain rfl:=HBW.out;have f2:=heap_setCell_same wr w.heap.size 0 _ _ (.slice xa Q.length xc) hbb;have gs:GrL [w.heap.size] wr (wr.setCell (Yo w.heap.size 0) (.slice xa Q.length xc)):=(GrL.of_gr (Yu wr)).set _ _ (Or.inr Yj);have nmB:∀b c T,wr.heap[b]?=some (.cells c T (0,0))->T≠27->b∉[w.heap.size]:=λb c T hb hT hm=>by
      rw[List.mem_singleton.1 hm,hbb]at hb;injection hb with hb
      injection hb with _ h2
      exact hT h2.symm
     have hld:=run_loadVar_row (P:=prog) _ w.heap.size 27 27 _ (0,0) _ f2 underlying27 rfl Yh;have htk:(bu lo).take lo.length=bu lo:=by
      have:(bu lo).length=lo.length:=by unfold bu;simp
      rw[<-this,List.take_length]
     rw[htk]at hQm hev;have hev2:=fv hev gs (λb hb=>by obtain⟨c,h1⟩:=bi hev hb;exact nmB _ _ _ h1 Yk);have hbk2:=hbk.grl gs (λb c T hb hT=>nmB b c T hb (by rcases hT with rfl | rfl | rfl <;> decide));have gr2:Gr w (wr.setCell (Yo w.heap.size 0) (.slice xa Q.length xc)):=GrL.gr (Yu w) ((GrL.of_gr (l:=[]) gr).set _ _ (Or.inl (Yv _))) (λb hb=>by simp at hb);exact bodyPost_ret (v:= .tuple #[.agg #[.slice xa Q.length xc],.slice ea lo.length ec,Yp 0]) (by simp[results,results9,asAddr,hld]) rfl ⟨_,_,rfl,Q,hbk2,hQm,hev2,gr2⟩
end Go.Proofs.YtimcfaoabaflkaaGreatDoor
