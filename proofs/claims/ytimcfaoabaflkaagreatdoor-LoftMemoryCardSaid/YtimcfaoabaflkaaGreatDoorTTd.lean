/- loft.Told, where Order finds no fault. -/
import Derived.Test.YtimcfaoabaflkaaGreatDoorTWd
import Derived.Lib.AppendZeros
namespace Go.Proofs.YtimcfaoabaflkaaGreatDoor
open AbTrV
open AbA AbI
set_option maxHeartbeats 1000000
set_option maxRecDepth 100000
open Go.Proofs.Tryz
open Go.RowKit Go.Shelf Go.Lib
def R9 (w wr:World) (Lb:Nat) (K:List Kp) (rb:Nat):Prop:=wr.heap[rb]?=some (.cells #[.slice none 0 0] 27 (0,0))/\∃v,wr.heap[Lb]?=some (.cells #[v] 88 (0,0))/\wr.ownsRow w.heap.size 47 13 v K.length ((K.map mk0).flatMap Q3.cs)
theorem mo {w:World} {base k n:Nat} {v:Value} {xs:List Value} {T0:TypeId} (h:w.ownsRow base T0 k v n xs) {b:Nat} {c:Array Value} {T:TypeId} (hb:w.heap[b]?=some (.cells c T (0,0))) (hT:T≠T0):b∉v.ownBlock.toList:=λhm=>by
 obtain⟨c',h1⟩:=bi h (g:=b) (by simpa using hm);rw[hb]at h1;injection h1 with h1
 injection h1 with _ h2
 exact hT h2
def m8 (r:Nat):List Value:=[Yp r]
theorem zbk:(prog.info? 29).map (λi=>(i.zero,i.size,i.bytes))=some (some (.int .i64 0),1,8):=Yh
theorem Ox:El 29 28 1 8:=⟨underlying28,by
 obtain⟨i0,h1,h2,h3,h4⟩:=info_parts zbk;exact⟨i0,_,h1,h2,h3,h4,rfl⟩,Yk,Tryz.sizeOf29⟩
theorem az.grl {w w':World} {base:Nat} {v:Value} {Q:List Q3} {l:List Nat} (h:az w base v Q) (g:GrL l w w') (hn:∀b c T,w.heap[b]?=some (.cells c T (0,0))->T=47\/T=39\/T=54->b∉l):az w' base v Q:=
 ⟨fv h.r g (λb hb=>by obtain⟨c,h1⟩:=bi h.r hb;exact hn b c _ h1 (Or.inl rfl)),λq hq=>⟨fv (h.q q hq).p g (λb hb=>by obtain⟨c,h1⟩:=bi (h.q q hq).p hb;exact hn b c _ h1 (Or.inr (Or.inl rfl))),fv (h.q q hq).a g (λb hb=>by obtain⟨c,h1⟩:=bi (h.q q hq).a hb;exact hn b c _ h1 (Or.inr (Or.inr rfl)))⟩⟩
theorem uj (K:List Kp) (F:Option Fm):(ay K F).1.length=K.length:=by
 cases F with
 | none=>rfl
 | some f=>
  cases f with
  | new n s=>rfl
  | keep n s=>
   simp only[ay];split
   ·rfl
   ·split <;> simp
  | act n a=>
   simp only[ay];split
   ·rfl
   ·split <;> simp
noncomputable def bu (lo:List Rc):List (Option Fm):=lo.map λx=>ee x.t
theorem j4 (K:List Kp) {lo:List Rc} {i:Nat} (hi:i < lo.length):bf K ((bu lo).take (i+1))=((ay (bf K ((bu lo).take i)).1 (ee lo[i].t)).1,(bf K ((bu lo).take i)).2 ++ [(ay (bf K ((bu lo).take i)).1 (ee lo[i].t)).2]):=by
 have hf:i < (bu lo).length:=by unfold bu;simpa using hi
 rw[List.take_succ_eq_append_getElem hf,ph];have:(bu lo)[i]=ee lo[i].t:=by simp[bu]
 rw[this];rfl
def zci (oaL:Option Addr) (ocL:Nat) (w wr:World) (Lb:Nat) (vb:Value) (lo:List Rc) (o:Value) (i:Nat):Prop:=∃Q,wr.heap[w.heap.size]?=some (.cells #[.slice none 0 0] 27 (0,0))/\wr.heap[Lb]?=some (.cells #[vb] 88 (0,0))/\az wr w.heap.size vb Q/\(∀q∈Q,q.k.fit)/\Q.length<=1000/\Q.map Q3.k=(bf (bj lo) ((bu lo).take i)).1/\wr.ownsRow w.heap.size 29 1 o i ((bf (bj lo) ((bu lo).take i)).2.flatMap m8)/\wr.ownsRow w.heap.size 36 4 (.slice oaL lo.length ocL) lo.length (rcs lo)/\Gr w wr
theorem R9.gr {w wr u:World} {Lb rb:Nat} {K:List Kp} (h:R9 w wr Lb K rb) (g:Gr wr u):R9 w u Lb K rb:=by
 obtain⟨h1,v,h2,h3⟩:=h;exact⟨g.heap h1,v,g.heap h2,h3.gr1 g⟩
theorem my {lo:List Rc} {i:Nat} (hi:i < lo.length):jk (lo.take (i+1))=jk (lo.take i) ++ (ku lo[i]).toList:=by
 unfold jk;rw[List.take_succ_eq_append_getElem hi,List.filterMap_append];congr 1
theorem zak {wr:World} {base:Nat} {oa:Option Addr} {oc:Nat} {lo:List Rc} (h:wr.ownsRow base 36 4 (.slice oa lo.length oc) lo.length (rcs lo)) (i:Nat) (hi:i < lo.length):∃g,oa=some ⟨g,0,none⟩/\wr.cell? ⟨g,i * 4,none⟩=some (.int .i64 lo[i].s)/\wr.cell? ⟨g,i * 4+1,none⟩=some (.int .i64 lo[i].k)/\wr.cell? ⟨g,i * 4+2,none⟩=some (.int .i64 lo[i].d)/\wr.cell? ⟨g,i * 4+3,none⟩=some (.string lo[i].t):=by
 have h':=h;rcases h.2 with ⟨h0,hz⟩ | ⟨g,cap,cur,e,_⟩
 ·omega
 ·cases e;exact⟨g,rfl,gc Rc.cells 4 (λ_=>rfl) h' i 0 hi Yk _ rfl,gc Rc.cells 4 (λ_=>rfl) h' i 1 hi Yk _ rfl,gc Rc.cells 4 (λ_=>rfl) h' i 2 hi Yk _ rfl,gc Rc.cells 4 (λ_=>rfl) h' i 3 hi Yk _ rfl⟩
theorem zca (n:Int) (v:Value) (l:List Rc) (w:World) (hn1: -1000000<=n) (hn2:n<=1000000) (hr:ij w v l) (hl:l.length<=1000) (ht:∀x∈l,x.t.size<=1000) (hc:(decide (n=3) || decide (n=5))=true) (he:ot n l=(0,0)) (hk:Pz l) (hid:∀x∈l,Fo x.s x.k=8 * x.k+x.s) (hio:Y5 (i7 l)) (tw:TW w) (htb:w.cell? ⟨7,15,none⟩=some (.int .u8 4)) (htz:7 < w.heap.size):
  Calls prog 8 #[Yp n,v] w λe w'=>∃bv ev Q,e= .returned (.tuple #[.agg #[bv],ev,Yp 0])/\az w' w.heap.size bv Q/\Q.map Q3.k=(pg (i7 l)).1/\w'.ownsRow w.heap.size 29 1 ev l.length ((pg (i7 l)).2.flatMap m8)/\Gr w w':=by
 have g0:=(Yu w).alloc (.cells #[.slice none 0 0] 27);have h0:=ae w (.cells #[.slice none 0 0] 27);have OY:=Hd (zcg n v l _ hn1 hn2 (hr.gr g0) Yi (λx hx=>Nat.le_trans (ht x hx) Yk) hc he);have G0:=Hd g0;have H0:=Hd h0;have TWH:=Hd tw;have HT:=Hd ht;have HID:=Hd hid;have HIO0:=Hd hio;have HTB:=Hd htb;have HTZ:=Hd htz;have HKY:=Hd hk;clear g0 h0 hr tw ht htb htz hk he hid hio;go_enter func8,ntmps8;go_wp2_with fail;refine(OY.out).mono ?_;rintro e w1 ⟨vo,lo,rfl,hp,ho,hrow,g1⟩;have HLO:=Hd (zaE HKY.out hp ho);have HP:=Hd hp;have HIO:=Hd (show Y5 lo by rw[HLO.out];exact HIO0.out);have G1:=Hd (G0.out.trans g1);have HR:=Hd (hrow.mono G0.out.b.size);have HB:=Hd (g1.heap H0.out);obtain⟨oa,oc,rfl,hoc⟩:=aj hrow;have RA:=Hd (fun(wr:World) (h:wr.ownsRow w.heap.size 36 4 (.slice oa lo.length oc) lo.length (rcs lo)) (i:Nat) (hi:i < lo.length)=>zak h i hi);have HTL:=Hd (λx (hx:x∈lo)=>HT.out x (HP.out.mem_iff.1 hx));have HIL:=Hd (λx (hx:x∈lo)=>HID.out x (HP.out.mem_iff.1 hx));have hlo:lo.length<=1000:=by rw[HP.out.length_eq];exact hl
 clear hp ho hrow g1 OY G0 H0 HT HID;go_wp2;have HLB:=Hd (ae w1 (.cells #[.slice none 0 0] 88));have g2:=(Yu w1).alloc (.cells #[.slice none 0 0] 88);have G2:=Hd (G1.out.trans g2);have HR:=Hd (HR.out.gr1 g2);have HB:=Hd (g2.heap HB.out);have HLW:=Hd (show w.heap.size<=w1.heap.size from G1.out.b.size);clear g2 G1;generalize w1.alloc (.cells #[.slice none 0 0] 88)=w2 at *;obtain⟨Lb,hLb⟩:∃Lb,w1.heap.size=Lb:=⟨_,rfl⟩;rw[hLb]at HLB HLW;rw[hLb];clear hLb;go_loopw [11,12,13,31] (λ_ _ _ q wr=>∃i:Nat,q= .int .i64 i/\i<=lo.length/\R9 w wr Lb (jk (lo.take i)) w.heap.size/\Hid (wr.ownsRow w.heap.size 36 4 (.slice oa lo.length oc) lo.length (rcs lo))/\Gr w wr) (λ_ _ _ q _=>lo.length - (intOf q).toNat)
 case atStart=>exact⟨0,rfl,Yi,⟨HB.out,_,HLB.out,World.ownsRow_nil _ _ _ _⟩,HR,G2.out⟩
 case round=>
  obtain⟨i,rfl,hil0,hLT,HRr,gr⟩:=hrel
  by_cases hil:i < lo.length
  ·have hil':(i:Int) < lo.length:=Yi;have hi0:(0:Int)<=i:=Yi;obtain⟨g,rfl,c0,c1,c2,c3⟩:=RA.out wr HRr.out i hil;have hmem:lo[i]∈lo:=List.getElem_mem hil;have PP:=Hd (λu (gu:Gr wr u)=>ll lo[i].t u (HTL.out _ hmem) (TWH.out.gr (gr.trans gu)) (((gr.trans gu).cells.1 _ _ HTZ.out).trans HTB.out));obtain⟨x,hx⟩:∃x,lo[i]=x:=⟨_,rfl⟩;have HX:=Hd hx;rw[hx]at PP c0 c1 c2 c3;have HGR:=Hd gr;have HLT:=Hd hLT;clear hx gr hLT hmem;cases hF:ee x.t with
   | none=>
    have NN:Hid (ku x=none):=Hd (by simp only[ku,hF]);have HFX:=Hd hF;clear hF;go_wp2_with fail;have h0r:=ae wr (.cells #[Yp x.s,Yp x.k,Yp x.d,.string x.t] 36);have gR:=(Yu wr).alloc (.cells #[Yp x.s,Yp x.k,Yp x.d,.string x.t] 36);refine(PP.out _ gR).mono ?_;rintro e w3 ⟨⟨x',rfl,hx'⟩,g3⟩;rw[HFX.out]at hx' ⊢;obtain⟨wd,n0,s0,a0⟩:=x';have HRC:=Hd (g3.heap h0r);have G3:=Hd (gR.trans g3);clear h0r gR g3 hx' PP;generalize wr.alloc (.cells #[Yp x.s,Yp x.k,Yp x.d,.string x.t] 36)=UR at *;obtain⟨rc,hrc⟩:∃rc,wr.heap.size=rc:=⟨_,rfl⟩;rw[hrc]at HRC ⊢;have HRW:=Hd hrc;clear hrc;obtain⟨C,hC⟩:∃C,(wh wd n0 s0 a0)=C:=⟨_,rfl⟩;have hC3:C.size=20:=by rw[<-hC];rfl
    have hC4:C.all (·.oneCell')=true:=by rw[<-hC];simp[Value.oneCell']
    dsimp only;rw[hC];have HCE:=Hd hC;clear hC c0 c1 c2 c3;go_simp;rename_i hK0;refine hK0 _ _ ?_;clear hK0;(iterate 4 refine wpList_plain rfl λ_ hK=>?_;go_simp;refine hK _ _ ?_;clear hK);have hqb:=ae w3 (.cells ff 90 (0,0));have gq:=(Yu w3).alloc (.cells ff 90 (0,0));refine wpList_store_row rfl _ _ _ rfl w3.heap.size C rfl rfl _ ff hqb (by rw[hC3];kernel_rfl) (by rw[hC3];rfl) hC4 ?_;have hb2:=setRow_heap _ w3.heap.size ff C _ _ hqb;have gp:=gq.setRow w3.heap.size C (Yv _);have HQ:=Hd hb2;have GQ:=Hd (G3.out.trans gp);have HRC:=Hd (gp.heap HRC.out);clear hb2 gp gq hqb;generalize (w3.alloc (.cells ff 90 (0,0))).setRow w3.heap.size C=U2 at *;obtain⟨q,hq⟩:∃q,w3.heap.size=q:=⟨_,rfl⟩;rw[hq]at HQ ⊢;clear hq G3;go_wp2_with fail;exact⟨⟨i+1,Yj,Yi,by rw[my hil,HX.out,NN.out];simpa using HLT.out.gr GQ.out,Hd (HRr.out.gr1 GQ.out),HGR.out.trans GQ.out⟩,by simp[intOf];omega⟩
   | some f=>
    cases f with
    | new m sx=>
     have NN:Hid (ku x=some ⟨8 * x.k+x.s,m,x.s,sx,[],[]⟩):=Hd (by simp only[ku,hF]);have HFX:=Hd hF;clear hF;go_wp2_with fail;have h0r:=ae wr (.cells #[Yp x.s,Yp x.k,Yp x.d,.string x.t] 36);have gR:=(Yu wr).alloc (.cells #[Yp x.s,Yp x.k,Yp x.d,.string x.t] 36);refine(PP.out _ gR).mono ?_;rintro e w3 ⟨⟨x',rfl,hx'⟩,g3⟩;rw[HFX.out]at hx' ⊢;obtain⟨wd,n0,s0,a0⟩:=x';have he:=hx' _ rfl;injection he with e1 e2 e3 e4
     have e1:=e1.symm;have e2:=e2.symm;have e3:=e3.symm;have e4:=e4.symm;subst e1 e2 e3 e4;have HRC:=Hd (g3.heap h0r);have G3:=Hd (gR.trans g3);clear h0r gR g3 hx' PP;generalize wr.alloc (.cells #[Yp x.s,Yp x.k,Yp x.d,.string x.t] 36)=UR at *;obtain⟨rc,hrc⟩:∃rc,wr.heap.size=rc:=⟨_,rfl⟩;rw[hrc]at HRC ⊢;have HRW:=Hd hrc;clear hrc;obtain⟨C,hC⟩:∃C,(wh ⟨#[110,101,119]⟩ (m:Int) sx n5)=C:=⟨_,rfl⟩;have hC3:C.size=20:=by rw[<-hC];rfl
     have hC4:C.all (·.oneCell')=true:=by rw[<-hC];simp[Value.oneCell']
     dsimp only;rw[hC];have HCE:=Hd hC;clear hC c0 c1 c2 c3;go_simp;rename_i hK0;refine hK0 _ _ ?_;clear hK0;(iterate 4 refine wpList_plain rfl λ_ hK=>?_;go_simp;refine hK _ _ ?_;clear hK);have hqb:=ae w3 (.cells ff 90 (0,0));have gq:=(Yu w3).alloc (.cells ff 90 (0,0));refine wpList_store_row rfl _ _ _ rfl w3.heap.size C rfl rfl _ ff hqb (by rw[hC3];kernel_rfl) (by rw[hC3];rfl) hC4 ?_;have hb2:=setRow_heap _ w3.heap.size ff C _ _ hqb;have gp:=gq.setRow w3.heap.size C (Yv _);have HQ:=Hd hb2;have GQ:=Hd (G3.out.trans gp);have HRC:=Hd (gp.heap HRC.out);clear hb2 gp gq hqb;generalize (w3.alloc (.cells ff 90 (0,0))).setRow w3.heap.size C=U2 at *;obtain⟨q,hq⟩:∃q,w3.heap.size=q:=⟨_,rfl⟩;rw[hq]at HQ ⊢;clear hq G3;have hw:U2.cell? ⟨q,0,none⟩=some (.string ⟨#[110,101,119]⟩):=by
      obtain⟨cq,_,_⟩:=ed HQ.out;have:=cq 0;rw[<-HCE.out]at this;exact this
     obtain⟨hrb,vb,hvb,hown⟩:=HLT.out;have hnx:=my (lo:=lo) (i:=i) hil;rw[HX.out,NN.out]at hnx;have HNX:=Hd hnx;clear hnx;have hKl:(jk (lo.take i)).length<=1000:=by
      have h1:=List.length_filterMap_le ku (lo.take i);have h2:(lo.take i).length=min i lo.length:=List.length_take;unfold jk;omega
     generalize jk (lo.take i)=K at *;obtain⟨va,vc,rfl,_⟩:=aj hown;have HVB:=Hd (GQ.out.heap hvb);have HOW:=Hd (hown.gr1 GQ.out);have HRB:=Hd (GQ.out.heap hrb);have HQ:=Hd (show U2.heap[q]?=some (.cells (wh ⟨#[110,101,119]⟩ (m:Int) sx n5) 90 (0,0)) by rw[HCE.out];exact HQ.out);have nm:∀(b:Nat) (c:Array Value) (T:TypeId),U2.heap[b]?=some (.cells c T (0,0))->T≠47->b∉(Value.slice va K.length vc).ownBlock.toList:=λb c T hb hT hm=>by
      obtain⟨c',h1⟩:=bi HOW.out (g:=b) (by simpa using hm);rw[hb]at h1;injection h1 with h1
      injection h1 with _ h2
      exact hT h2
     have HLu:=Hd (λu (h:GrL (Value.slice va K.length vc).ownBlock.toList U2 u)=>h.heap HVB.out (nm _ _ _ HVB.out Yk));have HRu:=Hd (λu (h:GrL (Value.slice va K.length vc).ownBlock.toList U2 u)=>h.heap HRC.out (nm _ _ _ HRC.out Yk));have HQu:=Hd (λu (h:GrL (Value.slice va K.length vc).ownBlock.toList U2 u)=>h.heap HQ.out (nm _ _ _ HQ.out Yk));have HBu:=Hd (λu (h:GrL (Value.slice va K.length vc).ownBlock.toList U2 u)=>h.heap HRB.out (nm _ _ _ HRB.out Yk));have HWu:=Hd (λu (h:GrL (Value.slice va K.length vc).ownBlock.toList U2 u)=>fv (HRr.out.gr1 GQ.out) h (λb hb hm=>by
      obtain⟨c',h1⟩:=bi (HRr.out.gr1 GQ.out) hb;exact nm _ _ _ h1 Yk hm))
     have HGu:=Hd (λu (h:GrL (Value.slice va K.length vc).ownBlock.toList U2 u)=>GrL.gr (HGR.out.trans GQ.out) h (λb hb=>(HOW.out.lt b (by simpa using hb)).1));have HID:=Hd (HIL.out lo[i] (List.getElem_mem hil));rw[HX.out]at HID;have HKE:=Hd (show Fo x.s x.k=8 * x.k+x.s from HID.out);have HUS:=Hd (HGR.out.trans GQ.out).b.size;clear hrb hvb hown HCE hC3 hC4 nm HLT HRC HQ HRB HID;go_upto_region 10 with (fail);clear hw;refine bm [22,23,24,25] (λu=>GrL (Value.slice va K.length vc).ownBlock.toList U2 u) (λu=>u.ownsRow w.heap.size 47 13 (.slice va K.length vc) K.length ((K.map mk0).flatMap Q3.cs)) [21] (λu u' h g=>h.trans (GrL.of_gr g)) (λu u' h g=>h.gr1 g) (GrL.of_gr (Yu _)) HOW.out Yh
      [.val (Ym Lb),.val (Ym Lb),.val (Ym Lb),.val (Ym Lb),.val (Ym Lb),.val (.slice va K.length vc),.val (Ym rc),.val (Yp x.s),.val (.pointer (some ⟨rc,1,none⟩)),.val (Yp x.k),.val (Yp (8 * x.k+x.s)),.val (.pointer (some ⟨q,1,none⟩)),.val (Yp m),.val (Ym rc),.val (Yp x.s),.val (.pointer (some ⟨q,2,none⟩)),.val (.agg (Yc sx)),.val (.agg #[sx.a0,sx.a1,sx.a2,sx.a3,sx.a4,sx.a5,sx.a6,sx.a7,.slice none 0 0]),.val (.agg #[sx.a0,sx.a1,sx.a2,sx.a3,sx.a4,sx.a5,sx.a6,sx.a7,.slice none 0 0,.slice none 0 0]),.val (.agg #[Yp (8 * x.k+x.s),Yp m,Yp x.s,sx.a0,sx.a1,sx.a2,sx.a3,sx.a4,sx.a5,sx.a6,sx.a7,.slice none 0 0,.slice none 0 0]),.sat (λv u=>∃b,v= .slice (Yn b) 1 1/\u.heap[b]?=some (.cells #[Yp (8 * x.k+x.s),Yp m,Yp x.s,sx.a0,sx.a1,sx.a2,sx.a3,sx.a4,sx.a5,sx.a6,sx.a7,.slice none 0 0,.slice none 0 0] 47 (0,0))),.turn (λv u=>u.ownsRow w.heap.size 47 13 v (K.length+1) ((K.map mk0).flatMap Q3.cs ++ [mk0 (⟨8 * x.k+x.s,m,x.s,sx,[],[]⟩:Kp)].flatMap Q3.cs)) [20],.later,.later,.later,.later] Yh Yh (λV=>finT) ?_ ?_
     ·refine⟨?_,?_,?_,?_,?_,?_,?_,?_,?_,?_,?_,?_,?_,?_,?_,?_,?_,?_,?_,?_,?_,?_,?_,?_,?_,?_,trivial⟩
      iterate 10 ·(intro V u hu hj hk;refine⟨Yh,?_⟩;obtain⟨cl,fl,zl⟩:=ed (HLu.out u hu);obtain⟨cr,fr,zr⟩:=ed (HRu.out u hu);obtain⟨cq,fq,zq⟩:=ed (HQu.out u hu);go_simp;first | exact⟨rfl,Yu _⟩ | skip)
      ·(intro V u hu hj hk;refine⟨Yh,?_⟩;obtain⟨cl,fl,zl⟩:=ed (HLu.out u hu);obtain⟨cr,fr,zr⟩:=ed (HRu.out u hu);obtain⟨cq,fq,zq⟩:=ed (HQu.out u hu);go_simp;first | exact⟨rfl,Yu _⟩ | skip)
       refine(zcn x.s x.k u).mono ?_;rintro e w' ⟨he,g⟩;rw[HKE.out]at he;exact⟨he,g⟩
      iterate 9 ·(intro V u hu hj hk;refine⟨Yh,?_⟩;obtain⟨cl,fl,zl⟩:=ed (HLu.out u hu);obtain⟨cr,fr,zr⟩:=ed (HRu.out u hu);obtain⟨cq,fq,zq⟩:=ed (HQu.out u hu);go_simp;first | exact⟨rfl,Yu _⟩ | skip)
      ·refine⟨λv u u1 h g=>?_,λV u hu hj hk=>⟨Yh,?_⟩⟩
       ·obtain⟨b,h1,h2⟩:=h;exact⟨b,h1,g.heap h2⟩
       ·go_simp;exact⟨⟨_,rfl,ae _ _⟩,(Yu _).alloc _⟩
      ·refine⟨λv u u1 h g=>h.gr1 g,λV u hu hj hk=>⟨Yh,?_⟩⟩;refine ju (R:=(λu=>GrL (Value.slice va K.length vc).ownBlock.toList U2 u)) (J:=(λu=>u.ownsRow w.heap.size 47 13 (.slice va K.length vc) K.length ((K.map mk0).flatMap Q3.cs))) (dj:=[21]) (k:=21) (drop:=[20]) (V:=V) (u:=u) Yh Yh ?_;have hj5:=hj Yh;obtain⟨b,hb1,hb2⟩:=hk 20 (λv u=>∃b,v= .slice (Yn b) 1 1/\u.heap[b]?=some (.cells #[Yp (8 * x.k+x.s),Yp m,Yp x.s,sx.a0,sx.a1,sx.a2,sx.a3,sx.a4,sx.a5,sx.a6,sx.a7,.slice none 0 0,.slice none 0 0] 47 (0,0))) Yh Yh;obtain⟨v',u',hr,h1,h2⟩:=dw Q3.cs Q3.cs_len Q3.cs_one wj u w.heap.size 25 (.slice va K.length vc) K.length _ hj5 (V 20) [mk0 (⟨8 * x.k+x.s,m,x.s,sx,[],[]⟩:Kp)] (by rw[hb1];exact mb Q3.cs Q3.cs_len _ hb2) (by simp;omega) Yk (Nat.le_trans HUS.out hu.size);exact ar _ _ 25 25 rfl _ _ rfl rfl hr ⟨h1,hu.trans h2⟩
      iterate 4 ·trivial
     ·intro V u hu hs;have h21:=hs 21 (λv u=>u.ownsRow w.heap.size 47 13 v (K.length+1) ((K.map mk0).flatMap Q3.cs ++ [mk0 (⟨8 * x.k+x.s,m,x.s,sx,[],[]⟩:Kp)].flatMap Q3.cs)) rfl;obtain⟨xa,xc,hx21,_⟩:=aj h21;have H21:=Hd h21;have HVu:=Hd (HLu.out u hu);have HBv:=Hd (HBu.out u hu);have HWv:=Hd (HWu.out u hu);have HGv:=Hd (HGu.out u hu);clear h21 hs hu HLu HRu HQu HBu HWu HGu;generalize V 21=v21 at *;obtain⟨v22,hv22⟩:∃y,y=v21:=⟨_,rfl⟩;subst hx21;obtain⟨cl,fl,zl⟩:=ed HVu.out;refine⟨⟨some 69,_,_,_,_,_⟩,rfl,rfl,?_⟩;go_simp;refine Fa.next ?_;refine⟨⟨some 70,_,_,_,_,_⟩,rfl,rfl,?_⟩;go_simp;refine Fa.next ?_;refine⟨⟨some 71,_,_,_,_,_⟩,rfl,rfl,?_⟩;go_simp;refine Fa.next ?_;refine⟨⟨none,_,_,_,_,_⟩,rfl,rfl,?_⟩;go_simp;refine Fa.fin ?_;clear cl fl zl;rw[<-hv22]at H21 ⊢;have nl:∀(b:Nat) (c:Array Value) (T:TypeId),u.heap[b]?=some (.cells c T (0,0))->T≠88->b≠Lb:=λb c T hb hT e=>by
       rw[e,HVu.out]at hb;injection hb with h1
       injection h1 with _ h2
       exact hT h2.symm
      have f1:(u.setCell (Yo Lb 0) v22).heap[Lb]?=some (.cells #[v22] 88 (0,0)):=heap_setCell_same u Lb 0 _ _ v22 HVu.out;have f2:(u.setCell (Yo Lb 0) v22).heap[w.heap.size]?=some (.cells #[.slice none 0 0] 27 (0,0)):=(Below.heap_setCell u ⟨Lb,0,none⟩ v22 _ (nl _ _ _ HBv.out Yk)).trans HBv.out;have f3:=ownsRow_setCell_other HWv.out (a:=⟨Lb,0,none⟩) (λe=>by
       obtain⟨c',h1⟩:=bi HWv.out e;exact nl _ _ _ h1 Yk rfl) v22
      have f4:=ownsRow_setCell_other H21.out (a:=⟨Lb,0,none⟩) (λe=>by
       obtain⟨c',h1⟩:=bi H21.out e;exact nl _ _ _ h1 Yk rfl) v22
      have f5:Gr w (u.setCell (Yo Lb 0) v22):=GrL.gr (Yu w) ((GrL.of_gr (l:=[]) HGv.out).set ⟨Lb,0,none⟩ v22 (Or.inl HLW.out)) (λb hb=>by simp at hb);have HFIN:Hid (R9 w (u.setCell (Yo Lb 0) v22) Lb (jk (lo.take (i+1))) w.heap.size):=Hd ⟨f2,v22,f1,by rw[HNX.out];simpa using f4⟩;have F3:=Hd f3;have F5:=Hd f5;clear f1 f2 f3 f4 f5 nl;generalize u.setCell (Yo Lb 0) v22=U3 at *;go_wp2_with fail;exact⟨⟨i+1,Yj,Yi,HFIN.out,F3,F5.out⟩,by simp[intOf];omega⟩
    | keep m sx=>
     have NN:Hid (ku x=none):=Hd (by simp only[ku,hF]);have HFX:=Hd hF;clear hF;go_wp2_with fail;have h0r:=ae wr (.cells #[Yp x.s,Yp x.k,Yp x.d,.string x.t] 36);have gR:=(Yu wr).alloc (.cells #[Yp x.s,Yp x.k,Yp x.d,.string x.t] 36);refine(PP.out _ gR).mono ?_;rintro e w3 ⟨⟨x',rfl,hx'⟩,g3⟩;rw[HFX.out]at hx' ⊢;obtain⟨wd,n0,s0,a0⟩:=x';have he:=hx' _ rfl;injection he with e1 e2 e3 e4
     have e1:=e1.symm;have e2:=e2.symm;have e3:=e3.symm;have e4:=e4.symm;subst e1 e2 e3 e4;have HRC:=Hd (g3.heap h0r);have G3:=Hd (gR.trans g3);clear h0r gR g3 hx' PP;generalize wr.alloc (.cells #[Yp x.s,Yp x.k,Yp x.d,.string x.t] 36)=UR at *;obtain⟨rc,hrc⟩:∃rc,wr.heap.size=rc:=⟨_,rfl⟩;rw[hrc]at HRC ⊢;have HRW:=Hd hrc;clear hrc;obtain⟨C,hC⟩:∃C,(wh ⟨#[107,101,101,112]⟩ (m:Int) sx n5)=C:=⟨_,rfl⟩;have hC3:C.size=20:=by rw[<-hC];rfl
     have hC4:C.all (·.oneCell')=true:=by rw[<-hC];simp[Value.oneCell']
     dsimp only;rw[hC];have HCE:=Hd hC;clear hC c0 c1 c2 c3;go_simp;rename_i hK0;refine hK0 _ _ ?_;clear hK0;(iterate 4 refine wpList_plain rfl λ_ hK=>?_;go_simp;refine hK _ _ ?_;clear hK);have hqb:=ae w3 (.cells ff 90 (0,0));have gq:=(Yu w3).alloc (.cells ff 90 (0,0));refine wpList_store_row rfl _ _ _ rfl w3.heap.size C rfl rfl _ ff hqb (by rw[hC3];kernel_rfl) (by rw[hC3];rfl) hC4 ?_;have hb2:=setRow_heap _ w3.heap.size ff C _ _ hqb;have gp:=gq.setRow w3.heap.size C (Yv _);have HQ:=Hd hb2;have GQ:=Hd (G3.out.trans gp);have HRC:=Hd (gp.heap HRC.out);clear hb2 gp gq hqb;generalize (w3.alloc (.cells ff 90 (0,0))).setRow w3.heap.size C=U2 at *;obtain⟨q,hq⟩:∃q,w3.heap.size=q:=⟨_,rfl⟩;rw[hq]at HQ ⊢;clear hq G3;have hw:U2.cell? ⟨q,0,none⟩=some (.string ⟨#[107,101,101,112]⟩):=by
      obtain⟨cq,_,_⟩:=ed HQ.out;have:=cq 0;rw[<-HCE.out]at this;exact this
     go_wp2_with fail;exact⟨⟨i+1,Yj,Yi,by rw[my hil,HX.out,NN.out];simpa using HLT.out.gr GQ.out,Hd (HRr.out.gr1 GQ.out),HGR.out.trans GQ.out⟩,by simp[intOf];omega⟩
    | act m ax=>
     have NN:Hid (ku x=none):=Hd (by simp only[ku,hF]);have HFX:=Hd hF;clear hF;go_wp2_with fail;have h0r:=ae wr (.cells #[Yp x.s,Yp x.k,Yp x.d,.string x.t] 36);have gR:=(Yu wr).alloc (.cells #[Yp x.s,Yp x.k,Yp x.d,.string x.t] 36);refine(PP.out _ gR).mono ?_;rintro e w3 ⟨⟨x',rfl,hx'⟩,g3⟩;rw[HFX.out]at hx' ⊢;obtain⟨wd,n0,s0,a0⟩:=x';have he:=hx' _ rfl;injection he with e1 e2 e3 e4
     have e1:=e1.symm;have e2:=e2.symm;have e3:=e3.symm;have e4:=e4.symm;subst e1 e2 e3 e4;have HRC:=Hd (g3.heap h0r);have G3:=Hd (gR.trans g3);clear h0r gR g3 hx' PP;generalize wr.alloc (.cells #[Yp x.s,Yp x.k,Yp x.d,.string x.t] 36)=UR at *;obtain⟨rc,hrc⟩:∃rc,wr.heap.size=rc:=⟨_,rfl⟩;rw[hrc]at HRC ⊢;have HRW:=Hd hrc;clear hrc;obtain⟨C,hC⟩:∃C,(wh ⟨#[100,111]⟩ (m:Int) S8.zero ax)=C:=⟨_,rfl⟩;have hC3:C.size=20:=by rw[<-hC];rfl
     have hC4:C.all (·.oneCell')=true:=by rw[<-hC];simp[Value.oneCell']
     dsimp only;rw[hC];have HCE:=Hd hC;clear hC c0 c1 c2 c3;go_simp;rename_i hK0;refine hK0 _ _ ?_;clear hK0;(iterate 4 refine wpList_plain rfl λ_ hK=>?_;go_simp;refine hK _ _ ?_;clear hK);have hqb:=ae w3 (.cells ff 90 (0,0));have gq:=(Yu w3).alloc (.cells ff 90 (0,0));refine wpList_store_row rfl _ _ _ rfl w3.heap.size C rfl rfl _ ff hqb (by rw[hC3];kernel_rfl) (by rw[hC3];rfl) hC4 ?_;have hb2:=setRow_heap _ w3.heap.size ff C _ _ hqb;have gp:=gq.setRow w3.heap.size C (Yv _);have HQ:=Hd hb2;have GQ:=Hd (G3.out.trans gp);have HRC:=Hd (gp.heap HRC.out);clear hb2 gp gq hqb;generalize (w3.alloc (.cells ff 90 (0,0))).setRow w3.heap.size C=U2 at *;obtain⟨q,hq⟩:∃q,w3.heap.size=q:=⟨_,rfl⟩;rw[hq]at HQ ⊢;clear hq G3;have hw:U2.cell? ⟨q,0,none⟩=some (.string ⟨#[100,111]⟩):=by
      obtain⟨cq,_,_⟩:=ed HQ.out;have:=cq 0;rw[<-HCE.out]at this;exact this
     go_wp2_with fail;exact⟨⟨i+1,Yj,Yi,by rw[my hil,HX.out,NN.out];simpa using HLT.out.gr GQ.out,Hd (HRr.out.gr1 GQ.out),HGR.out.trans GQ.out⟩,by simp[intOf];omega⟩
  ·have hil':¬(i:Int) < lo.length:=Yi;obtain rfl:i=lo.length:=Yi;obtain⟨hrb,vb,hvb,hown⟩:=hLT;rw[List.take_length]at hown;have hKl:(jk lo).length<=1000:=by
    have h1:=List.length_filterMap_le ku lo;unfold jk;omega
   have SK:=Hd (Y0 w.heap.size vb ((jk lo).map mk0) wr (by simpa using hown) (by simp;omega));have HOW:=Hd hown;have HVB:=Hd hvb;have HRB:=Hd hrb;have HGR:=Hd gr;obtain⟨cb,fb,zb⟩:=ed hvb;clear hown hrb hvb gr;go_wp2_with fail;clear cb fb zb;refine SK.out.mono ?_;rintro e w4 ⟨rfl,l',hp',hs',hown',g4⟩;have hl':=J1 HIO.out hp' (hs'.imp λh=>by omega);subst hl';have HVB:=Hd (g4.heap HVB.out (mo HOW.out HVB.out Yk));have HRB:=Hd (g4.heap HRB.out (mo HOW.out HRB.out Yk));have HREC:=Hd (fv HRr.out g4 (λb hb=>by obtain⟨c,h1⟩:=bi HRr.out hb;exact mo HOW.out h1 Yk));have HG4:=Hd (GrL.gr HGR.out g4 (λb hb=>(HOW.out.lt b (by simpa using hb)).1));have hb2:az w4 w.heap.size vb ((bj lo).map mk0):=⟨by simpa using hown',λq hq=>by
    obtain⟨k,hk,rfl⟩:=List.mem_map.1 hq;exact zaV _ _ (Kk lo k ((ie lo).mem_iff.1 hk))⟩
   have hf2:∀q∈(bj lo).map mk0,q.k.fit:=λq hq=>by
    obtain⟨k,hk,rfl⟩:=List.mem_map.1 hq;obtain⟨h1,h2⟩:=Kk lo k ((ie lo).mem_iff.1 hk);refine⟨λs hs=>?_,λa ha=>?_⟩
    ·rw[Q5,h1]at hs;cases hs
    ·rw[Q5,h2]at ha;cases ha
   have hn2:((bj lo).map mk0).length<=1000:=by rw[List.length_map,(ie lo).length_eq];exact hKl
   have HL2:Hid (zci oa oc w w4 Lb vb lo (.slice none 0 0) 0):=Hd ⟨(bj lo).map mk0,HRB.out,HVB.out,hb2,hf2,hn2,by rw[H4];rfl,World.ownsRow_nil _ _ _ _,HREC.out,HG4.out⟩;clear hb2 hf2 hn2;clear hp' hs' hown' g4 SK HOW HVB HRB HGR HREC HG4 HRr hKl HR HB HLB G2;go_wp2_with fail;go_loopw [14,16,81] (λo _ q wr=>∃i:Nat,q= .int .i64 i/\i<=lo.length/\zci oa oc w wr Lb vb lo o i) (λ_ _ q _=>lo.length - (intOf q).toNat)
   case atStart=>exact⟨0,rfl,Yi,HL2.out⟩
   case round=>
    clear HL2;obtain⟨i,rfl,hil0,Q,hrb,hvb,hbk,hfit,hql,hQm,hev,hrec,gr⟩:=hrel;obtain⟨Q0,hQ0⟩:∃y,y=Q:=⟨_,rfl⟩;rw[<-hQ0]at hbk hfit hql hQm;have HL:=Hd (And.intro hrb (And.intro hvb (And.intro hbk (And.intro hfit (And.intro hql (And.intro hQm (And.intro hev (And.intro hrec gr))))))))
    by_cases hil:i < lo.length
    ·have hil':(i:Int) < lo.length:=Yi;have hi0:(0:Int)<=i:=Yi;obtain⟨g,rfl,c0,c1,c2,c3⟩:=RA.out wr hrec i hil;have hmem:lo[i]∈lo:=List.getElem_mem hil;have EN:=Hd (λu (gu:Gr wr u)=>V0 Lb w.heap.size vb Q0 lo[i] u (gu.heap hvb) (hbk.gr gu) hql (Nat.le_trans gr.b.size gu.b.size) hfit (HTL.out _ hmem) (TWH.out.gr (gr.trans gu)) (((gr.trans gu).cells.1 _ _ HTZ.out).trans HTB.out) (Nat.lt_of_lt_of_le HTZ.out (gr.trans gu).b.size));obtain⟨x,hx⟩:∃x,lo[i]=x:=⟨_,rfl⟩;have HX:=Hd hx;rw[hx]at EN c0 c1 c2 c3;obtain⟨ea,ec,rfl,_⟩:=aj hev;clear hx hmem hrb hvb hbk hfit hql hQm hev hrec gr;go_wp2_with fail;have gR:=(Yu wr).alloc (.cells #[Yp x.s,Yp x.k,Yp x.d,.string x.t] 36);refine(EN.out _ gR).mono ?_;rintro e w5 ⟨Q',r,rfl,hE,hbk',g5⟩;go_simp;rename_i hK0;refine hK0 _ _ ?_;clear hK0;obtain⟨hrb,hvb,hbk,hfit,hql,hQm,hev,hrec,gr⟩:=HL.out;rw[hQm]at hE;have hE1:Q'.map Q3.k=(ay (bf (bj lo) ((bu lo).take i)).1 (ee lo[i].t)).1:=by rw[HX.out,<-hE]
     have hE2:r=(ay (bf (bj lo) ((bu lo).take i)).1 (ee lo[i].t)).2:=by rw[HX.out,<-hE]
     have hfit':∀q∈Q',q.k.fit:=λq hq=>by
      have h1:∀k∈(bf (bj lo) ((bu lo).take i)).1,k.fit:=λk hk=>by
       rw[<-hQm]at hk;obtain⟨q0,hq0,rfl⟩:=List.mem_map.1 hk;exact hfit q0 hq0
      refine Eg h1 (F:=ee lo[i].t) (λf hf=>(cu hf).1) q.k ?_;rw[<-hE1];exact List.mem_map_of_mem hq
     have hql':Q'.length<=1000:=by
      have h1:=congrArg List.length hE1;rw[uj,<-hQm,List.length_map,List.length_map]at h1;omega
     have hbR:=hbk.gr gR;have HRB5:=Hd (g5.heap (gR.heap hrb) (mo hbR.r (gR.heap hrb) Yk));have HVB5:=Hd (g5.heap (gR.heap hvb) (mo hbR.r (gR.heap hvb) Yk));have HEV5:=Hd (fv (hev.gr1 gR) g5 (λb hb=>by obtain⟨c,h1⟩:=bi (hev.gr1 gR) hb;exact mo hbR.r h1 Yk));have HREC5:=Hd (fv (hrec.gr1 gR) g5 (λb hb=>by obtain⟨c,h1⟩:=bi (hrec.gr1 gR) hb;exact mo hbR.r h1 Yk));have HG5:=Hd (GrL.gr (gr.trans gR) g5 (λb hb=>(hbk.r.lt b (by simpa using hb)).1));have HBK5:=Hd hbk';have HE1:=Hd hE1;have HE2:=Hd hE2;have HF5:=Hd hfit';have HQ5:=Hd hql';have hEl:(bf (bj lo) ((bu lo).take i)).2.length=i:=by
      rw[ol,List.length_take];unfold bu;rw[List.length_map];omega
     have HEL:=Hd hEl;clear hrb hvb hbk hfit hql hQm hev hrec gr hE hbk' g5 gR hE1 hE2 hfit' hql' hbR hEl c0 c1 c2 c3;refine wpList_plain rfl λ_ hK=>?_;go_simp;refine hK _ _ ?_;clear hK;have gA:=(Yu w5).alloc (.cells #[Yp (r:Nat)] 29 (0,0));have hA:=ae w5 (.cells #[Yp (r:Nat)] 29 (0,0));obtain⟨v',u',hr,h1,h2⟩:=dw m8 (λ_=>rfl) (λy v hv=>by simp only[m8,List.mem_singleton]at hv;rw[hv];rfl) Ox (w5.alloc (.cells #[Yp (r:Nat)] 29 (0,0))) w.heap.size 28 (.slice ea i ec) i _ (HEV5.out.gr1 gA) (.slice (Yn w5.heap.size) 1 1) [r] (mb m8 (λ_=>rfl) r hA) (by simp;omega) Yk (Nat.le_trans HG5.out.b.size gA.b.size);refine Lib.wpList_append_run _ rfl _ _ 28 28 rfl _ _ rfl rfl v' u' hr ?_;have hev':=HEV5.out.gr1 gA;have nmE:∀b c T,(w5.alloc (.cells #[Yp (r:Nat)] 29 (0,0))).heap[b]?=some (.cells c T (0,0))->T≠29->b∉(Value.slice ea i ec).ownBlock.toList:=λb c T hb hT=>mo hev' hb hT;have HL9:Hid (zci (Yn g) oc w u' Lb vb lo v' (i+1)):=Hd ⟨Q',h2.heap (gA.heap HRB5.out) (nmE _ _ _ (gA.heap HRB5.out) Yk),h2.heap (gA.heap HVB5.out) (nmE _ _ _ (gA.heap HVB5.out) Yk),(HBK5.out.gr gA).grl h2 (λb c T hb hT=>nmE b c T hb (by rcases hT with rfl | rfl | rfl <;> decide)),HF5.out,HQ5.out,by rw[j4 _ hil];exact HE1.out,by
      rw[j4 _ hil,<-HE2.out,List.flatMap_append];exact h1,fv (HREC5.out.gr1 gA) h2 (λb hb=>by obtain⟨c,h3⟩:=bi (HREC5.out.gr1 gA) hb;exact nmE _ _ _ h3 Yk),GrL.gr (HG5.out.trans gA) h2 (λb hb=>(hev'.lt b (by simpa using hb)).1)⟩
     clear nmE hev' hr h1 h2 gA hA HRB5 HVB5 HEV5 HREC5 HG5 HBK5 HE1 HE2 HF5 HQ5 HEL HL;go_wp2_with fail;exact⟨⟨i+1,Yj,Yi,HL9.out⟩,by simp[intOf];omega⟩
    ·have hil':¬(i:Int) < lo.length:=Yi;obtain rfl:i=lo.length:=Yi;obtain⟨ba,bc,rfl,_⟩:=aj hbk.r;obtain⟨ea,ec,rfl,_⟩:=aj hev;obtain⟨cb,fb,zb⟩:=ed hvb;obtain⟨cr,fr,zr⟩:=ed hrb;clear hrb hvb hbk hfit hql hQm hev hrec gr;go_wp2_with fail;clear cb fb zb cr fr zr;obtain⟨hrb,hvb,hbk,hfit,hql,hQm,hev,hrec,gr⟩:=HL.out;have f2:=heap_setCell_same wr w.heap.size 0 _ _ (.slice ba Q0.length bc) hrb;have gs:GrL [w.heap.size] wr (wr.setCell (Yo w.heap.size 0) (.slice ba Q0.length bc)):=(GrL.of_gr (Yu wr)).set _ _ (Or.inr Yj);have nmB:∀b c T,wr.heap[b]?=some (.cells c T (0,0))->T≠27->b∉[w.heap.size]:=λb c T hb hT hm=>by
      rw[List.mem_singleton.1 hm,hrb]at hb;injection hb with hb
      injection hb with _ h2
      exact hT h2.symm
     have hld:=run_loadVar_row (P:=prog) _ w.heap.size 27 27 _ (0,0) _ f2 underlying27 rfl Yh;have htk:(bu lo).take lo.length=bu lo:=by
      have:(bu lo).length=lo.length:=by unfold bu;simp
      rw[<-this,List.take_length]
     rw[htk]at hQm hev;have hev2:=fv hev gs (λb hb=>by obtain⟨c,h1⟩:=bi hev hb;exact nmB _ _ _ h1 Yk);have hbk2:=hbk.grl gs (λb c T hb hT=>nmB b c T hb (by rcases hT with rfl | rfl | rfl <;> decide));have gr2:Gr w (wr.setCell (Yo w.heap.size 0) (.slice ba Q0.length bc)):=GrL.gr (Yu w) ((GrL.of_gr (l:=[]) gr).set _ _ (Or.inl (Yv _))) (λb hb=>by simp at hb);have hw1:Q0.map Q3.k=(pg (i7 l)).1:=by rw[<-HLO.out];exact hQm
     have hw2:(wr.setCell (Yo w.heap.size 0) (.slice ba Q0.length bc)).ownsRow w.heap.size 29 1 (.slice ea lo.length ec) l.length ((pg (i7 l)).2.flatMap m8):=by rw[<-HLO.out,<-HP.out.length_eq];exact hev2
     rw[<-hQ0];exact bodyPost_ret (v:= .tuple #[.agg #[.slice ba Q0.length bc],.slice ea lo.length ec,Yp 0]) (by simp[results,results8,asAddr,hld]) rfl ⟨_,_,rfl,Q0,hbk2,hw1,hw2,gr2⟩
end Go.Proofs.YtimcfaoabaflkaaGreatDoor
