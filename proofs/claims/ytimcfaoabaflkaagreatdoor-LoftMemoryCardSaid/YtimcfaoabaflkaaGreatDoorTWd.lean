/- loft.words: what a record's word calls. -/
import Derived.Test.YtimcfaoabaflkaaGreatDoorTAc
import Derived.MapKept
import Derived.Carry
namespace Go.Proofs.YtimcfaoabaflkaaGreatDoor
open AbBase
open AbA AbI
set_option maxHeartbeats 1000000
set_option maxRecDepth 100000
open Go.Proofs.Tryz
section
open Go.RowKit Go.Shelf Go.Lib
theorem Qi (w:World) (r:Nat) (es:Array MapEntry) (clock:Nat) (a:ByteArray) (v:Value) (hb:w.heap[r]?=some (.map es clock)) (hn:Instr.findNow .string (.string a) es.toList 0=some none):
  (Instr.mapUpdate 188 (.map (some r)) (.string a) v).run prog w= .ok () {w with heap:=w.heap.setIfInBounds r (.map (es.push {key:= .string a,val:=v,born:=clock}) (clock+1))}:=by
 have hc:(Instr.checkKey false 10000 9 (.string a)).run prog w= .ok () w:=MapKept.run_checkKey (k:= .string a) underlying9 (by simp[MapKept.IsKey]) false 9999;simp[Instr.mapUpdate,run_underlying underlying188,MapKept.run_getObj_map hb,hc,MapKept.run_findKey underlying9 hn,MapKept.run_setObj_map _ hb,Result.andThen]
theorem J3 (w:World) (r:Nat) (es:Array MapEntry) (clock:Nat) (a:ByteArray) (i:Nat) (v:Value) (hb:w.heap[r]?=some (.map es clock)) (hn:Instr.findNow .string (.string a) es.toList 0=some (some (i,v))):
  (Instr.lookup 188 (.map (some r)) (.string a) false).run prog w= .ok v w:=by
 have hc:∀b,(Instr.checkKey b 10000 9 (.string a)).run prog w= .ok () w:=λb=>MapKept.run_checkKey (k:= .string a) underlying9 (by simp[MapKept.IsKey]) b 9999;simp[Instr.lookup,run_underlying underlying188,MapKept.run_getObj_map hb,hc,MapKept.run_findKey underlying9 hn,Result.andThen]
theorem zei {P:Program} {ops:Array Oper} {rest:List Oper} {op:Oper} {a:Act} {w w':World} {Q:Exit->Act->World->Prop} (hgd:op.guard=none) (t:TypeId) (x y z:Operand) (ho:op.op= .insert t x y z) (m k v:Value) (hx:a.eval x=m) (hy:a.eval y=k) (hz:a.eval z=v)
  (hr:(Instr.mapUpdate t m k v).run P w= .ok () w') (h:wpList P ops Q rest (a.put op.dst undef) w'):wpList P ops Q (op :: rest) a w:=
 wpList_plain hgd λ_ hK=>by
  unfold Oper.wp execOp;simp only[ho,hx,hy,hz,Sem.run_bind,Sem.run_pure,Result.andThen_ok,hr];exact hK _ _ h
def tg:Array MapEntry:=#[⟨.string ⟨#[107,101,101,112]⟩,.func (.func 153) #[] #[],0⟩,⟨.string ⟨#[100,111]⟩,.func (.func 154) #[] #[],1⟩]
theorem Gr.setObj {w w':World} (g:Gr w w') (r:Nat) (o:Obj) (h:w.heap.size<=r):Gr w {w' with heap:=w'.heap.setIfInBounds r o}:=
 ⟨⟨g.b.os,g.b.tape,g.b.output,by simpa using g.b.size,λi hi=>by
  have:=g.b.block i hi;rw[<-this];exact Array.getElem?_setIfInBounds_ne Yi⟩,trivial⟩
theorem Fv (w:World):
  Calls prog 88 #[] w λe w'=>e= .returned (.map (some w.heap.size))/\w'.heap[w.heap.size]?=some (.map tg 2)/\Gr w w':=by
 have h0:(w.alloc (.map #[] 0)).heap[w.heap.size]?=some (.map #[] 0):=heap_alloc_new _ _;have h1:=Qi _ _ _ _ ⟨#[107,101,101,112]⟩ (.func (.func 153) #[] #[]) h0 rfl;have g1:=((Yu w).alloc (.map #[] 0)).setObj w.heap.size (.map ((#[]:Array MapEntry).push {key:= .string ⟨#[107,101,101,112]⟩,val:= .func (.func 153) #[] #[],born:=0}) (0+1)) (Yv _);have e1:=(MapKept.heap_set (o':= .map ((#[]:Array MapEntry).push {key:= .string ⟨#[107,101,101,112]⟩,val:= .func (.func 153) #[] #[],born:=0}) (0+1)) h0).1;obtain⟨W1,hW1⟩:∃W1:World,W1={w.alloc (.map #[] 0)with heap:=(w.alloc (.map #[] 0)).heap.setIfInBounds w.heap.size (.map ((#[]:Array MapEntry).push {key:= .string ⟨#[107,101,101,112]⟩,val:= .func (.func 153) #[] #[],born:=0}) (0+1))}:=⟨_,rfl⟩;rw[<-hW1]at h1 g1;have e1':W1.heap[w.heap.size]?=some (.map ((#[]:Array MapEntry).push {key:= .string ⟨#[107,101,101,112]⟩,val:= .func (.func 153) #[] #[],born:=0}) (0+1)):=by rw[hW1];exact e1
 have h2:=Qi _ _ _ _ ⟨#[100,111]⟩ (.func (.func 154) #[] #[]) e1' rfl;have g2:=g1.setObj w.heap.size (.map tg 2) (Yv _);have e2:=(MapKept.heap_set (o':= .map tg 2) e1').1;have h2':(Instr.mapUpdate 188 (.map (some w.heap.size)) (.string ⟨#[100,111]⟩) (.func (.func 154) #[] #[])).run prog W1= .ok () {W1 with heap:=W1.heap.setIfInBounds w.heap.size (.map tg 2)}:=h2;clear h2 h0 e1 e1' hW1;go_enter func88,ntmps88;go_upto_region 1 with (fail);have hmm:=@run_makeMap prog;apply wp_region_lit;refine wpList_plain rfl λ_ hK=>?_;go_simp;refine hK _ _ ?_;clear hK;refine zei rfl _ _ _ _ rfl _ _ _ rfl rfl rfl h1 ?_;refine zei rfl _ _ _ _ rfl _ _ _ rfl rfl rfl h2' ?_;go_wp2;go_ret;exact⟨rfl,e2,g2⟩
def R8 (v:Value) (u:World):Prop:=∃m,v= .map (some m)/\u.heap[m]?=some (.map tg 2)
theorem Ot (Lb base:Nat) (v:Value) (Q:List Q3) (x:Rc) (w:World) (_hL:w.heap[Lb]?=some (.cells #[v] 88 (0,0))) (hB:az w base v Q) (_hl:Q.length<=1000) (_hbs:base<=w.heap.size) (_hfit:∀q∈Q,q.k.fit) (hs:x.t.size<=1000) (tw:TW w) (ht:w.cell? ⟨7,15,none⟩=some (.int .u8 4)) (htb:7 < w.heap.size) (hF:ee x.t=none):
  Calls prog 34 #[Ym Lb,.agg #[Yp x.s,Yp x.k,Yp x.d,.string x.t]] w λe w'=>∃Q' r,e= .returned (Yp (r:Nat))/\(Q'.map Q3.k,r)=ay (Q.map Q3.k) (none)/\az w' base v Q'/\GrL v.ownBlock.toList w w':=by
 have gI:=(Yu w).alloc (.cells #[Yp x.s,Yp x.k,Yp x.d,.string x.t] 36);have h0:=ae w (.cells #[Yp x.s,Yp x.k,Yp x.d,.string x.t] 36);have PP:=Hd (ll x.t _ hs (tw.gr gI) ((gI.cells.1 _ _ htb).trans ht));have GI:=Hd gI;have HB:=Hd (hB.gr gI);obtain⟨c0,f0,z0⟩:=ed h0;have HFX:=Hd hF;clear gI h0 _hL hB _hbs _hfit tw ht htb hF;go_enter func34,ntmps34;go_wp2_with fail;refine(PP.out).mono ?_;rintro e w1 ⟨⟨x',rfl,hx⟩,g1⟩;rw[HFX.out]at hx ⊢;obtain⟨wd,n,s,a⟩:=x';have HG:=Hd (GI.out.trans g1);have G1:=Hd g1;clear c0 f0 z0 PP g1 hx;generalize w.alloc (.cells #[Yp x.s,Yp x.k,Yp x.d,.string x.t] 36)=U at *;obtain⟨C,hC⟩:∃C,(wh wd n s a)=C:=⟨_,rfl⟩;have hC3:C.size=20:=by rw[<-hC];rfl
 have hC4:C.all (·.oneCell')=true:=by rw[<-hC];simp[Value.oneCell']
 dsimp only;rw[hC];have HCE:=Hd hC;clear hC;go_simp;rename_i hK0;refine hK0 _ _ ?_;clear hK0;(iterate 4 refine wpList_plain rfl λ_ hK=>?_;go_simp;refine hK _ _ ?_;clear hK);have hqb:=ae w1 (.cells ff 90 (0,0));have gq:=(Yu w1).alloc (.cells ff 90 (0,0));refine wpList_store_row rfl _ _ _ rfl w1.heap.size C rfl rfl _ ff hqb (by rw[hC3];kernel_rfl) (by rw[hC3];rfl) hC4 ?_;have hb2:=setRow_heap _ w1.heap.size ff C _ _ hqb;have gp:=gq.setRow w1.heap.size C (Yv _);have HQ:=Hd hb2;have HGW:=Hd (HG.out.trans gp);have HGU:=Hd (G1.out.trans gp);clear hb2 gp gq hqb;generalize (w1.alloc (.cells ff 90 (0,0))).setRow w1.heap.size C=U2 at *;obtain⟨q,hq⟩:∃q,w1.heap.size=q:=⟨_,rfl⟩;rw[hq]at HQ ⊢;clear hq G1 HG;go_wp2;go_ret;exact⟨Q,95,rfl,rfl,(HB.out.gr HGU.out),GrL.of_gr HGW.out⟩
theorem Vl (Lb base:Nat) (v:Value) (Q:List Q3) (x:Rc) (w:World) (_hL:w.heap[Lb]?=some (.cells #[v] 88 (0,0))) (hB:az w base v Q) (_hl:Q.length<=1000) (_hbs:base<=w.heap.size) (_hfit:∀q∈Q,q.k.fit) (hs:x.t.size<=1000) (tw:TW w) (ht:w.cell? ⟨7,15,none⟩=some (.int .u8 4)) (htb:7 < w.heap.size) (m:Nat) (sx:S8) (hF:ee x.t=some (.new m sx)):
  Calls prog 34 #[Ym Lb,.agg #[Yp x.s,Yp x.k,Yp x.d,.string x.t]] w λe w'=>∃Q' r,e= .returned (Yp (r:Nat))/\(Q'.map Q3.k,r)=ay (Q.map Q3.k) (some (.new m sx))/\az w' base v Q'/\GrL v.ownBlock.toList w w':=by
 have gI:=(Yu w).alloc (.cells #[Yp x.s,Yp x.k,Yp x.d,.string x.t] 36);have h0:=ae w (.cells #[Yp x.s,Yp x.k,Yp x.d,.string x.t] 36);have PP:=Hd (ll x.t _ hs (tw.gr gI) ((gI.cells.1 _ _ htb).trans ht));have GI:=Hd gI;have HB:=Hd (hB.gr gI);obtain⟨c0,f0,z0⟩:=ed h0;have HFX:=Hd hF;clear gI h0 _hL hB _hbs _hfit tw ht htb hF;go_enter func34,ntmps34;go_wp2_with fail;refine(PP.out).mono ?_;rintro e w1 ⟨⟨x',rfl,hx⟩,g1⟩;rw[HFX.out]at hx ⊢;obtain⟨wd,n,s,a⟩:=x';have he:=hx _ rfl;injection he with e1 e2 e3 e4
 have e1:=e1.symm;have e2:=e2.symm;have e3:=e3.symm;have e4:=e4.symm;subst e1 e2 e3 e4;have HG:=Hd (GI.out.trans g1);have G1:=Hd g1;clear c0 f0 z0 PP g1 hx;generalize w.alloc (.cells #[Yp x.s,Yp x.k,Yp x.d,.string x.t] 36)=U at *;obtain⟨C,hC⟩:∃C,(wh ⟨#[110,101,119]⟩ (m:Int) sx n5)=C:=⟨_,rfl⟩;have hC3:C.size=20:=by rw[<-hC];rfl
 have hC4:C.all (·.oneCell')=true:=by rw[<-hC];simp[Value.oneCell']
 dsimp only;rw[hC];have HCE:=Hd hC;clear hC;go_simp;rename_i hK0;refine hK0 _ _ ?_;clear hK0;(iterate 4 refine wpList_plain rfl λ_ hK=>?_;go_simp;refine hK _ _ ?_;clear hK);have hqb:=ae w1 (.cells ff 90 (0,0));have gq:=(Yu w1).alloc (.cells ff 90 (0,0));refine wpList_store_row rfl _ _ _ rfl w1.heap.size C rfl rfl _ ff hqb (by rw[hC3];kernel_rfl) (by rw[hC3];rfl) hC4 ?_;have hb2:=setRow_heap _ w1.heap.size ff C _ _ hqb;have gp:=gq.setRow w1.heap.size C (Yv _);have HQ:=Hd hb2;have HGW:=Hd (HG.out.trans gp);have HGU:=Hd (G1.out.trans gp);clear hb2 gp gq hqb;generalize (w1.alloc (.cells ff 90 (0,0))).setRow w1.heap.size C=U2 at *;obtain⟨q,hq⟩:∃q,w1.heap.size=q:=⟨_,rfl⟩;rw[hq]at HQ ⊢;clear hq G1 HG;have hw:U2.cell? ⟨q,0,none⟩=some (.string ⟨#[110,101,119]⟩):=by
  obtain⟨cq,_,_⟩:=ed HQ.out;have:=cq 0;rw[<-HCE.out]at this;exact this
 go_wp2;go_ret;exact⟨Q,0,rfl,rfl,(HB.out.gr HGU.out),GrL.of_gr HGW.out⟩
theorem Ou (Lb base:Nat) (v:Value) (Q:List Q3) (x:Rc) (w:World) (hL:w.heap[Lb]?=some (.cells #[v] 88 (0,0))) (hB:az w base v Q) (hl:Q.length<=1000) (hbs:base<=w.heap.size) (_hfit:∀q∈Q,q.k.fit) (hs:x.t.size<=1000) (tw:TW w) (ht:w.cell? ⟨7,15,none⟩=some (.int .u8 4)) (htb:7 < w.heap.size) (m:Nat) (sx:S8) (hF:ee x.t=some (.keep m sx)):
  Calls prog 34 #[Ym Lb,.agg #[Yp x.s,Yp x.k,Yp x.d,.string x.t]] w λe w'=>∃Q' r,e= .returned (Yp (r:Nat))/\(Q'.map Q3.k,r)=ay (Q.map Q3.k) (some (.keep m sx))/\az w' base v Q'/\GrL v.ownBlock.toList w w':=by
 have gI:=(Yu w).alloc (.cells #[Yp x.s,Yp x.k,Yp x.d,.string x.t] 36);have h0:=ae w (.cells #[Yp x.s,Yp x.k,Yp x.d,.string x.t] 36);have PP:=Hd (ll x.t _ hs (tw.gr gI) ((gI.cells.1 _ _ htb).trans ht));have PC:Hid (∀u,Gr (w.alloc (.cells #[Yp x.s,Yp x.k,Yp x.d,.string x.t] 36)) u->Calls prog 153 #[Ym Lb,.agg (wh ⟨#[107,101,101,112]⟩ (m:Int) sx n5)] u (λe w'=>∃Q' r,e= .returned (Yp (r:Nat))/\(Q'.map Q3.k,r)=ay (Q.map Q3.k) (some (.keep m sx))/\az w' base v Q'/\GrL v.ownBlock.toList u w')):=Hd (λu g=>Tg Lb base v Q ⟨#[107,101,101,112]⟩ m sx.a0 sx.a1 sx.a2 sx.a3 sx.a4 sx.a5 sx.a6 sx.a7 n5.k n5.p n5.c.a0 n5.c.a1 n5.c.a2 n5.c.a3 n5.c.a4 n5.c.a5 n5.c.a6 n5.c.a7 u ((gI.trans g).heap hL) (hB.gr (gI.trans g)) hl (Nat.le_trans hbs (gI.trans g).b.size));have GI:=Hd gI;have HB:=Hd (hB.gr gI);obtain⟨c0,f0,z0⟩:=ed h0;have HFX:=Hd hF;clear gI h0 hL hB hbs _hfit tw ht htb hF;go_enter func34,ntmps34;go_wp2_with fail;refine(PP.out).mono ?_;rintro e w1 ⟨⟨x',rfl,hx⟩,g1⟩;rw[HFX.out]at hx ⊢;obtain⟨wd,n,s,a⟩:=x';have he:=hx _ rfl;injection he with e1 e2 e3 e4
 have e1:=e1.symm;have e2:=e2.symm;have e3:=e3.symm;have e4:=e4.symm;subst e1 e2 e3 e4;have HG:=Hd (GI.out.trans g1);have G1:=Hd g1;clear c0 f0 z0 PP g1 hx;generalize w.alloc (.cells #[Yp x.s,Yp x.k,Yp x.d,.string x.t] 36)=U at *;obtain⟨C,hC⟩:∃C,(wh ⟨#[107,101,101,112]⟩ (m:Int) sx n5)=C:=⟨_,rfl⟩;have hC3:C.size=20:=by rw[<-hC];rfl
 have hC4:C.all (·.oneCell')=true:=by rw[<-hC];simp[Value.oneCell']
 dsimp only;rw[hC];have HCE:=Hd hC;clear hC;go_simp;rename_i hK0;refine hK0 _ _ ?_;clear hK0;(iterate 4 refine wpList_plain rfl λ_ hK=>?_;go_simp;refine hK _ _ ?_;clear hK);have hqb:=ae w1 (.cells ff 90 (0,0));have gq:=(Yu w1).alloc (.cells ff 90 (0,0));refine wpList_store_row rfl _ _ _ rfl w1.heap.size C rfl rfl _ ff hqb (by rw[hC3];kernel_rfl) (by rw[hC3];rfl) hC4 ?_;have hb2:=setRow_heap _ w1.heap.size ff C _ _ hqb;have gp:=gq.setRow w1.heap.size C (Yv _);have HQ:=Hd hb2;have HGW:=Hd (HG.out.trans gp);have HGU:=Hd (G1.out.trans gp);clear hb2 gp gq hqb;generalize (w1.alloc (.cells ff 90 (0,0))).setRow w1.heap.size C=U2 at *;obtain⟨q,hq⟩:∃q,w1.heap.size=q:=⟨_,rfl⟩;rw[hq]at HQ ⊢;clear hq G1 HG;have hw:U2.cell? ⟨q,0,none⟩=some (.string ⟨#[107,101,101,112]⟩):=by
  obtain⟨cq,_,_⟩:=ed HQ.out;have:=cq 0;rw[<-HCE.out]at this;exact this
 have HW:=Hd hw;rw[HCE.out]at PC;go_upto_region 6 with (fail);clear hw;refine bz [6,7] [.sat R8,.val (Ym q),.val (.string ⟨#[107,101,101,112]⟩),.val (.func (.func 153) #[] #[]),.val (Ym Lb),.val (.agg C),.later,.later] Yh Yh (λV=>finT) ?_ ?_
 ·refine⟨?_,?_,?_,?_,?_,?_,?_,?_,trivial⟩
  ·refine⟨λv u u1 h g=>?_,λV u hu hk=>⟨Yh,?_⟩⟩
   ·obtain⟨mm,h1,h2⟩:=h;exact⟨mm,h1,g.heap h2⟩
   ·go_simp;refine(Fv u).mono ?_;rintro e w' ⟨rfl,h1,h2⟩;exact⟨_,rfl,⟨_,rfl,h1⟩,h2⟩
  iterate 2 ·(intro V u hu hk;refine⟨Yh,?_⟩;have hw2:=(hu.cells.1 q _ (ai HQ.out)).trans HW.out;go_simp;first | exact⟨rfl,Yu _⟩ | skip)
  ·intro V u hu hk;refine⟨Yh,?_⟩;obtain⟨mm,h1,h2⟩:=hk 0 R8 Yh Yh;have hlk:=J3 u mm tg 2 ⟨#[107,101,101,112]⟩ 0 (.func (.func 153) #[] #[]) h2 (by rfl);go_simp;exact⟨rfl,Yu _⟩
  ·(intro V u hu hk;refine⟨Yh,?_⟩;have hw2:=(hu.cells.1 q _ (ai HQ.out)).trans HW.out;go_simp;first | exact⟨rfl,Yu _⟩ | skip)
  ·intro V u hu hk;refine⟨Yh,?_⟩;refine ru 90 (.tmp 5) rfl q C ?_ _ _ _ (hu.heap HQ.out) underlying90 rfl (by rw[hC3];kernel_rfl);rfl
  iterate 2 ·trivial
 ·intro V u hg hs;have HU:=Hd (HGU.out.trans hg);have HWU:=Hd (HGW.out.trans hg);clear hs hg;refine⟨⟨some 26,_,_,_,_,_⟩,rfl,rfl,?_⟩;go_simp;refine(PC.out u HU.out).mono ?_;rintro e w' ⟨Q',r,rfl,h1,h2,h3⟩;have H1:=Hd h1;have H2:=Hd h2;have H3:=Hd ((GrL.of_gr HWU.out).trans h3);clear h1 h2 h3;go_simp;refine Fa.next ?_;refine⟨⟨some 4,_,_,_,_,_⟩,rfl,rfl,?_⟩;go_simp;refine Fa.fin ?_;go_wp2;go_ret;exact⟨Q',r,rfl,H1.out,H2.out,H3.out⟩
theorem V2 (Lb base:Nat) (v:Value) (Q:List Q3) (x:Rc) (w:World) (hL:w.heap[Lb]?=some (.cells #[v] 88 (0,0))) (hB:az w base v Q) (hl:Q.length<=1000) (hbs:base<=w.heap.size) (hfit:∀q∈Q,q.k.fit) (hs:x.t.size<=1000) (tw:TW w) (ht:w.cell? ⟨7,15,none⟩=some (.int .u8 4)) (htb:7 < w.heap.size) (m:Nat) (ax:Ac) (hac:ax.c.ok) (hF:ee x.t=some (.act m ax)):
  Calls prog 34 #[Ym Lb,.agg #[Yp x.s,Yp x.k,Yp x.d,.string x.t]] w λe w'=>∃Q' r,e= .returned (Yp (r:Nat))/\(Q'.map Q3.k,r)=ay (Q.map Q3.k) (some (.act m ax))/\az w' base v Q'/\GrL v.ownBlock.toList w w':=by
 have gI:=(Yu w).alloc (.cells #[Yp x.s,Yp x.k,Yp x.d,.string x.t] 36);have h0:=ae w (.cells #[Yp x.s,Yp x.k,Yp x.d,.string x.t] 36);have PP:=Hd (ll x.t _ hs (tw.gr gI) ((gI.cells.1 _ _ htb).trans ht));have PC:Hid (∀u,Gr (w.alloc (.cells #[Yp x.s,Yp x.k,Yp x.d,.string x.t] 36)) u->Calls prog 154 #[Ym Lb,.agg (wh ⟨#[100,111]⟩ (m:Int) S8.zero ax)] u (λe w'=>∃Q' r,e= .returned (Yp (r:Nat))/\(Q'.map Q3.k,r)=ay (Q.map Q3.k) (some (.act m ax))/\az w' base v Q'/\GrL v.ownBlock.toList u w')):=Hd (λu g=>Oc Lb base v Q ⟨#[100,111]⟩ m S8.zero.a0 S8.zero.a1 S8.zero.a2 S8.zero.a3 S8.zero.a4 S8.zero.a5 S8.zero.a6 S8.zero.a7 ax.k ax.p ax.c.a0 ax.c.a1 ax.c.a2 ax.c.a3 ax.c.a4 ax.c.a5 ax.c.a6 ax.c.a7 u ((gI.trans g).heap hL) (hB.gr (gI.trans g)) hl (Nat.le_trans hbs (gI.trans g).b.size) hfit hac);have GI:=Hd gI;have HB:=Hd (hB.gr gI);obtain⟨c0,f0,z0⟩:=ed h0;have HFX:=Hd hF;clear gI h0 hL hB hbs hfit tw ht htb hF;go_enter func34,ntmps34;go_wp2_with fail;refine(PP.out).mono ?_;rintro e w1 ⟨⟨x',rfl,hx⟩,g1⟩;rw[HFX.out]at hx ⊢;obtain⟨wd,n,s,a⟩:=x';have he:=hx _ rfl;injection he with e1 e2 e3 e4
 have e1:=e1.symm;have e2:=e2.symm;have e3:=e3.symm;have e4:=e4.symm;subst e1 e2 e3 e4;have HG:=Hd (GI.out.trans g1);have G1:=Hd g1;clear c0 f0 z0 PP g1 hx;generalize w.alloc (.cells #[Yp x.s,Yp x.k,Yp x.d,.string x.t] 36)=U at *;obtain⟨C,hC⟩:∃C,(wh ⟨#[100,111]⟩ (m:Int) S8.zero ax)=C:=⟨_,rfl⟩;have hC3:C.size=20:=by rw[<-hC];rfl
 have hC4:C.all (·.oneCell')=true:=by rw[<-hC];simp[Value.oneCell']
 dsimp only;rw[hC];have HCE:=Hd hC;clear hC;go_simp;rename_i hK0;refine hK0 _ _ ?_;clear hK0;(iterate 4 refine wpList_plain rfl λ_ hK=>?_;go_simp;refine hK _ _ ?_;clear hK);have hqb:=ae w1 (.cells ff 90 (0,0));have gq:=(Yu w1).alloc (.cells ff 90 (0,0));refine wpList_store_row rfl _ _ _ rfl w1.heap.size C rfl rfl _ ff hqb (by rw[hC3];kernel_rfl) (by rw[hC3];rfl) hC4 ?_;have hb2:=setRow_heap _ w1.heap.size ff C _ _ hqb;have gp:=gq.setRow w1.heap.size C (Yv _);have HQ:=Hd hb2;have HGW:=Hd (HG.out.trans gp);have HGU:=Hd (G1.out.trans gp);clear hb2 gp gq hqb;generalize (w1.alloc (.cells ff 90 (0,0))).setRow w1.heap.size C=U2 at *;obtain⟨q,hq⟩:∃q,w1.heap.size=q:=⟨_,rfl⟩;rw[hq]at HQ ⊢;clear hq G1 HG;have hw:U2.cell? ⟨q,0,none⟩=some (.string ⟨#[100,111]⟩):=by
  obtain⟨cq,_,_⟩:=ed HQ.out;have:=cq 0;rw[<-HCE.out]at this;exact this
 have HW:=Hd hw;rw[HCE.out]at PC;go_upto_region 6 with (fail);clear hw;refine bz [6,7] [.sat R8,.val (Ym q),.val (.string ⟨#[100,111]⟩),.val (.func (.func 154) #[] #[]),.val (Ym Lb),.val (.agg C),.later,.later] Yh Yh (λV=>finT) ?_ ?_
 ·refine⟨?_,?_,?_,?_,?_,?_,?_,?_,trivial⟩
  ·refine⟨λv u u1 h g=>?_,λV u hu hk=>⟨Yh,?_⟩⟩
   ·obtain⟨mm,h1,h2⟩:=h;exact⟨mm,h1,g.heap h2⟩
   ·go_simp;refine(Fv u).mono ?_;rintro e w' ⟨rfl,h1,h2⟩;exact⟨_,rfl,⟨_,rfl,h1⟩,h2⟩
  iterate 2 ·(intro V u hu hk;refine⟨Yh,?_⟩;have hw2:=(hu.cells.1 q _ (ai HQ.out)).trans HW.out;go_simp;first | exact⟨rfl,Yu _⟩ | skip)
  ·intro V u hu hk;refine⟨Yh,?_⟩;obtain⟨mm,h1,h2⟩:=hk 0 R8 Yh Yh;have hlk:=J3 u mm tg 2 ⟨#[100,111]⟩ 1 (.func (.func 154) #[] #[]) h2 (by rfl);go_simp;exact⟨rfl,Yu _⟩
  ·(intro V u hu hk;refine⟨Yh,?_⟩;have hw2:=(hu.cells.1 q _ (ai HQ.out)).trans HW.out;go_simp;first | exact⟨rfl,Yu _⟩ | skip)
  ·intro V u hu hk;refine⟨Yh,?_⟩;refine ru 90 (.tmp 5) rfl q C ?_ _ _ _ (hu.heap HQ.out) underlying90 rfl (by rw[hC3];kernel_rfl);rfl
  iterate 2 ·trivial
 ·intro V u hg hs;have HU:=Hd (HGU.out.trans hg);have HWU:=Hd (HGW.out.trans hg);clear hs hg;refine⟨⟨some 26,_,_,_,_,_⟩,rfl,rfl,?_⟩;go_simp;refine(PC.out u HU.out).mono ?_;rintro e w' ⟨Q',r,rfl,h1,h2,h3⟩;have H1:=Hd h1;have H2:=Hd h2;have H3:=Hd ((GrL.of_gr HWU.out).trans h3);clear h1 h2 h3;go_simp;refine Fa.next ?_;refine⟨⟨some 4,_,_,_,_,_⟩,rfl,rfl,?_⟩;go_simp;refine Fa.fin ?_;go_wp2;go_ret;exact⟨Q',r,rfl,H1.out,H2.out,H3.out⟩
theorem V0 (Lb base:Nat) (v:Value) (Q:List Q3) (x:Rc) (w:World) (hL:w.heap[Lb]?=some (.cells #[v] 88 (0,0))) (hB:az w base v Q) (hl:Q.length<=1000) (hbs:base<=w.heap.size) (hfit:∀q∈Q,q.k.fit) (hs:x.t.size<=1000) (tw:TW w) (ht:w.cell? ⟨7,15,none⟩=some (.int .u8 4)) (htb:7 < w.heap.size):
  Calls prog 34 #[Ym Lb,.agg #[Yp x.s,Yp x.k,Yp x.d,.string x.t]] w λe w'=>∃Q' r,e= .returned (Yp (r:Nat))/\(Q'.map Q3.k,r)=ay (Q.map Q3.k) (ee x.t)/\az w' base v Q'/\GrL v.ownBlock.toList w w':=by
 cases hF:ee x.t with
 | none=>exact Ot Lb base v Q x w hL hB hl hbs hfit hs tw ht htb hF
 | some f=>cases f with
  | new m sx=>exact Vl Lb base v Q x w hL hB hl hbs hfit hs tw ht htb m sx hF
  | keep m sx=>exact Ou Lb base v Q x w hL hB hl hbs hfit hs tw ht htb m sx hF
  | act m ax=>exact V2 Lb base v Q x w hL hB hl hbs hfit hs tw ht htb m ax (cu hF).1.2.2.1 hF
end
section
open Go.RowKit Go.Shelf Go.Lib Go.Sort
def I4 (a b:Q3):Int:=jo a.k.id b.k.id
theorem cmpK_lt (a b:Q3):I4 a b < 0↔a.k.id < b.k.id:=by
 unfold I4 jo
 repeat' split
 all_goals omega
theorem Bp (a b:Q3):ltOf I4 a b=decide (a.k.id < b.k.id):=by
 unfold ltOf;exact decide_eq_decide.2 (cmpK_lt a b)
theorem Zw:SWO (ltOf I4) where
 irrefl x:=by rw[Bp];simp
 trans x y z h1 h2:=by rw[Bp]at *;simp only[decide_eq_true_eq]at *;omega
 ntrans x y z h1 h2:=by rw[Bp]at *;simp only[decide_eq_false_iff_not]at *;omega
theorem told1_D (a b:Q3) (w:World):Calls prog 32 #[.agg a.cs.toArray,.agg b.cs.toArray] w λe w'=>e= .returned (Yp (I4 a b))/\GD w w':=by
 unfold I4;obtain⟨⟨i,z,st,⟨p0,p1,p2,p3,p4,p5,p6,p7⟩,L,A⟩,sp,sa⟩:=a;obtain⟨⟨i2,z2,st2,⟨q0,q1,q2,q3,q4,q5,q6,q7⟩,L2,A2⟩,sp2,sa2⟩:=b;unfold Q3.cs;dsimp only;generalize sp.v=v1;generalize sa.v=v2;generalize sp2.v=v3;generalize sa2.v=v4;have bx:=ae w (.cells #[Yp i,Yp z,Yp st,p0,p1,p2,p3,p4,p5,p6,p7,v1,v2] 47);have by_:=ae (w.alloc (.cells #[Yp i,Yp z,Yp st,p0,p1,p2,p3,p4,p5,p6,p7,v1,v2] 47)) (.cells #[Yp i2,Yp z2,Yp st2,q0,q1,q2,q3,q4,q5,q6,q7,v3,v4] 47);have bx:=((Yu _).alloc (.cells #[Yp i2,Yp z2,Yp st2,q0,q1,q2,q3,q4,q5,q6,q7,v3,v4] 47)).heap bx;have g0:=((GD.refl w).alloc (.cells #[Yp i,Yp z,Yp st,p0,p1,p2,p3,p4,p5,p6,p7,v1,v2] 47)).alloc (.cells #[Yp i2,Yp z2,Yp st2,q0,q1,q2,q3,q4,q5,q6,q7,v3,v4] 47);simp only[World.size_alloc]at by_;obtain⟨cx,fx,zx⟩:=ed bx;obtain⟨cy,fy,zy⟩:=ed by_;have CI:=Hd (λu=>ml i i2 u);go_enter func32,ntmps32;go_wp2_with (go_at_call 33;refine(CI.out _).mono ?_;rintro e w1 ⟨rfl,rfl⟩);go_ret;exact⟨rfl,g0⟩
theorem I0 (g size:Nat) (w:World):CmpLays prog 32 #[] Q3.cs 13 I4 g 0 size w:=
 λ_ _ _ _ x y=>(told1_D x y _).mono λ_ _ ⟨he,hg⟩=>⟨he,hg.grow⟩
theorem ze2 (base g cap:Nat) (l:List Q3) (w:World) (hr:w.ownsRow base 47 13 (.slice (Yn g) l.length cap) l.length (l.flatMap Q3.cs)) (hl:l.length<=1000000):
  Calls prog 31 #[.slice (Yn g) l.length cap,.func (.func 32) #[] #[]] w λe w'=>e= .returned (.tuple #[])/\∃l':List Q3,l'.Perm l/\(l'.Pairwise λa b=>¬b.k.id < a.k.id)/\w'.ownsRow base 47 13 (.slice (Yn g) l.length cap) l'.length (l'.flatMap Q3.cs)/\GrL [g] w w':=by
 have eg:∀args w,(callFunc 32 args).run prog w= .ok (.enter 32 args) w:=enters_of func32 Yh rfl;have hg:g < w.heap.size:=(hr.lt g rfl).2;have hH:=sq Q3.cs 13 Q3.cs_len Yi hr;have C:=AnyQ.slices_SortFunc Tryz.sortKept 13 Tryz.isAgg47 Tryz.sizeOf47 Q3.cs Q3.cs_len Q3.cs_one I4 Zw 32 #[] g 0 cap l.toArray w eg (I0 g _ w) hH hg (by simp;omega);rw[List.size_toArray]at C;refine C.mono ?_;rintro e w' ⟨rfl,d',n,os,hp,hs,rfl⟩;have hp':PermIn 0 l.toArray.size l.toArray d':=by simpa using hp
 have hd:d'.size=l.length:=by simpa using hp'.1
 obtain⟨o1,o2⟩:=Ai Q3.cs 13 Q3.cs_len Yi hr d' hd n os;refine⟨rfl,d'.toList,Cw hp',?_,?_,o2⟩
 ·have hs':SortedIn (ltOf I4) 0 d'.size d':=by rw[hd];exact hs
  refine(uz hs').imp ?_;intro a b h;rw[Bp]at h;simpa using h
 ·have:d'.toList.length=l.length:=by simpa using hd
  rw[this];exact o1
theorem Y0 (base:Nat) (v:Value) (l:List Q3) (w:World) (hr:w.ownsRow base 47 13 v l.length (l.flatMap Q3.cs)) (hl:l.length<=1000000):
  Calls prog 31 #[v,.func (.func 32) #[] #[]] w λe w'=>e= .returned (.tuple #[])/\∃l':List Q3,l'.Perm l/\(l'.Pairwise λa b=>¬b.k.id < a.k.id)/\w'.ownsRow base 47 13 v l'.length (l'.flatMap Q3.cs)/\GrL v.ownBlock.toList w w':=by
 have hr':=hr;rcases hr.2 with ⟨rfl,hz⟩ | ⟨g,cap,cur,rfl,_⟩
 ·obtain rfl:=List.eq_nil_of_length_eq_zero hz;refine(AnyF.slices_SortFunc_none Tryz.sortKept none 0 _ w).mono ?_;rintro e w' ⟨rfl,rfl⟩;exact⟨rfl,[],List.Perm.refl _,List.Pairwise.nil,World.ownsRow_nil _ _ _ _,GrL.of_gr (Yu _)⟩
 ·exact(ze2 base g cap l w hr' hl).mono λe w' ⟨h,l',h1,h2,h3,h4⟩=>⟨h,l',h1,h2,h3,h4⟩
end
section
open Go.RowKit Go.Shelf Go.Lib
theorem fv {w w':World} {base:Nat} {T:TypeId} {k:Nat} {v:Value} {n:Nat} {xs:List Value} {l:List Nat} (h:w.ownsRow base T k v n xs) (g:GrL l w w') (hn:∀b,v.ownBlock=some b->b∉l):w'.ownsRow base T k v n xs:=by
 refine⟨h.1,?_⟩;rcases h.2 with h0 | ⟨b,cap,cur,rfl,hb,hg,hr⟩
 ·exact .inl h0
 ·exact .inr ⟨b,cap,cur,rfl,hb,(g.block b (ai hg) (hn b rfl)).trans hg,hr⟩
theorem T9:(prog.info? 47).map (λi=>(i.zero,i.size,i.bytes))=some (some (.agg Ze),13,136):=Yh
theorem wj:El 47 25 13 136:=⟨underlying25,by
 obtain⟨i0,h1,h2,h3,h4⟩:=info_parts T9;exact⟨i0,_,h1,h2,h3,h4,rfl⟩,Yk,Tryz.sizeOf47⟩
def mk0 (k:Kp):Q3:=⟨k,⟨none,0,0⟩,⟨none,0,0⟩⟩
def Kp.new (k:Kp):Prop:=k.pieces=[]/\k.acts=[]
theorem zaV (w:World) (base:Nat) {k:Kp} (h:k.new):QOk w base (mk0 k):=by
 obtain⟨h1,h2⟩:=h;refine⟨?_,?_⟩
 ·show w.ownsRow base 39 8 (.slice none 0 0) k.pieces.length (k.pieces.flatMap S8.cs);rw[h1];exact World.ownsRow_nil _ _ _ _
 ·show w.ownsRow base 54 10 (.slice none 0 0) k.acts.length (k.acts.flatMap Ac.cs);rw[h2];exact World.ownsRow_nil _ _ _ _
theorem Dd {x:Rc} {k:Kp} (h:ku x=some k):k.new:=by
 unfold ku at h;split at h
 ·cases h;exact⟨rfl,rfl⟩
 ·cases h
theorem Kk (l:List Rc):∀k∈jk l,k.new:=λk hk=>by
 obtain⟨x,_,h⟩:=List.mem_filterMap.1 hk;exact Dd h
theorem Q5 (k:Kp):(mk0 k).k=k:=rfl
theorem H4 (K:List Kp):(K.map mk0).map Q3.k=K:=by
 rw[List.map_map];exact List.map_id K
theorem J1 {l:List Rc} (hid:Y5 l) {l':List Q3} (hp:l'.Perm ((jk l).map mk0)) (hs:l'.Pairwise λa b=>¬b.k.id < a.k.id):l'=(bj l).map mk0:=by
 have h1:(l'.map Q3.k).Perm (jk l):=by
  have:=hp.map Q3.k;rw[H4]at this;exact this
 have h2:(l'.map Q3.k).Pairwise λa b=>¬b.id < a.id:=List.pairwise_map.2 hs;have h3:(bj l).Pairwise λa b=>a.id < b.id:=zbW hid;have h4:(l'.map Q3.k).Perm (bj l):=h1.trans (ie l).symm;have key:∀a b:Kp,a∈bj l->b∈bj l->¬b.id < a.id->¬a.id < b.id->a=b:=λa b ha hb hab hba=>by
  obtain⟨i,hi,rfl⟩:=List.mem_iff_getElem.1 ha;obtain⟨j,hj,rfl⟩:=List.mem_iff_getElem.1 hb;rw[List.pairwise_iff_getElem]at h3;rcases Nat.lt_trichotomy i j with h | rfl | h
  ·exact absurd (h3 i j hi hj h) hba
  ·rfl
  ·exact absurd (h3 j i hj hi h) hab
 have h5:l'.map Q3.k=bj l:=by
  refine List.Perm.eq_of_pairwise (le:=λa b=>¬b.id < a.id) ?_ h2 (h3.imp λh=>by omega) h4;intro a b ha hb hab hba;exact key a b (h4.mem_iff.1 ha) hb hab hba
 have h6:∀q∈l',q=mk0 q.k:=λq hq=>by
  obtain⟨k,_,rfl⟩:=List.mem_map.1 (hp.mem_iff.1 hq);rfl
 rw[<-h5,List.map_map]
 conv=>lhs;rw[<-List.map_id l']
 exact List.map_congr_left λq hq=>h6 q hq
theorem Eg {K:List Kp} (h:∀k∈K,k.fit) {F:Option Fm} (hF:∀f,F=some f->f.ok):∀k∈(ay K F).1,k.fit:=by
 cases F with
 | none=>exact h
 | some f=>
  have hf:=hF f rfl;cases f with
  | new n s=>exact h
  | keep n s=>
   intro k hk;cases ho:gh K n with
   | none=>simp only[ay,ho]at hk;exact h k hk
   | some i=>
    by_cases h8:8<=(K.getD i default).pieces.length
    ·simp only[ay,ho,if_pos h8]at hk;exact h k hk
    ·simp only[ay,ho,if_neg h8]at hk;rcases List.mem_or_eq_of_mem_set hk with hk | rfl
     ·exact h k hk
     ·have hi:i < K.length:=Kp.many_le ho;have hg:=h _ (show K.getD i default∈K by rw[List.getD_eq_getElem?_getD,List.getElem?_eq_getElem hi];exact List.getElem_mem hi);refine⟨λs' hs'=>?_,hg.2⟩;rcases List.mem_append.1 hs' with hs' | hs'
      ·exact hg.1 s' hs'
      ·rw[List.mem_singleton.1 hs'];exact hf.2.2.1
  | act n a=>
   intro k hk;cases ho:gh K n with
   | none=>simp only[ay,ho]at hk;exact h k hk
   | some i=>
    by_cases h8:Mn (K.getD i default) a=0
    ·simp only[ay,ho,if_pos h8]at hk;rcases List.mem_or_eq_of_mem_set hk with hk | rfl
     ·exact h k hk
     ·have hi:i < K.length:=Kp.many_le ho;have hg:=h _ (show K.getD i default∈K by rw[List.getD_eq_getElem?_getD,List.getElem?_eq_getElem hi];exact List.getElem_mem hi);refine⟨hg.1,λs' hs'=>?_⟩;rcases List.mem_append.1 hs' with hs' | hs'
      ·exact hg.2 s' hs'
      ·rw[List.mem_singleton.1 hs'];exact hf.2.2.1
    ·simp only[ay,ho,if_neg h8]at hk;exact h k hk
end
end Go.Proofs.YtimcfaoabaflkaaGreatDoor
