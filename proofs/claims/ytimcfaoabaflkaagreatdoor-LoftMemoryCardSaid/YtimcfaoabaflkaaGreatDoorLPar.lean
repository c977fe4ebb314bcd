/- loft: parsed. -/
import Derived.Test.YtimcfaoabaflkaaGreatDoorTrO
namespace Go.Proofs.YtimcfaoabaflkaaGreatDoor
open AbBase
open AbA AbI
set_option maxHeartbeats 16000000
set_option maxRecDepth 100000
open Go.Proofs.Tryz
open Go.RowKit Go.Shelf Go.Lib
theorem Xq {P:Prop} (h:P:=by
 refine⟨λv u2 u3 h g=>g.heap h,λV u2 hu hj hk=>⟨Yh,?_⟩⟩;refine ju (R:=(λu2=>GrL [p] w4 u2)) (J:=(λu2=>u2.heap[p]?=some (.cells cz 90 (0,0)))) (dj:=[8]) (k:=8) (drop:=[]) (V:=V) (u:=u2) Yh Yh ?_;have hj8:=hj Yh;exact mf _ _ _ rfl p E rfl rfl _ cz hj8 (by rw[hE1];kernel_rfl) (by rw[hcz,hE1]) hE2 ⟨setRow_heap u2 p cz _ _ _ hj8,GrL.setRow hu p _ (Or.inr Yj)⟩):P:=h
def jx (s:ByteArray):List ByteArray:=Lib.splitB ⟨#[32]⟩ 0 (min 3 (s.size+1) - 1) s
theorem SplitN3 (s:ByteArray) (w:World) (hs:s.size<=100000) (tw:TW w):
  Calls prog 81 #[.string s,.string ⟨#[32]⟩,Yp 3] w λe w'=>e= .returned (.slice (Yn w.heap.size) (jx s).length (min 3 (s.size+1)))/\w'.heap[w.heap.size]?=some (.cells (Lib.cellsOf (jx s) (min 3 (s.size+1))) 9 (0,0))/\Gr w w':=by
 obtain⟨m,hm⟩:=tw.m;refine(Tryz.strings_SplitN s ⟨#[32]⟩ 3 m w Yi hm Yk Yk Yk).mono ?_;rintro e w' ⟨rfl,rfl⟩;exact⟨rfl,ae _ _,(Yu _).alloc _⟩
theorem Sq (s:ByteArray) (a b c:ByteArray) (h:jx s=[a,b,c]) {u:World} {g:Nat} (hg:u.heap[g]?=some (.cells (Lib.cellsOf (jx s) (min 3 (s.size+1))) 9 (0,0))) (hz:2<=s.size):
  u.heap[g]?=some (.cells #[.string a,.string b,.string c] 9 (0,0)):=by
 rw[hg,h,show min 3 (s.size+1)=3 by omega];rfl
theorem mf {P:Program} {F:Value->World->Prop} {R:World->Prop} {o:Oper} {a:Act} {w:World} (ty:TypeId) (x y:Operand) (ho:o.op= .store ty x y) (g:Nat) (cells:Array Value) (hx:a.eval x= .pointer (Yn g)) (hy:a.eval y= .agg cells)
  (t:TypeId) (old:Array Value) (hg:w.heap[g]?=some (.cells old t (0,0))) (hi:(P.info? ty).map (·.size)=some cells.size) (hold:old.size=cells.size) (h1:cells.all (·.oneCell')=true)
  (h:F undef (w.setRow g cells)/\R (w.setRow g cells)):ii P F R ((execOp a.eval o).run P w):=by
 unfold execOp;simp only[ho,hx,hy,Instr.storeAt,Instr.sureAddr,Sem.run_bind,Sem.run_pure,Result.andThen_ok,run_storeVar_row w g t ty old cells hg hi hold h1];exact h
theorem ru {P:Program} {o:Oper} {a:Act} {w:World} (ty:TypeId) (x:Operand) (ho:o.op= .load ty x) (g:Nat) (cells:Array Value) (hx:a.eval x= .pointer (Yn g)) (t:TypeId) (fr:Nat×Nat) (d:TypeDesc) (hg:w.heap[g]?=some (.cells cells t fr))
  (hu:P.underlying ty=some d) (hd:(match d with | .struct _ | .array _ _=>true | _=>false)=true) (hi:(P.info? ty).map (·.size)=some cells.size):Mx P (.agg cells) (Gr w) ((execOp a.eval o).run P w):=by
 have:=run_loadVar_row (P:=P) w g t ty cells fr d hg hu hd hi;unfold execOp;simp only[ho,hx,Instr.loadAt,Instr.sureAddr,Sem.run_bind,Sem.run_pure,Result.andThen_ok,this];exact⟨rfl,Yu _⟩
theorem Gr.setRow {w w':World} (g:Gr w w') (p:Nat) (C:Array Value) (h:w.heap.size<=p):Gr w (w'.setRow p C):=
 GrL.gr (Yu w) (GrL.setRow (GrL.of_gr (l:=[]) g) p C (Or.inl h)) (λi hi=>by simp at hi)
theorem ky {w:World} {p b:Nat} (C:Array Value) (h:b≠p):(w.setRow p C).heap[b]?=w.heap[b]?:=by
 have e:(w.setRow p C).heap=w.heap.modify p fun | .cells _ elem frozen=> .cells C elem frozen | o=>o:=rfl;rw[e,Array.getElem?_modify,if_neg (Ne.symm h)]
def EntAt (lo:Nat) (v:Value) (u:World):Prop:=∃q c,v= .pointer (Yn q)/\(lo<=q/\(u.heap[q]?=some (.cells c 90 (0,0))/\c.size=20))
abbrev ff:Array Value:=Za
theorem zbw:ff.all (·.oneCell')=true:=by simp[Value.oneCell']
theorem setS8 {w u:World} {q:Nat} {x0 x1 x2 x3 x4 x5 x6 x7 x8 x9 x10 x11 x12 x13 x14 x15 x16 x17 x18 x19:Value} {T:TypeId} (s0 s1 s2 s3 s4 s5 s6 s7:Value) (h:u.heap[q]?=some (.cells #[x0,x1,x2,x3,x4,x5,x6,x7,x8,x9,x10,x11,x12,x13,x14,x15,x16,x17,x18,x19] T (0,0))) (hg:Gr w u) (hq:w.heap.size<=q):
  ∃V,(((((((u.setCell (Yo q 2) (s0)).setCell (Yo q 3) (s1)).setCell (Yo q 4) (s2)).setCell (Yo q 5) (s3)).setCell (Yo q 6) (s4)).setCell (Yo q 7) (s5)).setCell (Yo q 8) (s6)).setCell (Yo q 9) (s7)=V/\V.heap[q]?=some (.cells #[x0,x1,s0,s1,s2,s3,s4,s5,s6,s7,x10,x11,x12,x13,x14,x15,x16,x17,x18,x19] T (0,0))/\Gr w V/\∀g,g≠q->V.heap[g]?=u.heap[g]?:=by
 have k (v:World) (i g:Nat) (x:Value) (h:g≠q):(v.setCell (Yo q i) x).heap[g]?=v.heap[g]?:=Below.heap_setCell _ ⟨q,i,none⟩ _ _ h;refine⟨_,rfl,?_,((((((((hg.set ⟨q,2,none⟩ (s0) hq).set ⟨q,3,none⟩ (s1) hq).set ⟨q,4,none⟩ (s2) hq).set ⟨q,5,none⟩ (s3) hq).set ⟨q,6,none⟩ (s4) hq).set ⟨q,7,none⟩ (s5) hq).set ⟨q,8,none⟩ (s6) hq).set ⟨q,9,none⟩ (s7) hq),λg h=>?_⟩
 ·have:=(af (i:=9) (s7) (af (i:=8) (s6) (af (i:=7) (s5) (af (i:=6) (s4) (af (i:=5) (s3) (af (i:=4) (s2) (af (i:=3) (s1) (af (i:=2) (s0) h))))))));simpa using this
 ·rw[k _ _ _ _ h,k _ _ _ _ h,k _ _ _ _ h,k _ _ _ _ h,k _ _ _ _ h,k _ _ _ _ h,k _ _ _ _ h,k _ _ _ _ h]
theorem zab {w u:World} {q:Nat} {x0 x1 x2 x3 x4 x5 x6 x7 x8 x9 x10 x11 x12 x13 x14 x15 x16 x17 x18 x19:Value} {T:TypeId} (a0 a1 a2 a3 a4 a5 a6 a7 a8 a9:Value) (h:u.heap[q]?=some (.cells #[x0,x1,x2,x3,x4,x5,x6,x7,x8,x9,x10,x11,x12,x13,x14,x15,x16,x17,x18,x19] T (0,0))) (hg:Gr w u) (hq:w.heap.size<=q):
  ∃V,(((((((((u.setCell (Yo q 10) (a0)).setCell (Yo q 11) (a1)).setCell (Yo q 12) (a2)).setCell (Yo q 13) (a3)).setCell (Yo q 14) (a4)).setCell (Yo q 15) (a5)).setCell (Yo q 16) (a6)).setCell (Yo q 17) (a7)).setCell (Yo q 18) (a8)).setCell (Yo q 19) (a9)=V/\V.heap[q]?=some (.cells #[x0,x1,x2,x3,x4,x5,x6,x7,x8,x9,a0,a1,a2,a3,a4,a5,a6,a7,a8,a9] T (0,0))/\Gr w V/\∀g,g≠q->V.heap[g]?=u.heap[g]?:=by
 have k (v:World) (i g:Nat) (x:Value) (h:g≠q):(v.setCell (Yo q i) x).heap[g]?=v.heap[g]?:=Below.heap_setCell _ ⟨q,i,none⟩ _ _ h;refine⟨_,rfl,?_,((((((((((hg.set ⟨q,10,none⟩ (a0) hq).set ⟨q,11,none⟩ (a1) hq).set ⟨q,12,none⟩ (a2) hq).set ⟨q,13,none⟩ (a3) hq).set ⟨q,14,none⟩ (a4) hq).set ⟨q,15,none⟩ (a5) hq).set ⟨q,16,none⟩ (a6) hq).set ⟨q,17,none⟩ (a7) hq).set ⟨q,18,none⟩ (a8) hq).set ⟨q,19,none⟩ (a9) hq),λg h=>?_⟩
 ·have:=(af (i:=19) (a9) (af (i:=18) (a8) (af (i:=17) (a7) (af (i:=16) (a6) (af (i:=15) (a5) (af (i:=14) (a4) (af (i:=13) (a3) (af (i:=12) (a2) (af (i:=11) (a1) (af (i:=10) (a0) h))))))))));simpa using this
 ·rw[k _ _ _ _ h,k _ _ _ _ h,k _ _ _ _ h,k _ _ _ _ h,k _ _ _ _ h,k _ _ _ _ h,k _ _ _ _ h,k _ _ _ _ h,k _ _ _ _ h,k _ _ _ _ h]
def ParH (w:World) (al:List UInt8) (c:ByteArray) (n:Int) (res:Value):Prop:=
 (∃(
  s0 s1 s2 s3 s4 s5 s6 s7:Nat) (er:Int),((al == [110,101,119])=true\/((al == [110,101,119])=false/\(al == [107,101,101,112])=true))/\(∀u,Gr w u->Calls prog 83 #[.string c] u λe w'=>e= .returned (.tuple #[.agg #[s0,s1,s2,s3,s4,s5,s6,s7],Yp er])/\Gr u w')/\
  (([s0,s1,s2,s3,s4,s5,s6,s7]=aq/\res= .tuple #[.agg ff,.bool false])\/([s0,s1,s2,s3,s4,s5,s6,s7]≠aq/\res= .tuple #[.agg #[.string ⟨al.toArray⟩,Yp n,s0,s1,s2,s3,s4,s5,s6,s7,Ys 0,Yp 0,Yq 0,Yq 0,Yq 0,Yq 0,Yq 0,Yq 0,Yq 0,Yq 0],.bool (decide (er=0) && (decide (1<=n) && decide (n<=1000000)))])))\/
 (∃(
  k:Nat) (pc:Int) (c0 c1 c2 c3 c4 c5 c6 c7:Nat) (er:Int),((al == [110,101,119])=false/\(al == [107,101,101,112])=false/\(al == [100,111])=true)/\(∀u,Gr w u->Calls prog 84 #[.string c] u λe w'=>e= .returned (.tuple #[.agg #[Ys k,Yp pc,c0,c1,c2,c3,c4,c5,c6,c7],Yp er])/\Gr u w')/\
  res= .tuple #[.agg #[.string ⟨al.toArray⟩,Yp n,Yq 0,Yq 0,Yq 0,Yq 0,Yq 0,Yq 0,Yq 0,Yq 0,Ys k,Yp pc,c0,c1,c2,c3,c4,c5,c6,c7],.bool (decide (er=0) && (decide (1<=n) && decide (n<=1000000)))])\/
 (((al == [110,101,119])=false/\(al == [107,101,101,112])=false/\(al == [100,111])=false)/\res= .tuple #[.agg ff,.bool false])
theorem Bk {w u:World} {b:Nat} {cz:Array Value} {T:TypeId} (cs:Array Value) (h:u.heap[b]?=some (.cells cz T (0,0))) (hg:Gr w u) (hb:w.heap.size=b):∃V,u.setRow b cs=V/\V.heap[b]?=some (.cells cs T (0,0))/\Gr w V:=
 ⟨_,rfl,setRow_heap u b cz cs _ _ h,hg.setRow b cs Yi⟩
theorem Cx (t:ByteArray) (res:Value) (w:World) (hs:t.size<=100000) (tw:TW w)
  (H:((jx t).length < 3/\res= .tuple #[.agg ff,.bool false])\/∃al b c n,jx t=[⟨al.toArray⟩,b,c]/\2<=t.size/\b.size<=100000/\jh b.data.toList=n/\ParH w al c n res):
  Calls prog 30 #[.string t] w λe w'=>e= .returned res/\Gr w w':=by
 have SP:=hid (λw' (g:Gr w w')=>SplitN3 t w' hs (tw.gr g));have NUM:=hid (fun(b:ByteArray) (hb:b.size<=100000) u (g:Gr w u)=>Kj b u hb (tw.gr g));have HH:=hid H;clear hs tw H;go_enter func30,ntmps30;go_upto_region 1 with (fail);generalize hX:Obj.cells _ 90 (0,0)=X;have hX2:∃c:Array Value,X= .cells c 90 (0,0)/\c.size=20:=⟨_,hX.symm,rfl⟩;clear hX;obtain⟨cz,rfl,hcz⟩:=hX2;obtain⟨U0,hU0,h0,gi⟩:∃U,w.alloc (.cells cz 90 (0,0))=U/\U.heap[w.heap.size]?=some (.cells cz 90 (0,0))/\Gr w U:=⟨_,rfl,ae w _,(Yu w).alloc _⟩;rw[hU0];have GI:=hid gi;have H0:=hid h0;clear hU0 h0 gi;obtain⟨p,hp⟩:∃p,w.heap.size=p:=⟨_,rfl⟩;have HPW:=hid hp;rw[hp]at H0;rw[hp];clear hp;go_wp2_with fail;refine(SP.out _ GI.out).mono ?_;rintro e w1 ⟨rfl,br,g1⟩;have G1:=hid (GI.out.trans g1);have K0:=hid (g1.heap H0.out);clear g1 SP GI H0;rcases HH.out with ⟨hl,hrs⟩ | ⟨al,b,c,n,hl,hz2,hbs,hn,H⟩
 case' inl=>
  have HRS:=hid hrs;have hl':((jx t).length:Int) < 3:=Yi;have K:=K0;have G:=G1;clear br hrs HH;generalize min 3 (t.size+1)=mc at *;generalize jx t=ws at *;go_upto_region 3 with (fail)
 case' inr=>
  clear HH;have NM:=hid (NUM.out b hbs);rw[hn]at NM;have hll:(jx t).length=3:=by rw[hl];rfl
  have hcap:min 3 (t.size+1)=3:=Yi;obtain⟨kb,hkb⟩:∃k,U0.heap.size=k:=⟨_,rfl⟩;rw[hkb]at br ⊢;have BR:=hid (Sq _ _ _ _ hl br hz2);have HH:=hid H;rw[hcap,hll];clear br hkb hl hz2 hn hbs NUM H hcap hll;go_upto_region 4 with (fail);refine bz [9] [.val (.slice (Yn kb) 3 3),.val (Ym kb),.val (.string ⟨al.toArray⟩),.val (.slice (Yn kb) 3 3),.val (.pointer (some ⟨kb,1,none⟩)),.val (.string b),.val (Yp n),.val (.agg (Zr al n)),.sat (EntAt w1.heap.size),.later] Yh Yh (λV=>finT) ?_ ?_
  ·refine⟨?_,?_,?_,?_,?_,?_,?_,?_,?_,?_,trivial⟩
   iterate 6 ·(intro V u hu hk;refine⟨Yh,?_⟩;obtain⟨cb,fb,zb⟩:=ed (hu.heap BR.out);go_simp;first | exact⟨rfl,Yu _⟩ | skip)
   ·(intro V u hu hk;refine⟨Yh,?_⟩;obtain⟨cb,fb,zb⟩:=ed (hu.heap BR.out);go_simp;first | exact⟨rfl,Yu _⟩ | skip)
    exact NM.out _ (G1.out.trans hu)
   ·(intro V u hu hk;refine⟨Yh,?_⟩;obtain⟨cb,fb,zb⟩:=ed (hu.heap BR.out);go_simp;first | exact⟨rfl,Yu _⟩ | skip)
   ·refine⟨λv u u1 h g=>?_,λV u hu hk=>⟨Yh,?_⟩⟩
    ·obtain⟨q,c,h1,h2,h3,h4⟩:=h;exact⟨q,c,h1,h2,g.heap h3,h4⟩
    ·go_simp;exact⟨⟨_,_,rfl,hu.b.size,ae _ _,rfl⟩,(Yu _).alloc _⟩
   ·trivial
  intro V u hg hs;obtain⟨q,cq,e8,hq,hqb,hcq⟩:=hs 8 (EntAt w1.heap.size) rfl;have hpw:p < w1.heap.size:=ai K0.out;have hkw:kb < w1.heap.size:=ai BR.out;obtain⟨U2,hU2,f1,f2,f3,f4⟩:∃V,u.setRow q (Zr al n)=V/\V.heap[q]?=some (.cells (Zr al n) 90 (0,0))/\V.heap[p]?=some (.cells cz 90 (0,0))/\V.heap[kb]?=some (.cells #[.string ⟨al.toArray⟩,.string b,.string c] 9 (0,0))/\Gr w V:=
   ⟨_,rfl,setRow_heap u q cq (Zr al n) _ _ hqb,(ky _ Yi).trans (hg.heap K0.out),(ky _ Yi).trans (hg.heap BR.out),(G1.out.trans hg).setRow q _ (by have:=G1.out.b.size;omega)⟩
  have HQ:=hid f1;have HK:=hid f2;have HB:=hid f3;have HGU:=hid f4;have HNQ:=hid (show p≠q by omega);have HGQ:=hid (show w.heap.size<=q by have:=HPW.out;have:=G1.out.b.size;omega);refine⟨⟨none,_,_,_,_,_⟩,rfl,rfl,?_⟩;refine wp_store_row _ _ _ rfl q (Zr al n) e8 rfl _ cq hqb Yh hcq (by simp[Value.oneCell']) ?_;refine Fa.fin ?_;rw[hU2];clear hs hqb hg G1 K0 BR NM hU2 f1 f2 f3 f4;generalize V 8=v8 at *;subst e8;obtain⟨cb,fb,zb⟩:=ed HB.out;obtain⟨cq_,fq_,zq_⟩:=ed HQ.out;go_simp;have H:=HH.out;clear HH;refine H.elim (λH=>?sol) (λH=>?rest)
  case' sol=>
   obtain⟨s0,s1,s2,s3,s4,s5,s6,s7,er,hw,hr,hz⟩:=H;have HR:=hid hr;have HZ:=hid hz;clear hr hz;rcases hw with hb1 | ⟨hb1,hb2⟩
   all_goals
    go_wp2_with fail;refine(HR.out _ HGU.out).mono ?_;rintro e w3 ⟨rfl,g3⟩;obtain⟨cq_,fq_,zq_⟩:=ed (g3.heap HQ.out);go_upto_region 11 with (fail);obtain⟨w4,h4,q4,g4,kp⟩:=setS8 s0 s1 s2 s3 s4 s5 s6 s7 (g3.heap HQ.out) (HGU.out.trans g3) HGQ.out;have HQ9:=hid q4;have K:=hid ((kp _ HNQ.out).trans (g3.heap HK.out));have G:=hid g4;rw[h4];clear cq_ fq_ zq_ g4 kp h4 HQ HK HB HGU g3 HR cb fb zb;rcases HZ.out with ⟨hz,hrs⟩ | ⟨hz,hrs⟩
    case' inl=>
     have HRS:=hid hrs;obtain⟨cq_,fq_,zq_⟩:=ed HQ9.out;have he:∀u,(Op.equalIn 10000 39 (.agg #[s0,s1,s2,s3,s4,s5,s6,s7]) (.agg Zc)).run prog u= .ok true u:=λu=>(ge s0 s1 s2 s3 s4 s5 s6 s7 0 0 0 0 0 0 0 0 u).trans (congrArg (λb=>Result.ok b u) (decide_eq_true hz));clear hz hrs HZ;go_upto_region 12 with (fail);clear cq_ fq_ zq_ he HQ9
    case' inr=>
     have HRS:=hid hrs;obtain⟨cq_,fq_,zq_⟩:=ed HQ9.out;have he:∀u,(Op.equalIn 10000 39 (.agg #[s0,s1,s2,s3,s4,s5,s6,s7]) (.agg Zc)).run prog u= .ok false u:=λu=>(ge s0 s1 s2 s3 s4 s5 s6 s7 0 0 0 0 0 0 0 0 u).trans (congrArg (λb=>Result.ok b u) (decide_eq_false hz));clear hz hrs HZ;go_upto_region 15 with (fail);clear cq_ fq_ zq_ he;obtain⟨E,hE,hE1,hE2,hE3⟩:∃E:Array Value,(#[.string ⟨al.toArray⟩,Yp n,s0,s1,s2,s3,s4,s5,s6,s7,Ys 0,Yp 0,Yq 0,Yq 0,Yq 0,Yq 0,Yq 0,Yq 0,Yq 0,Yq 0]:Array Value)=E/\E.size=20/\E.all (·.oneCell')=true/\E[1]?=some (.int .i64 n):=⟨_,rfl,rfl,by simp[Value.oneCell'],rfl⟩;rw[hE]at HQ9 HRS;clear hE
  case' rest=>
   refine H.elim (λH=>?act) (λH=>?oth)
   case' act=>
    obtain⟨k,pc,c0,c1,c2,c3,c4,c5,c6,c7,er,⟨hb1,hb2,hb3⟩,hr,hrs⟩:=H;have HR:=hid hr;have HRS:=hid hrs;clear hr hrs;go_wp2_with fail;refine(HR.out _ HGU.out).mono ?_;rintro e w3 ⟨rfl,g3⟩;obtain⟨cq_,fq_,zq_⟩:=ed (g3.heap HQ.out);go_upto_region 15 with (fail);obtain⟨w4,h4,q4,g4,kp⟩:=zab (Ys k) (Yp pc) c0 c1 c2 c3 c4 c5 c6 c7 (g3.heap HQ.out) (HGU.out.trans g3) HGQ.out;have HQ9:=hid q4;have K:=hid ((kp _ HNQ.out).trans (g3.heap HK.out));have G:=hid g4;rw[h4];clear cq_ fq_ zq_ g4 kp h4 HQ HK HB HGU g3 HR cb fb zb;obtain⟨E,hE,hE1,hE2,hE3⟩:∃E:Array Value,(#[.string ⟨al.toArray⟩,Yp n,Yq 0,Yq 0,Yq 0,Yq 0,Yq 0,Yq 0,Yq 0,Yq 0,Ys k,Yp pc,c0,c1,c2,c3,c4,c5,c6,c7]:Array Value)=E/\E.size=20/\E.all (·.oneCell')=true/\E[1]?=some (.int .i64 n):=⟨_,rfl,rfl,by simp[Value.oneCell'],rfl⟩;rw[hE]at HQ9 HRS;clear hE
   case' oth=>
    obtain⟨⟨hb1,hb2,hb3⟩,hrs⟩:=H;have HRS:=hid hrs;have K:=HK;have G:=HGU;clear hrs HK HGU;go_upto_region 7 with (fail);clear cb fb zb cq_ fq_ zq_
 all_goals try
  fail_if_success (have hE5:=hE1)
  apply wp_region_lit;refine wpList_build rfl _ _ rfl Yh ?_;generalize hC:Option.getD _ #[]=C;have hC2:C=ff:=hC.symm.trans Yh;clear hC;have hC3:C.size=20:=by rw[hC2];rfl
  have hC4:C.all (·.oneCell')=true:=by rw[hC2];exact zbw
  refine wpList_store_row rfl _ _ _ rfl p C rfl rfl _ cz K.out (by rw[hC3];kernel_rfl) (by rw[hcz,hC3]) hC4 ?_;obtain⟨V9,h9,hb2,gp⟩:=Bk C K.out G.out HPW.out
  try simp only[Act.put]
  rw[h9];have HC2:=hid hC2;clear hC2;go_wp2;have hld:=run_loadVar_row (P:=prog) V9 p 90 90 C (0,0) _ hb2 underlying90 rfl (by rw[hC3];kernel_rfl);exact bodyPost_ret (v:= .tuple #[.agg C,.bool false]) (by simp[results,results30,asAddr,hld]) rfl ⟨by rw[HRS.out,HC2.out],gp⟩
 all_goals
  by_cases her:er=0
  ·subst her;refine mu (λu2=>GrL [p] w4 u2) (λu2=>u2.heap[p]?=some (.cells cz 90 (0,0))) [8] (λu2 u3 h g=>h.trans (GrL.of_gr g)) (λu2 u3 h g=>g.heap h) (GrL.of_gr (Yu _)) K.out Yh
    [.val (.agg E),.val (Yp 0),.val (.bool true),.val (.bool true),.val (.pointer (some ⟨q,1,none⟩)),.val (Yp n),.val (.bool (decide (1<=n) && decide (n<=1000000))),.val (.bool (decide (1<=n) && decide (n<=1000000))),.turn (λ_ u2=>u2.heap[p]?=some (.cells E 90 (0,0))) [],.val (.bool (decide (1<=n) && decide (n<=1000000)))] Yh Yh (λV=>finT) ?_ ?_
   ·refine⟨?_,?_,?_,?_,?_,?_,?_,?_,?_,?_,trivial⟩
    ·intro V u2 hu hj hk;refine⟨Yh,?_⟩;exact ru _ _ rfl q E rfl _ _ _ ((hu.block q (ai HQ9.out) (by simpa using Ne.symm HNQ.out)).trans HQ9.out) underlying90 rfl (by rw[hE1];kernel_rfl)
    iterate 3 ·(intro V u2 hu hj hk;refine⟨Yh,?_⟩;obtain⟨cq_,fq_,zq_⟩:=ed ((hu.block q (ai HQ9.out) (by simpa using Ne.symm HNQ.out)).trans HQ9.out);go_simp;first | exact⟨rfl,Yu _⟩ | skip)
    ·(intro V u2 hu hj hk;refine⟨Yh,?_⟩;obtain⟨cq_,fq_,zq_⟩:=ed ((hu.block q (ai HQ9.out) (by simpa using Ne.symm HNQ.out)).trans HQ9.out);go_simp;first | exact⟨rfl,Yu _⟩ | skip)
    ·(intro V u2 hu hj hk;refine⟨Yh,?_⟩;obtain⟨cq_,fq_,zq_⟩:=ed ((hu.block q (ai HQ9.out) (by simpa using Ne.symm HNQ.out)).trans HQ9.out);go_simp;first | exact⟨rfl,Yu _⟩ | skip)
     exact⟨(Array.getElem?_eq_some_iff.1 hE3).2,Yu _⟩
    ·(intro V u2 hu hj hk;refine⟨Yh,?_⟩;obtain⟨cq_,fq_,zq_⟩:=ed ((hu.block q (ai HQ9.out) (by simpa using Ne.symm HNQ.out)).trans HQ9.out);go_simp;first | exact⟨rfl,Yu _⟩ | skip)
     exact gz n 1 1000000 _
    ·(intro V u2 hu hj hk;refine⟨Yh,?_⟩;obtain⟨cq_,fq_,zq_⟩:=ed ((hu.block q (ai HQ9.out) (by simpa using Ne.symm HNQ.out)).trans HQ9.out);go_simp;first | exact⟨rfl,Yu _⟩ | skip)
    ·exact Xq
    ·(intro V u2 hu hj hk;refine⟨Yh,?_⟩;obtain⟨cq_,fq_,zq_⟩:=ed ((hu.block q (ai HQ9.out) (by simpa using Ne.symm HNQ.out)).trans HQ9.out);go_simp;first | exact⟨rfl,Yu _⟩ | skip)
   ·intro V u hR hs;have hb9:=hs 8 (λ_ u2=>u2.heap[p]?=some (.cells E 90 (0,0))) rfl;have gp:Gr w u:=GrL.gr G.out hR (λi hi=>by obtain rfl:=List.mem_singleton.1 hi;exact Nat.le_of_eq HPW.out);go_simp;go_wp2;have hld:=run_loadVar_row (P:=prog) u p 90 90 _ (0,0) _ hb9 underlying90 rfl (by rw[hE1];kernel_rfl);exact bodyPost_ret (v:= .tuple #[.agg E,.bool (decide (1<=n) && decide (n<=1000000))]) (by simp[results,results30,asAddr,hld]) rfl ⟨by rw[HRS.out];simp,gp⟩
  ·have her':(er == 0)=false:=by simpa using her
   refine mu (λu2=>GrL [p] w4 u2) (λu2=>u2.heap[p]?=some (.cells cz 90 (0,0))) [8] (λu2 u3 h g=>h.trans (GrL.of_gr g)) (λu2 u3 h g=>g.heap h) (GrL.of_gr (Yu _)) K.out Yh
    [.val (.agg E),.val (Yp er),.val (.bool false),.val (.bool false),.off,.off,.off,.val (.bool false),.turn (λ_ u2=>u2.heap[p]?=some (.cells E 90 (0,0))) [],.val (.bool false)] Yh Yh (λV=>finT) ?_ ?_
   ·refine⟨?_,?_,?_,?_,?_,?_,?_,?_,?_,?_,trivial⟩
    ·intro V u2 hu hj hk;refine⟨Yh,?_⟩;exact ru _ _ rfl q E rfl _ _ _ ((hu.block q (ai HQ9.out) (by simpa using Ne.symm HNQ.out)).trans HQ9.out) underlying90 rfl (by rw[hE1];kernel_rfl)
    iterate 3 ·(intro V u2 hu hj hk;refine⟨Yh,?_⟩;obtain⟨cq_,fq_,zq_⟩:=ed ((hu.block q (ai HQ9.out) (by simpa using Ne.symm HNQ.out)).trans HQ9.out);go_simp;first | exact⟨rfl,Yu _⟩ | skip)
    iterate 3 ·(intro V u2 hu hj hk;show _=false;kernel_rfl)
    ·(intro V u2 hu hj hk;refine⟨Yh,?_⟩;obtain⟨cq_,fq_,zq_⟩:=ed ((hu.block q (ai HQ9.out) (by simpa using Ne.symm HNQ.out)).trans HQ9.out);go_simp;first | exact⟨rfl,Yu _⟩ | skip)
    ·exact Xq
    ·(intro V u2 hu hj hk;refine⟨Yh,?_⟩;obtain⟨cq_,fq_,zq_⟩:=ed ((hu.block q (ai HQ9.out) (by simpa using Ne.symm HNQ.out)).trans HQ9.out);go_simp;first | exact⟨rfl,Yu _⟩ | skip)
   ·intro V u hR hs;have hb9:=hs 8 (λ_ u2=>u2.heap[p]?=some (.cells E 90 (0,0))) rfl;have gp:Gr w u:=GrL.gr G.out hR (λi hi=>by obtain rfl:=List.mem_singleton.1 hi;exact Nat.le_of_eq HPW.out);go_simp;go_wp2;have hld:=run_loadVar_row (P:=prog) u p 90 90 _ (0,0) _ hb9 underlying90 rfl (by rw[hE1];kernel_rfl);exact bodyPost_ret (v:= .tuple #[.agg E,.bool false]) (by simp[results,results30,asAddr,hld]) rfl ⟨by rw[HRS.out];simp[her],gp⟩
end Go.Proofs.YtimcfaoabaflkaaGreatDoor
