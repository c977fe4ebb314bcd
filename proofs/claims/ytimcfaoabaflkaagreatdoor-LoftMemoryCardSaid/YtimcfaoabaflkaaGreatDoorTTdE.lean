/- Told of both sides, where Order finds a fault. -/
import Derived.Test.YtimcfaoabaflkaaGreatDoorRTd
namespace Go.Proofs.YtimcfaoabaflkaaGreatDoor
open AbBase AbTrV
open AbA AbI
set_option maxHeartbeats 16000000
set_option maxRecDepth 100000
open Go.Proofs.Tryz
section
open Go.RowKit Go.Shelf Go.Lib
theorem zcb (n:Int) (v:Value) (e0:Int) (w:World) (h0:e0≠0) (hc:∀u,Gr w u->Calls prog 16 #[Yp n,v] u λe w'=>e= .returned (.tuple #[.slice none 0 0,Yp e0])/\Gr u w'):
  Calls prog 8 #[Yp n,v] w λe w'=>e= .returned (.tuple #[.agg #[.slice none 0 0],.slice none 0 0,Yp e0])/\Gr w w':=by
 have g0:=(Yu w).alloc (.cells #[.slice none 0 0] 27);have h1:=ae w (.cells #[.slice none 0 0] 27);have OY:=hid (hc _ g0);have G0:=hid g0;have H0:=hid h1;have h2:(e0 == 0)=false:=by simpa using h0
 have h3:decide (e0=0)=false:=by simpa using h0
 clear g0 h1 hc;go_enter func8,ntmps8;go_wp2_with fail;refine(OY.out).mono ?_;rintro e w1 ⟨rfl,g1⟩;have HB:=hid (g1.heap H0.out);have HG:=hid (G0.out.trans g1);obtain⟨cb,fb,zb⟩:=ed HB.out;clear g1 OY G0 H0;go_wp2_with fail;clear cb fb zb;have f2:=heap_setCell_same w1 w.heap.size 0 _ _ (.slice none 0 0) HB.out;have gr2:Gr w (w1.setCell (Yo w.heap.size 0) (.slice none 0 0)):=GrL.gr (Yu w) ((GrL.of_gr (l:=[]) HG.out).set _ _ (Or.inl (Yv _))) (λb hb=>by simp at hb);have hld:=run_loadVar_row (P:=prog) _ w.heap.size 27 27 _ (0,0) _ f2 underlying27 rfl Yh;exact bodyPost_ret (v:= .tuple #[.agg #[.slice none 0 0],.slice none 0 0,Yp e0]) (by simp[results,results8,asAddr,hld]) rfl ⟨rfl,gr2⟩
theorem zeX (n:Int) (v:Value) (e0:Int) (w:World) (h0:e0≠0) (hc:∀u,Gr w u->Calls prog 18 #[Yp n,v] u λe w'=>e= .returned (.tuple #[.slice none 0 0,Yp e0])/\Gr u w'):
  Calls prog 9 #[Yp n,v] w λe w'=>e= .returned (.tuple #[.agg #[.slice none 0 0],.slice none 0 0,Yp e0])/\Gr w w':=by
 have g0:=(Yu w).alloc (.cells #[.slice none 0 0] 27);have h1:=ae w (.cells #[.slice none 0 0] 27);have OY:=hid (hc _ g0);have G0:=hid g0;have H0:=hid h1;have h2:(e0 == 0)=false:=by simpa using h0
 have h3:decide (e0=0)=false:=by simpa using h0
 clear g0 h1 hc;go_enter func9,ntmps9;go_wp2_with fail;refine(OY.out).mono ?_;rintro e w1 ⟨rfl,g1⟩;have HB:=hid (g1.heap H0.out);have HG:=hid (G0.out.trans g1);obtain⟨cb,fb,zb⟩:=ed HB.out;clear g1 OY G0 H0;go_wp2_with fail;clear cb fb zb;have f2:=heap_setCell_same w1 w.heap.size 0 _ _ (.slice none 0 0) HB.out;have gr2:Gr w (w1.setCell (Yo w.heap.size 0) (.slice none 0 0)):=GrL.gr (Yu w) ((GrL.of_gr (l:=[]) HG.out).set _ _ (Or.inl (Yv _))) (λb hb=>by simp at hb);have hld:=run_loadVar_row (P:=prog) _ w.heap.size 27 27 _ (0,0) _ f2 underlying27 rfl Yh;exact bodyPost_ret (v:= .tuple #[.agg #[.slice none 0 0],.slice none 0 0,Yp e0]) (by simp[results,results9,asAddr,hld]) rfl ⟨rfl,gr2⟩
theorem U8 (c0 c1 c2 c3 c4 c5 c6 c7:Nat) (w:World):(Op.equalIn 9999 39 (Av c0 c1 c2 c3 c4 c5 c6 c7) (Av c0 c1 c2 c3 c4 c5 c6 c7)).run prog w= .ok true w:=by
 have hu:=underlying39;obtain⟨i,hi⟩:=Option.isSome_iff_exists.1 (show(prog.info? 37).isSome=true by kernel_rfl);have hc:prog.cellsOf 37=1:=Yh;rw[show(9999:Nat)=9998+1 from rfl,run_equalIn_array w 9998 _ _ hu hi];have h8:List.range 8=[0,1,2,3,4,5,6,7]:=rfl;rw[hc,h8];simp[Op.eqItems,go_sem]
theorem neq_act (k:Nat) (pc:Int) (c0 c1 c2 c3 c4 c5 c6 c7:Nat) (u:World):(binOp .neq 54 (zb3 k pc c0 c1 c2 c3 c4 c5 c6 c7) (zb3 k pc c0 c1 c2 c3 c4 c5 c6 c7)).run prog u= .ok (.bool false) u:=by
 have h:=U8 c0 c1 c2 c3 c4 c5 c6 c7;go_simp
theorem Qk {w:World} {a:Option Addr} {L:List Ac} {cap:Nat} (h:bo w 10 (.slice a L.length cap) (L.map Ac.cs)) (i:Nat) (hi:i < L.length):∃g o,a=some ⟨g,o,none⟩/\g < w.heap.size/\∀j x,(L[i].cs)[j]?=some x->w.cell? ⟨g,o+i * 10+j,none⟩=some x:=by
 obtain⟨a',cap',e,h2,h3⟩:=h;rw[List.length_map]at e;cases e;obtain⟨g,o,e1,e2,e3⟩:=h3 i (by simpa using hi);exact⟨g,o,e1,e2,λj x hx=>e3 j x (by simpa using hx)⟩
theorem Qj {w:World} {a:Option Addr} {L:List S8} {cap:Nat} (h:bo w 8 (.slice a L.length cap) (L.map S8.cs)) (i:Nat) (hi:i < L.length):∃g o,a=some ⟨g,o,none⟩/\g < w.heap.size/\∀j x,(L[i].cs)[j]?=some x->w.cell? ⟨g,o+i * 8+j,none⟩=some x:=by
 obtain⟨a',cap',e,h2,h3⟩:=h;rw[List.length_map]at e;cases e;obtain⟨g,o,e1,e2,e3⟩:=h3 i (by simpa using hi);exact⟨g,o,e1,e2,λj x hx=>e3 j x (by simpa using hx)⟩
theorem Hq (x y:Value) (A:List Ac) (w:World) (hx:bo w 10 x (A.map Ac.cs)) (hy:bo w 10 y (A.map Ac.cs)) (hl:A.length<=1000000):
  Calls prog 93 #[x,y] w λe w'=>e= .returned (.bool true)/\Gr w w':=by
 obtain⟨a,c,rfl,_,_⟩:=id hx;obtain⟨a',c',rfl,_,_⟩:=id hy;rw[List.length_map]at hx hy ⊢;have HX:=hid (λi hi=>Qk hx i hi);have HY:=hid (λi hi=>Qk hy i hi);clear hx hy;go_enter func93,ntmps93;go_wp2;go_loopw [5] (λu wr=>∃i:Nat,u= .int .i64 i/\i<=A.length/\Gr w wr) (λu _=>A.length - (intOf u).toNat)
 case atStart=>exact⟨0,rfl,Yi,Yu _⟩
 case round=>
  obtain⟨i,rfl,hi,gr⟩:=hrel
  by_cases hil:i < A.length
  ·have hil':(i:Int) < A.length:=Yi;have hi0:(0:Int)<=i:=Yi;obtain⟨g,o,rfl,hg,hc⟩:=HX.out i hil;obtain⟨g',o',rfl,hg',hc'⟩:=HY.out i hil;generalize A[i]=x at *;have CX:=hid (λu (g2:Gr w u)=>show u.cell? ⟨g,o+i * 10,none⟩=some (.int .u8 x.k)/\u.cell? ⟨g,o+i * 10+1,none⟩=some (.int .i64 x.p)/\u.cell? ⟨g,o+i * 10+2,none⟩=some (.int .u64 x.c.a0)/\u.cell? ⟨g,o+i * 10+3,none⟩=some (.int .u64 x.c.a1)/\u.cell? ⟨g,o+i * 10+4,none⟩=some (.int .u64 x.c.a2)/\u.cell? ⟨g,o+i * 10+5,none⟩=some (.int .u64 x.c.a3)/\u.cell? ⟨g,o+i * 10+6,none⟩=some (.int .u64 x.c.a4)/\u.cell? ⟨g,o+i * 10+7,none⟩=some (.int .u64 x.c.a5)/\u.cell? ⟨g,o+i * 10+8,none⟩=some (.int .u64 x.c.a6)/\u.cell? ⟨g,o+i * 10+9,none⟩=some (.int .u64 x.c.a7)from⟨(g2.cells.1 g _ hg).trans (hc 0 _ rfl),(g2.cells.1 g _ hg).trans (hc 1 _ rfl),(g2.cells.1 g _ hg).trans (hc 2 _ rfl),(g2.cells.1 g _ hg).trans (hc 3 _ rfl),(g2.cells.1 g _ hg).trans (hc 4 _ rfl),(g2.cells.1 g _ hg).trans (hc 5 _ rfl),(g2.cells.1 g _ hg).trans (hc 6 _ rfl),(g2.cells.1 g _ hg).trans (hc 7 _ rfl),(g2.cells.1 g _ hg).trans (hc 8 _ rfl),(g2.cells.1 g _ hg).trans (hc 9 _ rfl)⟩);have CY:=hid (λu (g2:Gr w u)=>show u.cell? ⟨g',o'+i * 10,none⟩=some (.int .u8 x.k)/\u.cell? ⟨g',o'+i * 10+1,none⟩=some (.int .i64 x.p)/\u.cell? ⟨g',o'+i * 10+2,none⟩=some (.int .u64 x.c.a0)/\u.cell? ⟨g',o'+i * 10+3,none⟩=some (.int .u64 x.c.a1)/\u.cell? ⟨g',o'+i * 10+4,none⟩=some (.int .u64 x.c.a2)/\u.cell? ⟨g',o'+i * 10+5,none⟩=some (.int .u64 x.c.a3)/\u.cell? ⟨g',o'+i * 10+6,none⟩=some (.int .u64 x.c.a4)/\u.cell? ⟨g',o'+i * 10+7,none⟩=some (.int .u64 x.c.a5)/\u.cell? ⟨g',o'+i * 10+8,none⟩=some (.int .u64 x.c.a6)/\u.cell? ⟨g',o'+i * 10+9,none⟩=some (.int .u64 x.c.a7)from⟨(g2.cells.1 g' _ hg').trans (hc' 0 _ rfl),(g2.cells.1 g' _ hg').trans (hc' 1 _ rfl),(g2.cells.1 g' _ hg').trans (hc' 2 _ rfl),(g2.cells.1 g' _ hg').trans (hc' 3 _ rfl),(g2.cells.1 g' _ hg').trans (hc' 4 _ rfl),(g2.cells.1 g' _ hg').trans (hc' 5 _ rfl),(g2.cells.1 g' _ hg').trans (hc' 6 _ rfl),(g2.cells.1 g' _ hg').trans (hc' 7 _ rfl),(g2.cells.1 g' _ hg').trans (hc' 8 _ rfl),(g2.cells.1 g' _ hg').trans (hc' 9 _ rfl)⟩);have HG:=hid gr;have NA:=neq_act x.k x.p x.c.a0 x.c.a1 x.c.a2 x.c.a3 x.c.a4 x.c.a5 x.c.a6 x.c.a7;clear hc hc' gr;go_upto_region 6 with (fail);refine ah [.val (.slice (some ⟨g,o,none⟩) A.length c),.val (Yp i),.val (.pointer (some ⟨g,o+i * 10,none⟩)),.val (.agg #[Ys x.k,Yp x.p,x.c.a0,x.c.a1,x.c.a2,x.c.a3,x.c.a4,x.c.a5,x.c.a6,x.c.a7]),.val (.slice (some ⟨g',o',none⟩) A.length c'),.val (Yp i),.val (.pointer (some ⟨g',o'+i * 10,none⟩)),.val (.agg #[Ys x.k,Yp x.p,x.c.a0,x.c.a1,x.c.a2,x.c.a3,x.c.a4,x.c.a5,x.c.a6,x.c.a7]),.val (.bool false)] Yh Yh (λV=>finT) ?_ ?_
   ·refine⟨?_,?_,?_,?_,?_,?_,?_,?_,?_,trivial⟩
    all_goals (intro V u hu hk;refine⟨Yh,?_⟩;obtain⟨a0,a1,a2,a3,a4,a5,a6,a7,a8,a9⟩:=CX.out u (HG.out.trans hu);obtain⟨d0,d1,d2,d3,d4,d5,d6,d7,d8,d9⟩:=CY.out u (HG.out.trans hu);first | exact⟨rfl,Yu _⟩ | (go_simp;first | exact⟨rfl,Yu _⟩ | skip))
   ·intro V u hg2 hs;have HG2:=hid (HG.out.trans hg2);clear hs hg2 NA;go_wp2_with fail;exact⟨⟨i+1,Yj,Yi,HG2.out⟩,by simp[intOf];omega⟩
  ·have hil':¬(i:Int) < A.length:=Yi;go_wp2_with fail;go_ret;exact⟨rfl,gr⟩
theorem Qy (c0 c1 c2 c3 c4 c5 c6 c7:Nat) (u:World):(binOp .neq 39 (Av c0 c1 c2 c3 c4 c5 c6 c7) (Av c0 c1 c2 c3 c4 c5 c6 c7)).run prog u= .ok (.bool false) u:=by
 have h:=ge c0 c1 c2 c3 c4 c5 c6 c7 c0 c1 c2 c3 c4 c5 c6 c7 u;rw[decide_eq_true rfl]at h;go_simp
theorem Ay (p0 p1 p2 p3 p4 p5 p6 p7:Nat) (x y:Value) (L:List S8) (w:World) (hx:bo w 8 x (L.map S8.cs)) (hy:bo w 8 y (L.map S8.cs)) (hl:L.length<=1000000):
  Calls prog 92 #[.agg #[p0,p1,p2,p3,p4,p5,p6,p7,x],.agg #[p0,p1,p2,p3,p4,p5,p6,p7,y]] w λe w'=>e= .returned (.bool true)/\Gr w w':=by
 obtain⟨a,c,rfl,_,_⟩:=id hx;obtain⟨a',c',rfl,_,_⟩:=id hy;rw[List.length_map]at hx hy;rw[List.length_map];have h0:=((Yu _).alloc (.cells #[p0,p1,p2,p3,p4,p5,p6,p7,.slice a' L.length c'] 42)).heap (ae w (.cells #[p0,p1,p2,p3,p4,p5,p6,p7,.slice a L.length c] 42));have h1:=ae (w.alloc (.cells #[p0,p1,p2,p3,p4,p5,p6,p7,.slice a L.length c] 42)) (.cells #[p0,p1,p2,p3,p4,p5,p6,p7,.slice a' L.length c'] 42);have gI:=((Yu w).alloc (.cells #[p0,p1,p2,p3,p4,p5,p6,p7,.slice a L.length c] 42)).alloc (.cells #[p0,p1,p2,p3,p4,p5,p6,p7,.slice a' L.length c'] 42);rw[World.size_alloc]at h1;have H0:=hid h0;have H1:=hid h1;have GI:=hid gI;have HX:=hid (λi hi=>Qj hx i hi);have HY:=hid (λi hi=>Qj hy i hi);have NS:=Qy p0 p1 p2 p3 p4 p5 p6 p7;clear hx hy h0 h1 gI;obtain⟨x0,y0,z0⟩:=ed H0.out;obtain⟨x1,y1,z1⟩:=ed H1.out;go_enter func92,ntmps92;go_wp2;clear x0 y0 z0 x1 y1 z1 NS;generalize (w.alloc (.cells #[p0,p1,p2,p3,p4,p5,p6,p7,.slice a L.length c] 42)).alloc (.cells #[p0,p1,p2,p3,p4,p5,p6,p7,.slice a' L.length c'] 42)=W at *;obtain⟨b,hb⟩:∃b,w.heap.size=b:=⟨_,rfl⟩;rw[hb]at H0 H1;rw[hb];clear hb;go_loopw [5] (λu wr=>∃i:Nat,u= .int .i64 i/\i<=L.length/\Gr W wr) (λu _=>L.length - (intOf u).toNat)
 case atStart=>exact⟨0,rfl,Yi,Yu _⟩
 case round=>
  obtain⟨i,rfl,hi,gr⟩:=hrel;have HG:=hid gr;clear gr;obtain⟨x0,y0,z0⟩:=ed (HG.out.heap H0.out)
  by_cases hil:i < L.length
  ·have hil':(i:Int) < L.length:=Yi;have hi0:(0:Int)<=i:=Yi;obtain⟨g,o,rfl,hg,hc⟩:=HX.out i hil;obtain⟨g',o',rfl,hg',hc'⟩:=HY.out i hil;generalize L[i]=x at *;have CX:=hid (λu (g2:Gr w u)=>show u.cell? ⟨g,o+i * 8,none⟩=some (.int .u64 x.a0)/\u.cell? ⟨g,o+i * 8+1,none⟩=some (.int .u64 x.a1)/\u.cell? ⟨g,o+i * 8+2,none⟩=some (.int .u64 x.a2)/\u.cell? ⟨g,o+i * 8+3,none⟩=some (.int .u64 x.a3)/\u.cell? ⟨g,o+i * 8+4,none⟩=some (.int .u64 x.a4)/\u.cell? ⟨g,o+i * 8+5,none⟩=some (.int .u64 x.a5)/\u.cell? ⟨g,o+i * 8+6,none⟩=some (.int .u64 x.a6)/\u.cell? ⟨g,o+i * 8+7,none⟩=some (.int .u64 x.a7)from⟨(g2.cells.1 g _ hg).trans (hc 0 _ rfl),(g2.cells.1 g _ hg).trans (hc 1 _ rfl),(g2.cells.1 g _ hg).trans (hc 2 _ rfl),(g2.cells.1 g _ hg).trans (hc 3 _ rfl),(g2.cells.1 g _ hg).trans (hc 4 _ rfl),(g2.cells.1 g _ hg).trans (hc 5 _ rfl),(g2.cells.1 g _ hg).trans (hc 6 _ rfl),(g2.cells.1 g _ hg).trans (hc 7 _ rfl)⟩);have CY:=hid (λu (g2:Gr w u)=>show u.cell? ⟨g',o'+i * 8,none⟩=some (.int .u64 x.a0)/\u.cell? ⟨g',o'+i * 8+1,none⟩=some (.int .u64 x.a1)/\u.cell? ⟨g',o'+i * 8+2,none⟩=some (.int .u64 x.a2)/\u.cell? ⟨g',o'+i * 8+3,none⟩=some (.int .u64 x.a3)/\u.cell? ⟨g',o'+i * 8+4,none⟩=some (.int .u64 x.a4)/\u.cell? ⟨g',o'+i * 8+5,none⟩=some (.int .u64 x.a5)/\u.cell? ⟨g',o'+i * 8+6,none⟩=some (.int .u64 x.a6)/\u.cell? ⟨g',o'+i * 8+7,none⟩=some (.int .u64 x.a7)from⟨(g2.cells.1 g' _ hg').trans (hc' 0 _ rfl),(g2.cells.1 g' _ hg').trans (hc' 1 _ rfl),(g2.cells.1 g' _ hg').trans (hc' 2 _ rfl),(g2.cells.1 g' _ hg').trans (hc' 3 _ rfl),(g2.cells.1 g' _ hg').trans (hc' 4 _ rfl),(g2.cells.1 g' _ hg').trans (hc' 5 _ rfl),(g2.cells.1 g' _ hg').trans (hc' 6 _ rfl),(g2.cells.1 g' _ hg').trans (hc' 7 _ rfl)⟩);have NA:=Qy x.a0 x.a1 x.a2 x.a3 x.a4 x.a5 x.a6 x.a7;clear hc hc';go_upto_region 6 with (fail);clear x0 y0 z0;refine ah [.val (.pointer (some ⟨b,8,none⟩)),.val (.slice (some ⟨g,o,none⟩) L.length c),.val (Yp i),.val (.pointer (some ⟨g,o+i * 8,none⟩)),.val (.agg (Yc x)),.val (.pointer (some ⟨b+1,8,none⟩)),.val (.slice (some ⟨g',o',none⟩) L.length c'),.val (Yp i),.val (.pointer (some ⟨g',o'+i * 8,none⟩)),.val (.agg (Yc x)),.val (.bool false)] Yh Yh (λV=>finT) ?_ ?_
   ·refine⟨?_,?_,?_,?_,?_,?_,?_,?_,?_,?_,?_,trivial⟩
    all_goals (intro V u hu hk;refine⟨Yh,?_⟩;obtain⟨x0,y0,z0⟩:=ed ((HG.out.trans hu).heap H0.out);obtain⟨x1,y1,z1⟩:=ed ((HG.out.trans hu).heap H1.out);obtain⟨a0,a1,a2,a3,a4,a5,a6,a7⟩:=CX.out u (GI.out.trans (HG.out.trans hu));obtain⟨d0,d1,d2,d3,d4,d5,d6,d7⟩:=CY.out u (GI.out.trans (HG.out.trans hu));first | exact⟨rfl,Yu _⟩ | (go_simp;first | exact⟨rfl,Yu _⟩ | skip))
   ·intro V u hg2 hs;have HG2:=hid (HG.out.trans hg2);clear hs hg2 NA;go_wp2_with fail;exact⟨⟨i+1,Yj,Yi,HG2.out⟩,by simp[intOf];omega⟩
  ·have hil':¬(i:Int) < L.length:=Yi;go_wp2_with fail;go_ret;exact⟨rfl,GI.out.trans HG.out⟩
theorem zam (p0 p1 p2 p3 p4 p5 p6 p7:Nat) (x y xa ya:Value) (L:List S8) (A:List Ac) (w:World) (hx:bo w 8 x (L.map S8.cs)) (hy:bo w 8 y (L.map S8.cs)) (hl:L.length<=1000000) (hxa:bo w 10 xa (A.map Ac.cs)) (hya:bo w 10 ya (A.map Ac.cs)) (hal:A.length<=1000000):
  Calls prog 37 #[.agg #[p0,p1,p2,p3,p4,p5,p6,p7,x,xa],.agg #[p0,p1,p2,p3,p4,p5,p6,p7,y,ya]] w λe w'=>e= .returned (.bool true)/\Gr w w':=by
 have HP:=hid (λu (g:Gr w u)=>Ay p0 p1 p2 p3 p4 p5 p6 p7 x y L u (hx.gr g) (hy.gr g) hl);have HA:=hid (λu (g:Gr w u)=>Hq xa ya A u (hxa.gr g) (hya.gr g) hal);obtain⟨a,c,rfl,q1,q2⟩:=id hx;clear q1 q2;obtain⟨a',c',rfl,q1,q2⟩:=id hy;clear q1 q2;obtain⟨aa,ca,rfl,q1,q2⟩:=id hxa;clear q1 q2;obtain⟨aa',ca',rfl,q1,q2⟩:=id hya;clear q1 q2;have h0:=((Yu _).alloc (.cells #[p0,p1,p2,p3,p4,p5,p6,p7,.slice a' (L.map S8.cs).length c',.slice aa' (A.map Ac.cs).length ca'] 45)).heap (ae w (.cells #[p0,p1,p2,p3,p4,p5,p6,p7,.slice a (L.map S8.cs).length c,.slice aa (A.map Ac.cs).length ca] 45));have h1:=ae (w.alloc (.cells #[p0,p1,p2,p3,p4,p5,p6,p7,.slice a (L.map S8.cs).length c,.slice aa (A.map Ac.cs).length ca] 45)) (.cells #[p0,p1,p2,p3,p4,p5,p6,p7,.slice a' (L.map S8.cs).length c',.slice aa' (A.map Ac.cs).length ca'] 45);have gI:=((Yu w).alloc (.cells #[p0,p1,p2,p3,p4,p5,p6,p7,.slice a (L.map S8.cs).length c,.slice aa (A.map Ac.cs).length ca] 45)).alloc (.cells #[p0,p1,p2,p3,p4,p5,p6,p7,.slice a' (L.map S8.cs).length c',.slice aa' (A.map Ac.cs).length ca'] 45);rw[World.size_alloc]at h1;clear hx hy hxa hya;generalize (L.map S8.cs).length=nl at *;generalize (A.map Ac.cs).length=nal at *;have H0:=hid h0;have H1:=hid h1;have GI:=hid gI;clear h0 h1 gI;obtain⟨x0,y0,z0⟩:=ed H0.out;obtain⟨x1,y1,z1⟩:=ed H1.out;go_enter func37,ntmps37;go_wp2_with fail;clear x0 y0 z0 x1 y1 z1;generalize (w.alloc (.cells #[p0,p1,p2,p3,p4,p5,p6,p7,.slice a nl c,.slice aa nal ca] 45)).alloc (.cells #[p0,p1,p2,p3,p4,p5,p6,p7,.slice a' nl c',.slice aa' nal ca'] 45)=W at *;refine(HP.out _ GI.out).mono ?_;rintro e w1 ⟨rfl,g1⟩;obtain⟨x0,y0,z0⟩:=ed (g1.heap H0.out);obtain⟨x1,y1,z1⟩:=ed (g1.heap H1.out);have G1:=hid (GI.out.trans g1);clear g1;go_wp2_with fail;refine(HA.out _ G1.out).mono ?_;rintro e w2 ⟨rfl,g2⟩;have G2:=hid (G1.out.trans g2);clear g2 x0 y0 z0 x1 y1 z1;go_wp2;go_ret;exact⟨rfl,G2.out⟩
theorem Hp (base1 base2:Nat) (v1 v2:Value) (Q1 Q2:List Q3) (w:World) (h1:az w base1 v1 Q1) (h2:az w base2 v2 Q2) (hk:Q1.map Q3.k=Q2.map Q3.k) (hl:Q1.length<=1000) (hs:∀q∈Q1,q.k.pieces.length<=1000/\q.k.acts.length<=1000):
  Calls prog 10 #[.agg #[v1],.agg #[v2]] w λe w'=>e= .returned (.bool true)/\Gr w w':=by
 have hn:Q2.length=Q1.length:=by
  have:=congrArg List.length hk;simpa using this.symm
 obtain⟨a,c,rfl,_⟩:=aj h1.r;obtain⟨a',c',e2,_⟩:=aj h2.r;rw[hn]at e2;subst e2;have gI:=((Yu w).alloc (.cells #[.slice a Q1.length c] 27)).alloc (.cells #[.slice a' Q1.length c'] 27);have q0:=((Yu _).alloc (.cells #[.slice a' Q1.length c'] 27)).heap (ae w (.cells #[.slice a Q1.length c] 27));have q1:=ae (w.alloc (.cells #[.slice a Q1.length c] 27)) (.cells #[.slice a' Q1.length c'] 27);rw[World.size_alloc]at q1;have H0:=hid q0;have H1:=hid q1;have GI:=hid gI;have B1:=hid (h1.gr gI);have B2:=hid (h2.gr gI);have HK:=hid hk;have HN:=hid hn;have HS:=hid hs;clear q0 q1 gI h1 h2 hk hn hs;go_enter func10,ntmps10;obtain⟨x0,y0,z0⟩:=ed H0.out;obtain⟨x1,y1,z1⟩:=ed H1.out;go_wp2;clear x0 y0 z0 x1 y1 z1;generalize (w.alloc (.cells #[.slice a Q1.length c] 27)).alloc (.cells #[.slice a' Q1.length c'] 27)=W at *;obtain⟨b,hb⟩:∃b,w.heap.size=b:=⟨_,rfl⟩;rw[hb]at H0 H1;rw[hb];clear hb;go_loopw [5] (λu wr=>∃i:Nat,u= .int .i64 i/\i<=Q1.length/\Gr W wr) (λu _=>Q1.length - (intOf u).toNat)
 case atStart=>exact⟨0,rfl,Yi,Yu _⟩
 case round=>
  obtain⟨i,rfl,hi,gr⟩:=hrel;have HG:=hid gr;clear gr;obtain⟨x0,y0,z0⟩:=ed (HG.out.heap H0.out)
  by_cases hil:i < Q1.length
  ·have hil':(i:Int) < Q1.length:=Yi;have hi0:(0:Int)<=i:=Yi;have hil2:i < Q2.length:=by have:=HN.out;omega
   have BR1:=B1.out.gr HG.out;have BR2:=B2.out.gr HG.out;obtain⟨g,c0,e1,_,_,_⟩:=BR1.form Yi;obtain⟨g',c0',e2,_,_,_⟩:=BR2.form Yi;rw[HN.out]at e2;cases e1;cases e2;have HKI:=hid (show Q2[i].k=Q1[i].k by
    have:=congrArg (λl=>l[i]?) HK.out;simp[hil,hil2]at this;exact this.symm)
   have hm1:=List.getElem_mem hil;have hm2:=List.getElem_mem hil2;obtain⟨pa1,pc1,hp1⟩:=(BR1.q _ hm1).p_form;obtain⟨aa1,ac1,ha1⟩:=(BR1.q _ hm1).a_form;obtain⟨pa2,pc2,hp2⟩:=(BR2.q _ hm2).p_form;obtain⟨aa2,ac2,ha2⟩:=(BR2.q _ hm2).a_form;have r1:=ra S8.cs 8 S8.cs_len (BR1.q _ hm1).p;have r2:=ra Ac.cs 10 Ac.cs_len (BR1.q _ hm1).a;have r3:=ra S8.cs 8 S8.cs_len (BR2.q _ hm2).p;have r4:=ra Ac.cs 10 Ac.cs_len (BR2.q _ hm2).a;have hsz:=HS.out _ hm1;have d1:wr.rangeAt g (i * 13) Q1[i].cs:=E0 (Q:=Q1) BR1 i hil _ rfl;have d2:wr.rangeAt g' (i * 13) Q2[i].cs:=E0 (Q:=Q2) (HN.out▸BR2) i hil2 _ rfl;unfold Q3.cs at d1 d2;rw[hp1,ha1]at d1;rw[hp2,ha2]at d2;rw[hp1]at r1;rw[ha1]at r2;rw[hp2]at r3;rw[ha2]at r4;rw[HKI.out]at d2 r3 r4;generalize Q1[i].k=kk at *;have D1:=hid d1;have D2:=hid d2;have SM:=hid (λu (g2:Gr wr u)=>zam kk.blank.a0 kk.blank.a1 kk.blank.a2 kk.blank.a3 kk.blank.a4 kk.blank.a5 kk.blank.a6 kk.blank.a7 _ _ _ _ kk.pieces kk.acts u (r1.gr g2) (r3.gr g2) Yi (r2.gr g2) (r4.gr g2) Yi);clear BR1 BR2 HKI hm1 hm2 hp1 ha1 hp2 ha2 r1 r2 r3 r4 hsz d1 d2;go_upto_region 6 with (fail);apply wp_region_lit;(iterate 4 refine wpList_plain rfl λ_ hK=>?_;go_simp;refine hK _ _ ?_;clear hK);refine wpList_load_mid rfl 47 _ rfl g (i * 13) rfl [Yp kk.id,Yp kk.size,Yp kk.st,kk.blank.a0,kk.blank.a1,kk.blank.a2,kk.blank.a3,kk.blank.a4,kk.blank.a5,kk.blank.a6,kk.blank.a7,.slice pa1 kk.pieces.length pc1,.slice aa1 kk.acts.length ac1] _ D1.out underlying47 rfl Yh ?_;refine wpList_plain rfl λ_ hK=>?_;go_simp;refine hK _ _ ?_;clear hK;have hqb:=ae wr (.cells Ze 47 (0,0));have ga:=(Yu wr).alloc (.cells Ze 47 (0,0));refine wpList_store_row rfl _ _ _ rfl wr.heap.size #[Yp kk.id,Yp kk.size,Yp kk.st,kk.blank.a0,kk.blank.a1,kk.blank.a2,kk.blank.a3,kk.blank.a4,kk.blank.a5,kk.blank.a6,kk.blank.a7,.slice pa1 kk.pieces.length pc1,.slice aa1 kk.acts.length ac1] rfl rfl _ Ze hqb Yh rfl (by simp[Value.oneCell']) ?_;have g6:=ga.setRow wr.heap.size #[Yp kk.id,Yp kk.size,Yp kk.st,kk.blank.a0,kk.blank.a1,kk.blank.a2,kk.blank.a3,kk.blank.a4,kk.blank.a5,kk.blank.a6,kk.blank.a7,.slice pa1 kk.pieces.length pc1,.slice aa1 kk.acts.length ac1] (Yv _);have O6:=hid (setRow_heap _ wr.heap.size Ze #[Yp kk.id,Yp kk.size,Yp kk.st,kk.blank.a0,kk.blank.a1,kk.blank.a2,kk.blank.a3,kk.blank.a4,kk.blank.a5,kk.blank.a6,kk.blank.a7,.slice pa1 kk.pieces.length pc1,.slice aa1 kk.acts.length ac1] _ _ hqb);have G6:=hid g6;have D7:=hid (λj v hj=>(g6.cells.1 _ _ (World.block_lt_of_cell? _ _ (D2.out j v hj))).trans (D2.out j v hj));clear hqb ga g6 x0 y0 z0 D1 D2;generalize (wr.alloc (.cells Ze 47 (0,0))).setRow wr.heap.size #[Yp kk.id,Yp kk.size,Yp kk.st,kk.blank.a0,kk.blank.a1,kk.blank.a2,kk.blank.a3,kk.blank.a4,kk.blank.a5,kk.blank.a6,kk.blank.a7,.slice pa1 kk.pieces.length pc1,.slice aa1 kk.acts.length ac1]=u6 at *;obtain⟨p6,hp6⟩:∃q,wr.heap.size=q:=⟨_,rfl⟩;rw[hp6]at O6;rw[hp6];clear hp6;obtain⟨x1,y1,z1⟩:=ed ((HG.out.trans G6.out).heap H1.out);go_upto_region 7 with (fail);apply wp_region_lit;(iterate 4 refine wpList_plain rfl λ_ hK=>?_;go_simp;refine hK _ _ ?_;clear hK);refine wpList_load_mid rfl 47 _ rfl g' (i * 13) rfl [Yp kk.id,Yp kk.size,Yp kk.st,kk.blank.a0,kk.blank.a1,kk.blank.a2,kk.blank.a3,kk.blank.a4,kk.blank.a5,kk.blank.a6,kk.blank.a7,.slice pa2 kk.pieces.length pc2,.slice aa2 kk.acts.length ac2] _ D7.out underlying47 rfl Yh ?_;refine wpList_plain rfl λ_ hK=>?_;go_simp;refine hK _ _ ?_;clear hK;have hqb:=ae u6 (.cells Ze 47 (0,0));have ga:=(Yu u6).alloc (.cells Ze 47 (0,0));refine wpList_store_row rfl _ _ _ rfl u6.heap.size #[Yp kk.id,Yp kk.size,Yp kk.st,kk.blank.a0,kk.blank.a1,kk.blank.a2,kk.blank.a3,kk.blank.a4,kk.blank.a5,kk.blank.a6,kk.blank.a7,.slice pa2 kk.pieces.length pc2,.slice aa2 kk.acts.length ac2] rfl rfl _ Ze hqb Yh rfl (by simp[Value.oneCell']) ?_;have g7:=ga.setRow u6.heap.size #[Yp kk.id,Yp kk.size,Yp kk.st,kk.blank.a0,kk.blank.a1,kk.blank.a2,kk.blank.a3,kk.blank.a4,kk.blank.a5,kk.blank.a6,kk.blank.a7,.slice pa2 kk.pieces.length pc2,.slice aa2 kk.acts.length ac2] (Yv _);have O7:=hid (setRow_heap _ u6.heap.size Ze #[Yp kk.id,Yp kk.size,Yp kk.st,kk.blank.a0,kk.blank.a1,kk.blank.a2,kk.blank.a3,kk.blank.a4,kk.blank.a5,kk.blank.a6,kk.blank.a7,.slice pa2 kk.pieces.length pc2,.slice aa2 kk.acts.length ac2] _ _ hqb);have O6b:=hid (g7.heap O6.out);have G7:=hid (G6.out.trans g7);clear hqb ga g7 x1 y1 z1 D7 O6 G6;generalize (u6.alloc (.cells Ze 47 (0,0))).setRow u6.heap.size #[Yp kk.id,Yp kk.size,Yp kk.st,kk.blank.a0,kk.blank.a1,kk.blank.a2,kk.blank.a3,kk.blank.a4,kk.blank.a5,kk.blank.a6,kk.blank.a7,.slice pa2 kk.pieces.length pc2,.slice aa2 kk.acts.length ac2]=u7 at *;obtain⟨p7,hp7⟩:∃q,u6.heap.size=q:=⟨_,rfl⟩;rw[hp7]at O7;rw[hp7];clear hp7;obtain⟨x6,y6,z6⟩:=ed O6b.out;obtain⟨x7,y7,z7⟩:=ed O7.out;go_wp2_with fail;refine(SM.out _ G7.out).mono ?_;rintro e u8 ⟨rfl,g8⟩;have G8:=hid (HG.out.trans (G7.out.trans g8));clear g8 x6 y6 z6 x7 y7 z7 SM;go_wp2_with fail;exact⟨⟨i+1,Yj,Yi,G8.out⟩,by simp[intOf];omega⟩
  ·have hil':¬(i:Int) < Q1.length:=Yi;go_wp2_with fail;go_ret;exact⟨rfl,GI.out.trans HG.out⟩
noncomputable def tR (n:Int) (l:List Rc):Int×List Kp×List Nat:=if (cR n l).2=0 then(0,pg (i7 l))else((cR n l).2,[],[])
def zcd (r:Int×List Kp×List Nat) (w:World) (e:Ending) (w':World):Prop:=∃bv ev Q,e= .returned (.tuple #[.agg #[bv],ev,Yp r.1])/\az w' w.heap.size bv Q/\Q.map Q3.k=r.2.1/\w'.ownsRow w.heap.size 29 1 ev r.2.2.length (r.2.2.flatMap m8)/\Gr w w'
theorem zcd.no {w:World} {e0:Int} {e:Ending} {w':World} (h:e= .returned (.tuple #[.agg #[.slice none 0 0],.slice none 0 0,Yp e0])/\Gr w w'):zcd (e0,[],[]) w e w':=⟨_,_,[],h.1,⟨World.ownsRow_nil _ _ _ _,λq hq=>by cases hq⟩,rfl,World.ownsRow_nil _ _ _ _,h.2⟩
theorem up {n:Int} {l:List Rc} (h:Fd n l):Pz l:=zbK h
theorem Rm {n:Int} {l:List Rc} (hm:mny n=true) (h:Fd n l):∀x∈l,Fo x.s x.k=8 * x.k+x.s:=λx hx=>by
 have h1:=Ki (Rr h x hx).1;have h2:=De hm;unfold Fo;rw[if_pos Yi]
theorem zdT {n:Int} {l:List Rc} (hm:mny n=true) (h:Fd n l):Y5 (i7 l):=by
 have hk:=up h;have hp:(i7 l).Perm l:=by simpa[i7]using (Bn l [] List.Pairwise.nil hk (λa ha=>by cases ha)).2
 have h2:=De hm;refine⟨λx hx=>?_,?_⟩
 ·have h1:=Ki (Rr h x (hp.mem_iff.1 hx)).1;omega
 ·refine(hp.pairwise_iff (λ{x y} h1=>?_)).2 (hk.imp (λ{a b} h1=>?_))
  ·rcases h1 with h1 | h1
   ·exact Or.inl (Ne.symm h1)
   ·exact Or.inr (Ne.symm h1)
  ·unfold rz at h1;omega
theorem L3 {P:S8} {L:List S8} {A:List Ac} (h:(du P L A).2=0):L.length<=8:=by
 unfold du at h;split at h
 ·rename_i hc;exact absurd h hc
 ·rename_i hc;exact(Lz.1 (Decidable.byContradiction hc)).1
theorem su:∀(fs:List (Option Fm)) (K:List Kp),(bf K fs).1.length=K.length
 | [],K=>rfl
 | f :: r,K=>by simp only[bf];rw[su r,uj]
theorem xh (l:List Rc):(pg (i7 l)).2.length=l.length:=by rw[Zq,C8]
theorem Told_is (n:Int) (v:Value) (l:List Rc) (w:World) (hr:ij w v l) (hl:l.length<=1000) (ht:∀x∈l,x.t.size<=1000) (tw:TW w) (htb:w.cell? ⟨7,15,none⟩=some (.int .u8 4)) (htz:7 < w.heap.size):
  Calls prog 8 #[Yp n,v] w (zcd (tR n l) w):=by
 unfold tR
 by_cases h:(cR n l).2=0
 ·rw[if_pos h];obtain⟨hm, -,ha⟩:=zcw h;have:=De hm;refine(zca n v l w Yi Yi hr hl ht hm (Xl ha) (up ha) (Rm hm ha) (zdT hm ha) tw htb htz).mono ?_;rintro e w' ⟨bv,ev,Q,h1,h2,h3,h4,h5⟩;exact⟨bv,ev,Q,h1,h2,h3,by rw[xh];exact h4,h5⟩
 ·rw[if_neg h];refine(zcb n v _ w h (λu g=>?_)).mono λe w' h=>zcd.no h;cases hm:mny n with
  | false=>
   have e1:cR n l=(0,1):=by unfold cR;rw[hm];rfl
   rw[e1];exact zch n v u hm
  | true=>
   have e1:cR n l=ot n l:=by unfold cR;rw[if_pos hm]
   rw[e1]at h ⊢;have:=De hm;exact zeT n v l u Yi Yi (hr.gr g) Yi (λx hx=>by have:=ht x hx;omega) hm _ _ rfl h
theorem zal (n:Int) (v:Value) (l:List Rc) (w:World) (hr:ij w v l) (hl:l.length<=1000) (ht:∀x∈l,x.t.size<=1000):
  Calls prog 9 #[Yp n,v] w (zcd (tR n l) w):=by
 have hc:=λu (g:Gr w u)=>zeR n v l u (hr.gr g) hl ht;unfold tR
 by_cases h:(cR n l).2=0
 ·rw[if_pos h];obtain⟨hm,he,ha⟩:=zcw h;rw[he]at hc;refine(zeW n v l w hr hl ht (up ha) (Rm hm ha) hc).mono ?_;rintro e w' ⟨bv,ev,Q,h1,h2,h3,h4,h5⟩;exact⟨bv,ev,Q,h1,h2,h3,by rw[xh];exact h4,h5⟩
 ·rw[if_neg h];exact(zeX n v _ w h (λu g=>zeQ n v _ _ u h (λu' g'=>hc u' (g.trans g')))).mono λe w' h=>zcd.no h
theorem tR_len (n:Int) (l:List Rc):(tR n l).2.2.length<=l.length/\(tR n l).2.1.length<=l.length/\∀k∈(tR n l).2.1,k.pieces.length<=1000/\k.acts.length<=1000:=by
 unfold tR
 by_cases h:(cR n l).2=0
 ·rw[if_pos h];refine⟨by rw[xh];exact Yv _,?_,λk hk=>?_⟩
  ·have:=Ez (i7 l);rw[C8]at this;unfold pg;rw[su];exact this
  ·obtain⟨h1,h2⟩:=Sf _ k hk;have e1:=congrArg Prod.snd h1;have h3:=L5 (P:=k.blank) (L:=k.pieces) (A:=k.acts) e1;have h4:=L3 (P:=k.blank) (L:=k.pieces) (A:=k.acts) e1;omega
 ·rw[if_neg h];exact⟨Nat.zero_le _,Nat.zero_le _,λk hk=>by cases hk⟩
theorem zeU {u:World} {g:Nat} {c:Array Value} {T:TypeId} (h:u.heap[g]?=some (.cells c T (0,0))) (b o:Nat) (x:Value):∃c',(u.setCell (Yo b o) x).heap[g]?=some (.cells c' T (0,0))/\c'.size=c.size:=by
 by_cases e:g=b
 ·subst e;exact⟨_,dz h o x,Array.size_setIfInBounds⟩
 ·exact⟨c,qj b o x h e,rfl⟩
theorem zek {g:Nat} {T:TypeId} (b:Nat):∀(vs:List Value) (o:Nat) (u:World) (c:Array Value),u.heap[g]?=some (.cells c T (0,0))->∃c',(u.setCells b o vs).heap[g]?=some (.cells c' T (0,0))/\c'.size=c.size
 | [],_,_,c,h=>⟨c,h,rfl⟩
 | v :: r,o,u,c,h=>by
  obtain⟨c1,h1,e1⟩:=zeU h b o v;obtain⟨c2,h2,e2⟩:=zek b r (o+1) _ c1 h1;exact⟨c2,h2,e2.trans e1⟩
theorem R6 {g:Nat} {x:Obj} (b:Nat) (hn:g≠b):∀(vs:List Value) (o:Nat) (u:World),u.heap[g]?=some x->(u.setCells b o vs).heap[g]?=some x
 | [],_,_,h=>h
 | v :: r,o,_u,h=>R6 b hn r (o+1) _ (qj b o v h hn)
theorem Gr.sets {w u:World} (h:Gr w u) (b o:Nat) (vs:List Value) (hb:w.heap.size<=b):Gr w (u.setCells b o vs):=
 GrL.gr h (Af b vs o u) (λi hi=>by rw[List.mem_singleton.1 hi];exact hb)
def Rw (w:World) (T:TypeId) (k:Nat) (u:World) (v:Value) (n:Nat):Prop:=∃a c,v= .slice a n c/\n<=c/\∀i,i < n->∃g cur,a=some ⟨g,0,none⟩/\w.heap.size<=g/\u.heap[g]?=some (.cells cur T (0,0))/\n * k<=cur.size
theorem Rw.of_own {w u:World} {base k n:Nat} {T:TypeId} {v:Value} {xs:List Value} (h:u.ownsRow base T k v n xs) (hb:w.heap.size<=base):Rw w T k u v n:=by
 rcases h.2 with ⟨rfl,hz⟩ | ⟨g,cap,cur,rfl,hbg,hg,hcap,_,hsz,_⟩
 ·exact⟨none,0,by rw[hz],Yi,λi hi=>by omega⟩
 ·exact⟨_,_,rfl,hcap,λi _=>⟨g,cur,rfl,Nat.le_trans hb hbg,hg,by rw[hsz];exact Nat.mul_le_mul_right k hcap⟩⟩
theorem Rw.gr {w u u':World} {k n:Nat} {T:TypeId} {v:Value} (h:Rw w T k u v n) (g:Gr u u'):Rw w T k u' v n:=by
 obtain⟨a,c,hv,hc,hh⟩:=h;refine⟨a,c,hv,hc,λi hi=>?_⟩;obtain⟨b,cur,h1,h2,h3,h4⟩:=hh i hi;exact⟨b,cur,h1,h2,g.heap h3,h4⟩
theorem Rw.sets {w u:World} {k n:Nat} {T:TypeId} {v:Value} (h:Rw w T k u v n) (b o:Nat) (vs:List Value):Rw w T k (u.setCells b o vs) v n:=by
 obtain⟨a,c,hv,hc,hh⟩:=h;refine⟨a,c,hv,hc,λi hi=>?_⟩;obtain⟨g,cur,h1,h2,h3,h4⟩:=hh i hi;obtain⟨c',h5,h6⟩:=zek b vs o u cur h3;exact⟨g,c',h1,h2,h5,by rw[h6];exact h4⟩
theorem R5 {u:World} {g k n:Nat} {cur:Array Value} {T:TypeId} (h:u.heap[g]?=some (.cells cur T (0,0))) (hs:n * k<=cur.size) (i:Nat) (hi:i < n) (m:Nat) (hm:m=k):u.there g (i * k) m:=by
 subst hm;intro j hj;have:i * m+j < n * m:=by
  have:(i+1) * m<=n * m:=Nat.mul_le_mul_right m hi;rw[Nat.succ_mul]at this;omega
 obtain⟨h1,h2,_⟩:=ed h;rw[h1,h2];simp;omega
structure ze4 (w u:World) (va vb vc:Value) (na nb nc:Nat):Prop where
 g:Gr w u
 a:Rw w 36 4 u va na
 b:Rw w 36 4 u vb nb
 c:Rw w 36 4 u vc nc
theorem ze4.sets {w u:World} {va vb vc:Value} {na nb nc:Nat} (h:ze4 w u va vb vc na nb nc) (b o:Nat) (vs:List Value) (hb:w.heap.size<=b):ze4 w (u.setCells b o vs) va vb vc na nb nc:=⟨h.g.sets b o vs hb,h.a.sets b o vs,h.b.sets b o vs,h.c.sets b o vs⟩
structure zev (w u:World) (pA:Nat) (bv ev:Value) (ne:Nat) (Q:List Q3) (i:Nat):Prop where
 g:Gr w u
 a:u.heap[pA]?=some (.cells #[bv] 27 (0,0))
 k:∃a c,bv= .slice a Q.length c/\Q.length<=c/\∀j,j < Q.length->∃gb cur,a=some ⟨gb,0,none⟩/\w.heap.size<=gb/\u.heap[gb]?=some (.cells cur 47 (0,0))/\Q.length * 13<=cur.size/\∀j',i<=j'->(h:j' < Q.length)->u.rangeAt gb (j' * 13) Q[j'].cs
 q:∀q∈Q,Rw w 39 8 u q.p.v q.k.pieces.length/\Rw w 54 10 u q.a.v q.k.acts.length
 e:Rw w 29 1 u ev ne
theorem zeV {w w':World} {b o:Nat} {cs:List Value} (h:w.rangeAt b o cs) (g:Gr w w'):w'.rangeAt b o cs:=λj v hv=>(g.cells.1 _ _ (World.block_lt_of_cell? _ _ (h j v hv))).trans (h j v hv)
theorem zev.gr {w u u':World} {pA ne i:Nat} {bv ev:Value} {Q:List Q3} (h:zev w u pA bv ev ne Q i) (g:Gr u u'):zev w u' pA bv ev ne Q i:=by
 obtain⟨a,c,hv,hc,hh⟩:=h.k;refine⟨h.g.trans g,g.heap h.a,⟨a,c,hv,hc,λj hj=>?_⟩,λq hq=>⟨(h.q q hq).1.gr g,(h.q q hq).2.gr g⟩,h.e.gr g⟩;obtain⟨gb,cur,h1,h2,h3,h4,h5⟩:=hh j hj;exact⟨gb,cur,h1,h2,g.heap h3,h4,λj' hj' hl=>zeV (h5 j' hj' hl) g⟩
theorem zev.sets {w u:World} {pA ne i:Nat} {bv ev:Value} {Q:List Q3} (h:zev w u pA bv ev ne Q i) (b o:Nat) (vs:List Value) (hb:w.heap.size<=b) {c:Array Value} {T:TypeId} (ht:u.heap[b]?=some (.cells c T (0,0))) (h1:T≠27) (h2:T≠47):zev w (u.setCells b o vs) pA bv ev ne Q i:=by
 have ne_of:∀{g:Nat} {c':Array Value} {T':TypeId},u.heap[g]?=some (.cells c' T' (0,0))->T≠T'->g≠b:=λhg hT e=>by
  rw[e,ht]at hg;simp only[Option.some.injEq,Obj.cells.injEq]at hg;exact hT hg.2.1
 obtain⟨a,cp,hv,hc,hh⟩:=h.k;refine⟨h.g.sets b o vs hb,R6 b (ne_of h.a h1) vs o u h.a,⟨a,cp,hv,hc,λj hj=>?_⟩,λq hq=>⟨(h.q q hq).1.sets b o vs,(h.q q hq).2.sets b o vs⟩,h.e.sets b o vs⟩;obtain⟨gb,cur,k1,k2,k3,k4,k5⟩:=hh j hj;have hne:=ne_of k3 h2;refine⟨gb,cur,k1,k2,R6 b hne vs o u k3,k4,λj' hj' hl m v hm=>?_⟩;rw[<-k5 j' hj' hl m v hm];exact World.cell?_setCells_out b vs o u _ (λe=>absurd e hne)
theorem zev.next {w u:World} {pA ne i:Nat} {bv ev:Value} {Q:List Q3} (h:zev w u pA bv ev ne Q i) (gb cp:Nat) (hv:bv= .slice (Yn gb) Q.length cp) (hi:i < Q.length) (vs:List Value) (hl:vs.length=13):zev w (u.setCells gb (i * 13) vs) pA bv ev ne Q (i+1):=by
 obtain⟨a,c,hv',hc,hh⟩:=h.k;rw[hv]at hv';injection hv' with e1 _ e3
 subst e1;subst e3;obtain⟨gb',cur,k1,k2,k3,k4,k5⟩:=hh i hi;injection k1 with k1
 injection k1 with k1
 subst k1;have hne:pA≠gb:=λe=>by
  have h1:=h.a;rw[e,k3]at h1;simp only[Option.some.injEq,Obj.cells.injEq]at h1;exact absurd h1.2.1 Yk
 obtain⟨c',k6,k7⟩:=zek gb vs (i * 13) u cur k3;refine⟨h.g.sets gb _ vs k2,R6 gb hne vs _ u h.a,⟨_,cp,hv,hc,λj hj=>⟨gb,c',rfl,k2,k6,by rw[k7];exact k4,λj' hj' hl' m v hm=>?_⟩⟩,λq hq=>⟨(h.q q hq).1.sets gb _ vs,(h.q q hq).2.sets gb _ vs⟩,h.e.sets gb _ vs⟩;rw[<-k5 j' Yi hl' m v hm];refine World.cell?_setCells_out gb vs (i * 13) u _ (λ_ _=>Or.inr ?_);show i * 13+vs.length<=j' * 13+m;omega
theorem oR_err {n:Int} {l:List Rc}:(oR n l).1=(cR n l).2:=by
 unfold oR
 by_cases h:(cR n l).2=0
 ·rw[if_pos h,h]
 ·rw[if_neg h]
theorem sR_err {n:Int} {l:List Rc} (f:Nat->Int):(sR n l f).1=(cR n l).2:=by
 unfold sR
 by_cases h:(cR n l).2=0
 ·rw[if_pos h,h]
 ·rw[if_neg h]
end
section
open Go.RowKit Go.Shelf
theorem dc (n:Int) (v1 v2:Value) (a b:List Rc) (i0 e0:Int) (w:World) (hv1:ij w v1 a) (hv2:ij w v2 b) (h0:e0≠0)
  (hc:(∀u,Gr w u->Calls prog 39 #[Yp n,v1] u λe w'=>e= .returned (.tuple #[Yp i0,Yp e0])/\Gr u w')):
  Calls prog 13 #[Yp n,v1,v2] w λe w'=>e= .returned (.tuple #[.slice none 0 0,Yp e0])/\Gr w w':=by
 have CH:=hid hc;have h1:(e0 == 0)=false:=by simpa using h0
 have h2:decide (e0=0)=false:=by simpa using h0
 obtain⟨aa,capa,rfl, -, -⟩:=hv1;obtain⟨ab,capb,rfl, -, -⟩:=hv2;have bx:=ae w (.cells #[.slice aa a.length capa,.slice ab b.length capb] 22);have g0:Gr w (w.alloc (.cells #[.slice aa a.length capa,.slice ab b.length capb] 22)):=(Yu w).alloc _;clear hc;go_enter func13,ntmps13;go_wp2;generalize w.alloc (.cells #[.slice aa a.length capa,.slice ab b.length capb] 22)=W at *;obtain⟨p,hp⟩:∃p,w.heap.size=p:=⟨_,rfl⟩;rw[hp]at bx;simp only[hp];clear hp;go_loopw [9,10,11,21] (λ_ _ _ q wr=>q= .int .i64 0/\Gr W wr) (λ_ _ _ _ _=>0)
 case atStart=>exact⟨rfl,Yu _⟩
 case round=>
  obtain⟨rfl,gr⟩:=hrel;obtain⟨cx,fx,zx⟩:=ed (gr.heap bx);go_wp2_with fail;refine(CH.out _ (g0.trans gr)).mono ?_;rintro e w1 ⟨rfl,hg1⟩;have G:=(g0.trans gr).trans hg1;clear cx fx zx;go_wp2;go_ret2;exact⟨rfl,G⟩
theorem bn (n:Int) (v:Value) (l:List Rc) (w:World) (hv:ij w v l) (hla:l.length<=1000) (ha:Pz l)
  (hc:(∀u,Gr w u->Calls prog 39 #[Yp n,v] u λe w'=>e= .returned (.tuple #[Yp 0,Yp 0])/\Gr u w')):
  Calls prog 13 #[Yp n,v,v] w (zeL (0,l) w):=by
 have CH:=hid hc;have CL:=hid (λu (g:Gr w u)=>Qc v l u (hv.gr g) Yi);obtain⟨aa,capa,rfl,hcapb,hcell⟩:=hv;have HC:=hid hcell;have HK:=hid (List.pairwise_iff_getElem.1 ha);clear ha;have bx:=ae w (.cells #[.slice aa l.length capa,.slice aa l.length capa] 22);have g0:Gr w (w.alloc (.cells #[.slice aa l.length capa,.slice aa l.length capa] 22)):=(Yu w).alloc _;clear hc hcell;go_enter func13,ntmps13;go_wp2;generalize w.alloc (.cells #[.slice aa l.length capa,.slice aa l.length capa] 22)=W at *;obtain⟨p,hp⟩:∃p,w.heap.size=p:=⟨_,rfl⟩;rw[hp]at bx;simp only[hp];have HP:=hid hp;clear hp;go_loopw [9,10,11,21] (λ_ _ _ q wr=>∃i:Nat,q= .int .i64 i/\i<=2/\Gr W wr) (λ_ _ _ q _=>2 - (intOf q).toNat)
 case atStart=>exact⟨0,rfl,Yi,Yu _⟩
 case round=>
  obtain⟨i,rfl,hi,gr⟩:=hrel;rcases(show i=0\/i=1\/i=2 by omega)with rfl | rfl | rfl
  ·obtain⟨cx,fx,zx⟩:=ed (gr.heap bx);go_wp2_with fail;refine(CH.out _ (g0.trans gr)).mono ?_;rintro e w1 ⟨rfl,hg1⟩;have G:=gr.trans hg1;clear cx fx zx gr hg1;go_wp2;exact⟨⟨1,Yj,Yi,G⟩,by simp[intOf]⟩
  ·obtain⟨cx,fx,zx⟩:=ed (gr.heap bx);go_wp2_with fail;refine(CH.out _ (g0.trans gr)).mono ?_;rintro e w1 ⟨rfl,hg1⟩;have G:=gr.trans hg1;clear cx fx zx gr hg1;go_wp2;exact⟨⟨2,Yj,Yi,G⟩,by simp[intOf]⟩
  ·go_wp2_with fail;refine(CL.out _ (g0.trans gr)).mono ?_;rintro e w2 ⟨v0,rfl,hown,hg2⟩;have G2:=(g0.trans gr).trans hg2;have HO0:Hid (w2.ownsRow p 36 4 v0 l.length (rcs l)):=hid (World.ownsRow.mono hown (by rw[<-HP.out];exact(g0.trans gr).b.size));clear bx g0 gr hown hg2 CH CL;go_wp2;go_loopw [12,14,15,16,39] (λo _ _ _ q wr=>∃i:Nat,q= .int .i64 i/\i<=l.length/\Hid (wr.ownsRow p 36 4 o l.length (rcs l))/\Gr w wr) (λ_ _ _ _ q _=>l.length - (intOf q).toNat)
   case atStart=>exact⟨0,rfl,Yi,HO0,G2⟩
   case round=>
    obtain⟨i,rfl,hib,HO,gr⟩:=hrel
    by_cases hil:i < l.length
    ·have hil':(i:Int) < l.length:=Yi;have hi0:(0:Int)<=i:=Yi;obtain⟨g,o,rfl,hgl,c0,c1,c2,c3⟩:=HC.out i hil;rw[<-gr.cells.1 g _ hgl]at c0 c1 c2 c3;have hz:g < wr.heap.size:=Nat.lt_of_lt_of_le hgl gr.b.size;obtain⟨ao,co,rfl⟩:=wc HO.out;have SE:=hid (λu (hu:u.ownsRow p 36 4 (.slice ao l.length co) l.length (rcs l))=>zdd (.slice ao l.length co) l l[i] i true u (World.ownsRow.mono hu (Nat.zero_le _)) Yi Yi (λj hj h=>by
      rw[Bu];exact HK.out j i hj hil h) (λj hj h=>by
      rw[Bu];rcases Nat.lt_or_ge i j with h1 | h1
      ·have:=HK.out i j hil hj h1;unfold rz at this;omega
      ·obtain rfl:i=j:=Yi;omega) (λh=>by rw[show ul l[i] l[i]=0 from(zdn _ _).2 ⟨rfl,rfl⟩];rfl) (λh=>absurd hil h))
     generalize hx:l[i]=x at *;have HXV:Hid (x.v= .agg #[Yp x.s,Yp x.k,Yp x.d,.string x.t]):=hid rfl;have bx:=ae wr (.cells #[Yp x.s,Yp x.k,Yp x.d,.string x.t] 36);have gx:Gr wr (wr.alloc (.cells #[Yp x.s,Yp x.k,Yp x.d,.string x.t] 36)):=(Yu wr).alloc _;have HO1:=hid (ek HO.out gx);have HXL:=hid hx;clear hx;rw[HXV.out]at SE;go_wp2_with fail;generalize wr.alloc (.cells #[Yp x.s,Yp x.k,Yp x.d,.string x.t] 36)=W3 at *;obtain⟨px,hpx⟩:∃q,wr.heap.size=q:=⟨_,rfl⟩;rw[hpx]at bx;simp only[hpx];clear c0 c1 c2 c3 hz hpx;refine(SE.out _ HO1.out).mono ?_;rintro e w4 ⟨rfl,hg4⟩;have bx4:=hg4.heap bx;have HO4:=hid (ek HO1.out hg4);have G4:Gr w w4:=(gr.trans gx).trans hg4;clear bx HO1 HO SE hg4 gx gr;obtain⟨cx,fx,zx⟩:=ed bx4;obtain⟨gm,om,rfl,hgm,d0,d1,d2,d3⟩:=(qe HO4.out).cells.2 i hil;rw[HXL.out]at d0 d1 d2 d3;go_wp2_with fail;refine ah [.val (.bool true),.val (.bool true),.val (.slice (some ⟨gm,om,none⟩) l.length co),.val (Yp i),.val (.pointer (some ⟨gm,om+i * 4,none⟩)),.val x.v,.val x.v,.val (.bool false),.val (.bool false),.val (.bool false)] Yh Yh (λV=>finT) ?_ ?_
     ·refine⟨?_,?_,?_,?_,?_,?_,?_,?_,?_,?_,trivial⟩ <;> exact osA
     ·intro V u hg hsx;have HN:=hid (ek HO4.out hg);have G5:=G4.trans hg;clear cx fx zx d0 d1 d2 d3 hg hsx;go_simp;go_wp2;exact⟨⟨i+1,Yj,Yi,HN,G5⟩,by simp[intOf];omega⟩
    ·have hil':¬(i:Int) < l.length:=Yi;go_wp2;go_ret2;exact⟨_,rfl,by rw[HP.out];exact HO.out,gr⟩
theorem MrgS_is (n:Int) (v:Value) (l:List Rc) (w:World) (hr:ij w v l) (hl:l.length<=1000) (ht:∀x∈l,x.t.size<=1000):
  Calls prog 13 #[Yp n,v,v] w (zeL ((cR n l).2,if (cR n l).2=0 then l else []) w):=by
 have hc:=λu (g:Gr w u)=>zdZ n v l u (hr.gr g) hl ht
 by_cases h:(cR n l).2=0
 ·obtain⟨hm,he,ha⟩:=zcw h;rw[he]at hc ⊢;exact bn n v l w hr hl (zbK ha) hc
 ·rw[if_neg h];exact(dc n v v l l _ _ w hr hr h hc).mono λe w' h=>zeL.no h
end
end Go.Proofs.YtimcfaoabaflkaaGreatDoor
