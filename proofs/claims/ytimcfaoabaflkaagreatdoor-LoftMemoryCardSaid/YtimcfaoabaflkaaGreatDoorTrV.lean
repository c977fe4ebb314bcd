/- trace: done of a fit, of a take. -/
import Derived.Test.YtimcfaoabaflkaaGreatDoorTrZ
namespace Go.Proofs.YtimcfaoabaflkaaGreatDoor
open AbBase
open AbA AbI
set_option maxHeartbeats 4000000
set_option maxRecDepth 100000
open Go.Proofs.Tryz
section
open Go.RowKit Go.Shelf Go.Lib
theorem U7 (v:Value) (w:World):(Instr.typeAssert (.iface 416 v) 356 413 true).run prog w= .ok (.tuple #[.agg Zc,.bool false]) w:=Yh
theorem Na (v:Value) (w:World):(Instr.typeAssert (.iface 417 v) 356 413 true).run prog w= .ok (.tuple #[.agg Zc,.bool false]) w:=Yh
theorem M8 (v:Value) (w:World):(Instr.typeAssert (.iface 417 v) 356 416 true).run prog w= .ok (.tuple #[.agg Zg,.bool false]) w:=Yh
theorem as_fit (v:Value) (w:World):(Instr.typeAssert (.iface 416 v) 356 416 true).run prog w= .ok (.tuple #[v,.bool true]) w:=Yh
theorem as_take (v:Value) (w:World):(Instr.typeAssert (.iface 417 v) 356 417 true).run prog w= .ok (.tuple #[v,.bool true]) w:=Yh
theorem Nu {u:World} {g:Nat} {y0 y1 y2 y3 y4 y5 y6 y7 y8 x0 x1 x2 x3 x4 x5 x6 x7:Value} {T:TypeId} (h:u.heap[g]?=some (.cells #[y0,y1,y2,y3,y4,y5,y6,y7,y8] T (0,0))):((((((((u.setCell (Yo g 0) x0).setCell (Yo g 1) x1).setCell (Yo g 2) x2).setCell (Yo g 3) x3).setCell (Yo g 4) x4).setCell (Yo g 5) x5).setCell (Yo g 6) x6).setCell (Yo g 7) x7).heap[g]?=some (.cells #[x0,x1,x2,x3,x4,x5,x6,x7,y8] T (0,0)):=by
 have:=af (i:=7) x7 (af (i:=6) x6 (af (i:=5) x5 (af (i:=4) x4 (af (i:=3) x3 (af (i:=2) x2 (af (i:=1) x1 (af (i:=0) x0 h)))))));simpa using this
theorem F9 {u:World} {g:Nat} {y0 y1 y2 y3 y4 y5 y6 y7 y8 x8:Value} {T:TypeId} (h:u.heap[g]?=some (.cells #[y0,y1,y2,y3,y4,y5,y6,y7,y8] T (0,0))):(u.setCell (Yo g 8) x8).heap[g]?=some (.cells #[y0,y1,y2,y3,y4,y5,y6,y7,x8] T (0,0)):=by
 have:=af (i:=8) x8 h;simpa using this
theorem zbz (bt:Int) (d s:Nat->Int) (on:Int) (w:World):
  Calls prog 294 #[.agg (Zy s on),.iface 416 (.agg (Ya bt d))] w λe w'=>e= .returned (.agg #[(bits .or .u64 (s 0) (d 0)),(bits .or .u64 (s 1) (d 1)),(bits .or .u64 (s 2) (d 2)),(bits .or .u64 (s 3) (d 3)),(bits .or .u64 (s 4) (d 4)),(bits .or .u64 (s 5) (d 5)),(bits .or .u64 (s 6) (d 6)),(bits .or .u64 (s 7) (d 7)),Ys (bits .or .u8 on bt)])/\Gr w w':=by
 have gI:=(((Yu w).alloc (.cells (Zy s on) 100)).alloc (.cells Zb 100)).alloc (.cells (Ya bt d) 416);have h2:=ae ((w.alloc (.cells (Zy s on) 100)).alloc (.cells Zb 100)) (.cells (Ya bt d) 416);have h1:=((Yu _).alloc (.cells (Ya bt d) 416)).heap (ae (w.alloc (.cells (Zy s on) 100)) (.cells Zb 100));have h0:=(((Yu _).alloc (.cells Zb 100)).alloc (.cells (Ya bt d) 416)).heap (ae w (.cells (Zy s on) 100));simp only[World.size_alloc]at h1 h2;have hn1:=U7 (.agg (Ya bt d));have ha:=as_fit (.agg (Ya bt d));have GI:=hid gI;have H0:=hid h0;have H1:=hid h1;have H2:=hid h2;clear gI h0 h1 h2;go_enter func294,ntmps294;go_wp2;generalize (((w.alloc (.cells (Zy s on) 100)).alloc (.cells Zb 100)).alloc (.cells (Ya bt d) 416))=U at *;have hsz:w.heap.size < U.heap.size:=ai H0.out;have hsz2:w.heap.size+1+1 < U.heap.size:=ai H2.out;have hsz1:w.heap.size+1 < U.heap.size:=ai H1.out;have HB2:Hid (∀u2,GrL [w.heap.size] U u2->u2.heap[w.heap.size+1+1]?=some (.cells (Ya bt d) 416 (0,0))):=hid λu2 g=>(g.block _ hsz2 (by simp;omega)).trans H2.out;have HB1:Hid (∀u2,GrL [w.heap.size] U u2->u2.heap[w.heap.size+1]?=some (.cells Zb 100 (0,0))):=hid λu2 g=>(g.block _ hsz1 Yj).trans H1.out;have HZ:Hid (∀u2,GrL [w.heap.size] U u2->w.heap.size < u2.heap.size):=hid λu2 g=>Nat.lt_of_lt_of_le hsz g.size;clear hsz hsz1 hsz2;refine bm [15] (λu2=>GrL [w.heap.size] U u2) (λu2=>u2.heap[w.heap.size]?=some (.cells (Zy s on) 100 (0,0))) [13] (λu2 u3 h g=>h.trans (GrL.of_gr g)) (λu2 u3 h g=>g.heap h) (GrL.of_gr (Yu _)) H0.out Yh [.val (Ym w.heap.size),.val (.agg (am s)),.val (Ym (w.heap.size+1+1)),.val (.pointer (some ⟨w.heap.size+1+1,1,none⟩)),.val (.agg (am d)),.val (.agg (am λj=>bits .or .u64 (s j) (d j))),.val (.pointer (some ⟨w.heap.size,8,none⟩)),.val (Ys on),.val (Ym (w.heap.size+1+1)),.val (Ym (w.heap.size+1+1)),.val (Ys bt),.val (Ys (bits .or .u8 on bt)),.val (Ym w.heap.size),.turn (λ_ u2=>u2.heap[w.heap.size]?=some (.cells #[(bits .or .u64 (s 0) (d 0)),(bits .or .u64 (s 1) (d 1)),(bits .or .u64 (s 2) (d 2)),(bits .or .u64 (s 3) (d 3)),(bits .or .u64 (s 4) (d 4)),(bits .or .u64 (s 5) (d 5)),(bits .or .u64 (s 6) (d 6)),(bits .or .u64 (s 7) (d 7)),Ys on] 100 (0,0))) [],.val (.pointer (some ⟨w.heap.size,8,none⟩)),.later] Yh Yh (λV=>finT) ?_ ?_
 ·refine⟨?_,?_,?_,?_,?_,?_,?_,?_,?_,?_,?_,?_,?_,?_,?_,?_,trivial⟩
  ·(intro V u2 hu hj hk;refine⟨Yh,?_⟩;obtain⟨s2,t2,z2⟩:=ed (HB2.out u2 hu);have hz:=HZ.out u2 hu;go_simp;first | exact⟨rfl,Yu _⟩ | skip)
  ·(intro V u2 hu hj hk;refine⟨Yh,?_⟩;obtain⟨s0,t0,z0⟩:=ed (hj Yh);go_simp;first | exact⟨rfl,Yu _⟩ | skip)
  iterate 3 ·(intro V u2 hu hj hk;refine⟨Yh,?_⟩;obtain⟨s2,t2,z2⟩:=ed (HB2.out u2 hu);have hz:=HZ.out u2 hu;go_simp;first | exact⟨rfl,Yu _⟩ | skip)
  ·(intro V u2 hu hj hk;refine⟨Yh,?_⟩;obtain⟨s2,t2,z2⟩:=ed (HB2.out u2 hu);have hz:=HZ.out u2 hu;go_simp;first | exact⟨rfl,Yu _⟩ | skip)
   exact zck s d _
  ·(intro V u2 hu hj hk;refine⟨Yh,?_⟩;obtain⟨s2,t2,z2⟩:=ed (HB2.out u2 hu);have hz:=HZ.out u2 hu;go_simp;first | exact⟨rfl,Yu _⟩ | skip)
  ·(intro V u2 hu hj hk;refine⟨Yh,?_⟩;obtain⟨s0,t0,z0⟩:=ed (hj Yh);go_simp;first | exact⟨rfl,Yu _⟩ | skip)
  iterate 5 ·(intro V u2 hu hj hk;refine⟨Yh,?_⟩;obtain⟨s2,t2,z2⟩:=ed (HB2.out u2 hu);have hz:=HZ.out u2 hu;go_simp;first | exact⟨rfl,Yu _⟩ | skip)
  ·refine⟨λv u2 u3 h g=>g.heap h,λV u2 hu hj hk=>⟨Yh,?_⟩⟩;refine ju (R:=(λu2=>GrL [w.heap.size] U u2)) (J:=(λu2=>u2.heap[w.heap.size]?=some (.cells (Zy s on) 100 (0,0)))) (dj:=[13]) (k:=13) (drop:=[]) (V:=V) (u:=u2) Yh Yh ?_;have h0:=hj Yh;obtain⟨s0,t0,z0⟩:=ed h0;go_simp;exact⟨Nu h0,((((((((hu.set _ _ (Or.inr Yj)).set _ _ (Or.inr Yj)).set _ _ (Or.inr Yj)).set _ _ (Or.inr Yj)).set _ _ (Or.inr Yj)).set _ _ (Or.inr Yj)).set _ _ (Or.inr Yj)).set _ _ (Or.inr Yj))⟩
  ·(intro V u2 hu hj hk;refine⟨Yh,?_⟩;obtain⟨s2,t2,z2⟩:=ed (HB2.out u2 hu);have hz:=HZ.out u2 hu;go_simp;first | exact⟨rfl,Yu _⟩ | skip)
  ·trivial
 ·intro V u hg hs;have b0:=hs 13 (λ_ u2=>u2.heap[w.heap.size]?=some (.cells #[(bits .or .u64 (s 0) (d 0)),(bits .or .u64 (s 1) (d 1)),(bits .or .u64 (s 2) (d 2)),(bits .or .u64 (s 3) (d 3)),(bits .or .u64 (s 4) (d 4)),(bits .or .u64 (s 5) (d 5)),(bits .or .u64 (s 6) (d 6)),(bits .or .u64 (s 7) (d 7)),Ys on] 100 (0,0))) rfl;have b1:=HB1.out u hg;obtain⟨s0,t0,z0⟩:=ed b0;have B0:=hid (F9 (x8:= .int .u8 (bits .or .u8 on bt)) b0);have B1:Hid ((u.setCell (Yo w.heap.size 8) (Ys (bits .or .u8 on bt))).heap[w.heap.size+1]?=some (.cells Zb 100 (0,0))):=hid (by rw[Below.heap_setCell _ ⟨w.heap.size,8,none⟩ _ _ (by show w.heap.size+1≠w.heap.size;omega)];exact b1);have GW:=hid (GrL.gr GI.out (hg.set ⟨w.heap.size,8,none⟩ (Ys (bits .or .u8 on bt)) (Or.inr Yj)) Yj);refine⟨⟨none,_,_,_,_,_⟩,rfl,rfl,?_⟩;go_simp;refine Fa.fin ?_;clear hg hs b0 b1 s0 t0 z0;generalize u.setCell (Yo w.heap.size 8) (Ys (bits .or .u8 on bt))=u1 at *;obtain⟨s3,t3,z3⟩:=ed B0.out;obtain⟨s4,t4,z4⟩:=ed B1.out;have HP9:=hid (vk (x0:= .int .u64 (bits .or .u64 (s 0) (d 0))) (x1:= .int .u64 (bits .or .u64 (s 1) (d 1))) (x2:= .int .u64 (bits .or .u64 (s 2) (d 2))) (x3:= .int .u64 (bits .or .u64 (s 3) (d 3))) (x4:= .int .u64 (bits .or .u64 (s 4) (d 4))) (x5:= .int .u64 (bits .or .u64 (s 5) (d 5))) (x6:= .int .u64 (bits .or .u64 (s 6) (d 6))) (x7:= .int .u64 (bits .or .u64 (s 7) (d 7))) (x8:= .int .u8 (bits .or .u8 on bt)) B1.out);have hl1:w.heap.size<=w.heap.size+1:=Yi;have HG9:Hid (Gr w (((((((((u1.setCell (Yo (w.heap.size+1) 0) (bits .or .u64 (s 0) (d 0))).setCell (Yo (w.heap.size+1) 1) (bits .or .u64 (s 1) (d 1))).setCell (Yo (w.heap.size+1) 2) (bits .or .u64 (s 2) (d 2))).setCell (Yo (w.heap.size+1) 3) (bits .or .u64 (s 3) (d 3))).setCell (Yo (w.heap.size+1) 4) (bits .or .u64 (s 4) (d 4))).setCell (Yo (w.heap.size+1) 5) (bits .or .u64 (s 5) (d 5))).setCell (Yo (w.heap.size+1) 6) (bits .or .u64 (s 6) (d 6))).setCell (Yo (w.heap.size+1) 7) (bits .or .u64 (s 7) (d 7))).setCell (Yo (w.heap.size+1) 8) (Ys (bits .or .u8 on bt)))):=hid (((((((((GW.out.set ⟨w.heap.size+1,0,none⟩ (bits .or .u64 (s 0) (d 0)) hl1).set ⟨w.heap.size+1,1,none⟩ (bits .or .u64 (s 1) (d 1)) hl1).set ⟨w.heap.size+1,2,none⟩ (bits .or .u64 (s 2) (d 2)) hl1).set ⟨w.heap.size+1,3,none⟩ (bits .or .u64 (s 3) (d 3)) hl1).set ⟨w.heap.size+1,4,none⟩ (bits .or .u64 (s 4) (d 4)) hl1).set ⟨w.heap.size+1,5,none⟩ (bits .or .u64 (s 5) (d 5)) hl1).set ⟨w.heap.size+1,6,none⟩ (bits .or .u64 (s 6) (d 6)) hl1).set ⟨w.heap.size+1,7,none⟩ (bits .or .u64 (s 7) (d 7)) hl1).set ⟨w.heap.size+1,8,none⟩ (Ys (bits .or .u8 on bt)) hl1);clear hl1;go_simp;go_wp2;have hp:=HP9.out;have hg:=HG9.out;clear HP9 HG9 s3 t3 z3 s4 t4 z4;generalize (((((((((u1.setCell (Yo (w.heap.size+1) 0) (bits .or .u64 (s 0) (d 0))).setCell (Yo (w.heap.size+1) 1) (bits .or .u64 (s 1) (d 1))).setCell (Yo (w.heap.size+1) 2) (bits .or .u64 (s 2) (d 2))).setCell (Yo (w.heap.size+1) 3) (bits .or .u64 (s 3) (d 3))).setCell (Yo (w.heap.size+1) 4) (bits .or .u64 (s 4) (d 4))).setCell (Yo (w.heap.size+1) 5) (bits .or .u64 (s 5) (d 5))).setCell (Yo (w.heap.size+1) 6) (bits .or .u64 (s 6) (d 6))).setCell (Yo (w.heap.size+1) 7) (bits .or .u64 (s 7) (d 7))).setCell (Yo (w.heap.size+1) 8) (Ys (bits .or .u8 on bt)))=V9 at *;obtain⟨s9,t9,z9⟩:=ed hp;exact bodyPost_ret (v:= .agg #[(bits .or .u64 (s 0) (d 0)),(bits .or .u64 (s 1) (d 1)),(bits .or .u64 (s 2) (d 2)),(bits .or .u64 (s 3) (d 3)),(bits .or .u64 (s 4) (d 4)),(bits .or .u64 (s 5) (d 5)),(bits .or .u64 (s 6) (d 6)),(bits .or .u64 (s 7) (d 7)),Ys (bits .or .u8 on bt)]) (by simp[results,results294,go_sem,s9]) rfl ⟨rfl,hg⟩
theorem V3 (bt:Int) (d s:Nat->Int) (on:Int) (w:World):
  Calls prog 294 #[.agg (Zy s on),.iface 417 (.agg (Ya bt d))] w λe w'=>e= .returned (.agg #[(bits .andNot .u64 (s 0) (d 0)),(bits .andNot .u64 (s 1) (d 1)),(bits .andNot .u64 (s 2) (d 2)),(bits .andNot .u64 (s 3) (d 3)),(bits .andNot .u64 (s 4) (d 4)),(bits .andNot .u64 (s 5) (d 5)),(bits .andNot .u64 (s 6) (d 6)),(bits .andNot .u64 (s 7) (d 7)),Ys (bits .andNot .u8 on bt)])/\Gr w w':=by
 have gI:=(((Yu w).alloc (.cells (Zy s on) 100)).alloc (.cells Zb 100)).alloc (.cells (Ya bt d) 417);have h2:=ae ((w.alloc (.cells (Zy s on) 100)).alloc (.cells Zb 100)) (.cells (Ya bt d) 417);have h1:=((Yu _).alloc (.cells (Ya bt d) 417)).heap (ae (w.alloc (.cells (Zy s on) 100)) (.cells Zb 100));have h0:=(((Yu _).alloc (.cells Zb 100)).alloc (.cells (Ya bt d) 417)).heap (ae w (.cells (Zy s on) 100));simp only[World.size_alloc]at h1 h2;have hn1:=Na (.agg (Ya bt d));have hn2:=M8 (.agg (Ya bt d));have ha:=as_take (.agg (Ya bt d));have GI:=hid gI;have H0:=hid h0;have H1:=hid h1;have H2:=hid h2;clear gI h0 h1 h2;go_enter func294,ntmps294;go_wp2;generalize (((w.alloc (.cells (Zy s on) 100)).alloc (.cells Zb 100)).alloc (.cells (Ya bt d) 417))=U at *;have hsz:w.heap.size < U.heap.size:=ai H0.out;have hsz2:w.heap.size+1+1 < U.heap.size:=ai H2.out;have hsz1:w.heap.size+1 < U.heap.size:=ai H1.out;have HB2:Hid (∀u2,GrL [w.heap.size] U u2->u2.heap[w.heap.size+1+1]?=some (.cells (Ya bt d) 417 (0,0))):=hid λu2 g=>(g.block _ hsz2 (by simp;omega)).trans H2.out;have HB1:Hid (∀u2,GrL [w.heap.size] U u2->u2.heap[w.heap.size+1]?=some (.cells Zb 100 (0,0))):=hid λu2 g=>(g.block _ hsz1 Yj).trans H1.out;have HZ:Hid (∀u2,GrL [w.heap.size] U u2->w.heap.size < u2.heap.size):=hid λu2 g=>Nat.lt_of_lt_of_le hsz g.size;clear hsz hsz1 hsz2;refine bm [15] (λu2=>GrL [w.heap.size] U u2) (λu2=>u2.heap[w.heap.size]?=some (.cells (Zy s on) 100 (0,0))) [13] (λu2 u3 h g=>h.trans (GrL.of_gr g)) (λu2 u3 h g=>g.heap h) (GrL.of_gr (Yu _)) H0.out Yh [.val (Ym w.heap.size),.val (.agg (am s)),.val (Ym (w.heap.size+1+1)),.val (.pointer (some ⟨w.heap.size+1+1,1,none⟩)),.val (.agg (am d)),.val (.agg (am λj=>bits .andNot .u64 (s j) (d j))),.val (.pointer (some ⟨w.heap.size,8,none⟩)),.val (Ys on),.val (Ym (w.heap.size+1+1)),.val (Ym (w.heap.size+1+1)),.val (Ys bt),.val (Ys (bits .andNot .u8 on bt)),.val (Ym w.heap.size),.turn (λ_ u2=>u2.heap[w.heap.size]?=some (.cells #[(bits .andNot .u64 (s 0) (d 0)),(bits .andNot .u64 (s 1) (d 1)),(bits .andNot .u64 (s 2) (d 2)),(bits .andNot .u64 (s 3) (d 3)),(bits .andNot .u64 (s 4) (d 4)),(bits .andNot .u64 (s 5) (d 5)),(bits .andNot .u64 (s 6) (d 6)),(bits .andNot .u64 (s 7) (d 7)),Ys on] 100 (0,0))) [],.val (.pointer (some ⟨w.heap.size,8,none⟩)),.later] Yh Yh (λV=>finT) ?_ ?_
 ·refine⟨?_,?_,?_,?_,?_,?_,?_,?_,?_,?_,?_,?_,?_,?_,?_,?_,trivial⟩
  ·(intro V u2 hu hj hk;refine⟨Yh,?_⟩;obtain⟨s2,t2,z2⟩:=ed (HB2.out u2 hu);have hz:=HZ.out u2 hu;go_simp;first | exact⟨rfl,Yu _⟩ | skip)
  ·(intro V u2 hu hj hk;refine⟨Yh,?_⟩;obtain⟨s0,t0,z0⟩:=ed (hj Yh);go_simp;first | exact⟨rfl,Yu _⟩ | skip)
  iterate 3 ·(intro V u2 hu hj hk;refine⟨Yh,?_⟩;obtain⟨s2,t2,z2⟩:=ed (HB2.out u2 hu);have hz:=HZ.out u2 hu;go_simp;first | exact⟨rfl,Yu _⟩ | skip)
  ·(intro V u2 hu hj hk;refine⟨Yh,?_⟩;obtain⟨s2,t2,z2⟩:=ed (HB2.out u2 hu);have hz:=HZ.out u2 hu;go_simp;first | exact⟨rfl,Yu _⟩ | skip)
   exact Mu s d _
  ·(intro V u2 hu hj hk;refine⟨Yh,?_⟩;obtain⟨s2,t2,z2⟩:=ed (HB2.out u2 hu);have hz:=HZ.out u2 hu;go_simp;first | exact⟨rfl,Yu _⟩ | skip)
  ·(intro V u2 hu hj hk;refine⟨Yh,?_⟩;obtain⟨s0,t0,z0⟩:=ed (hj Yh);go_simp;first | exact⟨rfl,Yu _⟩ | skip)
  iterate 5 ·(intro V u2 hu hj hk;refine⟨Yh,?_⟩;obtain⟨s2,t2,z2⟩:=ed (HB2.out u2 hu);have hz:=HZ.out u2 hu;go_simp;first | exact⟨rfl,Yu _⟩ | skip)
  ·refine⟨λv u2 u3 h g=>g.heap h,λV u2 hu hj hk=>⟨Yh,?_⟩⟩;refine ju (R:=(λu2=>GrL [w.heap.size] U u2)) (J:=(λu2=>u2.heap[w.heap.size]?=some (.cells (Zy s on) 100 (0,0)))) (dj:=[13]) (k:=13) (drop:=[]) (V:=V) (u:=u2) Yh Yh ?_;have h0:=hj Yh;obtain⟨s0,t0,z0⟩:=ed h0;go_simp;exact⟨Nu h0,((((((((hu.set _ _ (Or.inr Yj)).set _ _ (Or.inr Yj)).set _ _ (Or.inr Yj)).set _ _ (Or.inr Yj)).set _ _ (Or.inr Yj)).set _ _ (Or.inr Yj)).set _ _ (Or.inr Yj)).set _ _ (Or.inr Yj))⟩
  ·(intro V u2 hu hj hk;refine⟨Yh,?_⟩;obtain⟨s2,t2,z2⟩:=ed (HB2.out u2 hu);have hz:=HZ.out u2 hu;go_simp;first | exact⟨rfl,Yu _⟩ | skip)
  ·trivial
 ·intro V u hg hs;have b0:=hs 13 (λ_ u2=>u2.heap[w.heap.size]?=some (.cells #[(bits .andNot .u64 (s 0) (d 0)),(bits .andNot .u64 (s 1) (d 1)),(bits .andNot .u64 (s 2) (d 2)),(bits .andNot .u64 (s 3) (d 3)),(bits .andNot .u64 (s 4) (d 4)),(bits .andNot .u64 (s 5) (d 5)),(bits .andNot .u64 (s 6) (d 6)),(bits .andNot .u64 (s 7) (d 7)),Ys on] 100 (0,0))) rfl;have b1:=HB1.out u hg;obtain⟨s0,t0,z0⟩:=ed b0;have B0:=hid (F9 (x8:= .int .u8 (bits .andNot .u8 on bt)) b0);have B1:Hid ((u.setCell (Yo w.heap.size 8) (Ys (bits .andNot .u8 on bt))).heap[w.heap.size+1]?=some (.cells Zb 100 (0,0))):=hid (by rw[Below.heap_setCell _ ⟨w.heap.size,8,none⟩ _ _ (by show w.heap.size+1≠w.heap.size;omega)];exact b1);have GW:=hid (GrL.gr GI.out (hg.set ⟨w.heap.size,8,none⟩ (Ys (bits .andNot .u8 on bt)) (Or.inr Yj)) Yj);refine⟨⟨none,_,_,_,_,_⟩,rfl,rfl,?_⟩;go_simp;refine Fa.fin ?_;clear hg hs b0 b1 s0 t0 z0;generalize u.setCell (Yo w.heap.size 8) (Ys (bits .andNot .u8 on bt))=u1 at *;obtain⟨s3,t3,z3⟩:=ed B0.out;obtain⟨s4,t4,z4⟩:=ed B1.out;have HP9:=hid (vk (x0:= .int .u64 (bits .andNot .u64 (s 0) (d 0))) (x1:= .int .u64 (bits .andNot .u64 (s 1) (d 1))) (x2:= .int .u64 (bits .andNot .u64 (s 2) (d 2))) (x3:= .int .u64 (bits .andNot .u64 (s 3) (d 3))) (x4:= .int .u64 (bits .andNot .u64 (s 4) (d 4))) (x5:= .int .u64 (bits .andNot .u64 (s 5) (d 5))) (x6:= .int .u64 (bits .andNot .u64 (s 6) (d 6))) (x7:= .int .u64 (bits .andNot .u64 (s 7) (d 7))) (x8:= .int .u8 (bits .andNot .u8 on bt)) B1.out);have hl1:w.heap.size<=w.heap.size+1:=Yi;have HG9:Hid (Gr w (((((((((u1.setCell (Yo (w.heap.size+1) 0) (bits .andNot .u64 (s 0) (d 0))).setCell (Yo (w.heap.size+1) 1) (bits .andNot .u64 (s 1) (d 1))).setCell (Yo (w.heap.size+1) 2) (bits .andNot .u64 (s 2) (d 2))).setCell (Yo (w.heap.size+1) 3) (bits .andNot .u64 (s 3) (d 3))).setCell (Yo (w.heap.size+1) 4) (bits .andNot .u64 (s 4) (d 4))).setCell (Yo (w.heap.size+1) 5) (bits .andNot .u64 (s 5) (d 5))).setCell (Yo (w.heap.size+1) 6) (bits .andNot .u64 (s 6) (d 6))).setCell (Yo (w.heap.size+1) 7) (bits .andNot .u64 (s 7) (d 7))).setCell (Yo (w.heap.size+1) 8) (Ys (bits .andNot .u8 on bt)))):=hid (((((((((GW.out.set ⟨w.heap.size+1,0,none⟩ (bits .andNot .u64 (s 0) (d 0)) hl1).set ⟨w.heap.size+1,1,none⟩ (bits .andNot .u64 (s 1) (d 1)) hl1).set ⟨w.heap.size+1,2,none⟩ (bits .andNot .u64 (s 2) (d 2)) hl1).set ⟨w.heap.size+1,3,none⟩ (bits .andNot .u64 (s 3) (d 3)) hl1).set ⟨w.heap.size+1,4,none⟩ (bits .andNot .u64 (s 4) (d 4)) hl1).set ⟨w.heap.size+1,5,none⟩ (bits .andNot .u64 (s 5) (d 5)) hl1).set ⟨w.heap.size+1,6,none⟩ (bits .andNot .u64 (s 6) (d 6)) hl1).set ⟨w.heap.size+1,7,none⟩ (bits .andNot .u64 (s 7) (d 7)) hl1).set ⟨w.heap.size+1,8,none⟩ (Ys (bits .andNot .u8 on bt)) hl1);clear hl1;go_simp;go_wp2;have hp:=HP9.out;have hg:=HG9.out;clear HP9 HG9 s3 t3 z3 s4 t4 z4;generalize (((((((((u1.setCell (Yo (w.heap.size+1) 0) (bits .andNot .u64 (s 0) (d 0))).setCell (Yo (w.heap.size+1) 1) (bits .andNot .u64 (s 1) (d 1))).setCell (Yo (w.heap.size+1) 2) (bits .andNot .u64 (s 2) (d 2))).setCell (Yo (w.heap.size+1) 3) (bits .andNot .u64 (s 3) (d 3))).setCell (Yo (w.heap.size+1) 4) (bits .andNot .u64 (s 4) (d 4))).setCell (Yo (w.heap.size+1) 5) (bits .andNot .u64 (s 5) (d 5))).setCell (Yo (w.heap.size+1) 6) (bits .andNot .u64 (s 6) (d 6))).setCell (Yo (w.heap.size+1) 7) (bits .andNot .u64 (s 7) (d 7))).setCell (Yo (w.heap.size+1) 8) (Ys (bits .andNot .u8 on bt)))=V9 at *;obtain⟨s9,t9,z9⟩:=ed hp;exact bodyPost_ret (v:= .agg #[(bits .andNot .u64 (s 0) (d 0)),(bits .andNot .u64 (s 1) (d 1)),(bits .andNot .u64 (s 2) (d 2)),(bits .andNot .u64 (s 3) (d 3)),(bits .andNot .u64 (s 4) (d 4)),(bits .andNot .u64 (s 5) (d 5)),(bits .andNot .u64 (s 6) (d 6)),(bits .andNot .u64 (s 7) (d 7)),Ys (bits .andNot .u8 on bt)]) (by simp[results,results294,go_sem,s9]) rfl ⟨rfl,hg⟩
structure S8 where
 a0:Nat
 a1:Nat
 a2:Nat
 a3:Nat
 a4:Nat
 a5:Nat
 a6:Nat
 a7:Nat
 deriving DecidableEq,Inhabited
def S8.l (s:S8):List Nat:=[s.a0,s.a1,s.a2,s.a3,s.a4,s.a5,s.a6,s.a7]
def S8.f (s:S8):Nat->Int
 | 0=>s.a0
 | 1=>s.a1
 | 2=>s.a2
 | 3=>s.a3
 | 4=>s.a4
 | 5=>s.a5
 | 6=>s.a6
 | _=>s.a7
def S8.cs (s:S8):List Value:=[s.a0,s.a1,s.a2,s.a3,s.a4,s.a5,s.a6,s.a7]
def S8.ok (s:S8):Prop:=∀p∈s.l,p < 2 ^ 64
def S8.zero:S8:=⟨0,0,0,0,0,0,0,0⟩
theorem S8.l_inj {s t:S8} (h:s.l=t.l):s=t:=by
 cases s;cases t;simpa[S8.l]using h
theorem S8.cs_len (s:S8):s.cs.length=8:=rfl
theorem S8.cs_one (s:S8):∀v∈s.cs,v.oneCell'=true:=by
 intro v hv;simp only[S8.cs,List.mem_cons,List.not_mem_nil,or_false]at hv;rcases hv with rfl | rfl | rfl | rfl | rfl | rfl | rfl | rfl <;> rfl
structure Ac where
 k:Nat
 p:Int
 c:S8
 deriving DecidableEq,Inhabited
def Ac.cs (a:Ac):List Value:= .int .u8 a.k :: .int .i64 a.p :: a.c.cs
theorem Ac.cs_len (a:Ac):a.cs.length=10:=rfl
theorem Ac.cs_one (a:Ac):∀v∈a.cs,v.oneCell'=true:=by
 intro v hv;simp only[Ac.cs,List.mem_cons]at hv;rcases hv with rfl | rfl | h
 iterate 2 ·rfl
 ·exact a.c.cs_one v h
def bo (w:World) (k:Nat) (v:Value) (L:List (List Value)):Prop:=∃a cap,v= .slice a L.length cap/\L.length<=cap/\∀j (hj:j < L.length),∃g o,a=some ⟨g,o,none⟩/\g < w.heap.size/\∀i x,L[j][i]?=some x->w.cell? ⟨g,o+j * k+i,none⟩=some x
theorem bo.nil (w:World) (k:Nat) (a:Option Addr) (cap:Nat):bo w k (.slice a 0 cap) []:=⟨a,cap,rfl,Nat.zero_le _,λj hj=>by simp at hj⟩
theorem bo.gr {w w':World} {k:Nat} {v:Value} {L:List (List Value)} (h:bo w k v L) (g:Gr w w'):bo w' k v L:=by
 obtain⟨a,cap,h1,h2,h3⟩:=h;refine⟨a,cap,h1,h2,λj hj=>?_⟩;obtain⟨b,o,e1,e2,e3⟩:=h3 j hj;exact⟨b,o,e1,Nat.lt_of_lt_of_le e2 g.b.size,λi x hx=>(g.cells.1 b _ e2).trans (e3 i x hx)⟩
def l5 (w:World) (v:Value) (L:List Ac):Prop:=bo w 10 v (L.map Ac.cs)/\∀a∈L,a.c.ok
theorem l5.gr {w w':World} {v:Value} {L:List Ac} (h:l5 w v L) (g:Gr w w'):l5 w' v L:=⟨h.1.gr g,h.2⟩
theorem xm {w:World} {v:Value} {L:List S8} (h:bo w 8 v (L.map S8.cs)) (hl:∀s∈L,s.ok):ef w v (L.map S8.l):=by
 obtain⟨a,cap,rfl,h2,h3⟩:=h;simp only[List.length_map]at h2 h3;refine⟨a,cap,Yj,by simpa using h2,λj hj=>?_⟩;have hj':j < L.length:=by simpa using hj
 obtain⟨g,o,e1,e2,e3⟩:=h3 j hj';simp only[List.getElem_map]at e3 ⊢;have hk:=hl _ (List.getElem_mem hj');generalize L[j]=s at *;refine⟨g,o,e1,e2,s.a0,s.a1,s.a2,s.a3,s.a4,s.a5,s.a6,s.a7,rfl,hk,?_⟩;exact⟨e3 0 _ rfl,e3 1 _ rfl,e3 2 _ rfl,e3 3 _ rfl,e3 4 _ rfl,e3 5 _ rfl,e3 6 _ rfl,e3 7 _ rfl⟩
abbrev Std:=(Nat->Int)×Int
inductive AbTrV|Zx(x0:Nat)(x1:Ac)|Zz(x0:Std)|Yc(x0:S8)
open AbTrV
instance{x0:Nat}{x1:Ac}:CoeDep AbTrV (Zx x0 x1) (Array Value):=⟨#[sv [100,111], .int .i64 (x0 : Nat), .int .u64 0, .int .u64 0, .int .u64 0, .int .u64 0, .int .u64 0, .int .u64 0, .int .u64 0, .int .u64 0, .int .u8 x1.k, .int .i64 x1.p, x1.c.a0, x1.c.a1, x1.c.a2, x1.c.a3, x1.c.a4, x1.c.a5, x1.c.a6, x1.c.a7]⟩
instance{x0:Std}:CoeDep AbTrV (Zz x0) (Array Value):=⟨#[(x0.1 0), (x0.1 1), (x0.1 2), (x0.1 3), (x0.1 4), (x0.1 5), (x0.1 6), (x0.1 7), .int .u8 x0.2]⟩
instance{x0:S8}:CoeDep AbTrV (Yc x0) (Array Value):=⟨#[x0.a0, x0.a1, x0.a2, x0.a3, x0.a4, x0.a5, x0.a6, x0.a7]⟩
def ks (p:Int):Int:=(2:Int) ^ p.toNat
def nxt (L:List S8) (s:Std) (a:Ac):Std×Nat:=
 if okA L.length a.k a.p a.c.l=false then(s,1)
 else if a.k=1 then
  if inB a.c.f s.1 then((λj=>bits .andNot .u64 (s.1 j) (a.c.f j),s.2),0)else(s,40)
 else if a.k=2 then
  if bits .and .u8 s.2 (ks a.p)=0 then
   if yg (L.getD a.p.toNat default).f s.1 then(s,41)else((λj=>bits .or .u64 (s.1 j) ((L.getD a.p.toNat default).f j),bits .or .u8 s.2 (ks a.p)),0)
  else(s,42)
 else
  if bits .and .u8 s.2 (ks a.p)=0 then(s,42)
  else if inB (L.getD a.p.toNat default).f s.1 then((λj=>bits .andNot .u64 (s.1 j) ((L.getD a.p.toNat default).f j),bits .andNot .u8 s.2 (ks a.p)),0)else(s,40)
def jg (L:List S8):Std->Nat->List Ac->Nat×Nat×Std
 | s,_,[]=>(0,0,s)
 | s,i,a :: r=>if (nxt L s a).2=0 then jg L (nxt L s a).1 (i+1) r else(i,(nxt L s a).2,s)
def du (P:S8) (L:List S8) (A:List Ac):Nat×Nat:=
 if ci P.l (L.map S8.l)≠0 then(0,ci P.l (L.map S8.l))else if 60 < A.length then(0,2)else((jg L (P.f,0) 0 A).1,(jg L (P.f,0) 0 A).2.1)
end
section
open Go.RowKit Go.Shelf Go.Lib
abbrev D3 (at_ e:Int):Value:= .iface 391 (.agg #[Yp at_,Yp e])
theorem W5 (p q r:Addr) (w:World):
  CallsD prog 292 #[.pointer (some p),.pointer (some q),.pointer (some r)] .returning w λe u' w'=>e= .returned (.tuple #[])/\u'= .returning/\w'=w:=by
 refine callsD_of_wpS func292 rfl λc₀ cs hu=>?_;simp only[ntmps292,List.size_toArray,List.length_cons,List.length_nil,Nat.reduceAdd,Nat.reduceSub,Array.replicate_succ,Array.replicate_zero,List.push_toArray,List.append_toArray,List.nil_append,List.cons_append];apply wpS_seq;apply wpS_region;simp[wpOpsS,go_sem,recoverD,hu,Exit.thenS];refine wpS_of_wp ?_;go_wp2;cases c₀;simp_all[bodyPostS,results,results292]
theorem Hi (a e:Int) (w:World):(binOp .eql 20 (D3 a e) .nilIface).run prog w= .ok (.bool false) w:=run_eql_held_nil _ _ _ _ Yh
theorem J5 (a e:Int) (w:World):(Instr.typeAssert (D3 a e) 20 391 true).run prog w= .ok (.tuple #[.agg #[Yp a,Yp e],.bool true]) w:=Yh
theorem Pg (p q r:Nat) (a k:Int) (x y z:Value) (Tp Tq Tr:TypeId) (older:List PanicEntry) (w:World) (hp:w.heap[p]?=some (.cells #[x] Tp (0,0))) (hq:w.heap[q]?=some (.cells #[y] Tq (0,0))) (hr:w.heap[r]?=some (.cells #[z] Tr (0,0))) (hpq:p≠q) (hpr:p≠r) (hqr:q≠r):
  CallsD prog 292 #[Ym p,Ym q,Ym r] (.panicking ({v:=D3 a k,recovered:=false} :: older)) w λe u' w'=>
   e= .returned (.tuple #[])/\u'= .panicking ({v:=D3 a k,recovered:=true} :: older)/\(w'.heap[p]?=some (.cells #[.pointer none] Tp (0,0))/\w'.heap[q]?=some (.cells #[Yp a] Tq (0,0))/\w'.heap[r]?=some (.cells #[Yp k] Tr (0,0)))/\GrL [p,q,r] w w':=by
 have q1:=Hi a k;have q2:=J5 a k;have g0:Gr w (w.alloc (.cells #[Yp a,Yp k] 391)):=(Yu w).alloc _;have bh:=ae w (.cells #[Yp a,Yp k] 391);have bp:=g0.heap hp;have bq:=g0.heap hq;have br:=g0.heap hr;have hbp:w.heap.size≠p:=by have:=ai hp;omega
 have hbq:w.heap.size≠q:=by have:=ai hq;omega
 have hbr:w.heap.size≠r:=by have:=ai hr;omega
 refine callsD_of_wpS func292 rfl λc₀ cs hu=>?_;simp only[ntmps292,List.size_toArray,List.length_cons,List.length_nil,Nat.reduceAdd,Nat.reduceSub,Array.replicate_succ,Array.replicate_zero,List.push_toArray,List.append_toArray,List.nil_append,List.cons_append];apply wpS_seq;apply wpS_region;simp[wpOpsS,go_sem,recoverD,hu,Exit.thenS];refine wpS_of_wp ?_;go_wp2_with fail;generalize w.alloc (.cells #[Yp a,Yp k] 391)=U at *;generalize w.heap.size=h at *;have HU:=hid g0;clear g0;have BH:=hid bh;have BP:=hid bp;have BQ:=hid bq;have BR:=hid br;clear bh bp bq br;refine bm [6] (λu2=>GrL [p,q] U u2) (λu2=>u2.heap[p]?=some (.cells #[x] Tp (0,0))/\u2.heap[q]?=some (.cells #[y] Tq (0,0))) [4,5] (λu2 u3 h g=>h.trans (GrL.of_gr g)) (λ_ _ h g=>⟨g.heap h.1,g.heap h.2⟩) (GrL.of_gr (Yu _)) ⟨BP.out,BQ.out⟩ Yh
  [.val (Ym h),.val (Yp a),.val (.pointer (some ⟨h,1,none⟩)),.val (Yp k),.turn (λ_ u2=>u2.heap[p]?=some (.cells #[.pointer none] Tp (0,0))/\u2.heap[q]?=some (.cells #[y] Tq (0,0))) [],.turn (λ_ u2=>u2.heap[p]?=some (.cells #[.pointer none] Tp (0,0))/\u2.heap[q]?=some (.cells #[Yp a] Tq (0,0))) [4],.later] Yh Yh (λV=>finT) ?_ ?_
 ·refine⟨?_,?_,?_,?_,?_,?_,?_,trivial⟩
  iterate 4 ·(intro V u2 hu hj hk;refine⟨Yh,?_⟩;obtain⟨ch,fh,zh⟩:=ed ((hu.block h (ai BH.out) (by simp;omega)).trans BH.out);go_simp;exact⟨rfl,Yu _⟩)
  ·refine⟨λv u2 u3 h g=>⟨g.heap h.1,g.heap h.2⟩,λV u2 hu hj hk=>⟨Yh,?_⟩⟩;refine ju (R:=λu2=>GrL [p,q] U u2) (J:=λu2=>u2.heap[p]?=some (.cells #[x] Tp (0,0))/\u2.heap[q]?=some (.cells #[y] Tq (0,0))) (dj:=[4,5]) (k:=4) (drop:=[]) (V:=V) (u:=u2) Yh Yh ?_;obtain⟨j1,j2⟩:=hj Yh;obtain⟨cp,fp,zp⟩:=ed j1;have e1:=j9 (x:= .pointer none) j1;have e2:=((GrL.set (l:=[p]) (GrL.of_gr (Yu u2)) ⟨p,0,none⟩ (.pointer none) (Or.inr Yj)).block q (ai j2) (by simpa using Ne.symm hpq)).trans j2;go_simp;exact⟨⟨e1,e2⟩,hu.set _ _ (Or.inr Yj)⟩
  ·refine⟨λv u2 u3 h g=>⟨g.heap h.1,g.heap h.2⟩,λV u2 hu hj hk=>⟨Yh,?_⟩⟩;refine ju (R:=λu2=>GrL [p,q] U u2) (J:=λu2=>u2.heap[p]?=some (.cells #[x] Tp (0,0))/\u2.heap[q]?=some (.cells #[y] Tq (0,0))) (dj:=[4,5]) (k:=5) (drop:=[4]) (V:=V) (u:=u2) Yh Yh ?_;obtain⟨j1,j2⟩:=hk 4 (λ_ u2=>u2.heap[p]?=some (.cells #[.pointer none] Tp (0,0))/\u2.heap[q]?=some (.cells #[y] Tq (0,0))) Yh Yh;obtain⟨cq,fq,zq⟩:=ed j2;have e2:=j9 (x:= .int .i64 a) j2;have e1:=((GrL.set (l:=[q]) (GrL.of_gr (Yu u2)) ⟨q,0,none⟩ (Yp a) (Or.inr Yj)).block p (ai j1) (by simpa using hpq)).trans j1;go_simp;exact⟨⟨e1,e2⟩,hu.set _ _ (Or.inr Yj)⟩
  ·trivial
 ·intro V u hg hs;obtain⟨e1,e2⟩:=hs 5 (λ_ u2=>u2.heap[p]?=some (.cells #[.pointer none] Tp (0,0))/\u2.heap[q]?=some (.cells #[Yp a] Tq (0,0))) rfl;have e3:=(hg.block r (ai BR.out) (by simp;omega)).trans BR.out;obtain⟨cr,fr,zr⟩:=ed e3;have E3:=hid (j9 (x:= .int .i64 k) e3);have g9:=(GrL.set (l:=[r]) (GrL.of_gr (Yu u)) ⟨r,0,none⟩ (Yp k) (Or.inr Yj));have E1:=hid ((g9.block p (ai e1) (by simpa using hpr)).trans e1);have E2:=hid ((g9.block q (ai e2) (by simpa using hqr)).trans e2);have G9:Hid (GrL [p,q,r] w (u.setCell (Yo r 0) (Yp k))):=hid (GrL.set ((GrL.of_gr (l:=[p,q,r]) HU.out).trans (hg.mono (by intro i hi;simp at hi ⊢;omega))) _ _ (Or.inr Yj));clear hs hg e1 e2 e3 g9;refine⟨⟨none,_,_,_,_,_⟩,rfl,rfl,?_⟩;go_simp;refine Fa.fin ?_;go_simp;go_wp2;simp[bodyPostS,results,results292];exact⟨⟨E1.out,E2.out,E3.out⟩,G9.out⟩
theorem zbO (i:Int) (w:World):
  Calls prog 293 #[Yp i,Yp 0] w λe w'=>e= .returned (.tuple #[])/\Gr w w':=by
 go_enter func293,ntmps293;go_wp2;go_end0;exact⟨rfl,Yu _⟩
theorem L7 (i k:Int) (hk:k≠0) (w:World):
  Calls prog 293 #[Yp i,Yp k] w λe w'=>e= .panicked [{v:=D3 i k,recovered:=false}]/\Gr w w':=by
 go_enter func293,ntmps293;go_wp2;exact⟨rfl,rfl,Yu _⟩
def Ax:String:= "strickle" ++ String.singleton (Char.ofNat 47) ++ "trace.refused"
theorem ref_cut (X:Value) (u:World) (n:Nat) (s:String) (hn:n=prog.types.size+Made.depth) (hs:s=Ax):(method n 413 X s).run prog u= .ok (346,X) u:=by
 subst hn;subst hs
 kernel_rfl
theorem nil_cut (X:Value) (u:World) (n:Nat) (s:String) (hn:n=prog.types.size+Made.depth) (hs:s=Ax):(nilAhead n 413 X s).run prog u= .ok (some false) u:=by
 subst hn;subst hs
 kernel_rfl
theorem ref_fit (X:Value) (u:World) (n:Nat) (s:String) (hn:n=prog.types.size+Made.depth) (hs:s=Ax):(method n 416 X s).run prog u= .ok (350,X) u:=by
 subst hn;subst hs
 kernel_rfl
theorem nil_fit (X:Value) (u:World) (n:Nat) (s:String) (hn:n=prog.types.size+Made.depth) (hs:s=Ax):(nilAhead n 416 X s).run prog u= .ok (some false) u:=by
 subst hn;subst hs
 kernel_rfl
theorem zaj (X:Value) (u:World) (n:Nat) (s:String) (hn:n=prog.types.size+Made.depth) (hs:s=Ax):(method n 417 X s).run prog u= .ok (352,X) u:=by
 subst hn;subst hs
 kernel_rfl
theorem zaO (X:Value) (u:World) (n:Nat) (s:String) (hn:n=prog.types.size+Made.depth) (hs:s=Ax):(nilAhead n 417 X s).run prog u= .ok (some false) u:=by
 subst hn;subst hs
 kernel_rfl
theorem al2 (w:World) (a b:Obj):∃U,(w.alloc a).alloc b=U/\Gr w U/\U.heap[w.heap.size]?=some a/\U.heap[w.heap.size+1]?=some b:=by
 refine⟨_,rfl,((Yu w).alloc a).alloc b,((Yu _).alloc b).heap (ae w a),?_⟩;have:=ae (w.alloc a) b;simpa only[World.size_alloc]using this
theorem al3 (w:World) (a b c:Obj):∃U,((w.alloc a).alloc b).alloc c=U/\Gr w U/\U.heap[w.heap.size]?=some a/\U.heap[w.heap.size+1]?=some b/\U.heap[w.heap.size+1+1]?=some c:=by
 obtain⟨U,hU,g,h0,h1⟩:=al2 w a b;refine⟨_,rfl,?_⟩;rw[hU];have g':=(Yu U).alloc c;refine⟨g.trans g',g'.heap h0,g'.heap h1,?_⟩;have:=ae U c;rw[<-hU]at this ⊢;simpa only[World.size_alloc]using this
theorem al4 (w:World) (a b c d:Obj):∃U,(((w.alloc a).alloc b).alloc c).alloc d=U/\Gr w U/\U.heap[w.heap.size]?=some a/\U.heap[w.heap.size+1]?=some b/\U.heap[w.heap.size+1+1]?=some c/\U.heap[w.heap.size+1+1+1]?=some d:=by
 obtain⟨U,hU,g,h0,h1,h2⟩:=al3 w a b c;refine⟨_,rfl,?_⟩;rw[hU];have g':=(Yu U).alloc d;refine⟨g.trans g',g'.heap h0,g'.heap h1,g'.heap h2,?_⟩;have:=ae U d;rw[<-hU]at this ⊢;simpa only[World.size_alloc]using this
end
end Go.Proofs.YtimcfaoabaflkaaGreatDoor
