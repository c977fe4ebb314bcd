/- trace: Read, both cases. -/
import Derived.Test.YtimcfaoabaflkaaGreatDoorTrR
namespace Go.Proofs.YtimcfaoabaflkaaGreatDoor
open AbBase
open AbA AbI
set_option maxHeartbeats 4000000
set_option maxRecDepth 100000
open Go.Proofs.Tryz
section
open Go.RowKit Go.Shelf Go.Lib
theorem My (l:List UInt8) (hl:l.length<=100000) (w:World) (tw:TW w):∃pc:Int,(∀v,Lib.atoiAll l= .ok v->pc=v)/\Hid (∀u,Gr w u->Calls prog 135 #[sv l] u λe w'=>∃er:Value,e= .returned (.tuple #[Yp pc,er])/\Gr u w'):=by
 have hs:(⟨l.toArray⟩:ByteArray).size=l.length:=rfl;rcases ha:Lib.atoiAll l with v | _ | _
 ·refine⟨v,λv' h=>by injection h,hid λu g=>?_⟩;refine(Tryz.strconv_Atoi_ok ⟨l.toArray⟩ Yi v ha u).mono ?_;rintro e w1 ⟨rfl,hw1⟩;refine⟨_,rfl,?_⟩;rcases hw1 with rfl | ⟨t,rfl⟩
  ·exact Yu _
  ·exact Gr.of_below (Lib.bytesWorld_below _ _ _)
 ·refine⟨0,λv' h=>(by cases h),hid λu g=>?_⟩;obtain⟨tp,p,h1⟩:=(tw.gr g).s;refine(Tryz.strconv_Atoi_syntax ⟨l.toArray⟩ Yi ha _ u h1 (.inr ⟨_,_,rfl⟩)).mono ?_;rintro e w1 ⟨N,rfl,_,_,b⟩;exact⟨_,rfl,Gr.of_below b⟩
 ·refine⟨Lib.atoiSat l,λv' h=>(by cases h),hid λu g=>?_⟩;obtain⟨tp,p,h1⟩:=(tw.gr g).r;refine(Tryz.strconv_Atoi_range ⟨l.toArray⟩ Yi ha _ u h1 (.inr ⟨_,_,rfl⟩)).mono ?_;rintro e w1 ⟨N,rfl,_,_,b⟩;exact⟨_,rfl,Gr.of_below b⟩
theorem Gn (l:List UInt8):(Lib.cut l [32]).2.1.length<=l.length:=by
 unfold Lib.cut;split
 iterate 2 ·simp
abbrev zb3 (k:Nat) (pc:Int) (c0 c1 c2 c3 c4 c5 c6 c7:Nat):Value:= .agg #[Ys k,Yp pc,c0,c1,c2,c3,c4,c5,c6,c7]
theorem za5 (l:List UInt8):Ak l<=3:=by
 unfold Ak;split
 ·omega
 ·split
  ·omega
  ·split <;> omega
theorem Se (l:List UInt8) (hl:l.length<=100000) (h:∀(k:Nat) (pc:Int) (c0 c1 c2 c3 c4 c5 c6 c7:Nat),(∀p∈[c0,c1,c2,c3,c4,c5,c6,c7],p < 2 ^ 64)->okA 8 k pc [c0,c1,c2,c3,c4,c5,c6,c7]=true->dl k pc [c0,c1,c2,c3,c4,c5,c6,c7]≠l) (w:World) (tw:TW w) (ht:w.cell? ⟨7,15,none⟩=some (.int .u8 4)):
  Calls prog 84 #[sv l] w λe w'=>e= .returned (.tuple #[zb3 0 0 0 0 0 0 0 0 0 0,Yp 4])/\Gr w w':=by
 have hz:∀p∈([0,0,0,0,0,0,0,0]:List Nat),p < 2 ^ 64:=Yj;have hno:∀(k:Nat) (pc:Int) (c0 c1 c2 c3 c4 c5 c6 c7:Nat),(∀p∈[c0,c1,c2,c3,c4,c5,c6,c7],p < 2 ^ 64)->(okA 8 k pc [c0,c1,c2,c3,c4,c5,c6,c7] && decide (dl k pc [c0,c1,c2,c3,c4,c5,c6,c7]=l))=false:=λk pc c0 c1 c2 c3 c4 c5 c6 c7 hp=>by
  cases hok:okA 8 k pc [c0,c1,c2,c3,c4,c5,c6,c7]
  ·rfl
  ·exact decide_eq_false (h k pc c0 c1 c2 c3 c4 c5 c6 c7 hp hok)
 by_cases hk:Ak (Lib.cut l [32]).1=1
 ·by_cases hP:∃c0 c1 c2 c3 c4 c5 c6 c7:Nat,(∀p∈[c0,c1,c2,c3,c4,c5,c6,c7],p < 2 ^ 64)/\dg [c0,c1,c2,c3,c4,c5,c6,c7]=(Lib.cut l [32]).2.1
  ·obtain⟨c0,c1,c2,c3,c4,c5,c6,c7,hp,hT⟩:=hP;have R:=ti l hl c0 c1 c2 c3 c4 c5 c6 c7 hp w tw ht hk (hid λu g=>by
    rw[<-hT];exact(p8 c0 c1 c2 c3 c4 c5 c6 c7 hp u (tw.gr g) ((g.cells.1 _ _ (World.block_lt_of_cell? _ _ ht)).trans ht)).mono λe w' ⟨h1,h2⟩=>⟨0,h1,h2⟩)
   rw[hno 1 0 c0 c1 c2 c3 c4 c5 c6 c7 hp]at R;exact R
  ·have R:=ti l hl 0 0 0 0 0 0 0 0 hz w tw ht hk (hid λu g=>by
    refine(Ch _ (Nat.le_trans (Gn l) hl) (λP hlen hp hT=>hP ?_) u (tw.gr g) ((g.cells.1 _ _ (World.block_lt_of_cell? _ _ ht)).trans ht)).mono λe w' ⟨h1,h2⟩=>⟨4,h1,h2⟩
    match P,hlen with
    | [c0,c1,c2,c3,c4,c5,c6,c7],_=>exact⟨c0,c1,c2,c3,c4,c5,c6,c7,hp,hT⟩)
   rw[hno 1 0 0 0 0 0 0 0 0 0 hz]at R;exact R
 ·obtain⟨pc,_,HA⟩:=My _ (Nat.le_trans (Gn l) hl) w tw;have R:=Cd l hl _ hk (za5 _) pc w tw ht rfl HA;rw[hno _ pc 0 0 0 0 0 0 0 0 hz]at R;exact R
theorem M7 (k:Nat) (pc:Int) (c0 c1 c2 c3 c4 c5 c6 c7:Nat) (hp:∀p∈[c0,c1,c2,c3,c4,c5,c6,c7],p < 2 ^ 64) (hok:okA 8 k pc [c0,c1,c2,c3,c4,c5,c6,c7]=true) (w:World) (tw:TW w) (ht:w.cell? ⟨7,15,none⟩=some (.int .u8 4)):
  Calls prog 84 #[sv (dl k pc [c0,c1,c2,c3,c4,c5,c6,c7])] w λe w'=>e= .returned (.tuple #[zb3 k pc c0 c1 c2 c3 c4 c5 c6 c7,Yp 0])/\Gr w w':=by
 have hlen:=Bj [c0,c1,c2,c3,c4,c5,c6,c7] rfl hp;rcases jc hok with ⟨rfl,rfl⟩ | ⟨hk,i,hi,rfl⟩
 ·have hc:Lib.cut (dl 1 0 [c0,c1,c2,c3,c4,c5,c6,c7]) [32]=([99,117,116],dg [c0,c1,c2,c3,c4,c5,c6,c7],true):=cutc_at (c:=32) (l:=[99,117,116]) (m:=dg [c0,c1,c2,c3,c4,c5,c6,c7]) Yk;have R:=ti (dl 1 0 [c0,c1,c2,c3,c4,c5,c6,c7]) (by rw[show dl 1 0 [c0,c1,c2,c3,c4,c5,c6,c7]=[99,117,116,32] ++ dg [c0,c1,c2,c3,c4,c5,c6,c7]from rfl,List.length_append,List.length_cons,List.length_cons,List.length_cons,List.length_cons,List.length_nil];omega) c0 c1 c2 c3 c4 c5 c6 c7 hp w tw ht (by rw[hc];rfl) (hid λu g=>by
   rw[hc];exact(p8 c0 c1 c2 c3 c4 c5 c6 c7 hp u (tw.gr g) ((g.cells.1 _ _ (World.block_lt_of_cell? _ _ ht)).trans ht)).mono λe w' ⟨h1,h2⟩=>⟨0,h1,h2⟩)
  rw[hok,decide_eq_true rfl]at R;exact R
 ·have hz:[c0,c1,c2,c3,c4,c5,c6,c7]=aq:=by
   unfold okA at hok;rcases hk with rfl | rfl <;> (simp at hok ⊢;exact hok.2)
  simp only[List.cons.injEq,and_true]at hz;obtain⟨rfl,rfl,rfl,rfl,rfl,rfl,rfl,rfl⟩:=hz;have hai:=atoi_itoa (i:Int) Yi Yi;have hil:=Lib.itoa_length_le (i:Int) Yi Yi;have hc:(Ak (Lib.cut (dl k i aq) [32]).1=k/\(Lib.cut (dl k i aq) [32]).2.1=Lib.itoa i)/\(dl k i aq).length<=100000:=by
   rcases hk with rfl | rfl
   ·rw[show Lib.cut (dl 2 i aq) [32]=([102,105,116],Lib.itoa i,true)from cutc_at (c:=32) (l:=[102,105,116]) (m:=Lib.itoa i) Yk];exact⟨⟨rfl,rfl⟩,by rw[show dl 2 i aq=[102,105,116,32] ++ Lib.itoa i from rfl,List.length_append];simp only[List.length_cons,List.length_nil];omega⟩
   ·rw[show Lib.cut (dl 3 i aq) [32]=([116,97,107,101],Lib.itoa i,true)from cutc_at (c:=32) (l:=[116,97,107,101]) (m:=Lib.itoa i) Yk];exact⟨⟨rfl,rfl⟩,by rw[show dl 3 i aq=[116,97,107,101,32] ++ Lib.itoa i from rfl,List.length_append];simp only[List.length_cons,List.length_nil];omega⟩
  obtain⟨pc,hpc,HA⟩:=My (Lib.cut (dl k i aq) [32]).2.1 (by rw[hc.1.2];omega) w tw;obtain rfl:pc=i:=hpc i (by rw[hc.1.2];exact hai);have R:=Cd (dl k i aq) hc.2 k Yi Yi i w tw ht hc.1.1 HA;rw[hok,decide_eq_true rfl]at R;exact R
abbrev am (f:Nat->Int):Array Value:=#[(f 0),(f 1),(f 2),(f 3),(f 4),(f 5),(f 6),(f 7)]
theorem kg (f:Nat->Int) (i:Nat) (hi:i < 8):(am f)[i]?=some (.int .u64 (f i)):=by
 rcases(by omega:i=0\/i=1\/i=2\/i=3\/i=4\/i=5\/i=6\/i=7)with rfl | rfl | rfl | rfl | rfl | rfl | rfl | rfl <;> rfl
theorem ja {u:World} {g:Nat} {y0 y1 y2 y3 y4 y5 y6 y7 x0 x1 x2 x3 x4 x5 x6 x7:Value} {T:TypeId} (h:u.heap[g]?=some (.cells #[y0,y1,y2,y3,y4,y5,y6,y7] T (0,0))):((((((((u.setCell (Yo g 0) x0).setCell (Yo g 1) x1).setCell (Yo g 2) x2).setCell (Yo g 3) x3).setCell (Yo g 4) x4).setCell (Yo g 5) x5).setCell (Yo g 6) x6).setCell (Yo g 7) x7).heap[g]?=some (.cells #[x0,x1,x2,x3,x4,x5,x6,x7] T (0,0)):=by
 have:=(af (i:=7) x7 (af (i:=6) x6 (af (i:=5) x5 (af (i:=4) x4 (af (i:=3) x3 (af (i:=2) x2 (af (i:=1) x1 (af (i:=0) x0 h))))))));simpa using this
def au (o:BinOp) (p q:Nat->Int) (i:Nat):Nat->Int:=λj=>if j < i then bits o .u64 (p j) (q j)else p j
theorem E6 (o:BinOp) (p q:Nat->Int) (i:Nat) (hi:i < 8):(am (au o p q i)).setIfInBounds i (bits o .u64 (p i) (q i))=am (au o p q (i+1)):=by
 rcases(by omega:i=0\/i=1\/i=2\/i=3\/i=4\/i=5\/i=6\/i=7)with rfl | rfl | rfl | rfl | rfl | rfl | rfl | rfl <;> simp[am,au]
theorem Ms (p q:Nat->Int) (w:World):
  Calls prog 349 #[.agg (am p),.agg (am q)] w λe w'=>e= .returned (.agg (am λj=>bits .and .u64 (p j) (q j)))/\Gr w w':=by
 have i0:((w.alloc (.cells (am p) 39)).alloc (.cells (am q) 39)).alloc (.cells (am λ_=>0) 39)=((w.alloc (.cells (am p) 39)).alloc (.cells (am q) 39)).alloc (.cells (am λ_=>0) 39):=rfl;have gI:=((Yu w).alloc (.cells (am p) 39)).alloc (.cells (am q) 39);have gJ:=gI.alloc (.cells (am λ_=>0) 39);have h2:=ae ((w.alloc (.cells (am p) 39)).alloc (.cells (am q) 39)) (.cells (am λ_=>0) 39);have h1:=((Yu _).alloc (.cells (am λ_=>0) 39)).heap (ae (w.alloc (.cells (am p) 39)) (.cells (am q) 39));have h0:=(((Yu _).alloc (.cells (am q) 39)).alloc (.cells (am λ_=>0) 39)).heap (ae w (.cells (am p) 39));simp only[World.size_alloc]at h1 h2;have H0:=hid h0;have H1:=hid h1;have H2:=hid h2;have GJ:=hid gJ;clear i0 gI gJ h0 h1 h2;go_enter func349,ntmps349;go_wp2;go_loopw [6] (λr wr=>∃i:Nat,r= .int .i64 i/\i<=8/\Hid (wr.heap[w.heap.size]?=some (.cells (am (au .and p q i)) 39 (0,0)))/\Hid (wr.heap[w.heap.size+1]?=some (.cells (am q) 39 (0,0)))/\Hid (wr.heap[w.heap.size+1+1]?=some (.cells (am λ_=>0) 39 (0,0)))/\Gr w wr) (λr _=>8 - (intOf r).toNat)
 case atStart=>exact⟨0,rfl,Yi,H0,H1,H2,GJ.out⟩
 case round=>
  obtain⟨i,rfl,hi,A0,A1,A2,gr⟩:=hrel
  by_cases hil:i < 8
  ·have hil':(i:Int) < 8:=Yi;obtain⟨s0,t0,z0⟩:=ed A0.out;obtain⟨s1,t1,z1⟩:=ed A1.out;have c0:wr.cell? ⟨w.heap.size,i,none⟩=some (.int .u64 (p i)):=by rw[s0 i,kg _ _ hil,au,if_neg (Nat.lt_irrefl i)]
   have c1:wr.cell? ⟨w.heap.size+1,i,none⟩=some (.int .u64 (q i)):=by rw[s1 i,kg _ _ hil]
   have u0:=af (i:=i) (bits .and .u64 (p i) (q i)) A0.out;rw[E6 _ _ _ _ hil]at u0;have U0:=hid u0;have U1:Hid ((wr.setCell (Yo w.heap.size i) (bits .and .u64 (p i) (q i))).heap[w.heap.size+1]?=some (.cells (am q) 39 (0,0))):=hid (by rw[Below.heap_setCell _ ⟨w.heap.size,i,none⟩ _ _ (by show w.heap.size+1≠w.heap.size;omega)];exact A1.out);have U2:Hid ((wr.setCell (Yo w.heap.size i) (bits .and .u64 (p i) (q i))).heap[w.heap.size+1+1]?=some (.cells (am λ_=>0) 39 (0,0))):=hid (by rw[Below.heap_setCell _ ⟨w.heap.size,i,none⟩ _ _ (by show w.heap.size+1+1≠w.heap.size;omega)];exact A2.out);have UG:=hid (gr.set ⟨w.heap.size,i,none⟩ (bits .and .u64 (p i) (q i)) (Yv _));clear s0 s1 u0 A0 A1 A2 gr;go_wp2;go_still_tail 8,Yh;go_wp2;exact⟨⟨i+1,Yj,Yi,U0,U1,U2,UG.out.drew⟩,by simp[intOf];omega⟩
  ·obtain rfl:i=8:=Yi;obtain⟨s0,t0,z0⟩:=ed A0.out;obtain⟨s2,t2,z2⟩:=ed A2.out;have hle:w.heap.size<=w.heap.size+1+1:=Yi;have HP9:=hid (ja (x0:= .int .u64 (au .and p q 8 0)) (x1:= .int .u64 (au .and p q 8 1)) (x2:= .int .u64 (au .and p q 8 2)) (x3:= .int .u64 (au .and p q 8 3)) (x4:= .int .u64 (au .and p q 8 4)) (x5:= .int .u64 (au .and p q 8 5)) (x6:= .int .u64 (au .and p q 8 6)) (x7:= .int .u64 (au .and p q 8 7)) A2.out);have HG9:Hid (Gr w ((((((((wr.setCell (Yo (w.heap.size+1+1) 0) (au .and p q 8 0)).setCell (Yo (w.heap.size+1+1) 1) (au .and p q 8 1)).setCell (Yo (w.heap.size+1+1) 2) (au .and p q 8 2)).setCell (Yo (w.heap.size+1+1) 3) (au .and p q 8 3)).setCell (Yo (w.heap.size+1+1) 4) (au .and p q 8 4)).setCell (Yo (w.heap.size+1+1) 5) (au .and p q 8 5)).setCell (Yo (w.heap.size+1+1) 6) (au .and p q 8 6)).setCell (Yo (w.heap.size+1+1) 7) (au .and p q 8 7))):=hid ((((((((gr.set ⟨w.heap.size+1+1,0,none⟩ (au .and p q 8 0) hle).set ⟨w.heap.size+1+1,1,none⟩ (au .and p q 8 1) hle).set ⟨w.heap.size+1+1,2,none⟩ (au .and p q 8 2) hle).set ⟨w.heap.size+1+1,3,none⟩ (au .and p q 8 3) hle).set ⟨w.heap.size+1+1,4,none⟩ (au .and p q 8 4) hle).set ⟨w.heap.size+1+1,5,none⟩ (au .and p q 8 5) hle).set ⟨w.heap.size+1+1,6,none⟩ (au .and p q 8 6) hle).set ⟨w.heap.size+1+1,7,none⟩ (au .and p q 8 7) hle);have HU:=hid (show am (au .and p q 8)=am (λj=>bits .and .u64 (p j) (q j))from rfl);clear hle;go_wp2;have hp:=HP9.out;have hg:=HG9.out;clear HP9 HG9;generalize ((((((((wr.setCell (Yo (w.heap.size+1+1) 0) (au .and p q 8 0)).setCell (Yo (w.heap.size+1+1) 1) (au .and p q 8 1)).setCell (Yo (w.heap.size+1+1) 2) (au .and p q 8 2)).setCell (Yo (w.heap.size+1+1) 3) (au .and p q 8 3)).setCell (Yo (w.heap.size+1+1) 4) (au .and p q 8 4)).setCell (Yo (w.heap.size+1+1) 5) (au .and p q 8 5)).setCell (Yo (w.heap.size+1+1) 6) (au .and p q 8 6)).setCell (Yo (w.heap.size+1+1) 7) (au .and p q 8 7))=V at *;obtain⟨s9,t9,z9⟩:=ed hp;refine bodyPost_ret (v:= .agg (am (au .and p q 8))) (by simp[results,results349,go_sem,s9]) rfl ⟨?_,hg⟩;rw[HU.out]
theorem Mu (p q:Nat->Int) (w:World):
  Calls prog 309 #[.agg (am p),.agg (am q)] w λe w'=>e= .returned (.agg (am λj=>bits .andNot .u64 (p j) (q j)))/\Gr w w':=by
 have i0:((w.alloc (.cells (am p) 39)).alloc (.cells (am q) 39)).alloc (.cells (am λ_=>0) 39)=((w.alloc (.cells (am p) 39)).alloc (.cells (am q) 39)).alloc (.cells (am λ_=>0) 39):=rfl;have gI:=((Yu w).alloc (.cells (am p) 39)).alloc (.cells (am q) 39);have gJ:=gI.alloc (.cells (am λ_=>0) 39);have h2:=ae ((w.alloc (.cells (am p) 39)).alloc (.cells (am q) 39)) (.cells (am λ_=>0) 39);have h1:=((Yu _).alloc (.cells (am λ_=>0) 39)).heap (ae (w.alloc (.cells (am p) 39)) (.cells (am q) 39));have h0:=(((Yu _).alloc (.cells (am q) 39)).alloc (.cells (am λ_=>0) 39)).heap (ae w (.cells (am p) 39));simp only[World.size_alloc]at h1 h2;have H0:=hid h0;have H1:=hid h1;have H2:=hid h2;have GJ:=hid gJ;clear i0 gI gJ h0 h1 h2;go_enter func309,ntmps309;go_wp2;go_loopw [6] (λr wr=>∃i:Nat,r= .int .i64 i/\i<=8/\Hid (wr.heap[w.heap.size]?=some (.cells (am (au .andNot p q i)) 39 (0,0)))/\Hid (wr.heap[w.heap.size+1]?=some (.cells (am q) 39 (0,0)))/\Hid (wr.heap[w.heap.size+1+1]?=some (.cells (am λ_=>0) 39 (0,0)))/\Gr w wr) (λr _=>8 - (intOf r).toNat)
 case atStart=>exact⟨0,rfl,Yi,H0,H1,H2,GJ.out⟩
 case round=>
  obtain⟨i,rfl,hi,A0,A1,A2,gr⟩:=hrel
  by_cases hil:i < 8
  ·have hil':(i:Int) < 8:=Yi;obtain⟨s0,t0,z0⟩:=ed A0.out;obtain⟨s1,t1,z1⟩:=ed A1.out;have c0:wr.cell? ⟨w.heap.size,i,none⟩=some (.int .u64 (p i)):=by rw[s0 i,kg _ _ hil,au,if_neg (Nat.lt_irrefl i)]
   have c1:wr.cell? ⟨w.heap.size+1,i,none⟩=some (.int .u64 (q i)):=by rw[s1 i,kg _ _ hil]
   have u0:=af (i:=i) (bits .andNot .u64 (p i) (q i)) A0.out;rw[E6 _ _ _ _ hil]at u0;have U0:=hid u0;have U1:Hid ((wr.setCell (Yo w.heap.size i) (bits .andNot .u64 (p i) (q i))).heap[w.heap.size+1]?=some (.cells (am q) 39 (0,0))):=hid (by rw[Below.heap_setCell _ ⟨w.heap.size,i,none⟩ _ _ (by show w.heap.size+1≠w.heap.size;omega)];exact A1.out);have U2:Hid ((wr.setCell (Yo w.heap.size i) (bits .andNot .u64 (p i) (q i))).heap[w.heap.size+1+1]?=some (.cells (am λ_=>0) 39 (0,0))):=hid (by rw[Below.heap_setCell _ ⟨w.heap.size,i,none⟩ _ _ (by show w.heap.size+1+1≠w.heap.size;omega)];exact A2.out);have UG:=hid (gr.set ⟨w.heap.size,i,none⟩ (bits .andNot .u64 (p i) (q i)) (Yv _));clear s0 s1 u0 A0 A1 A2 gr;go_wp2;go_still_tail 8,Yh;go_wp2;exact⟨⟨i+1,Yj,Yi,U0,U1,U2,UG.out.drew⟩,by simp[intOf];omega⟩
  ·obtain rfl:i=8:=Yi;obtain⟨s0,t0,z0⟩:=ed A0.out;obtain⟨s2,t2,z2⟩:=ed A2.out;have hle:w.heap.size<=w.heap.size+1+1:=Yi;have HP9:=hid (ja (x0:= .int .u64 (au .andNot p q 8 0)) (x1:= .int .u64 (au .andNot p q 8 1)) (x2:= .int .u64 (au .andNot p q 8 2)) (x3:= .int .u64 (au .andNot p q 8 3)) (x4:= .int .u64 (au .andNot p q 8 4)) (x5:= .int .u64 (au .andNot p q 8 5)) (x6:= .int .u64 (au .andNot p q 8 6)) (x7:= .int .u64 (au .andNot p q 8 7)) A2.out);have HG9:Hid (Gr w ((((((((wr.setCell (Yo (w.heap.size+1+1) 0) (au .andNot p q 8 0)).setCell (Yo (w.heap.size+1+1) 1) (au .andNot p q 8 1)).setCell (Yo (w.heap.size+1+1) 2) (au .andNot p q 8 2)).setCell (Yo (w.heap.size+1+1) 3) (au .andNot p q 8 3)).setCell (Yo (w.heap.size+1+1) 4) (au .andNot p q 8 4)).setCell (Yo (w.heap.size+1+1) 5) (au .andNot p q 8 5)).setCell (Yo (w.heap.size+1+1) 6) (au .andNot p q 8 6)).setCell (Yo (w.heap.size+1+1) 7) (au .andNot p q 8 7))):=hid ((((((((gr.set ⟨w.heap.size+1+1,0,none⟩ (au .andNot p q 8 0) hle).set ⟨w.heap.size+1+1,1,none⟩ (au .andNot p q 8 1) hle).set ⟨w.heap.size+1+1,2,none⟩ (au .andNot p q 8 2) hle).set ⟨w.heap.size+1+1,3,none⟩ (au .andNot p q 8 3) hle).set ⟨w.heap.size+1+1,4,none⟩ (au .andNot p q 8 4) hle).set ⟨w.heap.size+1+1,5,none⟩ (au .andNot p q 8 5) hle).set ⟨w.heap.size+1+1,6,none⟩ (au .andNot p q 8 6) hle).set ⟨w.heap.size+1+1,7,none⟩ (au .andNot p q 8 7) hle);have HU:=hid (show am (au .andNot p q 8)=am (λj=>bits .andNot .u64 (p j) (q j))from rfl);clear hle;go_wp2;have hp:=HP9.out;have hg:=HG9.out;clear HP9 HG9;generalize ((((((((wr.setCell (Yo (w.heap.size+1+1) 0) (au .andNot p q 8 0)).setCell (Yo (w.heap.size+1+1) 1) (au .andNot p q 8 1)).setCell (Yo (w.heap.size+1+1) 2) (au .andNot p q 8 2)).setCell (Yo (w.heap.size+1+1) 3) (au .andNot p q 8 3)).setCell (Yo (w.heap.size+1+1) 4) (au .andNot p q 8 4)).setCell (Yo (w.heap.size+1+1) 5) (au .andNot p q 8 5)).setCell (Yo (w.heap.size+1+1) 6) (au .andNot p q 8 6)).setCell (Yo (w.heap.size+1+1) 7) (au .andNot p q 8 7))=V at *;obtain⟨s9,t9,z9⟩:=ed hp;refine bodyPost_ret (v:= .agg (am (au .andNot p q 8))) (by simp[results,results309,go_sem,s9]) rfl ⟨?_,hg⟩;rw[HU.out]
theorem zck (p q:Nat->Int) (w:World):
  Calls prog 310 #[.agg (am p),.agg (am q)] w λe w'=>e= .returned (.agg (am λj=>bits .or .u64 (p j) (q j)))/\Gr w w':=by
 have i0:((w.alloc (.cells (am p) 39)).alloc (.cells (am q) 39)).alloc (.cells (am λ_=>0) 39)=((w.alloc (.cells (am p) 39)).alloc (.cells (am q) 39)).alloc (.cells (am λ_=>0) 39):=rfl;have gI:=((Yu w).alloc (.cells (am p) 39)).alloc (.cells (am q) 39);have gJ:=gI.alloc (.cells (am λ_=>0) 39);have h2:=ae ((w.alloc (.cells (am p) 39)).alloc (.cells (am q) 39)) (.cells (am λ_=>0) 39);have h1:=((Yu _).alloc (.cells (am λ_=>0) 39)).heap (ae (w.alloc (.cells (am p) 39)) (.cells (am q) 39));have h0:=(((Yu _).alloc (.cells (am q) 39)).alloc (.cells (am λ_=>0) 39)).heap (ae w (.cells (am p) 39));simp only[World.size_alloc]at h1 h2;have H0:=hid h0;have H1:=hid h1;have H2:=hid h2;have GJ:=hid gJ;clear i0 gI gJ h0 h1 h2;go_enter func310,ntmps310;go_wp2;go_loopw [6] (λr wr=>∃i:Nat,r= .int .i64 i/\i<=8/\Hid (wr.heap[w.heap.size]?=some (.cells (am (au .or p q i)) 39 (0,0)))/\Hid (wr.heap[w.heap.size+1]?=some (.cells (am q) 39 (0,0)))/\Hid (wr.heap[w.heap.size+1+1]?=some (.cells (am λ_=>0) 39 (0,0)))/\Gr w wr) (λr _=>8 - (intOf r).toNat)
 case atStart=>exact⟨0,rfl,Yi,H0,H1,H2,GJ.out⟩
 case round=>
  obtain⟨i,rfl,hi,A0,A1,A2,gr⟩:=hrel
  by_cases hil:i < 8
  ·have hil':(i:Int) < 8:=Yi;obtain⟨s0,t0,z0⟩:=ed A0.out;obtain⟨s1,t1,z1⟩:=ed A1.out;have c0:wr.cell? ⟨w.heap.size,i,none⟩=some (.int .u64 (p i)):=by rw[s0 i,kg _ _ hil,au,if_neg (Nat.lt_irrefl i)]
   have c1:wr.cell? ⟨w.heap.size+1,i,none⟩=some (.int .u64 (q i)):=by rw[s1 i,kg _ _ hil]
   have u0:=af (i:=i) (bits .or .u64 (p i) (q i)) A0.out;rw[E6 _ _ _ _ hil]at u0;have U0:=hid u0;have U1:Hid ((wr.setCell (Yo w.heap.size i) (bits .or .u64 (p i) (q i))).heap[w.heap.size+1]?=some (.cells (am q) 39 (0,0))):=hid (by rw[Below.heap_setCell _ ⟨w.heap.size,i,none⟩ _ _ (by show w.heap.size+1≠w.heap.size;omega)];exact A1.out);have U2:Hid ((wr.setCell (Yo w.heap.size i) (bits .or .u64 (p i) (q i))).heap[w.heap.size+1+1]?=some (.cells (am λ_=>0) 39 (0,0))):=hid (by rw[Below.heap_setCell _ ⟨w.heap.size,i,none⟩ _ _ (by show w.heap.size+1+1≠w.heap.size;omega)];exact A2.out);have UG:=hid (gr.set ⟨w.heap.size,i,none⟩ (bits .or .u64 (p i) (q i)) (Yv _));clear s0 s1 u0 A0 A1 A2 gr;go_wp2;go_still_tail 8,Yh;go_wp2;exact⟨⟨i+1,Yj,Yi,U0,U1,U2,UG.out.drew⟩,by simp[intOf];omega⟩
  ·obtain rfl:i=8:=Yi;obtain⟨s0,t0,z0⟩:=ed A0.out;obtain⟨s2,t2,z2⟩:=ed A2.out;have hle:w.heap.size<=w.heap.size+1+1:=Yi;have HP9:=hid (ja (x0:= .int .u64 (au .or p q 8 0)) (x1:= .int .u64 (au .or p q 8 1)) (x2:= .int .u64 (au .or p q 8 2)) (x3:= .int .u64 (au .or p q 8 3)) (x4:= .int .u64 (au .or p q 8 4)) (x5:= .int .u64 (au .or p q 8 5)) (x6:= .int .u64 (au .or p q 8 6)) (x7:= .int .u64 (au .or p q 8 7)) A2.out);have HG9:Hid (Gr w ((((((((wr.setCell (Yo (w.heap.size+1+1) 0) (au .or p q 8 0)).setCell (Yo (w.heap.size+1+1) 1) (au .or p q 8 1)).setCell (Yo (w.heap.size+1+1) 2) (au .or p q 8 2)).setCell (Yo (w.heap.size+1+1) 3) (au .or p q 8 3)).setCell (Yo (w.heap.size+1+1) 4) (au .or p q 8 4)).setCell (Yo (w.heap.size+1+1) 5) (au .or p q 8 5)).setCell (Yo (w.heap.size+1+1) 6) (au .or p q 8 6)).setCell (Yo (w.heap.size+1+1) 7) (au .or p q 8 7))):=hid ((((((((gr.set ⟨w.heap.size+1+1,0,none⟩ (au .or p q 8 0) hle).set ⟨w.heap.size+1+1,1,none⟩ (au .or p q 8 1) hle).set ⟨w.heap.size+1+1,2,none⟩ (au .or p q 8 2) hle).set ⟨w.heap.size+1+1,3,none⟩ (au .or p q 8 3) hle).set ⟨w.heap.size+1+1,4,none⟩ (au .or p q 8 4) hle).set ⟨w.heap.size+1+1,5,none⟩ (au .or p q 8 5) hle).set ⟨w.heap.size+1+1,6,none⟩ (au .or p q 8 6) hle).set ⟨w.heap.size+1+1,7,none⟩ (au .or p q 8 7) hle);have HU:=hid (show am (au .or p q 8)=am (λj=>bits .or .u64 (p j) (q j))from rfl);clear hle;go_wp2;have hp:=HP9.out;have hg:=HG9.out;clear HP9 HG9;generalize ((((((((wr.setCell (Yo (w.heap.size+1+1) 0) (au .or p q 8 0)).setCell (Yo (w.heap.size+1+1) 1) (au .or p q 8 1)).setCell (Yo (w.heap.size+1+1) 2) (au .or p q 8 2)).setCell (Yo (w.heap.size+1+1) 3) (au .or p q 8 3)).setCell (Yo (w.heap.size+1+1) 4) (au .or p q 8 4)).setCell (Yo (w.heap.size+1+1) 5) (au .or p q 8 5)).setCell (Yo (w.heap.size+1+1) 6) (au .or p q 8 6)).setCell (Yo (w.heap.size+1+1) 7) (au .or p q 8 7))=V at *;obtain⟨s9,t9,z9⟩:=ed hp;refine bodyPost_ret (v:= .agg (am (au .or p q 8))) (by simp[results,results310,go_sem,s9]) rfl ⟨?_,hg⟩;rw[HU.out]
theorem zbv (q0 q1 q2 q3 q4 q5 q6 q7 p0 p1 p2 p3 p4 p5 p6 p7:Int) (w:World):(Op.equalIn 10000 39 (.agg #[q0,q1,q2,q3,q4,q5,q6,q7]) (.agg #[p0,p1,p2,p3,p4,p5,p6,p7])).run prog w= .ok (decide ([q0,q1,q2,q3,q4,q5,q6,q7]=[p0,p1,p2,p3,p4,p5,p6,p7])) w:=by
 have hu:=underlying39;obtain⟨i,hi⟩:=Option.isSome_iff_exists.1 (show(prog.info? 37).isSome=true by kernel_rfl);have hc:prog.cellsOf 37=1:=Yh;rw[show(10000:Nat)=9999+1 from rfl,run_equalIn_array w 9999 _ _ hu hi];have h8:List.range 8=[0,1,2,3,4,5,6,7]:=rfl;rw[hc,h8]
 by_cases h0:q0=p0
 ·by_cases h1:q1=p1
  ·by_cases h2:q2=p2
   ·by_cases h3:q3=p3
    ·by_cases h4:q4=p4
     ·by_cases h5:q5=p5
      ·by_cases h6:q6=p6
       ·by_cases h7:q7=p7
        ·simp[Op.eqItems,go_sem, *]
        ·simp[Op.eqItems,go_sem, *];try omega
       ·simp[Op.eqItems,go_sem, *];try omega
      ·simp[Op.eqItems,go_sem, *];try omega
     ·simp[Op.eqItems,go_sem, *];try omega
    ·simp[Op.eqItems,go_sem, *];try omega
   ·simp[Op.eqItems,go_sem, *];try omega
  ·simp[Op.eqItems,go_sem, *];try omega
 ·simp[Op.eqItems,go_sem, *];try omega
abbrev km (f:Nat->Int):List Int:=[f 0,f 1,f 2,f 3,f 4,f 5,f 6,f 7]
theorem zbu (p q:Nat->Int) (w:World):(Op.equalIn 10000 39 (.agg (am p)) (.agg (am q))).run prog w= .ok (decide (km p=km q)) w:=zbv _ _ _ _ _ _ _ _ _ _ _ _ _ _ _ _ w
theorem zcl (p q:Nat->Int) (w:World):
  Calls prog 348 #[.agg (am p),.agg (am q)] w λe w'=>e= .returned (.bool (decide (km (λj=>bits .and .u64 (p j) (q j))=km p)))/\Gr w w':=by
 have gI:=((Yu w).alloc (.cells (am p) 39)).alloc (.cells (am q) 39);have h1:=ae (w.alloc (.cells (am p) 39)) (.cells (am q) 39);have h0:=((Yu _).alloc (.cells (am q) 39)).heap (ae w (.cells (am p) 39));rw[World.size_alloc]at h1;have GI:=hid gI;obtain⟨s0,t0,z0⟩:=ed h0;obtain⟨s1,t1,z1⟩:=ed h1;have he:=zbu (λj=>bits .and .u64 (p j) (q j)) p;obtain⟨b,hb⟩:∃b,decide (km (λj=>bits .and .u64 (p j) (q j))=km p)=b:=⟨_,rfl⟩;rw[hb]at he;rw[hb];clear hb gI h0 h1;go_enter func348,ntmps348;go_wp2;generalize (w.alloc (.cells (am p) 39)).alloc (.cells (am q) 39)=U at *;refine ah [.val (.agg (am p)),.val (.agg (am q)),.val (.agg (am λj=>bits .and .u64 (p j) (q j))),.val (.agg (am p)),.val (.bool b),.val (.bool b)] Yh Yh (λV=>finT) ?_ ?_
 ·refine⟨?_,?_,?_,?_,?_,?_,trivial⟩ <;> (first | exact trivial | exact osGr | (refine⟨osK,?_⟩;intro V u hu hk;refine⟨Yh,aw Yh ?_⟩;obtain⟨hc,hf,hz⟩:=hu.cells;go_simp;skip) | (refine⟨osK,?_⟩;intro V u hu hk;refine⟨Yh,?_⟩;obtain⟨hc,hf,hz⟩:=hu.cells;go_simp;skip) | (intro V u hu hk;refine⟨Yh,?_⟩;obtain⟨hc,hf,hz⟩:=hu.cells;go_simp;first | exact⟨rfl,Yu _⟩ | skip) | (intro V u hu hk;show _=false;kernel_rfl));exact Ms p q _
 ·intro V u hg hs;go_simp;go_wp2;go_ret;exact⟨rfl,GI.out.trans hg⟩
theorem Tx (p q:Nat->Int) (w:World):
  Calls prog 351 #[.agg (am p),.agg (am q)] w λe w'=>e= .returned (.bool (!decide (km (λj=>bits .and .u64 (p j) (q j))=km λ_=>0)))/\Gr w w':=by
 have gI:=((Yu w).alloc (.cells (am p) 39)).alloc (.cells (am q) 39);have h1:=ae (w.alloc (.cells (am p) 39)) (.cells (am q) 39);have h0:=((Yu _).alloc (.cells (am q) 39)).heap (ae w (.cells (am p) 39));rw[World.size_alloc]at h1;have GI:=hid gI;obtain⟨s0,t0,z0⟩:=ed h0;obtain⟨s1,t1,z1⟩:=ed h1;have he:=zbu (λj=>bits .and .u64 (p j) (q j)) (λ_=>0);obtain⟨b,hb⟩:∃b,decide (km (λj=>bits .and .u64 (p j) (q j))=km λ_=>0)=b:=⟨_,rfl⟩;rw[hb]at he;rw[hb];clear hb gI h0 h1;have MM:=hid (Ms p q ((w.alloc (.cells (am p) 39)).alloc (.cells (am q) 39)));go_enter func351,ntmps351;go_wp2_with fail;refine MM.out.mono ?_;rintro e w1 ⟨rfl,g1⟩;have G1:=hid (GI.out.trans g1);clear g1 MM s0 s1 t0 t1 z0 z1;go_wp2;go_ret;exact⟨rfl,G1.out⟩
def inB (d s:Nat->Int):Bool:=decide (km (λj=>bits .and .u64 (d j) (s j))=km d)
def yg (d s:Nat->Int):Bool:= !decide (km (λj=>bits .and .u64 (d j) (s j))=km λ_=>0)
theorem zbC (d s:Nat->Int) (on:Int) (w:World):
  Calls prog 346 #[.agg (am d),.agg (Zy s on)] w λe w'=>e= .returned (Yp (if inB d s then 0 else 40))/\Gr w w':=by
 have gI:=((Yu w).alloc (.cells (am d) 413)).alloc (.cells (Zy s on) 100);have h1:=ae (w.alloc (.cells (am d) 413)) (.cells (Zy s on) 100);have h0:=((Yu _).alloc (.cells (Zy s on) 100)).heap (ae w (.cells (am d) 413));rw[World.size_alloc]at h1;have GI:=hid gI;obtain⟨s0,t0,z0⟩:=ed h0;obtain⟨s1,t1,z1⟩:=ed h1;have CC:=hid (zcl d s ((w.alloc (.cells (am d) 413)).alloc (.cells (Zy s on) 100)));obtain⟨q,hq⟩:∃q,inB d s=q:=⟨_,rfl⟩;have hq':=hq;unfold inB at hq';rw[hq']at CC;rw[hq];clear hq hq' gI h0 h1;go_enter func346,ntmps346;go_wp2_with fail;refine CC.out.mono ?_;rintro e w1 ⟨rfl,g1⟩;have G1:=hid (GI.out.trans g1);clear g1 CC s0 s1 t0 t1 z0 z1;cases q
 ·go_wp2;go_ret;exact⟨rfl,G1.out⟩
 ·go_wp2;go_ret;exact⟨rfl,G1.out⟩
theorem Sh (bt:Int) (d s:Nat->Int) (on:Int) (w:World):
  Calls prog 352 #[.agg ((Ya bt d)),.agg (Zy s on)] w λe w'=>e= .returned (Yp (if bits .and .u8 on bt=0 then 42 else if inB d s then 0 else 40))/\Gr w w':=by
 have gI:=((Yu w).alloc (.cells ((Ya bt d)) 417)).alloc (.cells (Zy s on) 100);have h1:=ae (w.alloc (.cells ((Ya bt d)) 417)) (.cells (Zy s on) 100);have h0:=((Yu _).alloc (.cells (Zy s on) 100)).heap (ae w (.cells ((Ya bt d)) 417));rw[World.size_alloc]at h1;have GI:=hid gI;obtain⟨s0,t0,z0⟩:=ed h0;obtain⟨s1,t1,z1⟩:=ed h1;have CC:=hid (zcl d s ((w.alloc (.cells ((Ya bt d)) 417)).alloc (.cells (Zy s on) 100)));obtain⟨q,hq⟩:∃q,inB d s=q:=⟨_,rfl⟩;have hq':=hq;unfold inB at hq';rw[hq']at CC;rw[hq];clear hq hq' gI h0 h1
 by_cases hb:bits .and .u8 on bt=0
 ·rw[if_pos hb];go_enter func352,ntmps352;go_wp2;go_ret;exact⟨rfl,GI.out⟩
 ·rw[if_neg hb];go_enter func352,ntmps352;go_wp2_with fail;refine CC.out.mono ?_;rintro e w1 ⟨rfl,g1⟩;have G1:=hid (GI.out.trans g1);clear g1 CC s0 s1 t0 t1 z0 z1;cases q
  ·go_wp2;go_ret;exact⟨rfl,G1.out⟩
  ·go_wp2;go_ret;exact⟨rfl,G1.out⟩
theorem zbq (bt:Int) (d s:Nat->Int) (on:Int) (w:World):
  Calls prog 350 #[.agg ((Ya bt d)),.agg (Zy s on)] w λe w'=>e= .returned (Yp (if bits .and .u8 on bt=0 then(if yg d s then 41 else 0)else 42))/\Gr w w':=by
 have gI:=((Yu w).alloc (.cells ((Ya bt d)) 416)).alloc (.cells (Zy s on) 100);have h1:=ae (w.alloc (.cells ((Ya bt d)) 416)) (.cells (Zy s on) 100);have h0:=((Yu _).alloc (.cells (Zy s on) 100)).heap (ae w (.cells ((Ya bt d)) 416));rw[World.size_alloc]at h1;have GI:=hid gI;obtain⟨s0,t0,z0⟩:=ed h0;obtain⟨s1,t1,z1⟩:=ed h1;have CC:=hid (Tx d s ((w.alloc (.cells ((Ya bt d)) 416)).alloc (.cells (Zy s on) 100)));obtain⟨q,hq⟩:∃q,yg d s=q:=⟨_,rfl⟩;have hq':=hq;unfold yg at hq';rw[hq']at CC;rw[hq];clear hq hq' gI h0 h1
 by_cases hb:bits .and .u8 on bt=0
 ·rw[if_pos hb];go_enter func350,ntmps350;go_wp2_with fail;refine CC.out.mono ?_;rintro e w1 ⟨rfl,g1⟩;have G1:=hid (GI.out.trans g1);clear g1 CC s0 s1 t0 t1 z0 z1;cases q
  ·go_wp2;go_ret;exact⟨rfl,G1.out⟩
  ·go_wp2;go_ret;exact⟨rfl,G1.out⟩
 ·rw[if_neg hb];go_enter func350,ntmps350;go_wp2;go_ret;exact⟨rfl,GI.out⟩
theorem as_cut (v:Value) (w:World):(Instr.typeAssert (.iface 413 v) 356 413 true).run prog w= .ok (.tuple #[v,.bool true]) w:=Yh
theorem Lu (d s:Nat->Int) (on:Int) (w:World):
  Calls prog 294 #[.agg (Zy s on),.iface 413 (.agg (am d))] w λe w'=>e= .returned (.agg #[(bits .andNot .u64 (s 0) (d 0)),(bits .andNot .u64 (s 1) (d 1)),(bits .andNot .u64 (s 2) (d 2)),(bits .andNot .u64 (s 3) (d 3)),(bits .andNot .u64 (s 4) (d 4)),(bits .andNot .u64 (s 5) (d 5)),(bits .andNot .u64 (s 6) (d 6)),(bits .andNot .u64 (s 7) (d 7)),Ys on])/\Gr w w':=by
 have gI:=(((Yu w).alloc (.cells (Zy s on) 100)).alloc (.cells Zb 100)).alloc (.cells (am d) 413);have h2:=ae ((w.alloc (.cells (Zy s on) 100)).alloc (.cells Zb 100)) (.cells (am d) 413);have h1:=((Yu _).alloc (.cells (am d) 413)).heap (ae (w.alloc (.cells (Zy s on) 100)) (.cells Zb 100));have h0:=(((Yu _).alloc (.cells Zb 100)).alloc (.cells (am d) 413)).heap (ae w (.cells (Zy s on) 100));simp only[World.size_alloc]at h1 h2;have GI:=hid gI;have H0:=hid h0;have H1:=hid h1;have H2:=hid h2;have LL:=hid (Mu s d (((w.alloc (.cells (Zy s on) 100)).alloc (.cells Zb 100)).alloc (.cells (am d) 413)));have ha:=as_cut (.agg (am d));obtain⟨s0,t0,z0⟩:=ed h0;obtain⟨s2,t2,z2⟩:=ed h2;clear gI h0 h1 h2;go_enter func294,ntmps294;go_wp2_with fail;refine LL.out.mono ?_;rintro e w1 ⟨rfl,g1⟩;have G1:=hid (GI.out.trans g1);obtain⟨s3,t3,z3⟩:=ed (g1.heap H0.out);obtain⟨s4,t4,z4⟩:=ed (g1.heap H1.out);clear s0 t0 z0 s2 t2 z2 LL;have hl0:w.heap.size<=w.heap.size:=Yv _;have hl1:w.heap.size<=w.heap.size+1:=Yi;have hne:w.heap.size+1≠w.heap.size:=Yi;have B1:((((((((w1.setCell (Yo w.heap.size 0) (bits .andNot .u64 (s 0) (d 0))).setCell (Yo w.heap.size 1) (bits .andNot .u64 (s 1) (d 1))).setCell (Yo w.heap.size 2) (bits .andNot .u64 (s 2) (d 2))).setCell (Yo w.heap.size 3) (bits .andNot .u64 (s 3) (d 3))).setCell (Yo w.heap.size 4) (bits .andNot .u64 (s 4) (d 4))).setCell (Yo w.heap.size 5) (bits .andNot .u64 (s 5) (d 5))).setCell (Yo w.heap.size 6) (bits .andNot .u64 (s 6) (d 6))).setCell (Yo w.heap.size 7) (bits .andNot .u64 (s 7) (d 7))).heap[w.heap.size+1]?=some (.cells Zb 100 (0,0)):=by rw[Below.heap_setCell _ ⟨w.heap.size,7,none⟩ _ _ hne,Below.heap_setCell _ ⟨w.heap.size,6,none⟩ _ _ hne,Below.heap_setCell _ ⟨w.heap.size,5,none⟩ _ _ hne,Below.heap_setCell _ ⟨w.heap.size,4,none⟩ _ _ hne,Below.heap_setCell _ ⟨w.heap.size,3,none⟩ _ _ hne,Below.heap_setCell _ ⟨w.heap.size,2,none⟩ _ _ hne,Below.heap_setCell _ ⟨w.heap.size,1,none⟩ _ _ hne,Below.heap_setCell _ ⟨w.heap.size,0,none⟩ _ _ hne];exact g1.heap H1.out
 have HP9:=hid (vk (x0:= .int .u64 (bits .andNot .u64 (s 0) (d 0))) (x1:= .int .u64 (bits .andNot .u64 (s 1) (d 1))) (x2:= .int .u64 (bits .andNot .u64 (s 2) (d 2))) (x3:= .int .u64 (bits .andNot .u64 (s 3) (d 3))) (x4:= .int .u64 (bits .andNot .u64 (s 4) (d 4))) (x5:= .int .u64 (bits .andNot .u64 (s 5) (d 5))) (x6:= .int .u64 (bits .andNot .u64 (s 6) (d 6))) (x7:= .int .u64 (bits .andNot .u64 (s 7) (d 7))) (x8:= .int .u8 on) B1);have HG9:Hid (Gr w (((((((((((((((((w1.setCell (Yo w.heap.size 0) (bits .andNot .u64 (s 0) (d 0))).setCell (Yo w.heap.size 1) (bits .andNot .u64 (s 1) (d 1))).setCell (Yo w.heap.size 2) (bits .andNot .u64 (s 2) (d 2))).setCell (Yo w.heap.size 3) (bits .andNot .u64 (s 3) (d 3))).setCell (Yo w.heap.size 4) (bits .andNot .u64 (s 4) (d 4))).setCell (Yo w.heap.size 5) (bits .andNot .u64 (s 5) (d 5))).setCell (Yo w.heap.size 6) (bits .andNot .u64 (s 6) (d 6))).setCell (Yo w.heap.size 7) (bits .andNot .u64 (s 7) (d 7))).setCell (Yo (w.heap.size+1) 0) (bits .andNot .u64 (s 0) (d 0))).setCell (Yo (w.heap.size+1) 1) (bits .andNot .u64 (s 1) (d 1))).setCell (Yo (w.heap.size+1) 2) (bits .andNot .u64 (s 2) (d 2))).setCell (Yo (w.heap.size+1) 3) (bits .andNot .u64 (s 3) (d 3))).setCell (Yo (w.heap.size+1) 4) (bits .andNot .u64 (s 4) (d 4))).setCell (Yo (w.heap.size+1) 5) (bits .andNot .u64 (s 5) (d 5))).setCell (Yo (w.heap.size+1) 6) (bits .andNot .u64 (s 6) (d 6))).setCell (Yo (w.heap.size+1) 7) (bits .andNot .u64 (s 7) (d 7))).setCell (Yo (w.heap.size+1) 8) (Ys on))):=hid (((((((((((((((((G1.out.set ⟨w.heap.size,0,none⟩ (bits .andNot .u64 (s 0) (d 0)) hl0).set ⟨w.heap.size,1,none⟩ (bits .andNot .u64 (s 1) (d 1)) hl0).set ⟨w.heap.size,2,none⟩ (bits .andNot .u64 (s 2) (d 2)) hl0).set ⟨w.heap.size,3,none⟩ (bits .andNot .u64 (s 3) (d 3)) hl0).set ⟨w.heap.size,4,none⟩ (bits .andNot .u64 (s 4) (d 4)) hl0).set ⟨w.heap.size,5,none⟩ (bits .andNot .u64 (s 5) (d 5)) hl0).set ⟨w.heap.size,6,none⟩ (bits .andNot .u64 (s 6) (d 6)) hl0).set ⟨w.heap.size,7,none⟩ (bits .andNot .u64 (s 7) (d 7)) hl0).set ⟨w.heap.size+1,0,none⟩ (bits .andNot .u64 (s 0) (d 0)) hl1).set ⟨w.heap.size+1,1,none⟩ (bits .andNot .u64 (s 1) (d 1)) hl1).set ⟨w.heap.size+1,2,none⟩ (bits .andNot .u64 (s 2) (d 2)) hl1).set ⟨w.heap.size+1,3,none⟩ (bits .andNot .u64 (s 3) (d 3)) hl1).set ⟨w.heap.size+1,4,none⟩ (bits .andNot .u64 (s 4) (d 4)) hl1).set ⟨w.heap.size+1,5,none⟩ (bits .andNot .u64 (s 5) (d 5)) hl1).set ⟨w.heap.size+1,6,none⟩ (bits .andNot .u64 (s 6) (d 6)) hl1).set ⟨w.heap.size+1,7,none⟩ (bits .andNot .u64 (s 7) (d 7)) hl1).set ⟨w.heap.size+1,8,none⟩ (Ys on) hl1);clear hl0 hl1 hne B1 g1;go_wp2;have hp:=HP9.out;have hg:=HG9.out;clear HP9 HG9 s3 t3 z3 s4 t4 z4;generalize (((((((((((((((((w1.setCell (Yo w.heap.size 0) (bits .andNot .u64 (s 0) (d 0))).setCell (Yo w.heap.size 1) (bits .andNot .u64 (s 1) (d 1))).setCell (Yo w.heap.size 2) (bits .andNot .u64 (s 2) (d 2))).setCell (Yo w.heap.size 3) (bits .andNot .u64 (s 3) (d 3))).setCell (Yo w.heap.size 4) (bits .andNot .u64 (s 4) (d 4))).setCell (Yo w.heap.size 5) (bits .andNot .u64 (s 5) (d 5))).setCell (Yo w.heap.size 6) (bits .andNot .u64 (s 6) (d 6))).setCell (Yo w.heap.size 7) (bits .andNot .u64 (s 7) (d 7))).setCell (Yo (w.heap.size+1) 0) (bits .andNot .u64 (s 0) (d 0))).setCell (Yo (w.heap.size+1) 1) (bits .andNot .u64 (s 1) (d 1))).setCell (Yo (w.heap.size+1) 2) (bits .andNot .u64 (s 2) (d 2))).setCell (Yo (w.heap.size+1) 3) (bits .andNot .u64 (s 3) (d 3))).setCell (Yo (w.heap.size+1) 4) (bits .andNot .u64 (s 4) (d 4))).setCell (Yo (w.heap.size+1) 5) (bits .andNot .u64 (s 5) (d 5))).setCell (Yo (w.heap.size+1) 6) (bits .andNot .u64 (s 6) (d 6))).setCell (Yo (w.heap.size+1) 7) (bits .andNot .u64 (s 7) (d 7))).setCell (Yo (w.heap.size+1) 8) (Ys on))=V at *;obtain⟨s9,t9,z9⟩:=ed hp;exact bodyPost_ret (v:= .agg #[(bits .andNot .u64 (s 0) (d 0)),(bits .andNot .u64 (s 1) (d 1)),(bits .andNot .u64 (s 2) (d 2)),(bits .andNot .u64 (s 3) (d 3)),(bits .andNot .u64 (s 4) (d 4)),(bits .andNot .u64 (s 5) (d 5)),(bits .andNot .u64 (s 6) (d 6)),(bits .andNot .u64 (s 7) (d 7)),Ys on]) (by simp[results,results294,go_sem,s9]) rfl ⟨rfl,hg⟩
end
section
section
open Go.RowKit Go.Shelf
variable {P:Program} {ops:Array Oper} {Q:Exit->Act->World->Prop}
def Rg (ops:Array Oper) (pl:List Step) (ls:List Nat):Bool:=
 H5 ops pl && ji pl && zf ops (fd pl) ls && decide (ls.length<=kq (fd pl) ops.size)
theorem jt {id:Nat} {w:World} {a0:Act} (R J:World->Prop) (dj:List Nat) (hRG:∀u u',R u->Gr u u'->R u') (hJG:∀u u',J u->Gr u u'->J u') (hR0:R w) (hJ0:J w) (hsz:(dj.all λj=>decide (j < ops.size))=true) (pl:List Step) {F:(Nat->Value)->Act} (hm:P.follows .mixedOrders=true) (hok:H5 ops pl=true)
  (hE:∀V,finS V a0 0 ops.toList pl=F V)
  (hO:o6 P Gr ops pl R J dj F 0 ops.toList pl)
  (hP:∀(k:Nat) (chain:List PanicEntry),pl[k]?=some (.dies chain)->∀a u,R u->a.defers=a0.defers->Q (.panic chain) a u)
  (hF:(∀(k:Nat) (chain:List PanicEntry),pl[k]?≠some (.dies chain))->∀V u,R u->(∀(i:Nat) (F:Value->World->Prop),ic pl i=some F->F (V i) u)->
   ∀fuel,kq (fd pl) ops.size<=fuel->wpAny P .any ops Q fuel (fd pl) (F V) u):
  (Code.region id ops true).wp P Q a0 w:=
 mv Yu (Yu w).drew R J dj hRG hJG hR0 hJ0 hsz pl hm hok hE hO (λk chain h a u hu hd _=>hP k chain h a u hu hd) hF
theorem ny {pl:List Step} {R:World->Prop} {a0:Act} (h:ji pl=true):∀(k:Nat) (chain:List PanicEntry),pl[k]?=some (.dies chain)->∀a u,R u->a.defers=a0.defers->Q (.panic chain) a u:=λk chain hk=>by
 unfold ji at h;rw[List.all_eq_true]at h;have:=h _ (List.mem_of_getElem? hk);simp at this
theorem mu {id:Nat} {w:World} {a0:Act} (R J:World->Prop) (dj:List Nat) (hRG:∀u u',R u->Gr u u'->R u') (hJG:∀u u',J u->Gr u u'->J u') (hR0:R w) (hJ0:J w) (hsz:(dj.all λj=>decide (j < ops.size))=true) (pl:List Step) {F:(Nat->Value)->Act} (hm:P.follows .mixedOrders=true) (hok:(H5 ops pl && ji pl && (Region.ready .any ops (fd pl)).isEmpty)=true)
  (hE:∀V,finS V a0 0 ops.toList pl=F V)
  (hO:o6 P Gr ops pl R J dj F 0 ops.toList pl)
  (hF:∀V u,R u->(∀(i:Nat) (F:Value->World->Prop),ic pl i=some F->F (V i) u)->Q .normal (F V) u):
  (Code.region id ops true).wp P Q a0 w:=by
 rw[Bool.and_eq_true,Bool.and_eq_true]at hok;exact jt R J dj hRG hJG hR0 hJ0 hsz pl hm hok.1.1 hE hO (ny hok.1.2) λ_ V u hg hb fuel _=>wpAny_done (by simpa using hok.2) (hF V u hg hb) fuel
theorem ju {pl:List Step} {R J:World->Prop} {dj:List Nat} {k:Nat} {drop:List Nat} {Fk:Value->World->Prop} {V:Nat->Value} {u:World} {r:Result Next} (hno:mw ops pl k drop=true) (hdk:dj.contains k=true) (h:ii P Fk R r):
  ii P Fk (λu'=>R u'/\(dj.contains k=false->J u->J u')/\∀(i:Nat) (Fi:Value->World->Prop),(pl[i]?).bind Step.fact?=some Fi->i≠k->drop.contains i=false->gk ops 4 i k=false->Fi (V i) u->Fi (V i) u') r:=by
 refine h.mono λu' g=>⟨g,(λhc=>by rw[hdk]at hc;cases hc),λi Fi hi hk hd hcv=>?_⟩;exfalso;unfold mw at hno;rw[List.all_eq_true]at hno;have hlt:i < pl.length:=by
  cases hp:pl[i]? with
  | none=>rw[hp]at hi;cases hi
  | some p=>exact(List.getElem?_eq_some_iff.1 hp).1
 have:=hno i (List.mem_range.2 hlt);rw[hd,hcv]at this;cases hp:pl[i]? with
 | none=>rw[hp]at hi;cases hi
 | some p=>
  rw[hp]at hi this;cases p <;> first | (cases hi;done) | (simp at this;exact hk this)
theorem bm {id:Nat} {w:World} {a0:Act} (ls:List Nat) (R J:World->Prop) (dj:List Nat) (hRG:∀u u',R u->Gr u u'->R u') (hJG:∀u u',J u->Gr u u'->J u') (hR0:R w) (hJ0:J w) (hsz:(dj.all λj=>decide (j < ops.size))=true) (pl:List Step) {F:(Nat->Value)->Act} (hm:P.follows .mixedOrders=true) (hok:Rg ops pl ls=true)
  (hE:∀V,finS V a0 0 ops.toList pl=F V)
  (hO:o6 P Gr ops pl R J dj F 0 ops.toList pl)
  (hF:∀V u,R u->(∀(i:Nat) (F:Value->World->Prop),ic pl i=some F->F (V i) u)->Fa P ops Q ls (F V) u):
  (Code.region id ops true).wp P Q a0 w:=by
 unfold Rg at hok;simp only[Bool.and_eq_true,decide_eq_true_eq]at hok;obtain⟨⟨⟨h1,h0⟩,h2⟩,h3⟩:=hok;exact jt R J dj hRG hJG hR0 hJ0 hsz pl hm h1 hE hO (ny h0) λ_ V u hg hb fuel hc=>Fa.any h2 (Nat.le_trans h3 hc) (hF V u hg hb)
end
end
end Go.Proofs.YtimcfaoabaflkaaGreatDoor
