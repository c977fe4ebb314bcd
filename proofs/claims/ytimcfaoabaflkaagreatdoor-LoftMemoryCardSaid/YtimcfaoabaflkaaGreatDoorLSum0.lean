/- loft/disk.go: sum, its parts. -/
import Derived.Test.YtimcfaoabaflkaaGreatDoorLDisk
import Derived.Test.YtimcfaoabaflkaaGreatDoorShelg
import Derived.Laws.NewBlocks
namespace Go.Proofs.YtimcfaoabaflkaaGreatDoor
open AbA AbI
open Go.Proofs.Tryz
open Go.RowKit Go.Shelf
theorem Il:(prog.info? 5).map (λi=>(i.zero,i.size,i.bytes))=some (some (.int .u8 0),1,1):=Yh
abbrev Fu (w:World) (base:Nat) (v:Value) (zs:List Int):Prop:=w.ownsRow base 5 1 v zs.length (zs.map (Value.int .u8))
theorem u8_one (zs:List Int):∀u∈zs.map (Value.int .u8),u.oneCell'=true:=by
 intro u hu;obtain⟨n,_,rfl⟩:=List.mem_map.1 hu;rfl
structure xe (w wr:World) (b2 b3 b4:Nat):Prop where
 g:Gr w wr
 h2:∃c:Array Value,wr.heap[b2]?=some (.cells c 153 (0,0))/\c.size=32
 h3:UB wr b3 8 279
 h4:UB wr b4 64 280
 n2:w.heap.size<=b2
 n3:b2 < b3
 n4:b3 < b4
theorem xe.gr {w wr wr':World} {b2 b3 b4:Nat} (h:xe w wr b2 b3 b4) (g:Gr wr wr'):xe w wr' b2 b3 b4:=by
 obtain⟨c,h2,h2'⟩:=h.h2;exact⟨h.g.trans g,⟨c,g.heap h2,h2'⟩,h.h3.gr g,h.h4.gr g,h.n2,h.n3,h.n4⟩
theorem xe.grl {w wr wr':World} {b2 b3 b4:Nat} {l:List Nat} (h:xe w wr b2 b3 b4) (g:GrL l wr wr') (hl:∀i∈l,b4 < i):xe w wr' b2 b3 b4:=by
 obtain⟨c,h2,h2'⟩:=h.h2;have k2:=h.n2;have k3:=h.n3;have k4:=h.n4;exact⟨GrL.gr h.g g (λi hi=>by have:=hl i hi;omega),⟨c,(g.block b2 (ai h2) (λhm=>by have:=hl _ hm;omega)).trans h2,h2'⟩,h.h3.grl g (λhm=>by have:=hl _ hm;omega),h.h4.grl g (λhm=>by have:=hl _ hm;omega),k2,k3,k4⟩
structure Pw (wr:World) (gm L o:Nat) (zs:List Int):Prop where
 c:∀j (h:j < zs.length),wr.cell? ⟨gm,j,none⟩=some (.int .u8 zs[j])
 l:zs.length=L
 h:gm < wr.heap.size
theorem Pw.gr {wr wr':World} {gm L o:Nat} {zs:List Int} (h:Pw wr gm L o zs) (g:Gr wr wr'):Pw wr' gm L o zs:=
 ⟨λj hj=>(g.cells.1 gm j h.h).trans (h.c j hj),h.l,Nat.lt_of_lt_of_le h.h g.b.size⟩
def vm (c:Array Value):Nat->List Value->Array Value
 | _,[]=>c
 | o,v :: r=>vm (c.setIfInBounds o v) (o+1) r
theorem Ct:∀(vs:List Value) (o:Nat) (c:Array Value),o+vs.length=c.size->(vm c o vs).toList=c.toList.take o ++ vs
 | [],o,c,h=>by
  rw[vm,List.take_of_length_le (by have:c.toList.length=c.size:=rfl;simp at h;omega)];simp
 | v :: r,o,c,h=>by
  have hz:c.toList.length=c.size:=rfl;simp only[List.length_cons]at h;rw[vm,Ct r (o+1) _ (by simp;omega)];simp only[Array.toList_setIfInBounds];generalize c.toList=L at *;rw[List.set_eq_take_append_cons_drop,if_pos Yi];have ht:(L.take o).length=o:=by rw[List.length_take];omega
  rw[List.take_append,ht,List.take_of_length_le Yi];simp
theorem zen (W:World) (T:TypeId):∀(vs:List Value) (o:Nat) (c:Array Value),(W.alloc (.cells c T (0,0))).setCells W.heap.size o vs=W.alloc (.cells (vm c o vs) T (0,0))
 | [],_,_=>rfl
 | v :: r,o,c=>by
  rw[World.setCells,World.setCell_alloc_at _ _ _ _ _ rfl,zen W T r];rfl
theorem Ff (K:Array Value) (n:Nat) (hK:K.size=n) (h1:K.all (·.oneCell')=true) (W:World) (c:Array Value) (T:TypeId) (hc:c.size=n):
  (storeCells ⟨W.heap.size,0,none⟩ K.toList).run prog (W.alloc (.cells c T (0,0)))= .ok () (W.alloc (.cells K T (0,0))):=by
 have hb:=ae W (.cells c T (0,0));obtain⟨hc1,hf,_⟩:=ed hb;have:=run_storeCells_cells (P:=prog) W.heap.size 0 K.toList 0 (W.alloc (.cells c T (0,0))) (λj hj=>by
  rw[hc1];have:j < c.size:=by
   have hz:K.toList.length=K.size:=rfl;omega
  simp[this]) (λj hj=>hf _) (λv hv=>(Array.all_eq_true_iff_forall_mem.1 h1) v (by simpa using hv))
 simp only[Nat.add_zero]at this;rw[this,zen];congr 2;congr 1;apply Array.ext';rw[Ct _ _ _ (by have hz:K.toList.length=K.size:=rfl;omega)];simp
structure Mw (w wr:World) (b2 b3 b4 b7 gm L:Nat) (zs:List Int):Prop where
 s:xe w wr b2 b3 b4
 r:Pw wr gm L 0 zs
 u:UB wr b7 64 280
 n:b4 < b7
 m:gm < b7
theorem Mw.gr {w wr wr':World} {b2 b3 b4 b7 gm L:Nat} {zs:List Int} (h:Mw w wr b2 b3 b4 b7 gm L zs) (g:Gr wr wr'):Mw w wr' b2 b3 b4 b7 gm L zs:=
 ⟨h.s.gr g,h.r.gr g,h.u.gr g,h.n,h.m⟩
theorem Pw.grl {wr wr':World} {gm L o:Nat} {zs:List Int} {l:List Nat} (h:Pw wr gm L o zs) (g:GrL l wr wr') (hl:gm∉l):Pw wr' gm L o zs:=
 ⟨λj hj=>(World.cell?_of_block (g.block gm h.h hl)).trans (h.c j hj),h.l,Nat.lt_of_lt_of_le h.h g.size⟩
theorem Mw.set7 {w wr:World} {b2 b3 b4 b7 gm L:Nat} {zs:List Int} (h:Mw w wr b2 b3 b4 b7 gm L zs) (i:Nat) (x:Int):Mw w (wr.setCell (Yo b7 i) (.int .u32 x)) b2 b3 b4 b7 gm L zs:=by
 have g:GrL [b7] wr (wr.setCell (Yo b7 i) (.int .u32 x)):=(GrL.of_gr (Yu _)).set _ _ (Or.inr Yj);have hm:=h.m;exact⟨h.s.grl g (λj hj=>by obtain rfl:=List.mem_singleton.1 hj;exact h.n),h.r.grl g (λhx=>by obtain rfl:=List.mem_singleton.1 hx;omega),h.u.set i x,h.n,h.m⟩
structure Jq (w wr:World) (b2 b3 b4 b7 b12 gm L:Nat) (zs:List Int):Prop where
 i:Mw w wr b2 b3 b4 b7 gm L zs
 u:UB wr b12 8 279
 n:b7 < b12
theorem Jq.gr {w wr wr':World} {b2 b3 b4 b7 b12 gm L:Nat} {zs:List Int} (h:Jq w wr b2 b3 b4 b7 b12 gm L zs) (g:Gr wr wr'):Jq w wr' b2 b3 b4 b7 b12 gm L zs:=
 ⟨h.i.gr g,h.u.gr g,h.n⟩
theorem Jq.set12 {w wr:World} {b2 b3 b4 b7 b12 gm L:Nat} {zs:List Int} (h:Jq w wr b2 b3 b4 b7 b12 gm L zs) (i:Nat) (x:Int):Jq w (wr.setCell (Yo b12 i) (.int .u32 x)) b2 b3 b4 b7 b12 gm L zs:=by
 have g:GrL [b12] wr (wr.setCell (Yo b12 i) (.int .u32 x)):=(GrL.of_gr (Yu _)).set _ _ (Or.inr Yj);have h1:=h.n;have h2:=h.i.m;have h3:=h.i.n;exact⟨⟨h.i.s.grl g (λj hj=>by obtain rfl:=List.mem_singleton.1 hj;omega),h.i.r.grl g (λhx=>by obtain rfl:=List.mem_singleton.1 hx;omega),h.i.u.grl g (λhx=>by obtain rfl:=List.mem_singleton.1 hx;omega),h.i.n,h.i.m⟩,h.u.set i x,h.n⟩
theorem xe.set3 {w wr:World} {b2 b3 b4:Nat} (h:xe w wr b2 b3 b4) (i:Nat) (x:Int):xe w (wr.setCell (Yo b3 i) (.int .u32 x)) b2 b3 b4:=by
 have g:GrL [b3] wr (wr.setCell (Yo b3 i) (.int .u32 x)):=(GrL.of_gr (Yu _)).set _ _ (Or.inr Yj);obtain⟨c,h2,h2'⟩:=h.h2;have k2:=h.n2;have k3:=h.n3;have k4:=h.n4;exact⟨GrL.gr h.g g (λj hj=>by obtain rfl:=List.mem_singleton.1 hj;omega),⟨c,(g.block b2 (ai h2) (λhm=>by obtain rfl:=List.mem_singleton.1 hm;omega)).trans h2,h2'⟩,h.h3.set i x,h.h4.grl g (λhm=>by obtain rfl:=List.mem_singleton.1 hm;omega),k2,k3,k4⟩
theorem Jq.set3 {w wr:World} {b2 b3 b4 b7 b12 gm L:Nat} {zs:List Int} (h:Jq w wr b2 b3 b4 b7 b12 gm L zs) (hg:b4 < gm) (i:Nat) (x:Int):Jq w (wr.setCell (Yo b3 i) (.int .u32 x)) b2 b3 b4 b7 b12 gm L zs:=by
 have g:GrL [b3] wr (wr.setCell (Yo b3 i) (.int .u32 x)):=(GrL.of_gr (Yu _)).set _ _ (Or.inr Yj);have h1:=h.n;have h3:=h.i.n;have h4:=h.i.s.n4;exact⟨⟨h.i.s.set3 i x,h.i.r.grl g (λhx=>by obtain rfl:=List.mem_singleton.1 hx;omega),h.i.u.grl g (λhx=>by obtain rfl:=List.mem_singleton.1 hx;omega),h.i.n,h.i.m⟩,h.u.grl g (λhx=>by obtain rfl:=List.mem_singleton.1 hx;omega),h.n⟩
theorem Fu.rest {w:World} {base:Nat} {v:Value} {zs:List Int} (h:Fu w base v zs) (h0:0 < zs.length):∃g cap,v= .slice (Yn g) zs.length cap/\base<=g/\zs.length<=cap/\cap<=9223372036854775807/\Pw w g zs.length 0 zs:=by
 have h':=h;rcases h.2 with ⟨_,hz⟩ | ⟨g,cap,cur,rfl,hb,hg,hcap,hm,_⟩
 ·omega
 ·refine⟨g,cap,rfl,hb,hcap,by unfold maxLen at hm;omega,λj hj=>?_,rfl,ai hg⟩;rw[World.ownsRow.cellAt h' j Yi];simp[hj]
theorem nj (x:Int) (l:List Nat) (g cap:Nat) (w:World) (hb:w.heap[g]?=some (.cells (l.map (λj=>Value.int .i64 (j:Nat))).toArray 3 (0,0))) (hl:l.length<=100)
  (hj:∀j∈l,1<=j/\j<=31/\bits BinOp.and IntKind.u64 (IntKind.u64.wrap (-(j:Int))) 31=((32 - j:Nat):Int)):
  Calls prog 172 #[.int .u32 x,.slice (Yn g) l.length cap] w λe w'=>∃v,e= .returned v/\(∃y,v= .int .u32 y)/\Gr w w':=by
 refine(Sc x l g cap w (ai hb) hl (λi h=>?_) hj).mono ?_
 ·rw[(ed hb).1 i];simp[h]
 ·rintro e w' ⟨rfl,rfl⟩;exact⟨_,rfl,⟨_,rfl⟩,Yu _⟩
theorem tj_a:∀j∈([17,19]:List Nat),1<=j/\j<=31/\bits BinOp.and IntKind.u64 (IntKind.u64.wrap (-(j:Int))) 31=((32 - j:Nat):Int):=Yk
theorem tj_b:∀j∈([7,18]:List Nat),1<=j/\j<=31/\bits BinOp.and IntKind.u64 (IntKind.u64.wrap (-(j:Int))) 31=((32 - j:Nat):Int):=Yk
theorem tj_c:∀j∈([6,11,25]:List Nat),1<=j/\j<=31/\bits BinOp.and IntKind.u64 (IntKind.u64.wrap (-(j:Int))) 31=((32 - j:Nat):Int):=Yk
theorem tj_d:∀j∈([2,13,22]:List Nat),1<=j/\j<=31/\bits BinOp.and IntKind.u64 (IntKind.u64.wrap (-(j:Int))) 31=((32 - j:Nat):Int):=Yk
theorem Zp (x:Int) (g:Nat) (w:World) (hb:w.heap[g]?=some (.cells #[Yp 17,Yp 19] 3 (0,0))):Calls prog 172 #[.int .u32 x,.slice (Yn g) 2 2] w λe w'=>∃v,e= .returned v/\(∃y,v= .int .u32 y)/\Gr w w':=nj x [17,19] g 2 w hb Yj tj_a
theorem Zo (x:Int) (g:Nat) (w:World) (hb:w.heap[g]?=some (.cells #[Yp 7,Yp 18] 3 (0,0))):Calls prog 172 #[.int .u32 x,.slice (Yn g) 2 2] w λe w'=>∃v,e= .returned v/\(∃y,v= .int .u32 y)/\Gr w w':=nj x [7,18] g 2 w hb Yj tj_b
theorem Zn (x:Int) (g:Nat) (w:World) (hb:w.heap[g]?=some (.cells #[Yp 6,Yp 11,Yp 25] 3 (0,0))):Calls prog 172 #[.int .u32 x,.slice (Yn g) 3 3] w λe w'=>∃v,e= .returned v/\(∃y,v= .int .u32 y)/\Gr w w':=nj x [6,11,25] g 3 w hb Yj tj_c
theorem Zm (x:Int) (g:Nat) (w:World) (hb:w.heap[g]?=some (.cells #[Yp 2,Yp 13,Yp 22] 3 (0,0))):Calls prog 172 #[.int .u32 x,.slice (Yn g) 3 3] w λe w'=>∃v,e= .returned v/\(∃y,v= .int .u32 y)/\Gr w w':=nj x [2,13,22] g 3 w hb Yj tj_d
theorem eight {α:Type} {l:List α} (h:l.length=8):∃a b c d e f g k,l=[a,b,c,d,e,f,g,k]:=by
 match l,h with
 | [a,b,c,d,e,f,g,k],_=>exact⟨a,b,c,d,e,f,g,k,rfl⟩
structure Out (w wr:World) (b2 b b3:Nat):Prop where
 g:Gr w wr
 u:∃D:List Int,D.length=32/\wr.heap[b]?=some (.cells (D.map (Value.int .u8)).toArray 153 (0,0))
 h2:∃c:Array Value,wr.heap[b2]?=some (.cells c 153 (0,0))/\c.size=32
 n2:w.heap.size<=b2
 n:b2 < b
 u3:UB wr b3 8 279
 n3:b3 < b
theorem Out.cell {w wr:World} {b2 b b3:Nat} (h:Out w wr b2 b b3) {i:Nat} (hi:i < 32):∃x,wr.cell? ⟨b,i,none⟩=some (.int .u8 x):=by
 obtain⟨D,h1,h2⟩:=h.u;refine⟨D[i],?_⟩;rw[(ed h2).1];simp[h1,hi]
theorem Out.fr {w wr:World} {b2 b b3:Nat} (h:Out w wr b2 b b3) (i:Nat):wr.frozen? ⟨b,i,none⟩=false:=by
 obtain⟨D,h1,h2⟩:=h.u;exact(ed h2).2.1 i
theorem Out.lt {w wr:World} {b2 b b3:Nat} (h:Out w wr b2 b b3):b < wr.heap.size:=by
 obtain⟨D,h1,h2⟩:=h.u;exact ai h2
theorem Out.set {w wr:World} {b2 b b3:Nat} (h:Out w wr b2 b b3) (i:Nat) (x:Int):Out w (wr.setCell (Yo b i) (Ys x)) b2 b b3:=by
 obtain⟨D,h1,h2⟩:=h.u;obtain⟨c,k1,k2⟩:=h.h2;have g:GrL [b] wr (wr.setCell (Yo b i) (Ys x)):=(GrL.of_gr (Yu _)).set _ _ (Or.inr Yj);have n2:=h.n2;have n:=h.n;have n3:=h.n3;refine⟨GrL.gr h.g g (λj hj=>by obtain rfl:=List.mem_singleton.1 hj;omega),⟨D.set i x,by simp[h1],?_⟩,⟨c,(g.block b2 (ai k1) (λhm=>by obtain rfl:=List.mem_singleton.1 hm;omega)).trans k1,k2⟩,n2,n,h.u3.grl g (λhx=>by obtain rfl:=List.mem_singleton.1 hx;omega),n3⟩;rw[dz h2];congr 2;apply Array.ext';simp[List.map_set]
theorem wp_fin {P:Program} {c:Code} {Q:Exit->Act->World->Prop} {a:Act} {w:World} (h:∀F:Act->World->Prop,Hid (∀a w,Q .normal a w->F a w)->Code.wp P c (λe a w=>e= .normal/\F a w) a w):Code.wp P c Q a w:=
 wp_mono (h (λa w=>Q .normal a w) (Hd λ_ _ h=>h)) (by rintro e a w ⟨rfl,h⟩;exact h)
theorem Ng (W:World) (s0 s1 s2 s3 s4 s5 s6 s7:Int) (i:Nat) (hi:i < 8):∃x,(Instr.index 279 (.agg #[.int .u32 s0,.int .u32 s1,.int .u32 s2,.int .u32 s3,.int .u32 s4,.int .u32 s5,.int .u32 s6,.int .u32 s7]) (Yp i)).run prog W= .ok (.int .u32 x) W:=by
 have hu:=underlying279;have hs:=Tryz.sizeOf267;rcases(by omega:i=0\/i=1\/i=2\/i=3\/i=4\/i=5\/i=6\/i=7)with rfl | rfl | rfl | rfl | rfl | rfl | rfl | rfl
 ·exact⟨s0,by simp[Instr.index,run_underlying hu,asIntOf,hs,go_sem]⟩
 ·exact⟨s1,by simp[Instr.index,run_underlying hu,asIntOf,hs,go_sem]⟩
 ·exact⟨s2,by simp[Instr.index,run_underlying hu,asIntOf,hs,go_sem]⟩
 ·exact⟨s3,by simp[Instr.index,run_underlying hu,asIntOf,hs,go_sem]⟩
 ·exact⟨s4,by simp[Instr.index,run_underlying hu,asIntOf,hs,go_sem]⟩
 ·exact⟨s5,by simp[Instr.index,run_underlying hu,asIntOf,hs,go_sem]⟩
 ·exact⟨s6,by simp[Instr.index,run_underlying hu,asIntOf,hs,go_sem]⟩
 ·exact⟨s7,by simp[Instr.index,run_underlying hu,asIntOf,hs,go_sem]⟩
def p9:Value->Nat
 | .slice _ n _=>n
 | _=>0
end Go.Proofs.YtimcfaoabaflkaaGreatDoor
