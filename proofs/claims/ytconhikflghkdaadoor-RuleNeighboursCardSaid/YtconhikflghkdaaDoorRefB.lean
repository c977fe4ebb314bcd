/- strickleref01: bracket, Neighbours, Around, Nearest: the Dens tried one after the other. -/
import Derived.Test.YtconhikflghkdaaDoorRef2
import Derived.Test.YtconhikflghkdaaDoorNear2
import Derived.Test.YtconhikflghkdaaDoorNeighb
import Derived.Test.YtconhikflghkdaaDoorMathB
namespace Go.Proofs.YtconhikflghkdaaDoor
open Go.RowKit Go.Shelf
attribute [local go_sem] Oper.semAt_some
set_option maxRecDepth 100000 in
set_option maxHeartbeats 8000000 in
theorem bracket_any (n d m : Int) (w : World) (h : Rm.okF n d = true) (m1 : 1 ≤ m) (m2 : m ≤ 1000000) :
    Calls Tryd.prog 76 #[fr n d, .int .i64 m] w fun e w' => e = .returned (.tuple #[fr (Rm.bkN n d m) (Rm.bkD n d m), fr (Rm.bhN n d m) (Rm.bhD n d m)]) ∧ Gr w w' := by
  obtain ⟨x1, x2, x3, x4, x5⟩ := Rm.okF_iff.1 h
  have FL := Lib.hid (fun (A : Int) (w : World) (h1 : -4000000000000000000 ≤ A) (h2 : A ≤ 4000000000000000000) => rfloor_any A d w x3 h1 h2)
  have CL := Lib.hid (fun (A : Int) (w : World) (h1 : -4000000000000000000 ≤ A) (h2 : A ≤ 4000000000000000000) => rceil_any A d w x3 h1 h2)
  have LB := Lib.hid (fun (k : Nat) (q : Int) (h : 1 ≤ q) (h2 : q ≤ 1000000) => (@Rm.loB_low n d x3 k).bd x1 x2 x3 x4 (by omega) h h2)
  have HB := Lib.hid (fun (k : Nat) (q : Int) (h : 1 ≤ q) (h2 : q ≤ 1000000) => (@Rm.hiB_high n d x3 k).bd x1 x2 x3 x4 (by omega) h h2)
  have FB := Lib.hid (fun (ad k : Int) (a1 : 1 ≤ ad) (l : ad ≤ d) (k1 : 1 ≤ k) (k2 : k ≤ 1000000) => @Rm.fl_ad_bd n d ad k x1 x2 x3 x4 a1 l k1 k2)
  have F0 := Lib.hid (fun w => FL.out n w (by omega) (by omega))
  have C0 := Lib.hid (fun w => CL.out n w (by omega) (by omega))
  have HEND := Lib.hid (fun (k : Nat) (e : (k : Int) + 1 = m) => show Rm.loB n d k = (Rm.bkN n d m, Rm.bkD n d m) ∧ Rm.hiB n d k = (Rm.bhN n d m, Rm.bhD n d m) by
    have : (m-1).toNat = k := by omega
    unfold Rm.bkN Rm.bkD Rm.bhN Rm.bhD
    rw [this]; exact ⟨rfl, rfl⟩)
  generalize Rm.bkN n d m = RN at *
  generalize Rm.bkD n d m = RD at *
  generalize Rm.bhN n d m = SN at *
  generalize Rm.bhD n d m = SD at *
  have I0 : Hid (Rm.loB n d 0 = (Rm.fl n d, 1) ∧ Rm.hiB n d 0 = (Rm.cl n d, 1)) := Lib.hid ⟨rfl, rfl⟩
  have IS := Lib.hid (fun k => (⟨rfl, rfl⟩ : Rm.loB n d (k+1) = (if 0 < Rm.fl (n*((k : Int)+1+1)) d * (Rm.loB n d k).2 - (Rm.loB n d k).1*((k : Int)+1+1) then (Rm.fl (n*((k : Int)+1+1)) d, (k : Int)+1+1) else Rm.loB n d k) ∧
    Rm.hiB n d (k+1) = (if Rm.cl (n*((k : Int)+1+1)) d * (Rm.hiB n d k).2 - (Rm.hiB n d k).1*((k : Int)+1+1) < 0 then (Rm.cl (n*((k : Int)+1+1)) d, (k : Int)+1+1) else Rm.hiB n d k)))
  clear h x5
  generalize Rm.fl n d = f0 at *
  generalize Rm.cl n d = c0 at *
  go_enter Tryd.func76, Tryd.ntmps76
  go_wp2_with fail
  have G := Gr.refl w
  have bx := heap_alloc_self w (.cells #[.int .i64 n, .int .i64 d] 23)
  replace G := G.alloc (.cells #[.int .i64 n, .int .i64 d] 23)
  replace bx := ((Gr.refl _).alloc (.cells #[.int .i64 0, .int .i64 0] 23)).heap bx
  have b4 := heap_alloc_self (w.alloc (.cells #[.int .i64 n, .int .i64 d] 23)) (.cells #[.int .i64 0, .int .i64 0] 23)
  replace G := G.alloc (.cells #[.int .i64 0, .int .i64 0] 23)
  replace bx := ((Gr.refl _).alloc (.cells #[.int .i64 0, .int .i64 0] 23)).heap bx
  replace b4 := ((Gr.refl _).alloc (.cells #[.int .i64 0, .int .i64 0] 23)).heap b4
  have b5 := heap_alloc_self ((w.alloc (.cells #[.int .i64 n, .int .i64 d] 23)).alloc (.cells #[.int .i64 0, .int .i64 0] 23)) (.cells #[.int .i64 0, .int .i64 0] 23)
  replace G := G.alloc (.cells #[.int .i64 0, .int .i64 0] 23)
  generalize hW : (((w.alloc (.cells #[.int .i64 n, .int .i64 d] 23)).alloc (.cells #[.int .i64 0, .int .i64 0] 23)).alloc (.cells #[.int .i64 0, .int .i64 0] 23)) = W1 at *
  simp only [World.size_alloc] at b4
  simp only [World.size_alloc] at b5
  have w0 : w.heap.size ≤ w.heap.size := Nat.le_refl _
  obtain ⟨p5, hp5⟩ : ∃ p5, w.heap.size + 1 + 1 = p5 := ⟨_, rfl⟩
  obtain ⟨p4, hp4⟩ : ∃ p4, w.heap.size + 1 = p4 := ⟨_, rfl⟩
  obtain ⟨px, hpx⟩ : ∃ px, w.heap.size = px := ⟨_, rfl⟩
  rw [hp5] at b5
  rw [hp4] at b4
  rw [hpx] at bx
  try simp only [hp5]
  try simp only [hp4]
  try simp only [hpx]
  have sx : w.heap.size ≤ px := by omega
  have nx_4 : ¬ px = p4 := by omega
  have n4_x : ¬ p4 = px := by omega
  have s4 : w.heap.size ≤ p4 := by omega
  have nx_5 : ¬ px = p5 := by omega
  have n5_x : ¬ p5 = px := by omega
  have n4_5 : ¬ p4 = p5 := by omega
  have n5_4 : ¬ p5 = p4 := by omega
  have s5 : w.heap.size ≤ p5 := by omega
  clear  w0
  clear hpx
  clear hp4
  clear hp5
  clear hW
  refine (F0.out _).mono ?_
  rintro e w1 ⟨rfl, g1⟩
  obtain ⟨cx, fx, zx⟩ := blk_cells (g1.heap bx)
  obtain ⟨c4, f4, z4⟩ := blk_cells (g1.heap b4)
  obtain ⟨c5, f5, z5⟩ := blk_cells (g1.heap b5)
  have z0 : w.heap.size ≤ w1.heap.size := (Gr.trans G g1).b.size
  go_wp2_with fail
  clear cx fx c4 f4 c5 f5
  replace bx := g1.heap bx
  replace b4 := g1.heap b4
  replace b5 := g1.heap b5
  have G := G.trans g1
  replace bx := ((Gr.refl _).alloc (.cells #[.int .i64 f0, .int .i64 1] 23)).heap bx
  replace b4 := ((Gr.refl _).alloc (.cells #[.int .i64 f0, .int .i64 1] 23)).heap b4
  replace b5 := ((Gr.refl _).alloc (.cells #[.int .i64 f0, .int .i64 1] 23)).heap b5
  have b6 := heap_alloc_self w1 (.cells #[.int .i64 f0, .int .i64 1] 23)
  replace G := G.alloc (.cells #[.int .i64 f0, .int .i64 1] 23)
  generalize hW : (w1.alloc (.cells #[.int .i64 f0, .int .i64 1] 23)) = W2 at *
  have ox : px < w1.heap.size := zx
  have o4 : p4 < w1.heap.size := z4
  have o5 : p5 < w1.heap.size := z5
  have w0 : w.heap.size ≤ w1.heap.size := z0
  obtain ⟨p6, hp6⟩ : ∃ p6, w1.heap.size = p6 := ⟨_, rfl⟩
  rw [hp6] at b6
  try simp only [hp6]
  have nx_6 : ¬ px = p6 := by omega
  have n6_x : ¬ p6 = px := by omega
  have n4_6 : ¬ p4 = p6 := by omega
  have n6_4 : ¬ p6 = p4 := by omega
  have n5_6 : ¬ p5 = p6 := by omega
  have n6_5 : ¬ p6 = p5 := by omega
  have s6 : w.heap.size ≤ p6 := by omega
  clear ox o4 o5 w0
  clear hp6
  clear hW
  clear zx z4 z5 z0
  clear g1
  refine (C0.out _).mono ?_
  rintro e w2 ⟨rfl, g2⟩
  obtain ⟨cx, fx, zx⟩ := blk_cells (g2.heap bx)
  obtain ⟨c4, f4, z4⟩ := blk_cells (g2.heap b4)
  obtain ⟨c5, f5, z5⟩ := blk_cells (g2.heap b5)
  obtain ⟨c6, f6, z6⟩ := blk_cells (g2.heap b6)
  have z0 : w.heap.size ≤ w2.heap.size := (Gr.trans G g2).b.size
  go_wp2_with fail
  clear cx fx c4 f4 c5 f5 c6 f6
  replace bx := g2.heap bx
  replace b4 := g2.heap b4
  replace b5 := g2.heap b5
  replace b6 := g2.heap b6
  have G := G.trans g2
  replace bx := ((Gr.refl _).alloc (.cells #[.int .i64 c0, .int .i64 1] 23)).heap bx
  replace b4 := ((Gr.refl _).alloc (.cells #[.int .i64 c0, .int .i64 1] 23)).heap b4
  replace b5 := ((Gr.refl _).alloc (.cells #[.int .i64 c0, .int .i64 1] 23)).heap b5
  replace b6 := ((Gr.refl _).alloc (.cells #[.int .i64 c0, .int .i64 1] 23)).heap b6
  have b7 := heap_alloc_self w2 (.cells #[.int .i64 c0, .int .i64 1] 23)
  replace G := G.alloc (.cells #[.int .i64 c0, .int .i64 1] 23)
  generalize hW : (w2.alloc (.cells #[.int .i64 c0, .int .i64 1] 23)) = W3 at *
  have ox : px < w2.heap.size := zx
  have o4 : p4 < w2.heap.size := z4
  have o5 : p5 < w2.heap.size := z5
  have o6 : p6 < w2.heap.size := z6
  have w0 : w.heap.size ≤ w2.heap.size := z0
  obtain ⟨p7, hp7⟩ : ∃ p7, w2.heap.size = p7 := ⟨_, rfl⟩
  rw [hp7] at b7
  try simp only [hp7]
  have nx_7 : ¬ px = p7 := by omega
  have n7_x : ¬ p7 = px := by omega
  have n4_7 : ¬ p4 = p7 := by omega
  have n7_4 : ¬ p7 = p4 := by omega
  have n5_7 : ¬ p5 = p7 := by omega
  have n7_5 : ¬ p7 = p5 := by omega
  have n6_7 : ¬ p6 = p7 := by omega
  have n7_6 : ¬ p7 = p6 := by omega
  have s7 : w.heap.size ≤ p7 := by omega
  clear ox o4 o5 o6 w0
  clear hp7
  clear hW
  clear zx z4 z5 z6 z0
  clear g2
  go_loopw [8] (fun i wr => ∃ (k : Nat) (q LN LD HN HD : Int), i = .int .i64 q ∧ Hid (q = (k : Int) + 2 ∧ Rm.loB n d k = (LN, LD) ∧ Rm.hiB n d k = (HN, HD)) ∧ 2 ≤ q ∧ q ≤ m + 1 ∧ wr.heap[px]? = some (.cells #[.int .i64 n, .int .i64 d] 23 (0, 0)) ∧ wr.heap[p4]? = some (.cells #[.int .i64 0, .int .i64 0] 23 (0, 0)) ∧ wr.heap[p5]? = some (.cells #[.int .i64 0, .int .i64 0] 23 (0, 0)) ∧ wr.heap[p6]? = some (.cells #[.int .i64 LN, .int .i64 LD] 23 (0, 0)) ∧ wr.heap[p7]? = some (.cells #[.int .i64 HN, .int .i64 HD] 23 (0, 0)) ∧ Gr w wr) (fun i _ => (m + 2 - intOf i).toNat)
  case atStart => exact ⟨0, 2, f0, 1, c0, 1, rfl, Lib.hid ⟨rfl, I0.out.1, I0.out.2⟩, by omega, by omega, bx, b4, b5, b6, b7, G⟩
  case round =>
    obtain ⟨k, q, LN, LD, HN, HD, rfl, hI, q1, q2, rx, r4, r5, r6, r7, G⟩ := hrel
    clear bx b4 b5 b6 b7 I0 F0 C0
    have bx := rx
    clear rx
    have b4 := r4
    clear r4
    have b5 := r5
    clear r5
    have b6 := r6
    clear r6
    have b7 := r7
    clear r7
    by_cases hq : q ≤ m
    · obtain ⟨hk, hlo, hhi⟩ := hI.out
      obtain ⟨l1, l2, l3, l4, l5, l6⟩ := LB.out k q (by omega) (by omega)
      obtain ⟨g1, g2, g3, g4, g5, g6⟩ := HB.out k q (by omega) (by omega)
      have S := IS.out k
      rw [hlo] at l1 l2 l3 l4 l5 l6 S
      rw [hhi] at g1 g2 g3 g4 g5 g6 S
      rw [show (k : Int)+1+1 = q by omega] at S
      simp only at l1 l2 l3 l4 l5 l6 g1 g2 g3 g4 g5 g6 S
      obtain ⟨y1, y2, y3, y4, _, _, y7, y8, y9, y10⟩ := FB.out LD q l1 l2 (by omega) (by omega)
      obtain ⟨_, _, _, _, y5, y6, _, _, _, _⟩ := FB.out HD q g1 g2 (by omega) (by omega)
      have FQ := Lib.hid (fun w => FL.out (n*q) w (by omega) (by omega))
      have CQ := Lib.hid (fun w => CL.out (n*q) w (by omega) (by omega))
      have M1 := Lib.hid (fun w => More_any (Rm.fl (n*q) d) q LN LD w (by omega) (by omega) (by omega) (by omega))
      have M2 := Lib.hid (fun w => More_any (Rm.cl (n*q) d) q HN HD w (by omega) (by omega) (by omega) (by omega))
      generalize Rm.fl (n*q) d = A at *
      generalize Rm.cl (n*q) d = C at *
      generalize A*LD - LN*q = X at *
      generalize C*HD - HN*q = Y at *
      have S := Lib.hid S
      clear hlo hhi l5 l6 g5 g6 hI LB HB FB FL CL
      replace hk := Lib.hid hk
      by_cases hL : 0 < X
      · by_cases hH : Y < 0
        · obtain ⟨cx, fx, zx⟩ := blk_cells bx
          obtain ⟨c4, f4, z4⟩ := blk_cells b4
          obtain ⟨c5, f5, z5⟩ := blk_cells b5
          obtain ⟨c6, f6, z6⟩ := blk_cells b6
          obtain ⟨c7, f7, z7⟩ := blk_cells b7
          go_wp2_with fail
          clear cx fx zx c4 f4 z4 c5 f5 z5 c6 f6 z6 c7 f7 z7
          refine (FQ.out _).mono ?_
          rintro e w11 ⟨rfl, g11⟩
          obtain ⟨cx, fx, zx⟩ := blk_cells (g11.heap bx)
          obtain ⟨c4, f4, z4⟩ := blk_cells (g11.heap b4)
          obtain ⟨c5, f5, z5⟩ := blk_cells (g11.heap b5)
          obtain ⟨c6, f6, z6⟩ := blk_cells (g11.heap b6)
          obtain ⟨c7, f7, z7⟩ := blk_cells (g11.heap b7)
          have z0 : w.heap.size ≤ w11.heap.size := (Gr.trans G g11).b.size
          go_wp2_with fail
          clear cx fx c4 f4 c5 f5 c6 f6 c7 f7
          replace bx := g11.heap bx
          replace b4 := g11.heap b4
          replace b5 := g11.heap b5
          replace b6 := g11.heap b6
          replace b7 := g11.heap b7
          have G := G.trans g11
          replace bx := ((Gr.refl _).alloc (.cells #[.int .i64 A, .int .i64 q] 23)).heap bx
          replace b4 := ((Gr.refl _).alloc (.cells #[.int .i64 A, .int .i64 q] 23)).heap b4
          replace b5 := ((Gr.refl _).alloc (.cells #[.int .i64 A, .int .i64 q] 23)).heap b5
          replace b6 := ((Gr.refl _).alloc (.cells #[.int .i64 A, .int .i64 q] 23)).heap b6
          replace b7 := ((Gr.refl _).alloc (.cells #[.int .i64 A, .int .i64 q] 23)).heap b7
          have b9 := heap_alloc_self w11 (.cells #[.int .i64 A, .int .i64 q] 23)
          replace G := G.alloc (.cells #[.int .i64 A, .int .i64 q] 23)
          generalize hW : (w11.alloc (.cells #[.int .i64 A, .int .i64 q] 23)) = W11 at *
          have ox : px < w11.heap.size := zx
          have o4 : p4 < w11.heap.size := z4
          have o5 : p5 < w11.heap.size := z5
          have o6 : p6 < w11.heap.size := z6
          have o7 : p7 < w11.heap.size := z7
          have w0 : w.heap.size ≤ w11.heap.size := z0
          obtain ⟨p9, hp9⟩ : ∃ p9, w11.heap.size = p9 := ⟨_, rfl⟩
          rw [hp9] at b9
          try simp only [hp9]
          have nx_9 : ¬ px = p9 := by omega
          have n9_x : ¬ p9 = px := by omega
          have n4_9 : ¬ p4 = p9 := by omega
          have n9_4 : ¬ p9 = p4 := by omega
          have n5_9 : ¬ p5 = p9 := by omega
          have n9_5 : ¬ p9 = p5 := by omega
          have n6_9 : ¬ p6 = p9 := by omega
          have n9_6 : ¬ p9 = p6 := by omega
          have n7_9 : ¬ p7 = p9 := by omega
          have n9_7 : ¬ p9 = p7 := by omega
          have s9 : w.heap.size ≤ p9 := by omega
          clear ox o4 o5 o6 o7 w0
          clear hp9
          clear hW
          clear zx z4 z5 z6 z7 z0
          clear g11
          refine (CQ.out _).mono ?_
          rintro e w12 ⟨rfl, g12⟩
          obtain ⟨cx, fx, zx⟩ := blk_cells (g12.heap bx)
          obtain ⟨c4, f4, z4⟩ := blk_cells (g12.heap b4)
          obtain ⟨c5, f5, z5⟩ := blk_cells (g12.heap b5)
          obtain ⟨c6, f6, z6⟩ := blk_cells (g12.heap b6)
          obtain ⟨c7, f7, z7⟩ := blk_cells (g12.heap b7)
          obtain ⟨c9, f9, z9⟩ := blk_cells (g12.heap b9)
          have z0 : w.heap.size ≤ w12.heap.size := (Gr.trans G g12).b.size
          go_wp2_with fail
          clear cx fx c4 f4 c5 f5 c6 f6 c7 f7 c9 f9
          replace bx := g12.heap bx
          replace b4 := g12.heap b4
          replace b5 := g12.heap b5
          replace b6 := g12.heap b6
          replace b7 := g12.heap b7
          replace b9 := g12.heap b9
          have G := G.trans g12
          replace bx := ((Gr.refl _).alloc (.cells #[.int .i64 C, .int .i64 q] 23)).heap bx
          replace b4 := ((Gr.refl _).alloc (.cells #[.int .i64 C, .int .i64 q] 23)).heap b4
          replace b5 := ((Gr.refl _).alloc (.cells #[.int .i64 C, .int .i64 q] 23)).heap b5
          replace b6 := ((Gr.refl _).alloc (.cells #[.int .i64 C, .int .i64 q] 23)).heap b6
          replace b7 := ((Gr.refl _).alloc (.cells #[.int .i64 C, .int .i64 q] 23)).heap b7
          replace b9 := ((Gr.refl _).alloc (.cells #[.int .i64 C, .int .i64 q] 23)).heap b9
          have b10 := heap_alloc_self w12 (.cells #[.int .i64 C, .int .i64 q] 23)
          replace G := G.alloc (.cells #[.int .i64 C, .int .i64 q] 23)
          generalize hW : (w12.alloc (.cells #[.int .i64 C, .int .i64 q] 23)) = W12 at *
          have ox : px < w12.heap.size := zx
          have o4 : p4 < w12.heap.size := z4
          have o5 : p5 < w12.heap.size := z5
          have o6 : p6 < w12.heap.size := z6
          have o7 : p7 < w12.heap.size := z7
          have o9 : p9 < w12.heap.size := z9
          have w0 : w.heap.size ≤ w12.heap.size := z0
          obtain ⟨p10, hp10⟩ : ∃ p10, w12.heap.size = p10 := ⟨_, rfl⟩
          rw [hp10] at b10
          try simp only [hp10]
          have nx_10 : ¬ px = p10 := by omega
          have n10_x : ¬ p10 = px := by omega
          have n4_10 : ¬ p4 = p10 := by omega
          have n10_4 : ¬ p10 = p4 := by omega
          have n5_10 : ¬ p5 = p10 := by omega
          have n10_5 : ¬ p10 = p5 := by omega
          have n6_10 : ¬ p6 = p10 := by omega
          have n10_6 : ¬ p10 = p6 := by omega
          have n7_10 : ¬ p7 = p10 := by omega
          have n10_7 : ¬ p10 = p7 := by omega
          have n9_10 : ¬ p9 = p10 := by omega
          have n10_9 : ¬ p10 = p9 := by omega
          have s10 : w.heap.size ≤ p10 := by omega
          clear ox o4 o5 o6 o7 o9 w0
          clear hp10
          clear hW
          clear zx z4 z5 z6 z7 z9 z0
          clear g12
          refine (M1.out _).mono ?_
          rintro e w13 ⟨rfl, g13⟩
          obtain ⟨cx, fx, zx⟩ := blk_cells (g13.heap bx)
          obtain ⟨c4, f4, z4⟩ := blk_cells (g13.heap b4)
          obtain ⟨c5, f5, z5⟩ := blk_cells (g13.heap b5)
          obtain ⟨c6, f6, z6⟩ := blk_cells (g13.heap b6)
          obtain ⟨c7, f7, z7⟩ := blk_cells (g13.heap b7)
          obtain ⟨c9, f9, z9⟩ := blk_cells (g13.heap b9)
          obtain ⟨c10, f10, z10⟩ := blk_cells (g13.heap b10)
          have z0 : w.heap.size ≤ w13.heap.size := (Gr.trans G g13).b.size
          go_wp2_with fail
          clear cx fx c4 f4 c5 f5 c6 f6 c7 f7 c9 f9 c10 f10
          replace bx := g13.heap bx
          replace b4 := g13.heap b4
          replace b5 := g13.heap b5
          replace b6 := g13.heap b6
          replace b7 := g13.heap b7
          replace b9 := g13.heap b9
          replace b10 := g13.heap b10
          have G := G.trans g13
          replace bx := keep2 p6 (.int .i64 A) (.int .i64 q) bx (by first | assumption | omega)
          replace b4 := keep2 p6 (.int .i64 A) (.int .i64 q) b4 (by first | assumption | omega)
          replace b5 := keep2 p6 (.int .i64 A) (.int .i64 q) b5 (by first | assumption | omega)
          replace b6 := put_two (x := .int .i64 A) (y := .int .i64 q) b6
          replace b7 := keep2 p6 (.int .i64 A) (.int .i64 q) b7 (by first | assumption | omega)
          replace b9 := keep2 p6 (.int .i64 A) (.int .i64 q) b9 (by first | assumption | omega)
          replace b10 := keep2 p6 (.int .i64 A) (.int .i64 q) b10 (by first | assumption | omega)
          replace G := gr_set2 p6 (.int .i64 A) (.int .i64 q) G (by omega)
          generalize hW : ((w13.setCell ⟨p6, 0, none⟩ (.int .i64 A)).setCell ⟨p6, 1, none⟩ (.int .i64 q)) = W13 at *
          clear hW
          clear zx z4 z5 z6 z7 z9 z10 z0
          clear g13
          refine (M2.out _).mono ?_
          rintro e w14 ⟨rfl, g14⟩
          obtain ⟨cx, fx, zx⟩ := blk_cells (g14.heap bx)
          obtain ⟨c4, f4, z4⟩ := blk_cells (g14.heap b4)
          obtain ⟨c5, f5, z5⟩ := blk_cells (g14.heap b5)
          obtain ⟨c6, f6, z6⟩ := blk_cells (g14.heap b6)
          obtain ⟨c7, f7, z7⟩ := blk_cells (g14.heap b7)
          obtain ⟨c9, f9, z9⟩ := blk_cells (g14.heap b9)
          obtain ⟨c10, f10, z10⟩ := blk_cells (g14.heap b10)
          have z0 : w.heap.size ≤ w14.heap.size := (Gr.trans G g14).b.size
          go_wp2_with fail
          clear cx fx c4 f4 c5 f5 c6 f6 c7 f7 c9 f9 c10 f10
          replace bx := g14.heap bx
          replace b4 := g14.heap b4
          replace b5 := g14.heap b5
          replace b6 := g14.heap b6
          replace b7 := g14.heap b7
          replace b9 := g14.heap b9
          replace b10 := g14.heap b10
          have G := G.trans g14
          replace bx := keep2 p7 (.int .i64 C) (.int .i64 q) bx (by first | assumption | omega)
          replace b4 := keep2 p7 (.int .i64 C) (.int .i64 q) b4 (by first | assumption | omega)
          replace b5 := keep2 p7 (.int .i64 C) (.int .i64 q) b5 (by first | assumption | omega)
          replace b6 := keep2 p7 (.int .i64 C) (.int .i64 q) b6 (by first | assumption | omega)
          replace b7 := put_two (x := .int .i64 C) (y := .int .i64 q) b7
          replace b9 := keep2 p7 (.int .i64 C) (.int .i64 q) b9 (by first | assumption | omega)
          replace b10 := keep2 p7 (.int .i64 C) (.int .i64 q) b10 (by first | assumption | omega)
          replace G := gr_set2 p7 (.int .i64 C) (.int .i64 q) G (by omega)
          generalize hW : ((w14.setCell ⟨p7, 0, none⟩ (.int .i64 C)).setCell ⟨p7, 1, none⟩ (.int .i64 q)) = W14 at *
          clear hW
          clear zx z4 z5 z6 z7 z9 z10 z0
          clear g14
          go_roundw
          case rel => exact ⟨k+1, q+1, A, q, C, q, by go_num, Lib.hid ⟨by have := hk.out; omega, by rw [S.out.1, if_pos hL], by rw [S.out.2, if_pos hH]⟩, by omega, by omega, bx, b4, b5, b6, b7, G⟩
          case measure => simp [intOf]; omega
        · obtain ⟨cx, fx, zx⟩ := blk_cells bx
          obtain ⟨c4, f4, z4⟩ := blk_cells b4
          obtain ⟨c5, f5, z5⟩ := blk_cells b5
          obtain ⟨c6, f6, z6⟩ := blk_cells b6
          obtain ⟨c7, f7, z7⟩ := blk_cells b7
          go_wp2_with fail
          clear cx fx zx c4 f4 z4 c5 f5 z5 c6 f6 z6 c7 f7 z7
          refine (FQ.out _).mono ?_
          rintro e w11 ⟨rfl, g11⟩
          obtain ⟨cx, fx, zx⟩ := blk_cells (g11.heap bx)
          obtain ⟨c4, f4, z4⟩ := blk_cells (g11.heap b4)
          obtain ⟨c5, f5, z5⟩ := blk_cells (g11.heap b5)
          obtain ⟨c6, f6, z6⟩ := blk_cells (g11.heap b6)
          obtain ⟨c7, f7, z7⟩ := blk_cells (g11.heap b7)
          have z0 : w.heap.size ≤ w11.heap.size := (Gr.trans G g11).b.size
          go_wp2_with fail
          clear cx fx c4 f4 c5 f5 c6 f6 c7 f7
          replace bx := g11.heap bx
          replace b4 := g11.heap b4
          replace b5 := g11.heap b5
          replace b6 := g11.heap b6
          replace b7 := g11.heap b7
          have G := G.trans g11
          replace bx := ((Gr.refl _).alloc (.cells #[.int .i64 A, .int .i64 q] 23)).heap bx
          replace b4 := ((Gr.refl _).alloc (.cells #[.int .i64 A, .int .i64 q] 23)).heap b4
          replace b5 := ((Gr.refl _).alloc (.cells #[.int .i64 A, .int .i64 q] 23)).heap b5
          replace b6 := ((Gr.refl _).alloc (.cells #[.int .i64 A, .int .i64 q] 23)).heap b6
          replace b7 := ((Gr.refl _).alloc (.cells #[.int .i64 A, .int .i64 q] 23)).heap b7
          have b9 := heap_alloc_self w11 (.cells #[.int .i64 A, .int .i64 q] 23)
          replace G := G.alloc (.cells #[.int .i64 A, .int .i64 q] 23)
          generalize hW : (w11.alloc (.cells #[.int .i64 A, .int .i64 q] 23)) = W11 at *
          have ox : px < w11.heap.size := zx
          have o4 : p4 < w11.heap.size := z4
          have o5 : p5 < w11.heap.size := z5
          have o6 : p6 < w11.heap.size := z6
          have o7 : p7 < w11.heap.size := z7
          have w0 : w.heap.size ≤ w11.heap.size := z0
          obtain ⟨p9, hp9⟩ : ∃ p9, w11.heap.size = p9 := ⟨_, rfl⟩
          rw [hp9] at b9
          try simp only [hp9]
          have nx_9 : ¬ px = p9 := by omega
          have n9_x : ¬ p9 = px := by omega
          have n4_9 : ¬ p4 = p9 := by omega
          have n9_4 : ¬ p9 = p4 := by omega
          have n5_9 : ¬ p5 = p9 := by omega
          have n9_5 : ¬ p9 = p5 := by omega
          have n6_9 : ¬ p6 = p9 := by omega
          have n9_6 : ¬ p9 = p6 := by omega
          have n7_9 : ¬ p7 = p9 := by omega
          have n9_7 : ¬ p9 = p7 := by omega
          have s9 : w.heap.size ≤ p9 := by omega
          clear ox o4 o5 o6 o7 w0
          clear hp9
          clear hW
          clear zx z4 z5 z6 z7 z0
          clear g11
          refine (CQ.out _).mono ?_
          rintro e w12 ⟨rfl, g12⟩
          obtain ⟨cx, fx, zx⟩ := blk_cells (g12.heap bx)
          obtain ⟨c4, f4, z4⟩ := blk_cells (g12.heap b4)
          obtain ⟨c5, f5, z5⟩ := blk_cells (g12.heap b5)
          obtain ⟨c6, f6, z6⟩ := blk_cells (g12.heap b6)
          obtain ⟨c7, f7, z7⟩ := blk_cells (g12.heap b7)
          obtain ⟨c9, f9, z9⟩ := blk_cells (g12.heap b9)
          have z0 : w.heap.size ≤ w12.heap.size := (Gr.trans G g12).b.size
          go_wp2_with fail
          clear cx fx c4 f4 c5 f5 c6 f6 c7 f7 c9 f9
          replace bx := g12.heap bx
          replace b4 := g12.heap b4
          replace b5 := g12.heap b5
          replace b6 := g12.heap b6
          replace b7 := g12.heap b7
          replace b9 := g12.heap b9
          have G := G.trans g12
          replace bx := ((Gr.refl _).alloc (.cells #[.int .i64 C, .int .i64 q] 23)).heap bx
          replace b4 := ((Gr.refl _).alloc (.cells #[.int .i64 C, .int .i64 q] 23)).heap b4
          replace b5 := ((Gr.refl _).alloc (.cells #[.int .i64 C, .int .i64 q] 23)).heap b5
          replace b6 := ((Gr.refl _).alloc (.cells #[.int .i64 C, .int .i64 q] 23)).heap b6
          replace b7 := ((Gr.refl _).alloc (.cells #[.int .i64 C, .int .i64 q] 23)).heap b7
          replace b9 := ((Gr.refl _).alloc (.cells #[.int .i64 C, .int .i64 q] 23)).heap b9
          have b10 := heap_alloc_self w12 (.cells #[.int .i64 C, .int .i64 q] 23)
          replace G := G.alloc (.cells #[.int .i64 C, .int .i64 q] 23)
          generalize hW : (w12.alloc (.cells #[.int .i64 C, .int .i64 q] 23)) = W12 at *
          have ox : px < w12.heap.size := zx
          have o4 : p4 < w12.heap.size := z4
          have o5 : p5 < w12.heap.size := z5
          have o6 : p6 < w12.heap.size := z6
          have o7 : p7 < w12.heap.size := z7
          have o9 : p9 < w12.heap.size := z9
          have w0 : w.heap.size ≤ w12.heap.size := z0
          obtain ⟨p10, hp10⟩ : ∃ p10, w12.heap.size = p10 := ⟨_, rfl⟩
          rw [hp10] at b10
          try simp only [hp10]
          have nx_10 : ¬ px = p10 := by omega
          have n10_x : ¬ p10 = px := by omega
          have n4_10 : ¬ p4 = p10 := by omega
          have n10_4 : ¬ p10 = p4 := by omega
          have n5_10 : ¬ p5 = p10 := by omega
          have n10_5 : ¬ p10 = p5 := by omega
          have n6_10 : ¬ p6 = p10 := by omega
          have n10_6 : ¬ p10 = p6 := by omega
          have n7_10 : ¬ p7 = p10 := by omega
          have n10_7 : ¬ p10 = p7 := by omega
          have n9_10 : ¬ p9 = p10 := by omega
          have n10_9 : ¬ p10 = p9 := by omega
          have s10 : w.heap.size ≤ p10 := by omega
          clear ox o4 o5 o6 o7 o9 w0
          clear hp10
          clear hW
          clear zx z4 z5 z6 z7 z9 z0
          clear g12
          refine (M1.out _).mono ?_
          rintro e w13 ⟨rfl, g13⟩
          obtain ⟨cx, fx, zx⟩ := blk_cells (g13.heap bx)
          obtain ⟨c4, f4, z4⟩ := blk_cells (g13.heap b4)
          obtain ⟨c5, f5, z5⟩ := blk_cells (g13.heap b5)
          obtain ⟨c6, f6, z6⟩ := blk_cells (g13.heap b6)
          obtain ⟨c7, f7, z7⟩ := blk_cells (g13.heap b7)
          obtain ⟨c9, f9, z9⟩ := blk_cells (g13.heap b9)
          obtain ⟨c10, f10, z10⟩ := blk_cells (g13.heap b10)
          have z0 : w.heap.size ≤ w13.heap.size := (Gr.trans G g13).b.size
          go_wp2_with fail
          clear cx fx c4 f4 c5 f5 c6 f6 c7 f7 c9 f9 c10 f10
          replace bx := g13.heap bx
          replace b4 := g13.heap b4
          replace b5 := g13.heap b5
          replace b6 := g13.heap b6
          replace b7 := g13.heap b7
          replace b9 := g13.heap b9
          replace b10 := g13.heap b10
          have G := G.trans g13
          replace bx := keep2 p6 (.int .i64 A) (.int .i64 q) bx (by first | assumption | omega)
          replace b4 := keep2 p6 (.int .i64 A) (.int .i64 q) b4 (by first | assumption | omega)
          replace b5 := keep2 p6 (.int .i64 A) (.int .i64 q) b5 (by first | assumption | omega)
          replace b6 := put_two (x := .int .i64 A) (y := .int .i64 q) b6
          replace b7 := keep2 p6 (.int .i64 A) (.int .i64 q) b7 (by first | assumption | omega)
          replace b9 := keep2 p6 (.int .i64 A) (.int .i64 q) b9 (by first | assumption | omega)
          replace b10 := keep2 p6 (.int .i64 A) (.int .i64 q) b10 (by first | assumption | omega)
          replace G := gr_set2 p6 (.int .i64 A) (.int .i64 q) G (by omega)
          generalize hW : ((w13.setCell ⟨p6, 0, none⟩ (.int .i64 A)).setCell ⟨p6, 1, none⟩ (.int .i64 q)) = W13 at *
          clear hW
          clear zx z4 z5 z6 z7 z9 z10 z0
          clear g13
          refine (M2.out _).mono ?_
          rintro e w14 ⟨rfl, g14⟩
          obtain ⟨cx, fx, zx⟩ := blk_cells (g14.heap bx)
          obtain ⟨c4, f4, z4⟩ := blk_cells (g14.heap b4)
          obtain ⟨c5, f5, z5⟩ := blk_cells (g14.heap b5)
          obtain ⟨c6, f6, z6⟩ := blk_cells (g14.heap b6)
          obtain ⟨c7, f7, z7⟩ := blk_cells (g14.heap b7)
          obtain ⟨c9, f9, z9⟩ := blk_cells (g14.heap b9)
          obtain ⟨c10, f10, z10⟩ := blk_cells (g14.heap b10)
          have z0 : w.heap.size ≤ w14.heap.size := (Gr.trans G g14).b.size
          go_wp2_with fail
          clear cx fx c4 f4 c5 f5 c6 f6 c7 f7 c9 f9 c10 f10
          replace bx := g14.heap bx
          replace b4 := g14.heap b4
          replace b5 := g14.heap b5
          replace b6 := g14.heap b6
          replace b7 := g14.heap b7
          replace b9 := g14.heap b9
          replace b10 := g14.heap b10
          have G := G.trans g14
          clear zx z4 z5 z6 z7 z9 z10 z0
          clear g14
          go_roundw
          case rel => exact ⟨k+1, q+1, A, q, HN, HD, by go_num, Lib.hid ⟨by have := hk.out; omega, by rw [S.out.1, if_pos hL], by rw [S.out.2, if_neg (show ¬ Y < 0 by omega)]⟩, by omega, by omega, bx, b4, b5, b6, b7, G⟩
          case measure => simp [intOf]; omega
      · by_cases hH : Y < 0
        · obtain ⟨cx, fx, zx⟩ := blk_cells bx
          obtain ⟨c4, f4, z4⟩ := blk_cells b4
          obtain ⟨c5, f5, z5⟩ := blk_cells b5
          obtain ⟨c6, f6, z6⟩ := blk_cells b6
          obtain ⟨c7, f7, z7⟩ := blk_cells b7
          go_wp2_with fail
          clear cx fx zx c4 f4 z4 c5 f5 z5 c6 f6 z6 c7 f7 z7
          refine (FQ.out _).mono ?_
          rintro e w11 ⟨rfl, g11⟩
          obtain ⟨cx, fx, zx⟩ := blk_cells (g11.heap bx)
          obtain ⟨c4, f4, z4⟩ := blk_cells (g11.heap b4)
          obtain ⟨c5, f5, z5⟩ := blk_cells (g11.heap b5)
          obtain ⟨c6, f6, z6⟩ := blk_cells (g11.heap b6)
          obtain ⟨c7, f7, z7⟩ := blk_cells (g11.heap b7)
          have z0 : w.heap.size ≤ w11.heap.size := (Gr.trans G g11).b.size
          go_wp2_with fail
          clear cx fx c4 f4 c5 f5 c6 f6 c7 f7
          replace bx := g11.heap bx
          replace b4 := g11.heap b4
          replace b5 := g11.heap b5
          replace b6 := g11.heap b6
          replace b7 := g11.heap b7
          have G := G.trans g11
          replace bx := ((Gr.refl _).alloc (.cells #[.int .i64 A, .int .i64 q] 23)).heap bx
          replace b4 := ((Gr.refl _).alloc (.cells #[.int .i64 A, .int .i64 q] 23)).heap b4
          replace b5 := ((Gr.refl _).alloc (.cells #[.int .i64 A, .int .i64 q] 23)).heap b5
          replace b6 := ((Gr.refl _).alloc (.cells #[.int .i64 A, .int .i64 q] 23)).heap b6
          replace b7 := ((Gr.refl _).alloc (.cells #[.int .i64 A, .int .i64 q] 23)).heap b7
          have b9 := heap_alloc_self w11 (.cells #[.int .i64 A, .int .i64 q] 23)
          replace G := G.alloc (.cells #[.int .i64 A, .int .i64 q] 23)
          generalize hW : (w11.alloc (.cells #[.int .i64 A, .int .i64 q] 23)) = W11 at *
          have ox : px < w11.heap.size := zx
          have o4 : p4 < w11.heap.size := z4
          have o5 : p5 < w11.heap.size := z5
          have o6 : p6 < w11.heap.size := z6
          have o7 : p7 < w11.heap.size := z7
          have w0 : w.heap.size ≤ w11.heap.size := z0
          obtain ⟨p9, hp9⟩ : ∃ p9, w11.heap.size = p9 := ⟨_, rfl⟩
          rw [hp9] at b9
          try simp only [hp9]
          have nx_9 : ¬ px = p9 := by omega
          have n9_x : ¬ p9 = px := by omega
          have n4_9 : ¬ p4 = p9 := by omega
          have n9_4 : ¬ p9 = p4 := by omega
          have n5_9 : ¬ p5 = p9 := by omega
          have n9_5 : ¬ p9 = p5 := by omega
          have n6_9 : ¬ p6 = p9 := by omega
          have n9_6 : ¬ p9 = p6 := by omega
          have n7_9 : ¬ p7 = p9 := by omega
          have n9_7 : ¬ p9 = p7 := by omega
          have s9 : w.heap.size ≤ p9 := by omega
          clear ox o4 o5 o6 o7 w0
          clear hp9
          clear hW
          clear zx z4 z5 z6 z7 z0
          clear g11
          refine (CQ.out _).mono ?_
          rintro e w12 ⟨rfl, g12⟩
          obtain ⟨cx, fx, zx⟩ := blk_cells (g12.heap bx)
          obtain ⟨c4, f4, z4⟩ := blk_cells (g12.heap b4)
          obtain ⟨c5, f5, z5⟩ := blk_cells (g12.heap b5)
          obtain ⟨c6, f6, z6⟩ := blk_cells (g12.heap b6)
          obtain ⟨c7, f7, z7⟩ := blk_cells (g12.heap b7)
          obtain ⟨c9, f9, z9⟩ := blk_cells (g12.heap b9)
          have z0 : w.heap.size ≤ w12.heap.size := (Gr.trans G g12).b.size
          go_wp2_with fail
          clear cx fx c4 f4 c5 f5 c6 f6 c7 f7 c9 f9
          replace bx := g12.heap bx
          replace b4 := g12.heap b4
          replace b5 := g12.heap b5
          replace b6 := g12.heap b6
          replace b7 := g12.heap b7
          replace b9 := g12.heap b9
          have G := G.trans g12
          replace bx := ((Gr.refl _).alloc (.cells #[.int .i64 C, .int .i64 q] 23)).heap bx
          replace b4 := ((Gr.refl _).alloc (.cells #[.int .i64 C, .int .i64 q] 23)).heap b4
          replace b5 := ((Gr.refl _).alloc (.cells #[.int .i64 C, .int .i64 q] 23)).heap b5
          replace b6 := ((Gr.refl _).alloc (.cells #[.int .i64 C, .int .i64 q] 23)).heap b6
          replace b7 := ((Gr.refl _).alloc (.cells #[.int .i64 C, .int .i64 q] 23)).heap b7
          replace b9 := ((Gr.refl _).alloc (.cells #[.int .i64 C, .int .i64 q] 23)).heap b9
          have b10 := heap_alloc_self w12 (.cells #[.int .i64 C, .int .i64 q] 23)
          replace G := G.alloc (.cells #[.int .i64 C, .int .i64 q] 23)
          generalize hW : (w12.alloc (.cells #[.int .i64 C, .int .i64 q] 23)) = W12 at *
          have ox : px < w12.heap.size := zx
          have o4 : p4 < w12.heap.size := z4
          have o5 : p5 < w12.heap.size := z5
          have o6 : p6 < w12.heap.size := z6
          have o7 : p7 < w12.heap.size := z7
          have o9 : p9 < w12.heap.size := z9
          have w0 : w.heap.size ≤ w12.heap.size := z0
          obtain ⟨p10, hp10⟩ : ∃ p10, w12.heap.size = p10 := ⟨_, rfl⟩
          rw [hp10] at b10
          try simp only [hp10]
          have nx_10 : ¬ px = p10 := by omega
          have n10_x : ¬ p10 = px := by omega
          have n4_10 : ¬ p4 = p10 := by omega
          have n10_4 : ¬ p10 = p4 := by omega
          have n5_10 : ¬ p5 = p10 := by omega
          have n10_5 : ¬ p10 = p5 := by omega
          have n6_10 : ¬ p6 = p10 := by omega
          have n10_6 : ¬ p10 = p6 := by omega
          have n7_10 : ¬ p7 = p10 := by omega
          have n10_7 : ¬ p10 = p7 := by omega
          have n9_10 : ¬ p9 = p10 := by omega
          have n10_9 : ¬ p10 = p9 := by omega
          have s10 : w.heap.size ≤ p10 := by omega
          clear ox o4 o5 o6 o7 o9 w0
          clear hp10
          clear hW
          clear zx z4 z5 z6 z7 z9 z0
          clear g12
          refine (M1.out _).mono ?_
          rintro e w13 ⟨rfl, g13⟩
          obtain ⟨cx, fx, zx⟩ := blk_cells (g13.heap bx)
          obtain ⟨c4, f4, z4⟩ := blk_cells (g13.heap b4)
          obtain ⟨c5, f5, z5⟩ := blk_cells (g13.heap b5)
          obtain ⟨c6, f6, z6⟩ := blk_cells (g13.heap b6)
          obtain ⟨c7, f7, z7⟩ := blk_cells (g13.heap b7)
          obtain ⟨c9, f9, z9⟩ := blk_cells (g13.heap b9)
          obtain ⟨c10, f10, z10⟩ := blk_cells (g13.heap b10)
          have z0 : w.heap.size ≤ w13.heap.size := (Gr.trans G g13).b.size
          go_wp2_with fail
          clear cx fx c4 f4 c5 f5 c6 f6 c7 f7 c9 f9 c10 f10
          replace bx := g13.heap bx
          replace b4 := g13.heap b4
          replace b5 := g13.heap b5
          replace b6 := g13.heap b6
          replace b7 := g13.heap b7
          replace b9 := g13.heap b9
          replace b10 := g13.heap b10
          have G := G.trans g13
          clear zx z4 z5 z6 z7 z9 z10 z0
          clear g13
          refine (M2.out _).mono ?_
          rintro e w14 ⟨rfl, g14⟩
          obtain ⟨cx, fx, zx⟩ := blk_cells (g14.heap bx)
          obtain ⟨c4, f4, z4⟩ := blk_cells (g14.heap b4)
          obtain ⟨c5, f5, z5⟩ := blk_cells (g14.heap b5)
          obtain ⟨c6, f6, z6⟩ := blk_cells (g14.heap b6)
          obtain ⟨c7, f7, z7⟩ := blk_cells (g14.heap b7)
          obtain ⟨c9, f9, z9⟩ := blk_cells (g14.heap b9)
          obtain ⟨c10, f10, z10⟩ := blk_cells (g14.heap b10)
          have z0 : w.heap.size ≤ w14.heap.size := (Gr.trans G g14).b.size
          go_wp2_with fail
          clear cx fx c4 f4 c5 f5 c6 f6 c7 f7 c9 f9 c10 f10
          replace bx := g14.heap bx
          replace b4 := g14.heap b4
          replace b5 := g14.heap b5
          replace b6 := g14.heap b6
          replace b7 := g14.heap b7
          replace b9 := g14.heap b9
          replace b10 := g14.heap b10
          have G := G.trans g14
          replace bx := keep2 p7 (.int .i64 C) (.int .i64 q) bx (by first | assumption | omega)
          replace b4 := keep2 p7 (.int .i64 C) (.int .i64 q) b4 (by first | assumption | omega)
          replace b5 := keep2 p7 (.int .i64 C) (.int .i64 q) b5 (by first | assumption | omega)
          replace b6 := keep2 p7 (.int .i64 C) (.int .i64 q) b6 (by first | assumption | omega)
          replace b7 := put_two (x := .int .i64 C) (y := .int .i64 q) b7
          replace b9 := keep2 p7 (.int .i64 C) (.int .i64 q) b9 (by first | assumption | omega)
          replace b10 := keep2 p7 (.int .i64 C) (.int .i64 q) b10 (by first | assumption | omega)
          replace G := gr_set2 p7 (.int .i64 C) (.int .i64 q) G (by omega)
          generalize hW : ((w14.setCell ⟨p7, 0, none⟩ (.int .i64 C)).setCell ⟨p7, 1, none⟩ (.int .i64 q)) = W14 at *
          clear hW
          clear zx z4 z5 z6 z7 z9 z10 z0
          clear g14
          go_roundw
          case rel => exact ⟨k+1, q+1, LN, LD, C, q, by go_num, Lib.hid ⟨by have := hk.out; omega, by rw [S.out.1, if_neg (show ¬ 0 < X by omega)], by rw [S.out.2, if_pos hH]⟩, by omega, by omega, bx, b4, b5, b6, b7, G⟩
          case measure => simp [intOf]; omega
        · obtain ⟨cx, fx, zx⟩ := blk_cells bx
          obtain ⟨c4, f4, z4⟩ := blk_cells b4
          obtain ⟨c5, f5, z5⟩ := blk_cells b5
          obtain ⟨c6, f6, z6⟩ := blk_cells b6
          obtain ⟨c7, f7, z7⟩ := blk_cells b7
          go_wp2_with fail
          clear cx fx zx c4 f4 z4 c5 f5 z5 c6 f6 z6 c7 f7 z7
          refine (FQ.out _).mono ?_
          rintro e w11 ⟨rfl, g11⟩
          obtain ⟨cx, fx, zx⟩ := blk_cells (g11.heap bx)
          obtain ⟨c4, f4, z4⟩ := blk_cells (g11.heap b4)
          obtain ⟨c5, f5, z5⟩ := blk_cells (g11.heap b5)
          obtain ⟨c6, f6, z6⟩ := blk_cells (g11.heap b6)
          obtain ⟨c7, f7, z7⟩ := blk_cells (g11.heap b7)
          have z0 : w.heap.size ≤ w11.heap.size := (Gr.trans G g11).b.size
          go_wp2_with fail
          clear cx fx c4 f4 c5 f5 c6 f6 c7 f7
          replace bx := g11.heap bx
          replace b4 := g11.heap b4
          replace b5 := g11.heap b5
          replace b6 := g11.heap b6
          replace b7 := g11.heap b7
          have G := G.trans g11
          replace bx := ((Gr.refl _).alloc (.cells #[.int .i64 A, .int .i64 q] 23)).heap bx
          replace b4 := ((Gr.refl _).alloc (.cells #[.int .i64 A, .int .i64 q] 23)).heap b4
          replace b5 := ((Gr.refl _).alloc (.cells #[.int .i64 A, .int .i64 q] 23)).heap b5
          replace b6 := ((Gr.refl _).alloc (.cells #[.int .i64 A, .int .i64 q] 23)).heap b6
          replace b7 := ((Gr.refl _).alloc (.cells #[.int .i64 A, .int .i64 q] 23)).heap b7
          have b9 := heap_alloc_self w11 (.cells #[.int .i64 A, .int .i64 q] 23)
          replace G := G.alloc (.cells #[.int .i64 A, .int .i64 q] 23)
          generalize hW : (w11.alloc (.cells #[.int .i64 A, .int .i64 q] 23)) = W11 at *
          have ox : px < w11.heap.size := zx
          have o4 : p4 < w11.heap.size := z4
          have o5 : p5 < w11.heap.size := z5
          have o6 : p6 < w11.heap.size := z6
          have o7 : p7 < w11.heap.size := z7
          have w0 : w.heap.size ≤ w11.heap.size := z0
          obtain ⟨p9, hp9⟩ : ∃ p9, w11.heap.size = p9 := ⟨_, rfl⟩
          rw [hp9] at b9
          try simp only [hp9]
          have nx_9 : ¬ px = p9 := by omega
          have n9_x : ¬ p9 = px := by omega
          have n4_9 : ¬ p4 = p9 := by omega
          have n9_4 : ¬ p9 = p4 := by omega
          have n5_9 : ¬ p5 = p9 := by omega
          have n9_5 : ¬ p9 = p5 := by omega
          have n6_9 : ¬ p6 = p9 := by omega
          have n9_6 : ¬ p9 = p6 := by omega
          have n7_9 : ¬ p7 = p9 := by omega
          have n9_7 : ¬ p9 = p7 := by omega
          have s9 : w.heap.size ≤ p9 := by omega
          clear ox o4 o5 o6 o7 w0
          clear hp9
          clear hW
          clear zx z4 z5 z6 z7 z0
          clear g11
          refine (CQ.out _).mono ?_
          rintro e w12 ⟨rfl, g12⟩
          obtain ⟨cx, fx, zx⟩ := blk_cells (g12.heap bx)
          obtain ⟨c4, f4, z4⟩ := blk_cells (g12.heap b4)
          obtain ⟨c5, f5, z5⟩ := blk_cells (g12.heap b5)
          obtain ⟨c6, f6, z6⟩ := blk_cells (g12.heap b6)
          obtain ⟨c7, f7, z7⟩ := blk_cells (g12.heap b7)
          obtain ⟨c9, f9, z9⟩ := blk_cells (g12.heap b9)
          have z0 : w.heap.size ≤ w12.heap.size := (Gr.trans G g12).b.size
          go_wp2_with fail
          clear cx fx c4 f4 c5 f5 c6 f6 c7 f7 c9 f9
          replace bx := g12.heap bx
          replace b4 := g12.heap b4
          replace b5 := g12.heap b5
          replace b6 := g12.heap b6
          replace b7 := g12.heap b7
          replace b9 := g12.heap b9
          have G := G.trans g12
          replace bx := ((Gr.refl _).alloc (.cells #[.int .i64 C, .int .i64 q] 23)).heap bx
          replace b4 := ((Gr.refl _).alloc (.cells #[.int .i64 C, .int .i64 q] 23)).heap b4
          replace b5 := ((Gr.refl _).alloc (.cells #[.int .i64 C, .int .i64 q] 23)).heap b5
          replace b6 := ((Gr.refl _).alloc (.cells #[.int .i64 C, .int .i64 q] 23)).heap b6
          replace b7 := ((Gr.refl _).alloc (.cells #[.int .i64 C, .int .i64 q] 23)).heap b7
          replace b9 := ((Gr.refl _).alloc (.cells #[.int .i64 C, .int .i64 q] 23)).heap b9
          have b10 := heap_alloc_self w12 (.cells #[.int .i64 C, .int .i64 q] 23)
          replace G := G.alloc (.cells #[.int .i64 C, .int .i64 q] 23)
          generalize hW : (w12.alloc (.cells #[.int .i64 C, .int .i64 q] 23)) = W12 at *
          have ox : px < w12.heap.size := zx
          have o4 : p4 < w12.heap.size := z4
          have o5 : p5 < w12.heap.size := z5
          have o6 : p6 < w12.heap.size := z6
          have o7 : p7 < w12.heap.size := z7
          have o9 : p9 < w12.heap.size := z9
          have w0 : w.heap.size ≤ w12.heap.size := z0
          obtain ⟨p10, hp10⟩ : ∃ p10, w12.heap.size = p10 := ⟨_, rfl⟩
          rw [hp10] at b10
          try simp only [hp10]
          have nx_10 : ¬ px = p10 := by omega
          have n10_x : ¬ p10 = px := by omega
          have n4_10 : ¬ p4 = p10 := by omega
          have n10_4 : ¬ p10 = p4 := by omega
          have n5_10 : ¬ p5 = p10 := by omega
          have n10_5 : ¬ p10 = p5 := by omega
          have n6_10 : ¬ p6 = p10 := by omega
          have n10_6 : ¬ p10 = p6 := by omega
          have n7_10 : ¬ p7 = p10 := by omega
          have n10_7 : ¬ p10 = p7 := by omega
          have n9_10 : ¬ p9 = p10 := by omega
          have n10_9 : ¬ p10 = p9 := by omega
          have s10 : w.heap.size ≤ p10 := by omega
          clear ox o4 o5 o6 o7 o9 w0
          clear hp10
          clear hW
          clear zx z4 z5 z6 z7 z9 z0
          clear g12
          refine (M1.out _).mono ?_
          rintro e w13 ⟨rfl, g13⟩
          obtain ⟨cx, fx, zx⟩ := blk_cells (g13.heap bx)
          obtain ⟨c4, f4, z4⟩ := blk_cells (g13.heap b4)
          obtain ⟨c5, f5, z5⟩ := blk_cells (g13.heap b5)
          obtain ⟨c6, f6, z6⟩ := blk_cells (g13.heap b6)
          obtain ⟨c7, f7, z7⟩ := blk_cells (g13.heap b7)
          obtain ⟨c9, f9, z9⟩ := blk_cells (g13.heap b9)
          obtain ⟨c10, f10, z10⟩ := blk_cells (g13.heap b10)
          have z0 : w.heap.size ≤ w13.heap.size := (Gr.trans G g13).b.size
          go_wp2_with fail
          clear cx fx c4 f4 c5 f5 c6 f6 c7 f7 c9 f9 c10 f10
          replace bx := g13.heap bx
          replace b4 := g13.heap b4
          replace b5 := g13.heap b5
          replace b6 := g13.heap b6
          replace b7 := g13.heap b7
          replace b9 := g13.heap b9
          replace b10 := g13.heap b10
          have G := G.trans g13
          clear zx z4 z5 z6 z7 z9 z10 z0
          clear g13
          refine (M2.out _).mono ?_
          rintro e w14 ⟨rfl, g14⟩
          obtain ⟨cx, fx, zx⟩ := blk_cells (g14.heap bx)
          obtain ⟨c4, f4, z4⟩ := blk_cells (g14.heap b4)
          obtain ⟨c5, f5, z5⟩ := blk_cells (g14.heap b5)
          obtain ⟨c6, f6, z6⟩ := blk_cells (g14.heap b6)
          obtain ⟨c7, f7, z7⟩ := blk_cells (g14.heap b7)
          obtain ⟨c9, f9, z9⟩ := blk_cells (g14.heap b9)
          obtain ⟨c10, f10, z10⟩ := blk_cells (g14.heap b10)
          have z0 : w.heap.size ≤ w14.heap.size := (Gr.trans G g14).b.size
          go_wp2_with fail
          clear cx fx c4 f4 c5 f5 c6 f6 c7 f7 c9 f9 c10 f10
          replace bx := g14.heap bx
          replace b4 := g14.heap b4
          replace b5 := g14.heap b5
          replace b6 := g14.heap b6
          replace b7 := g14.heap b7
          replace b9 := g14.heap b9
          replace b10 := g14.heap b10
          have G := G.trans g14
          clear zx z4 z5 z6 z7 z9 z10 z0
          clear g14
          go_roundw
          case rel => exact ⟨k+1, q+1, LN, LD, HN, HD, by go_num, Lib.hid ⟨by have := hk.out; omega, by rw [S.out.1, if_neg (show ¬ 0 < X by omega)], by rw [S.out.2, if_neg (show ¬ Y < 0 by omega)]⟩, by omega, by omega, bx, b4, b5, b6, b7, G⟩
          case measure => simp [intOf]; omega
    · obtain ⟨hk, hlo, hhi⟩ := hI.out
      obtain ⟨e1, e2⟩ := HEND.out k (by omega)
      rw [hlo] at e1
      rw [hhi] at e2
      simp only [Prod.mk.injEq] at e1 e2
      obtain ⟨rfl, rfl⟩ := e1
      obtain ⟨rfl, rfl⟩ := e2
      clear hI hk hlo hhi LB HB FB FL CL IS HEND
      obtain ⟨cx, fx, zx⟩ := blk_cells bx
      obtain ⟨c4, f4, z4⟩ := blk_cells b4
      obtain ⟨c5, f5, z5⟩ := blk_cells b5
      obtain ⟨c6, f6, z6⟩ := blk_cells b6
      obtain ⟨c7, f7, z7⟩ := blk_cells b7
      have hz : ∀ y : World, wr.heap.size ≤ y.heap.size → True := fun _ _ => trivial
      go_wp2_with fail
      go_region
      all_goals (try go_wp2)
      all_goals exact bodyPost_ret (v := .tuple #[fr LN LD, fr HN HD]) (by simp [results, Tryd.results76, go_sem, *]) rfl ⟨rfl, (by repeat (first | exact Gr.refl _ | assumption | refine Gr.alloc ?_ _ | refine Gr.drew ?_ | refine Gr.drewN ?_ _ | refine Gr.set ?_ _ _ (by first | (simp; done) | (simp; omega)) | refine Gr.trans ?_ (by assumption)))⟩
set_option maxRecDepth 100000 in
set_option maxHeartbeats 2000000 in
theorem rNeighbours_any (n d : Int) (w : World) :
    Calls Tryd.prog 21 #[fr n d] w fun e w' => e = .returned (nbR n d) ∧ Gr w w' := by
  have CK := Lib.hid (fun w => rCheckFrac_any n d w)
  cases h : Rm.okF n d
  · have e0 : nbR n d = .tuple #[fr 0 0, fr 0 0, .int .i64 1] := by simp [nbR, nbv, nbE, h]
    rw [e0]
    rw [h, Rm.err_false rfl] at CK
    clear e0 h
    go_enter Tryd.func21, Tryd.ntmps21
    go_wp2_with fail
    refine (CK.out _).mono ?_
    rintro e w1 ⟨rfl, hg1⟩
    obtain ⟨hc1, hf1, hz1⟩ := hg1.at (n := w.heap.size + 3) (by first | (simp; done) | (simp; omega) | omega)
    have : ¬ w1.heap.size = w.heap.size := (by omega); have : ¬ w.heap.size = w1.heap.size := (by omega); have : w.heap.size < w1.heap.size := (by omega); have : w.heap.size ≤ w1.heap.size := (by omega); have : ¬ w1.heap.size = w.heap.size + 1 := (by omega); have : ¬ w.heap.size + 1 = w1.heap.size := (by omega); have : w.heap.size + 1 < w1.heap.size := (by omega); have : w.heap.size + 1 ≤ w1.heap.size := (by omega); have : ¬ w1.heap.size = w.heap.size + 2 := (by omega); have : ¬ w.heap.size + 2 = w1.heap.size := (by omega); have : w.heap.size + 2 < w1.heap.size := (by omega); have : w.heap.size + 2 ≤ w1.heap.size := (by omega)
    go_wp2
    all_goals (try go_region)
    all_goals (try go_wp2)
    all_goals exact bodyPost_ret (v := .tuple #[fr 0 0, fr 0 0, .int .i64 1]) (by simp [results, Tryd.results21, go_sem, hc1]) rfl ⟨rfl, (by repeat (first | exact Gr.refl _ | assumption | refine Gr.alloc ?_ _ | refine Gr.drew ?_ | refine Gr.drewN ?_ _ | refine Gr.set ?_ _ _ (by first | (simp; done) | (simp; omega)) | refine Gr.trans ?_ (by assumption)))⟩
  · rw [h, Rm.err_true rfl] at CK
    by_cases hd : d = 1
    · subst hd
      have e0 : nbR n 1 = .tuple #[fr 0 0, fr 0 0, .int .i64 13] := by simp [nbR, nbv, nbE, h]
      rw [e0]
      clear e0 h
      go_enter Tryd.func21, Tryd.ntmps21
      go_wp2_with fail
      refine (CK.out _).mono ?_
      rintro e w1 ⟨rfl, hg1⟩
      obtain ⟨hc1, hf1, hz1⟩ := hg1.at (n := w.heap.size + 3) (by first | (simp; done) | (simp; omega) | omega)
      have : ¬ w1.heap.size = w.heap.size := (by omega); have : ¬ w.heap.size = w1.heap.size := (by omega); have : w.heap.size < w1.heap.size := (by omega); have : w.heap.size ≤ w1.heap.size := (by omega); have : ¬ w1.heap.size = w.heap.size + 1 := (by omega); have : ¬ w.heap.size + 1 = w1.heap.size := (by omega); have : w.heap.size + 1 < w1.heap.size := (by omega); have : w.heap.size + 1 ≤ w1.heap.size := (by omega); have : ¬ w1.heap.size = w.heap.size + 2 := (by omega); have : ¬ w.heap.size + 2 = w1.heap.size := (by omega); have : w.heap.size + 2 < w1.heap.size := (by omega); have : w.heap.size + 2 ≤ w1.heap.size := (by omega)
      go_wp2
      all_goals (try go_region)
      all_goals (try go_wp2)
      all_goals exact bodyPost_ret (v := .tuple #[fr 0 0, fr 0 0, .int .i64 13]) (by simp [results, Tryd.results21, go_sem, hc1]) rfl ⟨rfl, (by repeat (first | exact Gr.refl _ | assumption | refine Gr.alloc ?_ _ | refine Gr.drew ?_ | refine Gr.drewN ?_ _ | refine Gr.set ?_ _ _ (by first | (simp; done) | (simp; omega)) | refine Gr.trans ?_ (by assumption)))⟩
    · have e0 : nbR n d = .tuple #[fr (Rm.bkN n d (d-1)) (Rm.bkD n d (d-1)), fr (Rm.bhN n d (d-1)) (Rm.bhD n d (d-1)), .int .i64 0] := by simp [nbR, nbv, nbE, h, hd]
      rw [e0]
      obtain ⟨_, _, x3, x4, _⟩ := Rm.okF_iff.1 h
      have AR := Lib.hid (fun w => bracket_any n d (d-1) w h (by omega) (by omega))
      clear e0 h
      generalize Rm.bkN n d (d-1) = a at *
      generalize Rm.bkD n d (d-1) = b at *
      generalize Rm.bhN n d (d-1) = a' at *
      generalize Rm.bhD n d (d-1) = b' at *
      go_enter Tryd.func21, Tryd.ntmps21
      go_wp2_with fail
      refine (CK.out _).mono ?_
      rintro e w1 ⟨rfl, hg1⟩
      obtain ⟨hc1, hf1, hz1⟩ := hg1.at (n := w.heap.size + 3) (by first | (simp; done) | (simp; omega) | omega)
      have : ¬ w1.heap.size = w.heap.size := (by omega); have : ¬ w.heap.size = w1.heap.size := (by omega); have : w.heap.size < w1.heap.size := (by omega); have : w.heap.size ≤ w1.heap.size := (by omega); have : ¬ w1.heap.size = w.heap.size + 1 := (by omega); have : ¬ w.heap.size + 1 = w1.heap.size := (by omega); have : w.heap.size + 1 < w1.heap.size := (by omega); have : w.heap.size + 1 ≤ w1.heap.size := (by omega); have : ¬ w1.heap.size = w.heap.size + 2 := (by omega); have : ¬ w.heap.size + 2 = w1.heap.size := (by omega); have : w.heap.size + 2 < w1.heap.size := (by omega); have : w.heap.size + 2 ≤ w1.heap.size := (by omega)
      go_wp2_with fail
      refine (AR.out _).mono ?_
      rintro e v2 ⟨rfl, hg2⟩
      obtain ⟨hc2, hf2, hz2⟩ := hg2.at (n := w.heap.size + 3) (by first | (simp; done) | (simp; omega) | omega)
      have c0 : ∀ b o, b < w.heap.size + 3 → v2.cell? ⟨b, o, none⟩ = w1.cell? ⟨b, o, none⟩ := fun b o hb => by first | exact hc2 b o hb | (rw [hc2 b o hb]; simp [go_sem])
      have : ¬ v2.heap.size = w.heap.size := (by omega); have : ¬ w.heap.size = v2.heap.size := (by omega); have : w.heap.size < v2.heap.size := (by omega); have : w.heap.size ≤ v2.heap.size := (by omega); have : ¬ v2.heap.size = w.heap.size + 1 := (by omega); have : ¬ w.heap.size + 1 = v2.heap.size := (by omega); have : w.heap.size + 1 < v2.heap.size := (by omega); have : w.heap.size + 1 ≤ v2.heap.size := (by omega); have : ¬ v2.heap.size = w.heap.size + 2 := (by omega); have : ¬ w.heap.size + 2 = v2.heap.size := (by omega); have : w.heap.size + 2 < v2.heap.size := (by omega); have : w.heap.size + 2 ≤ v2.heap.size := (by omega)
      clear c0
      go_wp2_with fail
      all_goals (try go_region)
      all_goals (try go_wp2)
      all_goals exact bodyPost_ret (v := .tuple #[fr a b, fr a' b', .int .i64 0]) (by simp [results, Tryd.results21, go_sem, *]) rfl ⟨rfl, (by repeat (first | exact Gr.refl _ | assumption | refine Gr.alloc ?_ _ | refine Gr.drew ?_ | refine Gr.drewN ?_ _ | refine Gr.set ?_ _ _ (by first | (simp; done) | (simp; omega)) | refine Gr.trans ?_ (by assumption)))⟩
set_option maxRecDepth 100000 in
set_option maxHeartbeats 2000000 in
theorem rAround_any (n d m : Int) (w : World) :
    Calls Tryd.prog 24 #[fr n d, .int .i64 m] w fun e w' => e = .returned (.tuple #[fr (abN n d m) (abD n d m), fr (ahN n d m) (ahD n d m), .int .i64 (Rm.err (abOk n d m) 1)]) ∧ Gr w w' := by
  have CK := Lib.hid (fun w => rCheckFrac_any n d w)
  cases h : Rm.okF n d
  · have hA : abOk n d m = false := by simp [abOk, h]
    obtain ⟨e1, e2, e3, e4⟩ := ab_no hA
    rw [e1, e2, e3, e4, hA, Rm.err_false rfl]
    rw [h, Rm.err_false rfl] at CK
    clear e1 e2 e3 e4 hA h
    go_enter Tryd.func24, Tryd.ntmps24
    go_wp2_with fail
    refine (CK.out _).mono ?_
    rintro e w1 ⟨rfl, hg1⟩
    obtain ⟨hc1, hf1, hz1⟩ := hg1.at (n := w.heap.size + 3) (by first | (simp; done) | (simp; omega) | omega)
    have : ¬ w1.heap.size = w.heap.size := (by omega); have : ¬ w.heap.size = w1.heap.size := (by omega); have : w.heap.size < w1.heap.size := (by omega); have : w.heap.size ≤ w1.heap.size := (by omega); have : ¬ w1.heap.size = w.heap.size + 1 := (by omega); have : ¬ w.heap.size + 1 = w1.heap.size := (by omega); have : w.heap.size + 1 < w1.heap.size := (by omega); have : w.heap.size + 1 ≤ w1.heap.size := (by omega); have : ¬ w1.heap.size = w.heap.size + 2 := (by omega); have : ¬ w.heap.size + 2 = w1.heap.size := (by omega); have : w.heap.size + 2 < w1.heap.size := (by omega); have : w.heap.size + 2 ≤ w1.heap.size := (by omega)
    go_wp2
    all_goals (try go_region)
    all_goals (try go_wp2)
    all_goals exact bodyPost_ret (v := .tuple #[fr 0 0, fr 0 0, .int .i64 1]) (by simp [results, Tryd.results24, go_sem, hc1]) rfl ⟨rfl, (by repeat (first | exact Gr.refl _ | assumption | refine Gr.alloc ?_ _ | refine Gr.drew ?_ | refine Gr.drewN ?_ _ | refine Gr.set ?_ _ _ (by first | (simp; done) | (simp; omega)) | refine Gr.trans ?_ (by assumption)))⟩
  · rw [h, Rm.err_true rfl] at CK
    cases hm : (decide (1 ≤ m) && decide (m ≤ 1000000))
    · have hA : abOk n d m = false := by simp only [abOk, hm, Bool.and_false]
      obtain ⟨e1, e2, e3, e4⟩ := ab_no hA
      rw [e1, e2, e3, e4, hA, Rm.err_false rfl]
      clear e1 e2 e3 e4 hA h
      go_enter Tryd.func24, Tryd.ntmps24
      go_wp2_with fail
      refine (CK.out _).mono ?_
      rintro e w1 ⟨rfl, hg1⟩
      obtain ⟨hc1, hf1, hz1⟩ := hg1.at (n := w.heap.size + 3) (by first | (simp; done) | (simp; omega) | omega)
      have : ¬ w1.heap.size = w.heap.size := (by omega); have : ¬ w.heap.size = w1.heap.size := (by omega); have : w.heap.size < w1.heap.size := (by omega); have : w.heap.size ≤ w1.heap.size := (by omega); have : ¬ w1.heap.size = w.heap.size + 1 := (by omega); have : ¬ w.heap.size + 1 = w1.heap.size := (by omega); have : w.heap.size + 1 < w1.heap.size := (by omega); have : w.heap.size + 1 ≤ w1.heap.size := (by omega); have : ¬ w1.heap.size = w.heap.size + 2 := (by omega); have : ¬ w.heap.size + 2 = w1.heap.size := (by omega); have : w.heap.size + 2 < w1.heap.size := (by omega); have : w.heap.size + 2 ≤ w1.heap.size := (by omega)
      go_wp2_with (go_at_call 82; refine (within_any _ _ _ _).mono ?_; rintro e w' ⟨rfl, rfl⟩)
      all_goals (try go_region)
      all_goals (try go_wp2)
      all_goals exact bodyPost_ret (v := .tuple #[fr 0 0, fr 0 0, .int .i64 1]) (by simp [results, Tryd.results24, go_sem, hc1]) rfl ⟨rfl, (by repeat (first | exact Gr.refl _ | assumption | refine Gr.alloc ?_ _ | refine Gr.drew ?_ | refine Gr.drewN ?_ _ | refine Gr.set ?_ _ _ (by first | (simp; done) | (simp; omega)) | refine Gr.trans ?_ (by assumption)))⟩
    · have hA : abOk n d m = true := by simp only [abOk, hm, h, Bool.and_self]
      obtain ⟨e1, e2, e3, e4⟩ := ab_yes hA
      rw [e1, e2, e3, e4, hA, Rm.err_true rfl]
      obtain ⟨m1, m2⟩ : 1 ≤ m ∧ m ≤ 1000000 := by simpa using hm
      have AR := Lib.hid (fun w => bracket_any n d m w h m1 m2)
      clear e1 e2 e3 e4 hA h
      generalize Rm.bkN n d m = a at *
      generalize Rm.bkD n d m = b at *
      generalize Rm.bhN n d m = a' at *
      generalize Rm.bhD n d m = b' at *
      go_enter Tryd.func24, Tryd.ntmps24
      go_wp2_with fail
      refine (CK.out _).mono ?_
      rintro e w1 ⟨rfl, hg1⟩
      obtain ⟨hc1, hf1, hz1⟩ := hg1.at (n := w.heap.size + 3) (by first | (simp; done) | (simp; omega) | omega)
      have : ¬ w1.heap.size = w.heap.size := (by omega); have : ¬ w.heap.size = w1.heap.size := (by omega); have : w.heap.size < w1.heap.size := (by omega); have : w.heap.size ≤ w1.heap.size := (by omega); have : ¬ w1.heap.size = w.heap.size + 1 := (by omega); have : ¬ w.heap.size + 1 = w1.heap.size := (by omega); have : w.heap.size + 1 < w1.heap.size := (by omega); have : w.heap.size + 1 ≤ w1.heap.size := (by omega); have : ¬ w1.heap.size = w.heap.size + 2 := (by omega); have : ¬ w.heap.size + 2 = w1.heap.size := (by omega); have : w.heap.size + 2 < w1.heap.size := (by omega); have : w.heap.size + 2 ≤ w1.heap.size := (by omega)
      go_wp2_with (go_at_call 82; refine (within_any _ _ _ _).mono ?_; rintro e w' ⟨rfl, rfl⟩)
      refine (AR.out _).mono ?_
      rintro e v2 ⟨rfl, hg2⟩
      obtain ⟨hc2, hf2, hz2⟩ := hg2.at (n := w.heap.size + 3) (by first | (simp; done) | (simp; omega) | omega)
      have : ¬ v2.heap.size = w.heap.size := (by omega); have : ¬ w.heap.size = v2.heap.size := (by omega); have : w.heap.size < v2.heap.size := (by omega); have : w.heap.size ≤ v2.heap.size := (by omega); have : ¬ v2.heap.size = w.heap.size + 1 := (by omega); have : ¬ w.heap.size + 1 = v2.heap.size := (by omega); have : w.heap.size + 1 < v2.heap.size := (by omega); have : w.heap.size + 1 ≤ v2.heap.size := (by omega); have : ¬ v2.heap.size = w.heap.size + 2 := (by omega); have : ¬ w.heap.size + 2 = v2.heap.size := (by omega); have : w.heap.size + 2 < v2.heap.size := (by omega); have : w.heap.size + 2 ≤ v2.heap.size := (by omega)
      go_wp2_with fail
      all_goals (try go_region)
      all_goals (try go_wp2)
      all_goals exact bodyPost_ret (v := .tuple #[fr a b, fr a' b', .int .i64 0]) (by simp [results, Tryd.results24, go_sem, *]) rfl ⟨rfl, (by repeat (first | exact Gr.refl _ | assumption | refine Gr.alloc ?_ _ | refine Gr.drew ?_ | refine Gr.drewN ?_ _ | refine Gr.set ?_ _ _ (by first | (simp; done) | (simp; omega)) | refine Gr.trans ?_ (by assumption)))⟩
set_option maxRecDepth 100000 in
set_option maxHeartbeats 4000000 in
theorem rNearest_core (n d m a b a' b' : Int) (w : World) (AR : Hid (∀ w, Calls Tryd.prog 24 #[fr n d, .int .i64 m] w fun e w' => e = .returned (.tuple #[fr a b, fr a' b', .int .i64 0]) ∧ Gr w w'))
    (x1 : -4000000000000000000 ≤ n*b) (x2 : n*b ≤ 4000000000000000000) (x3 : -4000000000000000000 ≤ a*d) (x4 : a*d ≤ 4000000000000000000)
    (y1 : -4000000000000000000 ≤ a'*d) (y2 : a'*d ≤ 4000000000000000000) (y3 : -4000000000000000000 ≤ n*b') (y4 : n*b' ≤ 4000000000000000000)
    (_p1 : 0 ≤ n*b - a*d) (_p2 : n*b - a*d ≤ 1000000000000) (p3 : 0 ≤ (n*b - a*d)*b') (p4 : (n*b - a*d)*b' ≤ 1000000000000000000)
    (q1 : 0 ≤ a'*d - n*b') (q2 : a'*d - n*b' ≤ 1000000000000) (q3 : 0 ≤ (a'*d - n*b')*b) (q4 : (a'*d - n*b')*b ≤ 1000000000000000000) (t : Bool) (ht : Rm.nearB n d a b a' b' = t) :
    Calls Tryd.prog 26 #[fr n d, .int .i64 m] w fun e w' => e = .returned (.tuple #[if t then fr a b else fr a' b', .int .i64 0]) ∧ Gr w w' := by
  have c1 := Lib.hid (fun w => More_any n d a b w x1 x2 x3 x4)
  have c2 := Lib.hid (fun w => More_any a' b' n d w y1 y2 y3 y4)
  have wr1 : IntKind.i64.wrap ((n*b - a*d)*b') = (n*b - a*d)*b' := IntWalk.i64_in _ (by omega)
  have wr2 : IntKind.i64.wrap ((a'*d - n*b')*b) = (a'*d - n*b')*b := IntWalk.i64_in _ (by omega)
  unfold Rm.nearB at ht
  clear x1 x2 x3 x4 y1 y2 y3 y4 _p1 _p2 q1 q2
  generalize n*b - a*d = X at *
  generalize a'*d - n*b' = Y at *
  have HT := Lib.hid ht
  clear ht
  go_enter Tryd.func26, Tryd.ntmps26
  go_wp2_with fail
  have G := Gr.refl w
  have bx := heap_alloc_self w (.cells #[.int .i64 n, .int .i64 d] 23)
  replace G := G.alloc (.cells #[.int .i64 n, .int .i64 d] 23)
  replace bx := ((Gr.refl _).alloc (.cells #[.int .i64 0, .int .i64 0] 23)).heap bx
  have b4 := heap_alloc_self (w.alloc (.cells #[.int .i64 n, .int .i64 d] 23)) (.cells #[.int .i64 0, .int .i64 0] 23)
  replace G := G.alloc (.cells #[.int .i64 0, .int .i64 0] 23)
  generalize hW : ((w.alloc (.cells #[.int .i64 n, .int .i64 d] 23)).alloc (.cells #[.int .i64 0, .int .i64 0] 23)) = W1 at *
  simp only [World.size_alloc] at b4
  have w0 : w.heap.size ≤ w.heap.size := Nat.le_refl _
  obtain ⟨p4, hp4⟩ : ∃ p4, w.heap.size + 1 = p4 := ⟨_, rfl⟩
  obtain ⟨px, hpx⟩ : ∃ px, w.heap.size = px := ⟨_, rfl⟩
  rw [hp4] at b4
  rw [hpx] at bx
  try simp only [hp4]
  try simp only [hpx]
  have sx : w.heap.size ≤ px := by omega
  have nx_4 : ¬ px = p4 := by omega
  have n4_x : ¬ p4 = px := by omega
  have s4 : w.heap.size ≤ p4 := by omega
  clear  w0
  clear hpx
  clear hp4
  clear hW
  refine (AR.out _).mono ?_
  rintro e w1 ⟨rfl, g1⟩
  obtain ⟨cx, fx, zx⟩ := blk_cells (g1.heap bx)
  obtain ⟨c4, f4, z4⟩ := blk_cells (g1.heap b4)
  have z0 : w.heap.size ≤ w1.heap.size := (Gr.trans G g1).b.size
  go_upto_region 4 with (fail)
  clear cx fx c4 f4
  replace bx := g1.heap bx
  replace b4 := g1.heap b4
  have G := G.trans g1
  replace bx := ((Gr.refl _).alloc (.cells #[.int .i64 a, .int .i64 b] 23)).heap bx
  replace b4 := ((Gr.refl _).alloc (.cells #[.int .i64 a, .int .i64 b] 23)).heap b4
  have b6 := heap_alloc_self w1 (.cells #[.int .i64 a, .int .i64 b] 23)
  replace G := G.alloc (.cells #[.int .i64 a, .int .i64 b] 23)
  replace bx := ((Gr.refl _).alloc (.cells #[.int .i64 (a'), .int .i64 (b')] 23)).heap bx
  replace b4 := ((Gr.refl _).alloc (.cells #[.int .i64 (a'), .int .i64 (b')] 23)).heap b4
  replace b6 := ((Gr.refl _).alloc (.cells #[.int .i64 (a'), .int .i64 (b')] 23)).heap b6
  have b7 := heap_alloc_self (w1.alloc (.cells #[.int .i64 a, .int .i64 b] 23)) (.cells #[.int .i64 (a'), .int .i64 (b')] 23)
  replace G := G.alloc (.cells #[.int .i64 (a'), .int .i64 (b')] 23)
  generalize hW : ((w1.alloc (.cells #[.int .i64 a, .int .i64 b] 23)).alloc (.cells #[.int .i64 (a'), .int .i64 (b')] 23)) = W2 at *
  simp only [World.size_alloc] at b7
  have ox : px < w1.heap.size := zx
  have o4 : p4 < w1.heap.size := z4
  have w0 : w.heap.size ≤ w1.heap.size := z0
  obtain ⟨p7, hp7⟩ : ∃ p7, w1.heap.size + 1 = p7 := ⟨_, rfl⟩
  obtain ⟨p6, hp6⟩ : ∃ p6, w1.heap.size = p6 := ⟨_, rfl⟩
  rw [hp7] at b7
  rw [hp6] at b6
  try simp only [hp7]
  try simp only [hp6]
  have nx_6 : ¬ px = p6 := by omega
  have n6_x : ¬ p6 = px := by omega
  have n4_6 : ¬ p4 = p6 := by omega
  have n6_4 : ¬ p6 = p4 := by omega
  have s6 : w.heap.size ≤ p6 := by omega
  have nx_7 : ¬ px = p7 := by omega
  have n7_x : ¬ p7 = px := by omega
  have n4_7 : ¬ p4 = p7 := by omega
  have n7_4 : ¬ p7 = p4 := by omega
  have n6_7 : ¬ p6 = p7 := by omega
  have n7_6 : ¬ p7 = p6 := by omega
  have s7 : w.heap.size ≤ p7 := by omega
  clear ox o4 w0
  clear hp6
  clear hp7
  clear hW
  clear zx z4 z0
  clear g1
  obtain ⟨cx, fx, zx⟩ := blk_cells bx
  obtain ⟨c4, f4, z4⟩ := blk_cells b4
  obtain ⟨c6, f6, z6⟩ := blk_cells b6
  obtain ⟨c7, f7, z7⟩ := blk_cells b7
  refine wp_region_plan [.val (fr n d), .val (fr a b), .val (.int .i64 (X)), .val (.pointer (some ⟨p7, 1, none⟩)), .val (.int .i64 (b')), .val (.int .i64 (X*b')), .val (.int .i64 (X*b'))] (by kernel_rfl) (by kernel_rfl) (fun G => by first | (simp only [finAct, Act.put, Plan.value, List.setIfInBounds_toArray, List.set_cons_zero, List.set_cons_succ]; rfl) | (simp only [finAct, Act.put, Plan.value, List.setIfInBounds_toArray, List.set_cons_zero, List.set_cons_succ, Nat.zero_add, Nat.reduceAdd]; rfl)) ?_ ?_
  · refine ⟨?_, ?_, ?_, ?_, ?_, ?_, ?_, trivial⟩ <;> (first | exact trivial | (intro G; first | (refine ⟨by kernel_rfl, fun u hu => ?_⟩; obtain ⟨hc, hf, hz⟩ := hu.cells; go_simp; first | exact ⟨rfl, Gr.refl _⟩ | skip) | (refine ⟨by kernel_rfl, fun u T z hu hG hj hb => ?_⟩; cases hj; obtain ⟨hbc, hbf, hbz⟩ := blk_cells hb; first | (refine ⟨_, ?_, ((GrL.of_gr (Gr.refl _)).set _ _ (Or.inr (by simp))).set _ _ (Or.inr (by simp)), put_two hb⟩; go_simp; done) | (refine ⟨_, ?_, (GrL.of_gr (Gr.refl _)).set _ _ (Or.inr (by simp)), put_one hb⟩; go_simp; done)) | (refine ⟨by kernel_rfl, fun u => ?_⟩; go_simp; done) | (show _ = false; kernel_rfl)))
    · exact c1.out _
  intro _ U2 hg _ _
  clear cx fx zx c4 f4 z4 c6 f6 z6 c7 f7 z7
  replace bx := hg.heap bx
  replace b4 := hg.heap b4
  replace b6 := hg.heap b6
  replace b7 := hg.heap b7
  have G := G.trans hg
  clear hg
  go_upto_region 5 with (fail)
  obtain ⟨cx, fx, zx⟩ := blk_cells bx
  obtain ⟨c4, f4, z4⟩ := blk_cells b4
  obtain ⟨c6, f6, z6⟩ := blk_cells b6
  obtain ⟨c7, f7, z7⟩ := blk_cells b7
  refine wp_region_plan [.val (fr a' b'), .val (fr n d), .val (.int .i64 (Y)), .val (.pointer (some ⟨p6, 1, none⟩)), .val (.int .i64 (b)), .val (.int .i64 (Y*b)), .val (.int .i64 (Y*b))] (by kernel_rfl) (by kernel_rfl) (fun G => by first | (simp only [finAct, Act.put, Plan.value, List.setIfInBounds_toArray, List.set_cons_zero, List.set_cons_succ]; rfl) | (simp only [finAct, Act.put, Plan.value, List.setIfInBounds_toArray, List.set_cons_zero, List.set_cons_succ, Nat.zero_add, Nat.reduceAdd]; rfl)) ?_ ?_
  · refine ⟨?_, ?_, ?_, ?_, ?_, ?_, ?_, trivial⟩ <;> (first | exact trivial | (intro G; first | (refine ⟨by kernel_rfl, fun u hu => ?_⟩; obtain ⟨hc, hf, hz⟩ := hu.cells; go_simp; first | exact ⟨rfl, Gr.refl _⟩ | skip) | (refine ⟨by kernel_rfl, fun u T z hu hG hj hb => ?_⟩; cases hj; obtain ⟨hbc, hbf, hbz⟩ := blk_cells hb; first | (refine ⟨_, ?_, ((GrL.of_gr (Gr.refl _)).set _ _ (Or.inr (by simp))).set _ _ (Or.inr (by simp)), put_two hb⟩; go_simp; done) | (refine ⟨_, ?_, (GrL.of_gr (Gr.refl _)).set _ _ (Or.inr (by simp)), put_one hb⟩; go_simp; done)) | (refine ⟨by kernel_rfl, fun u => ?_⟩; go_simp; done) | (show _ = false; kernel_rfl)))
    · exact c2.out _
  intro _ U3 hg _ _
  clear cx fx zx c4 f4 z4 c6 f6 z6 c7 f7 z7
  replace bx := hg.heap bx
  replace b4 := hg.heap b4
  replace b6 := hg.heap b6
  replace b7 := hg.heap b7
  have G := G.trans hg
  clear hg
  obtain ⟨cx, fx, zx⟩ := blk_cells bx
  obtain ⟨c4, f4, z4⟩ := blk_cells b4
  obtain ⟨c6, f6, z6⟩ := blk_cells b6
  obtain ⟨c7, f7, z7⟩ := blk_cells b7
  rcases (show X*b' < Y*b ∨ (X*b' = Y*b ∧ b ≤ b') ∨ (X*b' = Y*b ∧ b' < b) ∨ Y*b < X*b' by omega) with k | ⟨k, k2⟩ | ⟨k, k2⟩ | k
  · obtain rfl : t = true := by rw [← HT.out]; simp [k]
    go_wp2
    exact bodyPost_ret (v := .tuple #[fr a b, .int .i64 0]) (by simp [results, Tryd.results26, go_sem, *]) rfl ⟨rfl, (by repeat (first | exact Gr.refl _ | assumption | refine Gr.alloc ?_ _ | refine Gr.drew ?_ | refine Gr.drewN ?_ _ | refine Gr.set ?_ _ _ (by first | (simp; done) | (simp; omega)) | refine Gr.trans ?_ (by assumption)))⟩
  · obtain rfl : t = true := by rw [← HT.out]; simp [k, k2]
    have kb : (X*b' == Y*b) = true := beq_iff_eq.2 k
    have kc : ¬ X*b' < Y*b := by omega
    clear k
    go_wp2
    exact bodyPost_ret (v := .tuple #[fr a b, .int .i64 0]) (by simp [results, Tryd.results26, go_sem, *]) rfl ⟨rfl, (by repeat (first | exact Gr.refl _ | assumption | refine Gr.alloc ?_ _ | refine Gr.drew ?_ | refine Gr.drewN ?_ _ | refine Gr.set ?_ _ _ (by first | (simp; done) | (simp; omega)) | refine Gr.trans ?_ (by assumption)))⟩
  · obtain rfl : t = false := by rw [← HT.out]; simp [k]; omega
    have kb : (X*b' == Y*b) = true := beq_iff_eq.2 k
    have kc : ¬ X*b' < Y*b := by omega
    clear k
    go_wp2
    exact bodyPost_ret (v := .tuple #[fr a' b', .int .i64 0]) (by simp [results, Tryd.results26, go_sem, *]) rfl ⟨rfl, (by repeat (first | exact Gr.refl _ | assumption | refine Gr.alloc ?_ _ | refine Gr.drew ?_ | refine Gr.drewN ?_ _ | refine Gr.set ?_ _ _ (by first | (simp; done) | (simp; omega)) | refine Gr.trans ?_ (by assumption)))⟩
  · obtain rfl : t = false := by rw [← HT.out]; simp; omega
    have kb : (X*b' == Y*b) = false := beq_eq_false_iff_ne.2 (by omega)
    have kc : ¬ X*b' < Y*b := by omega
    go_wp2
    exact bodyPost_ret (v := .tuple #[fr a' b', .int .i64 0]) (by simp [results, Tryd.results26, go_sem, *]) rfl ⟨rfl, (by repeat (first | exact Gr.refl _ | assumption | refine Gr.alloc ?_ _ | refine Gr.drew ?_ | refine Gr.drewN ?_ _ | refine Gr.set ?_ _ _ (by first | (simp; done) | (simp; omega)) | refine Gr.trans ?_ (by assumption)))⟩
set_option maxRecDepth 100000 in
set_option maxHeartbeats 2000000 in
theorem rNearest_any (n d m : Int) (w : World) :
    Calls Tryd.prog 26 #[fr n d, .int .i64 m] w fun e w' => e = .returned (.tuple #[fr (nrN n d m) (nrD n d m), .int .i64 (Rm.err (abOk n d m) 1)]) ∧ Gr w w' := by
  cases h : abOk n d m
  · have e1 : nrN n d m = 0 ∧ nrD n d m = 0 := by simp [nrN, nrD, h]
    rw [e1.1, e1.2, Rm.err_false rfl]
    obtain ⟨e1, e2, e3, e4⟩ := ab_no h
    have A := rAround_any n d m
    rw [e1, e2, e3, e4, h, Rm.err_false rfl] at A
    have AR := Lib.hid A
    clear A e1 e2 e3 e4 h
    go_enter Tryd.func26, Tryd.ntmps26
    go_wp2_with fail
    refine (AR.out _).mono ?_
    rintro e w1 ⟨rfl, hg1⟩
    obtain ⟨hc1, hf1, hz1⟩ := hg1.at (n := w.heap.size + 2) (by first | (simp; done) | (simp; omega) | omega)
    have : ¬ w1.heap.size = w.heap.size := (by omega); have : ¬ w.heap.size = w1.heap.size := (by omega); have : w.heap.size < w1.heap.size := (by omega); have : w.heap.size ≤ w1.heap.size := (by omega); have : ¬ w1.heap.size = w.heap.size + 1 := (by omega); have : ¬ w.heap.size + 1 = w1.heap.size := (by omega); have : w.heap.size + 1 < w1.heap.size := (by omega); have : w.heap.size + 1 ≤ w1.heap.size := (by omega)
    go_wp2
    exact bodyPost_ret (v := .tuple #[fr 0 0, .int .i64 1]) (by simp [results, Tryd.results26, go_sem, *]) rfl ⟨rfl, (by repeat (first | exact Gr.refl _ | assumption | refine Gr.alloc ?_ _ | refine Gr.drew ?_ | refine Gr.drewN ?_ _ | refine Gr.set ?_ _ _ (by first | (simp; done) | (simp; omega)) | refine Gr.trans ?_ (by assumption)))⟩
  · have hA : Rm.okF n d = true ∧ 1 ≤ m ∧ m ≤ 1000000 := by simpa [abOk] using h
    obtain ⟨x1, x2, x3, x4, x5⟩ := Rm.okF_iff.1 hA.1
    obtain ⟨e1, e2, e3, e4⟩ := ab_yes h
    have A := rAround_any n d m
    rw [e1, e2, e3, e4, h, Rm.err_true rfl] at A
    have B := @Rm.bk_brk n d m x3 hA.2.1
    have O := B.off x3 hA.2.1
    have a1 := B.a1
    have am := B.am
    have b1 := B.b1
    have bm := B.bm
    have e5 : fr (nrN n d m) (nrD n d m) = if nrB n d m then fr (Rm.bkN n d m) (Rm.bkD n d m) else fr (Rm.bhN n d m) (Rm.bhD n d m) := by
      unfold nrN nrD
      rw [if_pos h, if_pos h]
      split <;> rfl
    rw [e5, Rm.err_true rfl]
    have p := Rm.near_bd O.1 O.2.1 a1 (by omega) x3 x4 b1 (by omega)
    have q := Rm.near_bd O.2.2.1 O.2.2.2 b1 (by omega) x3 x4 a1 (by omega)
    have r1 := Rm.nd_bound x1 x2 a1 (by omega)
    have r2 := Rm.nd_bound x1 x2 b1 (by omega)
    exact rNearest_core n d m _ _ _ _ w (Lib.hid A) (by omega) (by omega) (by omega) (by omega) (by omega) (by omega) (by omega) (by omega) p.1 p.2.1 p.2.2.1 p.2.2.2 q.1 q.2.1 q.2.2.1 q.2.2.2 _ rfl
end Go.Proofs.YtconhikflghkdaaDoor
