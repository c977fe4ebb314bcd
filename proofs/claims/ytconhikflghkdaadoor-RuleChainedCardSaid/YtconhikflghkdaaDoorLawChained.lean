/- stricklelaw01.RuleChained. -/
import Derived.Test.YtconhikflghkdaaDoorAlive
import Derived.Test.YtconhikflghkdaaDoorChain
import Derived.Test.YtconhikflghkdaaDoorTwiced
import Derived.Test.YtconhikflghkdaaDoorCasted
import Derived.Test.YtconhikflghkdaaDoorSized
import Derived.Test.YtconhikflghkdaaDoorArith
import Derived.Deep.DeepCutAuto
namespace Go.Proofs.YtconhikflghkdaaDoor
open Go.RowKit Go.Shelf
attribute [local go_sem] Oper.semAt_some
set_option maxRecDepth 100000 in
set_option maxHeartbeats 4000000 in
theorem RuleChained_go (a b c d a' b' c' d' size low high t1 t2 t3 t4 l1 l2 m1 m2 x1 x2 y1 y2 u1 u2 v1 v2 g1 g2 h1 h2 L1 L2 M1 M2 lo hi E1 E2 E3 E4 K1 K2 : Int) (B : Bool) (w : World) (ht : Tab w) (TW : Hid (Says 57 #[ru a b c d, ru a' b' c' d'] (.tuple #[ru t1 t2 t3 t4, .int .i64 E1]))) (CA : Hid (Says 45 #[ru t1 t2 t3 t4, .int .i64 size] (.tuple #[fr l1 l2, fr m1 m2, .int .i64 E2]))) (CB : Hid (E1 = 0 → E2 = 0 → Says 45 #[ru a b c d, .int .i64 size] (.tuple #[fr x1 x2, fr y1 y2, .int .i64 0]))) (FF : Hid (Says 46 #[.int .i64 1, .int .i64 1] (fr 1 1))) (SC : Hid (E1 = 0 → E2 = 0 → Says 33 #[fr 1 1, fr c' d'] (.tuple #[fr u1 u2, .int .i64 0]))) (SD : Hid (E1 = 0 → E2 = 0 → Says 33 #[fr 1 1, fr a' b'] (.tuple #[fr v1 v2, .int .i64 0]))) (MM : Hid (Says 35 #[fr x1 x2, fr u1 u2] (.tuple #[fr g1 g2, .int .i64 K1]))) (MN : Hid (Says 35 #[fr y1 y2, fr v1 v2] (.tuple #[fr h1 h2, .int .i64 K2]))) (HM : Hid (E1 = 0 → E2 = 0 → K1 = 0 → g1 = l1 ∧ g2 = l2)) (HN : Hid (E1 = 0 → E2 = 0 → K2 = 0 → h1 = m1 ∧ h2 = m2)) (BO : Hid (Says 58 #[ru a b c d, ru a' b' c' d'] (.tuple #[ru L1 L2 M1 M2, .int .i64 E3]))) (S1 : Hid (Says 27 #[ru a b c d, .int .i64 low, .int .i64 high] (.tuple #[.int .i64 lo, .int .i64 hi, .bool B, .int .i64 E4]))) (S2 : Hid (E3 = 0 → ∃ lo' hi' B', Says 27 #[ru L1 L2 M1 M2, .int .i64 low, .int .i64 high] (.tuple #[.int .i64 lo', .int .i64 hi', .bool B', .int .i64 E4]) ∧ (B = true → B' = true ∧ lo' ≤ lo ∧ hi ≤ hi'))) : Calls Tryd.prog 15 #[ru a b c d, ru a' b' c' d', .int .i64 size, .int .i64 low, .int .i64 high] w fun r w' => r = .returned (.bool true) ∧ Gr w w' := by
  have HT := Lib.hid ht
  clear ht
  go_enter Tryd.func15, Tryd.ntmps15
  go_wp2_with fail
  have G := Gr.refl w
  have b5 := heap_alloc_self w (.cells #[.int .i64 a, .int .i64 b, .int .i64 c, .int .i64 d] 34)
  replace G := G.alloc (.cells #[.int .i64 a, .int .i64 b, .int .i64 c, .int .i64 d] 34)
  replace b5 := ((Gr.refl _).alloc (.cells #[.int .i64 (a'), .int .i64 (b'), .int .i64 (c'), .int .i64 (d')] 34)).heap b5
  have b6 := heap_alloc_self (w.alloc (.cells #[.int .i64 a, .int .i64 b, .int .i64 c, .int .i64 d] 34)) (.cells #[.int .i64 (a'), .int .i64 (b'), .int .i64 (c'), .int .i64 (d')] 34)
  replace G := G.alloc (.cells #[.int .i64 (a'), .int .i64 (b'), .int .i64 (c'), .int .i64 (d')] 34)
  generalize hW : ((w.alloc (.cells #[.int .i64 a, .int .i64 b, .int .i64 c, .int .i64 d] 34)).alloc (.cells #[.int .i64 (a'), .int .i64 (b'), .int .i64 (c'), .int .i64 (d')] 34)) = W1 at *
  simp only [World.size_alloc] at b6
  have w0 : w.heap.size ≤ w.heap.size := Nat.le_refl _
  obtain ⟨p6, hp6⟩ : ∃ p6, w.heap.size + 1 = p6 := ⟨_, rfl⟩
  obtain ⟨p5, hp5⟩ : ∃ p5, w.heap.size = p5 := ⟨_, rfl⟩
  rw [hp6] at b6
  rw [hp5] at b5
  try simp only [hp6]
  try simp only [hp5]
  have s5 : w.heap.size ≤ p5 := by omega
  have n5_6 : ¬ p5 = p6 := by omega
  have n6_5 : ¬ p6 = p5 := by omega
  have s6 : w.heap.size ≤ p6 := by omega
  clear  w0
  clear hp5
  clear hp6
  clear hW
  refine (TW.out _).mono ?_
  rintro e w1 ⟨rfl, g1⟩
  obtain ⟨c5, f5, z5⟩ := blk_cells (g1.heap b5)
  obtain ⟨c6, f6, z6⟩ := blk_cells (g1.heap b6)
  have z0 : w.heap.size ≤ w1.heap.size := (Gr.trans G g1).b.size
  go_wp2_with fail
  clear c5 f5 c6 f6
  replace b5 := g1.heap b5
  replace b6 := g1.heap b6
  have G := G.trans g1
  replace b5 := ((Gr.refl _).alloc (.cells #[.int .i64 t1, .int .i64 t2, .int .i64 t3, .int .i64 t4] 34)).heap b5
  replace b6 := ((Gr.refl _).alloc (.cells #[.int .i64 t1, .int .i64 t2, .int .i64 t3, .int .i64 t4] 34)).heap b6
  have b11 := heap_alloc_self w1 (.cells #[.int .i64 t1, .int .i64 t2, .int .i64 t3, .int .i64 t4] 34)
  replace G := G.alloc (.cells #[.int .i64 t1, .int .i64 t2, .int .i64 t3, .int .i64 t4] 34)
  generalize hW : (w1.alloc (.cells #[.int .i64 t1, .int .i64 t2, .int .i64 t3, .int .i64 t4] 34)) = W2 at *
  have o5 : p5 < w1.heap.size := z5
  have o6 : p6 < w1.heap.size := z6
  have w0 : w.heap.size ≤ w1.heap.size := z0
  obtain ⟨p11, hp11⟩ : ∃ p11, w1.heap.size = p11 := ⟨_, rfl⟩
  rw [hp11] at b11
  try simp only [hp11]
  have n5_11 : ¬ p5 = p11 := by omega
  have n11_5 : ¬ p11 = p5 := by omega
  have n6_11 : ¬ p6 = p11 := by omega
  have n11_6 : ¬ p11 = p6 := by omega
  have s11 : w.heap.size ≤ p11 := by omega
  clear o5 o6 w0
  clear hp11
  clear hW
  clear z5 z6 z0
  clear g1
  refine (CA.out _).mono ?_
  rintro e w2 ⟨rfl, g2⟩
  obtain ⟨c5, f5, z5⟩ := blk_cells (g2.heap b5)
  obtain ⟨c6, f6, z6⟩ := blk_cells (g2.heap b6)
  obtain ⟨c11, f11, z11⟩ := blk_cells (g2.heap b11)
  have z0 : w.heap.size ≤ w2.heap.size := (Gr.trans G g2).b.size
  go_upto_region 3 with (fail)
  clear c5 f5 c6 f6 c11 f11
  replace b5 := g2.heap b5
  replace b6 := g2.heap b6
  replace b11 := g2.heap b11
  have G := G.trans g2
  replace b5 := ((Gr.refl _).alloc (.cells #[.int .i64 l1, .int .i64 l2] 23)).heap b5
  replace b6 := ((Gr.refl _).alloc (.cells #[.int .i64 l1, .int .i64 l2] 23)).heap b6
  replace b11 := ((Gr.refl _).alloc (.cells #[.int .i64 l1, .int .i64 l2] 23)).heap b11
  have b13 := heap_alloc_self w2 (.cells #[.int .i64 l1, .int .i64 l2] 23)
  replace G := G.alloc (.cells #[.int .i64 l1, .int .i64 l2] 23)
  replace b5 := ((Gr.refl _).alloc (.cells #[.int .i64 m1, .int .i64 m2] 23)).heap b5
  replace b6 := ((Gr.refl _).alloc (.cells #[.int .i64 m1, .int .i64 m2] 23)).heap b6
  replace b11 := ((Gr.refl _).alloc (.cells #[.int .i64 m1, .int .i64 m2] 23)).heap b11
  replace b13 := ((Gr.refl _).alloc (.cells #[.int .i64 m1, .int .i64 m2] 23)).heap b13
  have b14 := heap_alloc_self (w2.alloc (.cells #[.int .i64 l1, .int .i64 l2] 23)) (.cells #[.int .i64 m1, .int .i64 m2] 23)
  replace G := G.alloc (.cells #[.int .i64 m1, .int .i64 m2] 23)
  generalize hW : ((w2.alloc (.cells #[.int .i64 l1, .int .i64 l2] 23)).alloc (.cells #[.int .i64 m1, .int .i64 m2] 23)) = W3 at *
  simp only [World.size_alloc] at b14
  have o5 : p5 < w2.heap.size := z5
  have o6 : p6 < w2.heap.size := z6
  have o11 : p11 < w2.heap.size := z11
  have w0 : w.heap.size ≤ w2.heap.size := z0
  obtain ⟨p14, hp14⟩ : ∃ p14, w2.heap.size + 1 = p14 := ⟨_, rfl⟩
  obtain ⟨p13, hp13⟩ : ∃ p13, w2.heap.size = p13 := ⟨_, rfl⟩
  rw [hp14] at b14
  rw [hp13] at b13
  try simp only [hp14]
  try simp only [hp13]
  have n5_13 : ¬ p5 = p13 := by omega
  have n13_5 : ¬ p13 = p5 := by omega
  have n6_13 : ¬ p6 = p13 := by omega
  have n13_6 : ¬ p13 = p6 := by omega
  have n11_13 : ¬ p11 = p13 := by omega
  have n13_11 : ¬ p13 = p11 := by omega
  have s13 : w.heap.size ≤ p13 := by omega
  have n5_14 : ¬ p5 = p14 := by omega
  have n14_5 : ¬ p14 = p5 := by omega
  have n6_14 : ¬ p6 = p14 := by omega
  have n14_6 : ¬ p14 = p6 := by omega
  have n11_14 : ¬ p11 = p14 := by omega
  have n14_11 : ¬ p14 = p11 := by omega
  have n13_14 : ¬ p13 = p14 := by omega
  have n14_13 : ¬ p14 = p13 := by omega
  have s14 : w.heap.size ≤ p14 := by omega
  clear o5 o6 o11 w0
  clear hp13
  clear hp14
  clear hW
  clear z5 z6 z11 z0
  clear g2
  clear TW CA
  go_cut [53] (fun s wx => s = .bool (decide (E1 = 0) && decide (E2 = 0)) ∧ Gr w wx ∧ wx.heap[p5]? = some (.cells #[.int .i64 a, .int .i64 b, .int .i64 c, .int .i64 d] 34 (0, 0)) ∧ wx.heap[p6]? = some (.cells #[.int .i64 (a'), .int .i64 (b'), .int .i64 (c'), .int .i64 (d')] 34 (0, 0)) ∧ wx.heap[p11]? = some (.cells #[.int .i64 t1, .int .i64 t2, .int .i64 t3, .int .i64 t4] 34 (0, 0)) ∧ wx.heap[p13]? = some (.cells #[.int .i64 l1, .int .i64 l2] 23 (0, 0)) ∧ wx.heap[p14]? = some (.cells #[.int .i64 m1, .int .i64 m2] 23 (0, 0)))
  case first =>
    clear CB FF SC SD MM MN HM HN BO S1 S2 HT
    by_cases e1 : E1 = 0
    · by_cases e2 : E2 = 0
      · subst e1
        subst e2
        obtain ⟨c5, f5, z5⟩ := blk_cells b5
        obtain ⟨c6, f6, z6⟩ := blk_cells b6
        obtain ⟨c11, f11, z11⟩ := blk_cells b11
        obtain ⟨c13, f13, z13⟩ := blk_cells b13
        obtain ⟨c14, f14, z14⟩ := blk_cells b14
        go_wp2_with fail
        all_goals go_meet
        all_goals exact ⟨rfl, G, b5, b6, b11, b13, b14⟩
      · subst e1
        have q2 : (E2 == 0) = false := beq_eq_false_iff_ne.2 e2
        skip
        obtain ⟨c5, f5, z5⟩ := blk_cells b5
        obtain ⟨c6, f6, z6⟩ := blk_cells b6
        obtain ⟨c11, f11, z11⟩ := blk_cells b11
        obtain ⟨c13, f13, z13⟩ := blk_cells b13
        obtain ⟨c14, f14, z14⟩ := blk_cells b14
        go_wp2_with fail
        all_goals go_meet
        all_goals exact ⟨by simp [e2], G, b5, b6, b11, b13, b14⟩
    · have q1 : (E1 == 0) = false := beq_eq_false_iff_ne.2 e1
      skip
      obtain ⟨c5, f5, z5⟩ := blk_cells b5
      obtain ⟨c6, f6, z6⟩ := blk_cells b6
      obtain ⟨c11, f11, z11⟩ := blk_cells b11
      obtain ⟨c13, f13, z13⟩ := blk_cells b13
      obtain ⟨c14, f14, z14⟩ := blk_cells b14
      go_wp2_with fail
      all_goals go_meet
      all_goals exact ⟨by simp [e1], G, b5, b6, b11, b13, b14⟩
  case rest =>
    clear G b5 b6 b11 b13 b14
    obtain ⟨rfl, G, b5, b6, b11, b13, b14⟩ := hcut
    go_upto_if 53 with (fail)
    go_cut [] (fun wx => Gr w wx ∧ wx.heap[p5]? = some (.cells #[.int .i64 a, .int .i64 b, .int .i64 c, .int .i64 d] 34 (0, 0)) ∧ wx.heap[p6]? = some (.cells #[.int .i64 (a'), .int .i64 (b'), .int .i64 (c'), .int .i64 (d')] 34 (0, 0)))
    case first =>
      clear BO S1 S2 HT
      by_cases e1 : E1 = 0 ∧ E2 = 0
      · obtain ⟨rfl, rfl⟩ := e1
        replace CB := Lib.hid (CB.out rfl rfl)
        replace SC := Lib.hid (SC.out rfl rfl)
        replace SD := Lib.hid (SD.out rfl rfl)
        replace HM := Lib.hid (HM.out rfl rfl)
        replace HN := Lib.hid (HN.out rfl rfl)
        rw [show (decide ((0:Int) = 0) && decide ((0:Int) = 0)) = true from rfl]
        obtain ⟨c5, f5, z5⟩ := blk_cells b5
        obtain ⟨c6, f6, z6⟩ := blk_cells b6
        obtain ⟨c11, f11, z11⟩ := blk_cells b11
        obtain ⟨c13, f13, z13⟩ := blk_cells b13
        obtain ⟨c14, f14, z14⟩ := blk_cells b14
        go_wp2_with fail
        clear c5 f5 z5 c6 f6 z6 c11 f11 z11 c13 f13 z13 c14 f14 z14
        have z0 : w.heap.size ≤ wc.heap.size := G.b.size
        refine (CB.out _).mono ?_
        rintro e w41 ⟨rfl, g41⟩
        obtain ⟨c5, f5, z5⟩ := blk_cells (g41.heap b5)
        obtain ⟨c6, f6, z6⟩ := blk_cells (g41.heap b6)
        obtain ⟨c11, f11, z11⟩ := blk_cells (g41.heap b11)
        obtain ⟨c13, f13, z13⟩ := blk_cells (g41.heap b13)
        obtain ⟨c14, f14, z14⟩ := blk_cells (g41.heap b14)
        have z0 : w.heap.size ≤ w41.heap.size := (Gr.trans G g41).b.size
        go_upto_region 5 with (fail)
        clear c5 f5 c6 f6 c11 f11 c13 f13 c14 f14
        replace b5 := g41.heap b5
        replace b6 := g41.heap b6
        replace b11 := g41.heap b11
        replace b13 := g41.heap b13
        replace b14 := g41.heap b14
        have G := G.trans g41
        replace b5 := ((Gr.refl _).alloc (.cells #[.int .i64 x1, .int .i64 x2] 23)).heap b5
        replace b6 := ((Gr.refl _).alloc (.cells #[.int .i64 x1, .int .i64 x2] 23)).heap b6
        replace b11 := ((Gr.refl _).alloc (.cells #[.int .i64 x1, .int .i64 x2] 23)).heap b11
        replace b13 := ((Gr.refl _).alloc (.cells #[.int .i64 x1, .int .i64 x2] 23)).heap b13
        replace b14 := ((Gr.refl _).alloc (.cells #[.int .i64 x1, .int .i64 x2] 23)).heap b14
        have b16 := heap_alloc_self w41 (.cells #[.int .i64 x1, .int .i64 x2] 23)
        replace G := G.alloc (.cells #[.int .i64 x1, .int .i64 x2] 23)
        replace b5 := ((Gr.refl _).alloc (.cells #[.int .i64 y1, .int .i64 y2] 23)).heap b5
        replace b6 := ((Gr.refl _).alloc (.cells #[.int .i64 y1, .int .i64 y2] 23)).heap b6
        replace b11 := ((Gr.refl _).alloc (.cells #[.int .i64 y1, .int .i64 y2] 23)).heap b11
        replace b13 := ((Gr.refl _).alloc (.cells #[.int .i64 y1, .int .i64 y2] 23)).heap b13
        replace b14 := ((Gr.refl _).alloc (.cells #[.int .i64 y1, .int .i64 y2] 23)).heap b14
        replace b16 := ((Gr.refl _).alloc (.cells #[.int .i64 y1, .int .i64 y2] 23)).heap b16
        have b17 := heap_alloc_self (w41.alloc (.cells #[.int .i64 x1, .int .i64 x2] 23)) (.cells #[.int .i64 y1, .int .i64 y2] 23)
        replace G := G.alloc (.cells #[.int .i64 y1, .int .i64 y2] 23)
        generalize hW : ((w41.alloc (.cells #[.int .i64 x1, .int .i64 x2] 23)).alloc (.cells #[.int .i64 y1, .int .i64 y2] 23)) = W41 at *
        simp only [World.size_alloc] at b17
        have o5 : p5 < w41.heap.size := z5
        have o6 : p6 < w41.heap.size := z6
        have o11 : p11 < w41.heap.size := z11
        have o13 : p13 < w41.heap.size := z13
        have o14 : p14 < w41.heap.size := z14
        have w0 : w.heap.size ≤ w41.heap.size := z0
        obtain ⟨p17, hp17⟩ : ∃ p17, w41.heap.size + 1 = p17 := ⟨_, rfl⟩
        obtain ⟨p16, hp16⟩ : ∃ p16, w41.heap.size = p16 := ⟨_, rfl⟩
        rw [hp17] at b17
        rw [hp16] at b16
        try simp only [hp17]
        try simp only [hp16]
        have n5_16 : ¬ p5 = p16 := by omega
        have n16_5 : ¬ p16 = p5 := by omega
        have n6_16 : ¬ p6 = p16 := by omega
        have n16_6 : ¬ p16 = p6 := by omega
        have n11_16 : ¬ p11 = p16 := by omega
        have n16_11 : ¬ p16 = p11 := by omega
        have n13_16 : ¬ p13 = p16 := by omega
        have n16_13 : ¬ p16 = p13 := by omega
        have n14_16 : ¬ p14 = p16 := by omega
        have n16_14 : ¬ p16 = p14 := by omega
        have s16 : w.heap.size ≤ p16 := by omega
        have n5_17 : ¬ p5 = p17 := by omega
        have n17_5 : ¬ p17 = p5 := by omega
        have n6_17 : ¬ p6 = p17 := by omega
        have n17_6 : ¬ p17 = p6 := by omega
        have n11_17 : ¬ p11 = p17 := by omega
        have n17_11 : ¬ p17 = p11 := by omega
        have n13_17 : ¬ p13 = p17 := by omega
        have n17_13 : ¬ p17 = p13 := by omega
        have n14_17 : ¬ p14 = p17 := by omega
        have n17_14 : ¬ p17 = p14 := by omega
        have n16_17 : ¬ p16 = p17 := by omega
        have n17_16 : ¬ p17 = p16 := by omega
        have s17 : w.heap.size ≤ p17 := by omega
        clear o5 o6 o11 o13 o14 w0
        clear hp16
        clear hp17
        clear hW
        clear z5 z6 z11 z13 z14 z0
        clear g41
        obtain ⟨c5, f5, z5⟩ := blk_cells b5
        obtain ⟨c6, f6, z6⟩ := blk_cells b6
        obtain ⟨c11, f11, z11⟩ := blk_cells b11
        obtain ⟨c13, f13, z13⟩ := blk_cells b13
        obtain ⟨c14, f14, z14⟩ := blk_cells b14
        obtain ⟨c16, f16, z16⟩ := blk_cells b16
        obtain ⟨c17, f17, z17⟩ := blk_cells b17
        have zG : w.heap.size ≤ W41.heap.size := G.b.size
        refine wp_region_plan [.val (fr (1) (1)), .val (.pointer (some ⟨p6, 2, none⟩)), .val (fr (c') (d')), .val (.tuple #[fr u1 u2, .int .i64 0]), .val (.tuple #[fr u1 u2, .int .i64 0]), .val (fr (u1) (u2)), .val (.int .i64 (0)), .new 23 #[.int .i64 0, .int .i64 0], .put 7 #[.int .i64 u1, .int .i64 u2], .val (.int .i64 (0))] (by kernel_rfl) (by kernel_rfl) (fun G => by first | (simp only [finAct, Act.put, Plan.value, List.setIfInBounds_toArray, List.set_cons_zero, List.set_cons_succ]; rfl) | (simp only [finAct, Act.put, Plan.value, List.setIfInBounds_toArray, List.set_cons_zero, List.set_cons_succ, Nat.zero_add, Nat.reduceAdd]; rfl)) ?_ ?_
        · refine ⟨?_, ?_, ?_, ?_, ?_, ?_, ?_, ?_, ?_, ?_, trivial⟩ <;> (first | exact trivial | (intro G; first | (refine ⟨by kernel_rfl, fun u hu => ?_⟩; obtain ⟨hc, hf, hz⟩ := hu.cells; go_simp; first | exact ⟨rfl, Gr.refl _⟩ | skip) | (refine ⟨by kernel_rfl, fun u T z hu hG hj hb => ?_⟩; cases hj; obtain ⟨hbc, hbf, hbz⟩ := blk_cells hb; first | (refine ⟨_, ?_, ((GrL.of_gr (Gr.refl _)).set _ _ (Or.inr (by simp))).set _ _ (Or.inr (by simp)), put_two hb⟩; go_simp; done) | (refine ⟨_, ?_, (GrL.of_gr (Gr.refl _)).set _ _ (Or.inr (by simp)), put_one hb⟩; go_simp; done)) | (refine ⟨by kernel_rfl, fun u => ?_⟩; go_simp; done) | (show _ = false; kernel_rfl)))
          · exact FF.out _
          · exact SC.out _
        intro NG U41 hg hb hd
        have b19 : U41.heap[NG 7]? = some (.cells #[.int .i64 u1, .int .i64 u2] 23 (0, 0)) := (hb 7 _ _ rfl).2
        have l19 := (hb 7 _ _ rfl).1
        clear hb hd
        generalize NG 7 = p19 at *
        have n5_19 : ¬ p5 = p19 := by omega
        have n19_5 : ¬ p19 = p5 := by omega
        have n6_19 : ¬ p6 = p19 := by omega
        have n19_6 : ¬ p19 = p6 := by omega
        have n11_19 : ¬ p11 = p19 := by omega
        have n19_11 : ¬ p19 = p11 := by omega
        have n13_19 : ¬ p13 = p19 := by omega
        have n19_13 : ¬ p19 = p13 := by omega
        have n14_19 : ¬ p14 = p19 := by omega
        have n19_14 : ¬ p19 = p14 := by omega
        have n16_19 : ¬ p16 = p19 := by omega
        have n19_16 : ¬ p19 = p16 := by omega
        have n17_19 : ¬ p17 = p19 := by omega
        have n19_17 : ¬ p19 = p17 := by omega
        have s19 : w.heap.size ≤ p19 := by omega
        clear l19 zG
        clear c5 f5 z5 c6 f6 z6 c11 f11 z11 c13 f13 z13 c14 f14 z14 c16 f16 z16 c17 f17 z17
        replace b5 := hg.heap b5
        replace b6 := hg.heap b6
        replace b11 := hg.heap b11
        replace b13 := hg.heap b13
        replace b14 := hg.heap b14
        replace b16 := hg.heap b16
        replace b17 := hg.heap b17
        have G := G.trans hg
        clear hg
        obtain ⟨c5, f5, z5⟩ := blk_cells b5
        obtain ⟨c6, f6, z6⟩ := blk_cells b6
        obtain ⟨c11, f11, z11⟩ := blk_cells b11
        obtain ⟨c13, f13, z13⟩ := blk_cells b13
        obtain ⟨c14, f14, z14⟩ := blk_cells b14
        obtain ⟨c16, f16, z16⟩ := blk_cells b16
        obtain ⟨c17, f17, z17⟩ := blk_cells b17
        obtain ⟨c19, f19, z19⟩ := blk_cells b19
        go_upto_region 6 with (fail)
        clear c5 f5 z5 c6 f6 z6 c11 f11 z11 c13 f13 z13 c14 f14 z14 c16 f16 z16 c17 f17 z17 c19 f19 z19
        obtain ⟨c5, f5, z5⟩ := blk_cells b5
        obtain ⟨c6, f6, z6⟩ := blk_cells b6
        obtain ⟨c11, f11, z11⟩ := blk_cells b11
        obtain ⟨c13, f13, z13⟩ := blk_cells b13
        obtain ⟨c14, f14, z14⟩ := blk_cells b14
        obtain ⟨c16, f16, z16⟩ := blk_cells b16
        obtain ⟨c17, f17, z17⟩ := blk_cells b17
        obtain ⟨c19, f19, z19⟩ := blk_cells b19
        have zG : w.heap.size ≤ U41.heap.size := G.b.size
        refine wp_region_plan [.val (fr (1) (1)), .val (.pointer (some ⟨p6, 0, none⟩)), .val (fr (a') (b')), .val (.tuple #[fr v1 v2, .int .i64 0]), .val (.tuple #[fr v1 v2, .int .i64 0]), .val (fr (v1) (v2)), .val (.int .i64 (0)), .new 23 #[.int .i64 0, .int .i64 0], .put 7 #[.int .i64 v1, .int .i64 v2], .val (.int .i64 (0))] (by kernel_rfl) (by kernel_rfl) (fun G => by first | (simp only [finAct, Act.put, Plan.value, List.setIfInBounds_toArray, List.set_cons_zero, List.set_cons_succ]; rfl) | (simp only [finAct, Act.put, Plan.value, List.setIfInBounds_toArray, List.set_cons_zero, List.set_cons_succ, Nat.zero_add, Nat.reduceAdd]; rfl)) ?_ ?_
        · refine ⟨?_, ?_, ?_, ?_, ?_, ?_, ?_, ?_, ?_, ?_, trivial⟩ <;> (first | exact trivial | (intro G; first | (refine ⟨by kernel_rfl, fun u hu => ?_⟩; obtain ⟨hc, hf, hz⟩ := hu.cells; go_simp; first | exact ⟨rfl, Gr.refl _⟩ | skip) | (refine ⟨by kernel_rfl, fun u T z hu hG hj hb => ?_⟩; cases hj; obtain ⟨hbc, hbf, hbz⟩ := blk_cells hb; first | (refine ⟨_, ?_, ((GrL.of_gr (Gr.refl _)).set _ _ (Or.inr (by simp))).set _ _ (Or.inr (by simp)), put_two hb⟩; go_simp; done) | (refine ⟨_, ?_, (GrL.of_gr (Gr.refl _)).set _ _ (Or.inr (by simp)), put_one hb⟩; go_simp; done)) | (refine ⟨by kernel_rfl, fun u => ?_⟩; go_simp; done) | (show _ = false; kernel_rfl)))
          · exact FF.out _
          · exact SD.out _
        intro NG U42 hg hb hd
        have b21 : U42.heap[NG 7]? = some (.cells #[.int .i64 v1, .int .i64 v2] 23 (0, 0)) := (hb 7 _ _ rfl).2
        have l21 := (hb 7 _ _ rfl).1
        clear hb hd
        generalize NG 7 = p21 at *
        have n5_21 : ¬ p5 = p21 := by omega
        have n21_5 : ¬ p21 = p5 := by omega
        have n6_21 : ¬ p6 = p21 := by omega
        have n21_6 : ¬ p21 = p6 := by omega
        have n11_21 : ¬ p11 = p21 := by omega
        have n21_11 : ¬ p21 = p11 := by omega
        have n13_21 : ¬ p13 = p21 := by omega
        have n21_13 : ¬ p21 = p13 := by omega
        have n14_21 : ¬ p14 = p21 := by omega
        have n21_14 : ¬ p21 = p14 := by omega
        have n16_21 : ¬ p16 = p21 := by omega
        have n21_16 : ¬ p21 = p16 := by omega
        have n17_21 : ¬ p17 = p21 := by omega
        have n21_17 : ¬ p21 = p17 := by omega
        have n19_21 : ¬ p19 = p21 := by omega
        have n21_19 : ¬ p21 = p19 := by omega
        have s21 : w.heap.size ≤ p21 := by omega
        clear l21 zG
        clear c5 f5 z5 c6 f6 z6 c11 f11 z11 c13 f13 z13 c14 f14 z14 c16 f16 z16 c17 f17 z17 c19 f19 z19
        replace b5 := hg.heap b5
        replace b6 := hg.heap b6
        replace b11 := hg.heap b11
        replace b13 := hg.heap b13
        replace b14 := hg.heap b14
        replace b16 := hg.heap b16
        replace b17 := hg.heap b17
        replace b19 := hg.heap b19
        have G := G.trans hg
        clear hg
        obtain ⟨c5, f5, z5⟩ := blk_cells b5
        obtain ⟨c6, f6, z6⟩ := blk_cells b6
        obtain ⟨c11, f11, z11⟩ := blk_cells b11
        obtain ⟨c13, f13, z13⟩ := blk_cells b13
        obtain ⟨c14, f14, z14⟩ := blk_cells b14
        obtain ⟨c16, f16, z16⟩ := blk_cells b16
        obtain ⟨c17, f17, z17⟩ := blk_cells b17
        obtain ⟨c19, f19, z19⟩ := blk_cells b19
        obtain ⟨c21, f21, z21⟩ := blk_cells b21
        go_wp2_with fail
        clear c5 f5 z5 c6 f6 z6 c11 f11 z11 c13 f13 z13 c14 f14 z14 c16 f16 z16 c17 f17 z17 c19 f19 z19 c21 f21 z21
        refine (MM.out _).mono ?_
        rintro e w42 ⟨rfl, g42⟩
        obtain ⟨c5, f5, z5⟩ := blk_cells (g42.heap b5)
        obtain ⟨c6, f6, z6⟩ := blk_cells (g42.heap b6)
        obtain ⟨c11, f11, z11⟩ := blk_cells (g42.heap b11)
        obtain ⟨c13, f13, z13⟩ := blk_cells (g42.heap b13)
        obtain ⟨c14, f14, z14⟩ := blk_cells (g42.heap b14)
        obtain ⟨c16, f16, z16⟩ := blk_cells (g42.heap b16)
        obtain ⟨c17, f17, z17⟩ := blk_cells (g42.heap b17)
        obtain ⟨c19, f19, z19⟩ := blk_cells (g42.heap b19)
        obtain ⟨c21, f21, z21⟩ := blk_cells (g42.heap b21)
        have z0 : w.heap.size ≤ w42.heap.size := (Gr.trans G g42).b.size
        go_wp2_with fail
        clear c5 f5 c6 f6 c11 f11 c13 f13 c14 f14 c16 f16 c17 f17 c19 f19 c21 f21
        replace b5 := g42.heap b5
        replace b6 := g42.heap b6
        replace b11 := g42.heap b11
        replace b13 := g42.heap b13
        replace b14 := g42.heap b14
        replace b16 := g42.heap b16
        replace b17 := g42.heap b17
        replace b19 := g42.heap b19
        replace b21 := g42.heap b21
        have G := G.trans g42
        replace b5 := ((Gr.refl _).alloc (.cells #[.int .i64 g1, .int .i64 g2] 23)).heap b5
        replace b6 := ((Gr.refl _).alloc (.cells #[.int .i64 g1, .int .i64 g2] 23)).heap b6
        replace b11 := ((Gr.refl _).alloc (.cells #[.int .i64 g1, .int .i64 g2] 23)).heap b11
        replace b13 := ((Gr.refl _).alloc (.cells #[.int .i64 g1, .int .i64 g2] 23)).heap b13
        replace b14 := ((Gr.refl _).alloc (.cells #[.int .i64 g1, .int .i64 g2] 23)).heap b14
        replace b16 := ((Gr.refl _).alloc (.cells #[.int .i64 g1, .int .i64 g2] 23)).heap b16
        replace b17 := ((Gr.refl _).alloc (.cells #[.int .i64 g1, .int .i64 g2] 23)).heap b17
        replace b19 := ((Gr.refl _).alloc (.cells #[.int .i64 g1, .int .i64 g2] 23)).heap b19
        replace b21 := ((Gr.refl _).alloc (.cells #[.int .i64 g1, .int .i64 g2] 23)).heap b21
        have b23 := heap_alloc_self w42 (.cells #[.int .i64 g1, .int .i64 g2] 23)
        replace G := G.alloc (.cells #[.int .i64 g1, .int .i64 g2] 23)
        generalize hW : (w42.alloc (.cells #[.int .i64 g1, .int .i64 g2] 23)) = W44 at *
        have o5 : p5 < w42.heap.size := z5
        have o6 : p6 < w42.heap.size := z6
        have o11 : p11 < w42.heap.size := z11
        have o13 : p13 < w42.heap.size := z13
        have o14 : p14 < w42.heap.size := z14
        have o16 : p16 < w42.heap.size := z16
        have o17 : p17 < w42.heap.size := z17
        have o19 : p19 < w42.heap.size := z19
        have o21 : p21 < w42.heap.size := z21
        have w0 : w.heap.size ≤ w42.heap.size := z0
        obtain ⟨p23, hp23⟩ : ∃ p23, w42.heap.size = p23 := ⟨_, rfl⟩
        rw [hp23] at b23
        try simp only [hp23]
        have n5_23 : ¬ p5 = p23 := by omega
        have n23_5 : ¬ p23 = p5 := by omega
        have n6_23 : ¬ p6 = p23 := by omega
        have n23_6 : ¬ p23 = p6 := by omega
        have n11_23 : ¬ p11 = p23 := by omega
        have n23_11 : ¬ p23 = p11 := by omega
        have n13_23 : ¬ p13 = p23 := by omega
        have n23_13 : ¬ p23 = p13 := by omega
        have n14_23 : ¬ p14 = p23 := by omega
        have n23_14 : ¬ p23 = p14 := by omega
        have n16_23 : ¬ p16 = p23 := by omega
        have n23_16 : ¬ p23 = p16 := by omega
        have n17_23 : ¬ p17 = p23 := by omega
        have n23_17 : ¬ p23 = p17 := by omega
        have n19_23 : ¬ p19 = p23 := by omega
        have n23_19 : ¬ p23 = p19 := by omega
        have n21_23 : ¬ p21 = p23 := by omega
        have n23_21 : ¬ p23 = p21 := by omega
        have s23 : w.heap.size ≤ p23 := by omega
        clear o5 o6 o11 o13 o14 o16 o17 o19 o21 w0
        clear hp23
        clear hW
        clear z5 z6 z11 z13 z14 z16 z17 z19 z21 z0
        clear g42
        refine (MN.out _).mono ?_
        rintro e w43 ⟨rfl, g43⟩
        obtain ⟨c5, f5, z5⟩ := blk_cells (g43.heap b5)
        obtain ⟨c6, f6, z6⟩ := blk_cells (g43.heap b6)
        obtain ⟨c11, f11, z11⟩ := blk_cells (g43.heap b11)
        obtain ⟨c13, f13, z13⟩ := blk_cells (g43.heap b13)
        obtain ⟨c14, f14, z14⟩ := blk_cells (g43.heap b14)
        obtain ⟨c16, f16, z16⟩ := blk_cells (g43.heap b16)
        obtain ⟨c17, f17, z17⟩ := blk_cells (g43.heap b17)
        obtain ⟨c19, f19, z19⟩ := blk_cells (g43.heap b19)
        obtain ⟨c21, f21, z21⟩ := blk_cells (g43.heap b21)
        obtain ⟨c23, f23, z23⟩ := blk_cells (g43.heap b23)
        have z0 : w.heap.size ≤ w43.heap.size := (Gr.trans G g43).b.size
        go_upto_region 9 with (fail)
        clear c5 f5 c6 f6 c11 f11 c13 f13 c14 f14 c16 f16 c17 f17 c19 f19 c21 f21 c23 f23
        replace b5 := g43.heap b5
        replace b6 := g43.heap b6
        replace b11 := g43.heap b11
        replace b13 := g43.heap b13
        replace b14 := g43.heap b14
        replace b16 := g43.heap b16
        replace b17 := g43.heap b17
        replace b19 := g43.heap b19
        replace b21 := g43.heap b21
        replace b23 := g43.heap b23
        have G := G.trans g43
        replace b5 := ((Gr.refl _).alloc (.cells #[.int .i64 h1, .int .i64 h2] 23)).heap b5
        replace b6 := ((Gr.refl _).alloc (.cells #[.int .i64 h1, .int .i64 h2] 23)).heap b6
        replace b11 := ((Gr.refl _).alloc (.cells #[.int .i64 h1, .int .i64 h2] 23)).heap b11
        replace b13 := ((Gr.refl _).alloc (.cells #[.int .i64 h1, .int .i64 h2] 23)).heap b13
        replace b14 := ((Gr.refl _).alloc (.cells #[.int .i64 h1, .int .i64 h2] 23)).heap b14
        replace b16 := ((Gr.refl _).alloc (.cells #[.int .i64 h1, .int .i64 h2] 23)).heap b16
        replace b17 := ((Gr.refl _).alloc (.cells #[.int .i64 h1, .int .i64 h2] 23)).heap b17
        replace b19 := ((Gr.refl _).alloc (.cells #[.int .i64 h1, .int .i64 h2] 23)).heap b19
        replace b21 := ((Gr.refl _).alloc (.cells #[.int .i64 h1, .int .i64 h2] 23)).heap b21
        replace b23 := ((Gr.refl _).alloc (.cells #[.int .i64 h1, .int .i64 h2] 23)).heap b23
        have b25 := heap_alloc_self w43 (.cells #[.int .i64 h1, .int .i64 h2] 23)
        replace G := G.alloc (.cells #[.int .i64 h1, .int .i64 h2] 23)
        generalize hW : (w43.alloc (.cells #[.int .i64 h1, .int .i64 h2] 23)) = W45 at *
        have o5 : p5 < w43.heap.size := z5
        have o6 : p6 < w43.heap.size := z6
        have o11 : p11 < w43.heap.size := z11
        have o13 : p13 < w43.heap.size := z13
        have o14 : p14 < w43.heap.size := z14
        have o16 : p16 < w43.heap.size := z16
        have o17 : p17 < w43.heap.size := z17
        have o19 : p19 < w43.heap.size := z19
        have o21 : p21 < w43.heap.size := z21
        have o23 : p23 < w43.heap.size := z23
        have w0 : w.heap.size ≤ w43.heap.size := z0
        obtain ⟨p25, hp25⟩ : ∃ p25, w43.heap.size = p25 := ⟨_, rfl⟩
        rw [hp25] at b25
        try simp only [hp25]
        have n5_25 : ¬ p5 = p25 := by omega
        have n25_5 : ¬ p25 = p5 := by omega
        have n6_25 : ¬ p6 = p25 := by omega
        have n25_6 : ¬ p25 = p6 := by omega
        have n11_25 : ¬ p11 = p25 := by omega
        have n25_11 : ¬ p25 = p11 := by omega
        have n13_25 : ¬ p13 = p25 := by omega
        have n25_13 : ¬ p25 = p13 := by omega
        have n14_25 : ¬ p14 = p25 := by omega
        have n25_14 : ¬ p25 = p14 := by omega
        have n16_25 : ¬ p16 = p25 := by omega
        have n25_16 : ¬ p25 = p16 := by omega
        have n17_25 : ¬ p17 = p25 := by omega
        have n25_17 : ¬ p25 = p17 := by omega
        have n19_25 : ¬ p19 = p25 := by omega
        have n25_19 : ¬ p25 = p19 := by omega
        have n21_25 : ¬ p21 = p25 := by omega
        have n25_21 : ¬ p25 = p21 := by omega
        have n23_25 : ¬ p23 = p25 := by omega
        have n25_23 : ¬ p25 = p23 := by omega
        have s25 : w.heap.size ≤ p25 := by omega
        clear o5 o6 o11 o13 o14 o16 o17 o19 o21 o23 w0
        clear hp25
        clear hW
        clear z5 z6 z11 z13 z14 z16 z17 z19 z21 z23 z0
        clear g43
        clear CB FF SC SD MM MN
        by_cases k1 : K1 = 0
        · by_cases k2 : K2 = 0
          · subst k1
            obtain ⟨rfl, rfl⟩ := HM.out rfl
            subst k2
            obtain ⟨rfl, rfl⟩ := HN.out rfl
            clear HM HN
            obtain ⟨c5, f5, z5⟩ := blk_cells b5
            obtain ⟨c6, f6, z6⟩ := blk_cells b6
            obtain ⟨c11, f11, z11⟩ := blk_cells b11
            obtain ⟨c13, f13, z13⟩ := blk_cells b13
            obtain ⟨c14, f14, z14⟩ := blk_cells b14
            obtain ⟨c16, f16, z16⟩ := blk_cells b16
            obtain ⟨c17, f17, z17⟩ := blk_cells b17
            obtain ⟨c19, f19, z19⟩ := blk_cells b19
            obtain ⟨c21, f21, z21⟩ := blk_cells b21
            obtain ⟨c23, f23, z23⟩ := blk_cells b23
            obtain ⟨c25, f25, z25⟩ := blk_cells b25
            go_wp2_with fail
            all_goals go_meet
            all_goals exact ⟨G, b5, b6⟩
          · subst k1
            obtain ⟨rfl, rfl⟩ := HM.out rfl
            have q2 : (K2 == 0) = false := beq_eq_false_iff_ne.2 k2
            clear HM HN
            obtain ⟨c5, f5, z5⟩ := blk_cells b5
            obtain ⟨c6, f6, z6⟩ := blk_cells b6
            obtain ⟨c11, f11, z11⟩ := blk_cells b11
            obtain ⟨c13, f13, z13⟩ := blk_cells b13
            obtain ⟨c14, f14, z14⟩ := blk_cells b14
            obtain ⟨c16, f16, z16⟩ := blk_cells b16
            obtain ⟨c17, f17, z17⟩ := blk_cells b17
            obtain ⟨c19, f19, z19⟩ := blk_cells b19
            obtain ⟨c21, f21, z21⟩ := blk_cells b21
            obtain ⟨c23, f23, z23⟩ := blk_cells b23
            obtain ⟨c25, f25, z25⟩ := blk_cells b25
            go_wp2_with fail
            all_goals go_meet
            all_goals exact ⟨G, b5, b6⟩
        · by_cases k2 : K2 = 0
          · have q1 : (K1 == 0) = false := beq_eq_false_iff_ne.2 k1
            subst k2
            obtain ⟨rfl, rfl⟩ := HN.out rfl
            clear HM HN
            obtain ⟨c5, f5, z5⟩ := blk_cells b5
            obtain ⟨c6, f6, z6⟩ := blk_cells b6
            obtain ⟨c11, f11, z11⟩ := blk_cells b11
            obtain ⟨c13, f13, z13⟩ := blk_cells b13
            obtain ⟨c14, f14, z14⟩ := blk_cells b14
            obtain ⟨c16, f16, z16⟩ := blk_cells b16
            obtain ⟨c17, f17, z17⟩ := blk_cells b17
            obtain ⟨c19, f19, z19⟩ := blk_cells b19
            obtain ⟨c21, f21, z21⟩ := blk_cells b21
            obtain ⟨c23, f23, z23⟩ := blk_cells b23
            obtain ⟨c25, f25, z25⟩ := blk_cells b25
            go_wp2_with fail
            all_goals go_meet
            all_goals exact ⟨G, b5, b6⟩
          · have q1 : (K1 == 0) = false := beq_eq_false_iff_ne.2 k1
            have q2 : (K2 == 0) = false := beq_eq_false_iff_ne.2 k2
            clear HM HN
            obtain ⟨c5, f5, z5⟩ := blk_cells b5
            obtain ⟨c6, f6, z6⟩ := blk_cells b6
            obtain ⟨c11, f11, z11⟩ := blk_cells b11
            obtain ⟨c13, f13, z13⟩ := blk_cells b13
            obtain ⟨c14, f14, z14⟩ := blk_cells b14
            obtain ⟨c16, f16, z16⟩ := blk_cells b16
            obtain ⟨c17, f17, z17⟩ := blk_cells b17
            obtain ⟨c19, f19, z19⟩ := blk_cells b19
            obtain ⟨c21, f21, z21⟩ := blk_cells b21
            obtain ⟨c23, f23, z23⟩ := blk_cells b23
            obtain ⟨c25, f25, z25⟩ := blk_cells b25
            go_wp2_with fail
            all_goals go_meet
            all_goals exact ⟨G, b5, b6⟩
      · have q1 : (decide (E1 = 0) && decide (E2 = 0)) = false := by rw [Bool.and_eq_false_iff, decide_eq_false_iff_not, decide_eq_false_iff_not]; omega
        rw [q1]
        clear q1 CB FF SC SD MM MN HM HN
        obtain ⟨c5, f5, z5⟩ := blk_cells b5
        obtain ⟨c6, f6, z6⟩ := blk_cells b6
        obtain ⟨c11, f11, z11⟩ := blk_cells b11
        obtain ⟨c13, f13, z13⟩ := blk_cells b13
        obtain ⟨c14, f14, z14⟩ := blk_cells b14
        go_wp2_with fail
        all_goals go_meet
        all_goals exact ⟨G, b5, b6⟩
    case rest =>
      clear G b5 b6 b11 b13 b14 CB FF SC SD MM MN HM HN
      obtain ⟨G, b5, b6⟩ := hcut
      have z0 : w.heap.size ≤ wc.heap.size := G.b.size
      obtain ⟨c5, f5, z5⟩ := blk_cells b5
      obtain ⟨c6, f6, z6⟩ := blk_cells b6
      go_wp2_with fail
      clear c5 f5 z5 c6 f6 z6
      by_cases e3 : E3 = 0
      · rcases (show B = true ∨ B = false by cases B <;> simp) with hB | hB
        · subst e3
          obtain ⟨lo', hi', B', S3, HB⟩ := S2.out rfl
          clear S2
          have S2 := Lib.hid S3
          clear S3
          refine (BO.out _).mono ?_
          rintro e w92 ⟨rfl, g92⟩
          obtain ⟨c5, f5, z5⟩ := blk_cells (g92.heap b5)
          obtain ⟨c6, f6, z6⟩ := blk_cells (g92.heap b6)
          have z0 : w.heap.size ≤ w92.heap.size := (Gr.trans G g92).b.size
          go_wp2_with fail
          clear c5 f5 c6 f6
          replace b5 := g92.heap b5
          replace b6 := g92.heap b6
          have G := G.trans g92
          replace b5 := ((Gr.refl _).alloc (.cells #[.int .i64 L1, .int .i64 L2, .int .i64 M1, .int .i64 M2] 34)).heap b5
          replace b6 := ((Gr.refl _).alloc (.cells #[.int .i64 L1, .int .i64 L2, .int .i64 M1, .int .i64 M2] 34)).heap b6
          have b27 := heap_alloc_self w92 (.cells #[.int .i64 L1, .int .i64 L2, .int .i64 M1, .int .i64 M2] 34)
          replace G := G.alloc (.cells #[.int .i64 L1, .int .i64 L2, .int .i64 M1, .int .i64 M2] 34)
          generalize hW : (w92.alloc (.cells #[.int .i64 L1, .int .i64 L2, .int .i64 M1, .int .i64 M2] 34)) = W92 at *
          have o5 : p5 < w92.heap.size := z5
          have o6 : p6 < w92.heap.size := z6
          have w0 : w.heap.size ≤ w92.heap.size := z0
          obtain ⟨p27, hp27⟩ : ∃ p27, w92.heap.size = p27 := ⟨_, rfl⟩
          rw [hp27] at b27
          try simp only [hp27]
          have n5_27 : ¬ p5 = p27 := by omega
          have n27_5 : ¬ p27 = p5 := by omega
          have n6_27 : ¬ p6 = p27 := by omega
          have n27_6 : ¬ p27 = p6 := by omega
          have s27 : w.heap.size ≤ p27 := by omega
          clear o5 o6 w0
          clear hp27
          clear hW
          clear z5 z6 z0
          clear g92
          subst hB
          obtain ⟨rfl, i1, i2⟩ := HB rfl
          refine (S1.out _).mono ?_
          rintro e w93 ⟨rfl, g93⟩
          obtain ⟨c5, f5, z5⟩ := blk_cells (g93.heap b5)
          obtain ⟨c6, f6, z6⟩ := blk_cells (g93.heap b6)
          obtain ⟨c27, f27, z27⟩ := blk_cells (g93.heap b27)
          have z0 : w.heap.size ≤ w93.heap.size := (Gr.trans G g93).b.size
          go_wp2_with fail
          clear c5 f5 c6 f6 c27 f27
          replace b5 := g93.heap b5
          replace b6 := g93.heap b6
          replace b27 := g93.heap b27
          have G := G.trans g93
          clear z5 z6 z27 z0
          clear g93
          refine (S2.out _).mono ?_
          rintro e w94 ⟨rfl, g94⟩
          obtain ⟨c5, f5, z5⟩ := blk_cells (g94.heap b5)
          obtain ⟨c6, f6, z6⟩ := blk_cells (g94.heap b6)
          obtain ⟨c27, f27, z27⟩ := blk_cells (g94.heap b27)
          have z0 : w.heap.size ≤ w94.heap.size := (Gr.trans G g94).b.size
          go_wp2_with fail
          clear c5 f5 c6 f6 c27 f27
          replace b5 := g94.heap b5
          replace b6 := g94.heap b6
          replace b27 := g94.heap b27
          have G := G.trans g94
          clear z5 z6 z27 z0
          clear g94
          refine (alive_any _ (HT.out.gr G)).mono ?_
          rintro e wz ⟨rfl, gz⟩
          obtain ⟨c5, f5, z5⟩ := blk_cells (gz.heap b5)
          obtain ⟨c6, f6, z6⟩ := blk_cells (gz.heap b6)
          obtain ⟨c27, f27, z27⟩ := blk_cells (gz.heap b27)
          go_wp2
          go_ret
          exact ⟨rfl, G.trans gz⟩
        · subst e3
          obtain ⟨lo', hi', B', S3, HB⟩ := S2.out rfl
          clear S2
          have S2 := Lib.hid S3
          clear S3
          refine (BO.out _).mono ?_
          rintro e w92 ⟨rfl, g92⟩
          obtain ⟨c5, f5, z5⟩ := blk_cells (g92.heap b5)
          obtain ⟨c6, f6, z6⟩ := blk_cells (g92.heap b6)
          have z0 : w.heap.size ≤ w92.heap.size := (Gr.trans G g92).b.size
          go_wp2_with fail
          clear c5 f5 c6 f6
          replace b5 := g92.heap b5
          replace b6 := g92.heap b6
          have G := G.trans g92
          replace b5 := ((Gr.refl _).alloc (.cells #[.int .i64 L1, .int .i64 L2, .int .i64 M1, .int .i64 M2] 34)).heap b5
          replace b6 := ((Gr.refl _).alloc (.cells #[.int .i64 L1, .int .i64 L2, .int .i64 M1, .int .i64 M2] 34)).heap b6
          have b27 := heap_alloc_self w92 (.cells #[.int .i64 L1, .int .i64 L2, .int .i64 M1, .int .i64 M2] 34)
          replace G := G.alloc (.cells #[.int .i64 L1, .int .i64 L2, .int .i64 M1, .int .i64 M2] 34)
          generalize hW : (w92.alloc (.cells #[.int .i64 L1, .int .i64 L2, .int .i64 M1, .int .i64 M2] 34)) = W92 at *
          have o5 : p5 < w92.heap.size := z5
          have o6 : p6 < w92.heap.size := z6
          have w0 : w.heap.size ≤ w92.heap.size := z0
          obtain ⟨p27, hp27⟩ : ∃ p27, w92.heap.size = p27 := ⟨_, rfl⟩
          rw [hp27] at b27
          try simp only [hp27]
          have n5_27 : ¬ p5 = p27 := by omega
          have n27_5 : ¬ p27 = p5 := by omega
          have n6_27 : ¬ p6 = p27 := by omega
          have n27_6 : ¬ p27 = p6 := by omega
          have s27 : w.heap.size ≤ p27 := by omega
          clear o5 o6 w0
          clear hp27
          clear hW
          clear z5 z6 z0
          clear g92
          subst hB
          clear HB
          refine (S1.out _).mono ?_
          rintro e w93 ⟨rfl, g93⟩
          obtain ⟨c5, f5, z5⟩ := blk_cells (g93.heap b5)
          obtain ⟨c6, f6, z6⟩ := blk_cells (g93.heap b6)
          obtain ⟨c27, f27, z27⟩ := blk_cells (g93.heap b27)
          have z0 : w.heap.size ≤ w93.heap.size := (Gr.trans G g93).b.size
          go_wp2_with fail
          clear c5 f5 c6 f6 c27 f27
          replace b5 := g93.heap b5
          replace b6 := g93.heap b6
          replace b27 := g93.heap b27
          have G := G.trans g93
          clear z5 z6 z27 z0
          clear g93
          refine (S2.out _).mono ?_
          rintro e w94 ⟨rfl, g94⟩
          obtain ⟨c5, f5, z5⟩ := blk_cells (g94.heap b5)
          obtain ⟨c6, f6, z6⟩ := blk_cells (g94.heap b6)
          obtain ⟨c27, f27, z27⟩ := blk_cells (g94.heap b27)
          have z0 : w.heap.size ≤ w94.heap.size := (Gr.trans G g94).b.size
          go_wp2_with fail
          clear c5 f5 c6 f6 c27 f27
          replace b5 := g94.heap b5
          replace b6 := g94.heap b6
          replace b27 := g94.heap b27
          have G := G.trans g94
          clear z5 z6 z27 z0
          clear g94
          refine (alive_any _ (HT.out.gr G)).mono ?_
          rintro e wz ⟨rfl, gz⟩
          obtain ⟨c5, f5, z5⟩ := blk_cells (gz.heap b5)
          obtain ⟨c6, f6, z6⟩ := blk_cells (gz.heap b6)
          obtain ⟨c27, f27, z27⟩ := blk_cells (gz.heap b27)
          go_wp2
          go_ret
          exact ⟨rfl, G.trans gz⟩
      · clear S1 S2
        refine (BO.out _).mono ?_
        rintro e w92 ⟨rfl, g92⟩
        obtain ⟨c5, f5, z5⟩ := blk_cells (g92.heap b5)
        obtain ⟨c6, f6, z6⟩ := blk_cells (g92.heap b6)
        have z0 : w.heap.size ≤ w92.heap.size := (Gr.trans G g92).b.size
        go_wp2_with fail
        clear c5 f5 c6 f6
        replace b5 := g92.heap b5
        replace b6 := g92.heap b6
        have G := G.trans g92
        replace b5 := ((Gr.refl _).alloc (.cells #[.int .i64 L1, .int .i64 L2, .int .i64 M1, .int .i64 M2] 34)).heap b5
        replace b6 := ((Gr.refl _).alloc (.cells #[.int .i64 L1, .int .i64 L2, .int .i64 M1, .int .i64 M2] 34)).heap b6
        have b27 := heap_alloc_self w92 (.cells #[.int .i64 L1, .int .i64 L2, .int .i64 M1, .int .i64 M2] 34)
        replace G := G.alloc (.cells #[.int .i64 L1, .int .i64 L2, .int .i64 M1, .int .i64 M2] 34)
        generalize hW : (w92.alloc (.cells #[.int .i64 L1, .int .i64 L2, .int .i64 M1, .int .i64 M2] 34)) = W92 at *
        have o5 : p5 < w92.heap.size := z5
        have o6 : p6 < w92.heap.size := z6
        have w0 : w.heap.size ≤ w92.heap.size := z0
        obtain ⟨p27, hp27⟩ : ∃ p27, w92.heap.size = p27 := ⟨_, rfl⟩
        rw [hp27] at b27
        try simp only [hp27]
        have n5_27 : ¬ p5 = p27 := by omega
        have n27_5 : ¬ p27 = p5 := by omega
        have n6_27 : ¬ p6 = p27 := by omega
        have n27_6 : ¬ p27 = p6 := by omega
        have s27 : w.heap.size ≤ p27 := by omega
        clear o5 o6 w0
        clear hp27
        clear hW
        clear z5 z6 z0
        clear g92
        refine (alive_any _ (HT.out.gr G)).mono ?_
        rintro e wz ⟨rfl, gz⟩
        obtain ⟨c5, f5, z5⟩ := blk_cells (gz.heap b5)
        obtain ⟨c6, f6, z6⟩ := blk_cells (gz.heap b6)
        obtain ⟨c27, f27, z27⟩ := blk_cells (gz.heap b27)
        go_wp2
        go_ret
        exact ⟨rfl, G.trans gz⟩
theorem sub_one {p q : Int} (h : Rm.okF p q = true) (p0 : 0 ≤ p) (pq : p ≤ q) : arN 1 1 1 p q = q - p ∧ arD 1 1 1 p q = q ∧ arE 1 1 1 p q = 0 := by
  obtain ⟨h1, h2, h3, h4, h5⟩ := Rm.okF_iff.1 h
  have o1 : Rm.okF 1 1 = true := by decide
  have ok : ok2 1 1 p q = true := by unfold ok2; rw [o1, h]; rfl
  have e1 : Rm.opN 1 1 1 p q = q - p := by simp [Rm.opN]
  have e2 : Rm.opD 1 1 1 p q = q := by simp [Rm.opD]
  have g : Int.gcd (q-p) q = 1 := by
    have := @Rm.gcd_step q p 1
    have k : Int.gcd (q - p) q = Int.gcd p q := by
      rw [Int.gcd_comm, ← Int.gcd_neg, show -(q-p) = p - 1*q by omega, Rm.gcd_step, h5]
    rw [k, h5]
  have r := Rm.red_self g
  have k : Rm.okR (q-p) q = true := by
    unfold Rm.okR
    rw [r.1, r.2]
    simp [Rm.small]; omega
  obtain ⟨m1, m2, m3⟩ := Rm.made_yes k
  unfold arN arD arE arOk
  rw [ok, e1, e2, m1, m2, m3, r.1, r.2]
  simp
theorem mul_ar {p q r s : Int} (h : arE 2 p q r s = 0) : arN 2 p q r s = Rm.redN (p*r) (q*s) ∧ arD 2 p q r s = Rm.redD (p*r) (q*s) := by
  unfold arE at h
  split at h
  · rename_i hk
    rw [if_neg (by omega)] at h
    have k := Rm.mE_zero h
    have e1 : Rm.opN 2 p q r s = p*r := rfl
    have e2 : Rm.opD 2 p q r s = q*s := rfl
    rw [e1, e2] at k
    obtain ⟨m1, m2, m3⟩ := Rm.made_yes k
    unfold arN arD arOk
    rw [hk, e1, e2, m1, m2]
    simp
  · omega
theorem RuleChained_any (a b c d a' b' c' d' size low high : Int) (w : World) (ht : Tab w) : Calls Tryd.prog 15 #[ru a b c d, ru a' b' c' d', .int .i64 size, .int .i64 low, .int .i64 high] w fun r w' => r = .returned (.bool true) ∧ Gr w w' := by
  have TW := Twice_any a b c d a' b' c' d'
  have BO := Both_any a b c d a' b' c' d'
  have S1 := Sizes_any a b c d low high
  have FF := law_f 1 1
  have hT : twE a b c d a' b' c' d' = 0 → ruOk a b c d = true ∧ ruOk a' b' c' d' = true ∧ twG a b c d a' b' c' d' = true := fun h => by
    unfold twE at h
    split at h
    · rename_i hk
      rw [Bool.and_eq_true] at hk
      split at h
      · rename_i hg; exact ⟨hk.1, hk.2, hg⟩
      · omega
    · omega
  have CA := fun w => Cast_any (twV a b c d a' b' c' d' (tw1 a b c d a' b' c' d')) (twV a b c d a' b' c' d' (tw2 a b c d a' b' c' d')) (twV a b c d a' b' c' d' (tw3 a b c d a' b' c' d')) (twV a b c d a' b' c' d' (tw4 a b c d a' b' c' d')) size w
  have CB := fun w => Cast_any a b c d size w
  -- what holds where both succeed
  have key : twE a b c d a' b' c' d' = 0 → Rm.err (caOk (twV a b c d a' b' c' d' (tw1 a b c d a' b' c' d')) (twV a b c d a' b' c' d' (tw2 a b c d a' b' c' d')) (twV a b c d a' b' c' d' (tw3 a b c d a' b' c' d')) (twV a b c d a' b' c' d' (tw4 a b c d a' b' c' d')) size) 1 = 0 →
      ruOk a b c d = true ∧ ruOk a' b' c' d' = true ∧ szOk size = true ∧ (∀ x, twV a b c d a' b' c' d' x = x) ∧ caOk (tw1 a b c d a' b' c' d') (tw2 a b c d a' b' c' d') (tw3 a b c d a' b' c' d') (tw4 a b c d a' b' c' d') size = true := fun h1 h2 => by
    obtain ⟨k1, k2, k3⟩ := hT h1
    have e : ∀ x, twV a b c d a' b' c' d' x = x := fun x => by simp [twV, k1, k2, k3]
    simp only [e] at h2
    have h3 : caOk (tw1 a b c d a' b' c' d') (tw2 a b c d a' b' c' d') (tw3 a b c d a' b' c' d') (tw4 a b c d a' b' c' d') size = true := by
      cases hc : caOk (tw1 a b c d a' b' c' d') (tw2 a b c d a' b' c' d') (tw3 a b c d a' b' c' d') (tw4 a b c d a' b' c' d') size
      · rw [hc] at h2; cases h2
      · rfl
    have h4 := h3
    unfold caOk at h4
    rw [Bool.and_eq_true] at h4
    exact ⟨k1, k2, h4.2, e, h3⟩
  refine RuleChained_go a b c d a' b' c' d' size low high _ _ _ _ _ _ _ _ (Rm.redN (size*(d-c)) d) (Rm.redD (size*(d-c)) d) (Rm.redN (size*(b-a)) b) (Rm.redD (size*(b-a)) b) (d'-c') d' (b'-a') b' _ _ _ _ _ _ _ _ _ _ _ _ _ _ _ _ _ w ht (Lib.hid TW) (Lib.hid CA) (Lib.hid fun h1 h2 => ?_) (Lib.hid FF) (Lib.hid fun h1 h2 => ?_) (Lib.hid fun h1 h2 => ?_) (Lib.hid (Mul_any _ _ _ _)) (Lib.hid (Mul_any _ _ _ _)) (Lib.hid fun h1 h2 h3 => ?_) (Lib.hid fun h1 h2 h3 => ?_) (Lib.hid BO) (Lib.hid S1) (Lib.hid fun h1 => ?_)
  · obtain ⟨k1, k2, k3, _⟩ := key h1 h2
    have hc : caOk a b c d size = true := by unfold caOk; rw [k1, k3]; rfl
    have e : ∀ x, caV a b c d size x = x := fun x => by simp [caV, hc]
    simp only [e, hc, Rm.err_true rfl] at CB
    exact CB
  · obtain ⟨k1, k2, k3, _⟩ := key h1 h2
    have R2 := RuB.of k2
    have hk : Rm.okF c' d' = true := by simp only [ruOk, ok2, Bool.and_eq_true] at k2; exact k2.1.1.1.1.1.2
    obtain ⟨q1, q2, q3⟩ := sub_one hk R2.c0 (by have := R2.cd; have := R2.c0; omega)
    have SC := Sub_any 1 1 c' d'
    rw [q1, q2, q3] at SC
    exact SC
  · obtain ⟨k1, k2, k3, _⟩ := key h1 h2
    have R2 := RuB.of k2
    have hk : Rm.okF a' b' = true := by simp only [ruOk, ok2, Bool.and_eq_true] at k2; exact k2.1.1.1.1.1.1
    obtain ⟨q1, q2, q3⟩ := sub_one hk R2.a0 (by have := R2.ab; have := R2.a0; omega)
    have SC := Sub_any 1 1 a' b'
    rw [q1, q2, q3] at SC
    exact SC
  · obtain ⟨k1, k2, k3, k4, k5⟩ := key h1 h2
    have R1 := RuB.of k1
    have R2 := RuB.of k2
    obtain ⟨q1, q2⟩ := mul_ar h3
    rw [q1, q2]
    simp only [k4]
    have e : ∀ x, caV (tw1 a b c d a' b' c' d') (tw2 a b c d a' b' c' d') (tw3 a b c d a' b' c' d') (tw4 a b c d a' b' c' d') size x = x := fun x => by simp [caV, k5]
    rw [e, e]
    have dp : 1 ≤ twD c d c' d' := by unfold twD; have := Int.mul_pos (show 0 < d by have := R1.d1; omega) (show 0 < d' by have := R2.d1; omega); omega
    have t4 : 1 ≤ tw4 a b c d a' b' c' d' := Rm.redD_pos dp
    have xd := @Rm.redD_pos (size*(d-c)) d R1.d1
    exact red_congr (by have := Int.mul_pos (show 0 < Rm.redD (size*(d-c)) d by omega) (show 0 < d' by have := R2.d1; omega); omega) t4 (chain_eq R1.d1 R2.d1 Rm.red_cross Rm.red_cross rfl)
  · obtain ⟨k1, k2, k3, k4, k5⟩ := key h1 h2
    have R1 := RuB.of k1
    have R2 := RuB.of k2
    obtain ⟨q1, q2⟩ := mul_ar h3
    rw [q1, q2]
    simp only [k4]
    have e : ∀ x, caV (tw1 a b c d a' b' c' d') (tw2 a b c d a' b' c' d') (tw3 a b c d a' b' c' d') (tw4 a b c d a' b' c' d') size x = x := fun x => by simp [caV, k5]
    rw [e, e]
    have dp : 1 ≤ twD a b a' b' := by unfold twD; have := Int.mul_pos (show 0 < b by have := R1.b1; omega) (show 0 < b' by have := R2.b1; omega); omega
    have t4 : 1 ≤ tw2 a b c d a' b' c' d' := Rm.redD_pos dp
    have xd := @Rm.redD_pos (size*(b-a)) b R1.b1
    exact red_congr (by have := Int.mul_pos (show 0 < Rm.redD (size*(b-a)) b by omega) (show 0 < b' by have := R2.b1; omega); omega) t4 (chain_eq R1.b1 R2.b1 Rm.red_cross Rm.red_cross rfl)
  · obtain ⟨k1, k2⟩ := bo_ok h1
    have e : ∀ x, boV a b c d a' b' c' d' x = x := fun x => by simp [boV, h1]
    simp only [e]
    obtain ⟨s1, s2⟩ := sz_both (low := low) (high := high) k1 k2 (le_boL a b a' b') (boM_le c d c' d')
    have S := Sizes_any (boL a b a' b').1 (boL a b a' b').2 (boM c d c' d').1 (boM c d c' d').2 low high
    rw [s1] at S
    exact ⟨_, _, _, S, s2⟩
end Go.Proofs.YtconhikflghkdaaDoor
