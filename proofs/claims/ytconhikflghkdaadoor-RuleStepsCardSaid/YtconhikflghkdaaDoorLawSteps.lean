/- RuleSteps: the walk: FromTerms inverts Terms; convergents lie on both sides in turn, each nearer than the one before, none farther than Nearest. -/
import Derived.Test.YtconhikflghkdaaDoorAlive
import Derived.Test.YtconhikflghkdaaDoorRefF
namespace Go.Proofs.YtconhikflghkdaaDoor
open Go.RowKit Go.Shelf
set_option maxRecDepth 100000 in
set_option maxHeartbeats 1000000 in
theorem RuleSteps_no (a b : Int) (w : World) (ht : Tab w) (ho : Rm.okF a b = false) :
    Calls Tryd.prog 19 #[fr a b] w fun e w' => e = .returned (.bool true) ∧ Gr w w' := by
  have AL := Lib.hid (fun w' (g : Gr w w') => alive_any w' (ht.gr g))
  have T1 := Lib.hid (fun w => Terms_no a b w ho)
  have C1 := Lib.hid (fun w => Convergents_no a b w ho)
  clear ht ho
  go_enter Tryd.func19, Tryd.ntmps19
  have bx := heap_alloc_self w (.cells #[.int .i64 a, .int .i64 b] 23)
  have g0 : Gr w (w.alloc (.cells #[.int .i64 a, .int .i64 b] 23)) := (Gr.refl w).alloc _
  go_wp2_with fail
  refine (T1.out _).mono ?_
  rintro e w1 ⟨rfl, hg1⟩
  have bx1 := hg1.heap bx
  have g1 := g0.trans hg1
  clear bx g0 hg1
  obtain ⟨cx, fx, zx⟩ := blk_cells bx1
  go_wp2_with fail
  clear cx fx zx
  refine (C1.out _).mono ?_
  rintro e w2 ⟨rfl, hg2⟩
  have g2 := g1.trans hg2
  clear bx1 g1 hg2
  go_wp2_with fail
  refine (AL.out _ g2).mono ?_
  rintro e w3 ⟨rfl, hg3⟩
  go_wp2
  go_ret
  exact ⟨rfl, g2.trans hg3⟩
/-- what a round of the law's loop needs to know of the convergent with the index i -/
structure StF (a b : Int) (c : List (Int × Int)) (i : Nat) (x y O : Int) : Prop where
  at' : c.getD i (0, 0) = (x, y)
  y1 : 1 ≤ y
  y2 : y ≤ 1000000
  x1 : -1000000001 ≤ x
  x2 : x ≤ 1000000001
  eO : a*y - x*b = O
  O0 : ¬ O = 0
  O1 : -1000000 ≤ O
  O2 : O ≤ 1000000
  sg : (decide (0 < O) != decide (i % 2 = 0)) = false
/-- .. and of the one before, and of the nearest fraction -/
structure StW (a b : Int) (c : List (Int × Int)) (i : Nat) (y O x' y' P p q F : Int) : Prop where
  at' : c.getD (i - 1) (0, 0) = (x', y')
  y1 : 1 ≤ y'
  y2 : y' ≤ 1000000
  x1 : -1000000001 ≤ x'
  x2 : x' ≤ 1000000001
  eP : a*y' - x'*b = P
  P1 : -1000000 ≤ P
  P2 : P ≤ 1000000
  le : max O (-O) * y' < max P (-P) * y
  ok : abOk a b y = true
  ep : nrN a b y = p
  eq : nrD a b y = q
  q1 : 1 ≤ q
  q2 : q ≤ 1000000
  eF : a*q - p*b = F
  F1 : -1000000000000 ≤ F
  F2 : F ≤ 1000000000000
  ne : max O (-O) * q ≤ max F (-F) * y
theorem abs_max (O : Int) : (O.natAbs : Int) = max O (-O) := by omega
theorem getD_some {c : List (Int × Int)} {i : Nat} {p : Int × Int} (h : c[i]? = some p) : c.getD i (0, 0) = p := by simp [List.getD, h]
theorem near_part {a b m : Int} (h : abOk a b m = true) : 1 ≤ nrD a b m ∧ nrD a b m ≤ m ∧ -1000000000000 ≤ a*nrD a b m - nrN a b m * b ∧ a*nrD a b m - nrN a b m * b ≤ 1000000000000 := by
  have hk : Rm.okF a b = true ∧ 1 ≤ m ∧ m ≤ 1000000 := by simpa [abOk] using h
  obtain ⟨x1, x2, x3, x4, x5⟩ := Rm.okF_iff.1 hk.1
  have B := @Rm.bk_brk a b m x3 hk.2.1
  have O := B.off x3 hk.2.1
  have e5 : nrN a b m = (if nrB a b m then Rm.bkN a b m else Rm.bhN a b m) := by unfold nrN; rw [if_pos h]
  have e6 : nrD a b m = (if nrB a b m then Rm.bkD a b m else Rm.bhD a b m) := by unfold nrD; rw [if_pos h]
  rw [e5, e6]
  have a1 := B.a1
  have am := B.am
  have b1 := B.b1
  have bm := B.bm
  have p := Rm.near_bd O.1 O.2.1 a1 (by omega) x3 x4 b1 (by omega)
  have q := Rm.near_bd O.2.2.1 O.2.2.2 b1 (by omega) x3 x4 a1 (by omega)
  split <;> omega
theorem st_all {a b : Int} (h : Rm.okF a b = true) {i : Nat} (hi : i + 1 < (Rm.tm a b).length) :
    ∃ x y O, StF a b (Rm.cv (Rm.tm a b)) i x y O ∧ (i ≠ 0 → ∃ x' y' P p q F, StW a b (Rm.cv (Rm.tm a b)) i y O x' y' P p q F) := by
  obtain ⟨x1, x2, x3, x4, x5⟩ := Rm.okF_iff.1 h
  obtain ⟨x, y, e, y1, y2, n1, n2, O0, O1, O2, sg, W⟩ := Rm.steps_ok x1 x2 x3 x4 x5 hi
  refine ⟨x, y, _, ⟨getD_some e, y1, y2, n1, n2, rfl, O0, O1, O2, ?_⟩, fun hi0 => ?_⟩
  · generalize a*y - x*b = O at *
    by_cases hp : 0 < O
    · simp [hp, sg.1 hp]
    · have : ¬ i % 2 = 0 := fun h => hp (sg.2 h)
      simp [hp, this]
  · obtain ⟨x', y', e', w1, w2, m1, m2, P1, P2, lt, nr⟩ := W hi0
    have hab : abOk a b y = true := by simp [abOk, h, y1, y2]
    obtain ⟨q1, q2, F1, F2⟩ := near_part hab
    have nn := nr (nrN a b y) (nrD a b y) q1 q2
    rw [abs_max, abs_max] at lt nn
    exact ⟨x', y', _, _, _, _, getD_some e', w1, w2, m1, m2, rfl, P1, P2, lt, hab, rfl, rfl, q1, by omega, rfl, F1, F2, nn⟩
theorem tm_irow {W : World} {base : Nat} {l : List Int} {v : Value} (h : W.ownsRow base 3 1 v l.length (l.map (Value.int .i64))) (hl : l ≠ []) : IRow W v l := by
  obtain ⟨g, cap, rfl, _, lg, hc, hcell⟩ := row_cells h hl
  exact .inr ⟨g, 0, cap, rfl, hc, lg, hcell⟩
set_option maxRecDepth 100000 in
set_option maxHeartbeats 4000000 in
theorem RuleSteps_yes (a b : Int) (w : World) (ht : Tab w) (ho : Rm.okF a b = true) :
    Calls Tryd.prog 19 #[fr a b] w fun e w' => e = .returned (.bool true) ∧ Gr w w' := by
  have AL := Lib.hid (fun w' (g : Gr w w') => alive_any w' (ht.gr g))
  have T1 := Lib.hid (fun w => Terms_yes a b w ho)
  have C1 := Lib.hid (fun w => Convergents_yes a b w ho)
  obtain ⟨x1, x2, x3, x4, x5⟩ := Rm.okF_iff.1 ho
  obtain ⟨tne, cne, tlen, clen⟩ : Rm.tm a b ≠ [] ∧ Rm.cv (Rm.tm a b) ≠ [] ∧ (Rm.tm a b).length ≤ 39 ∧ (Rm.cv (Rm.tm a b)).length = (Rm.tm a b).length := by
    have hl := Rm.tm_len40 (n := a) x3 x4
    obtain ⟨c, t, e, _⟩ := Rm.ftOk_parts (Rm.tm_ftOk x1 x2 x3 x4 x5)
    have hc := Rm.cv_length (Rm.tm a b)
    refine ⟨by rw [e]; simp, fun h0 => ?_, hl, hc⟩
    rw [h0, e] at hc
    simp at hc
  have FT := Lib.hid (fun (v : Value) (w : World) (hr : IRow w v (Rm.tm a b)) => (show Calls Tryd.prog 67 #[v] w fun e w' => e = .returned (.tuple #[fr a b, .int .i64 0]) ∧ Gr w w' by
    have := FromTerms_any v (Rm.tm a b) w hr (by omega)
    have hf := Rm.tm_ftOk x1 x2 x3 x4 x5
    have hbk := Rm.tm_back x1 x2 x3 x4 x5
    have hok : Rm.okR a b = true := by
      have := Rm.red_self x5
      simp only [Rm.okR, this]
      simp [Rm.small]; omega
    obtain ⟨m1, m2, m3⟩ := Rm.made_yes hok
    have hr := Rm.red_self x5
    have e1 : Rm.ftN (Rm.tm a b) = a := by simp [Rm.ftN, hf, hbk, x4, m1, hr.1]
    have e2 : Rm.ftD (Rm.tm a b) = b := by simp [Rm.ftD, hf, hbk, x4, m2, hr.2]
    have e3 : Rm.ftE (Rm.tm a b) = 0 := by simp [Rm.ftE, hf, hbk, x4, m3]
    rwa [e1, e2, e3] at this))
  have ST := Lib.hid (fun i (hi : i + 1 < (Rm.tm a b).length) => st_all ho hi)
  have hlast : (Rm.cv (Rm.tm a b)).getD ((Rm.tm a b).length - 1) (0, 0) = (a, b) := by
    obtain ⟨_, P, t, s, hP, ci⟩ := Rm.conv_last x1 x2 x3 x4 x5
    have e := ci.end
    rw [hP, e]
    have hc := Rm.cv_length P
    simp [List.getD, ← hc]
  have IR := Lib.hid (fun (W : World) (base : Nat) (v : Value) h => tm_irow (W := W) (base := base) (v := v) h tne)
  have NR := Lib.hid (fun (m : Int) (w : World) (hm : abOk a b m = true) => (show Calls Tryd.prog 25 #[fr a b, .int .i64 m] w fun e w' => e = .returned (.tuple #[fr (nrN a b m) (nrD a b m), .int .i64 0]) ∧ Gr w w' by
    have := Nearest_any a b m w
    rwa [hm, Rm.err_true rfl] at this))
  obtain ⟨L, hL⟩ : ∃ L, (Rm.tm a b).length = L + 1 := ⟨(Rm.tm a b).length - 1, by have := List.length_pos_iff.2 tne; omega⟩
  clear ht ho x5
  rw [hL] at tlen clen hlast
  rw [Nat.add_sub_cancel] at hlast
  generalize hcs : Rm.cv (Rm.tm a b) = cs at *
  go_enter Tryd.func19, Tryd.ntmps19
  have bx := heap_alloc_self w (.cells #[.int .i64 a, .int .i64 b] 23)
  have g0 : Gr w (w.alloc (.cells #[.int .i64 a, .int .i64 b] 23)) := (Gr.refl w).alloc _
  go_wp2_with fail
  refine (T1.out _).mono ?_
  rintro e w1 ⟨v1, rfl, r1, hg1⟩
  have bx1 := hg1.heap bx
  have g1 := g0.trans hg1
  have I1 := IR.out _ _ _ r1
  obtain ⟨p1, k1, e1⟩ := I1.slice
  rw [hL] at e1
  subst e1
  clear bx g0 hg1 r1
  obtain ⟨cx, fx, zx⟩ := blk_cells bx1
  go_wp2_with fail
  clear cx fx zx
  refine (C1.out _).mono ?_
  rintro e w2 ⟨v2, rfl, r2, hg2⟩
  rw [hcs] at r2
  obtain ⟨kc, cap2, rfl, _, lc, hcap, dc⟩ := frow_cells r2 cne
  rw [clen] at hcap
  have bx2 := hg2.heap bx1
  have g2 := g1.trans hg2
  have I2 := I1.gr hg2
  rw [clen]
  clear bx1 g1 hg2 I1 r2
  go_wp2_with fail
  refine (FT.out _ _ I2).mono ?_
  rintro e w3 ⟨rfl, hg3⟩
  have bx3 := hg3.heap bx2
  have g3 := g2.trans hg3
  have dc3 := dc.gr hg3 lc
  have lc3 := Nat.lt_of_lt_of_le lc hg3.b.size
  clear bx2 g2 hg3 I2 dc lc
  go_wp2_with fail
  have bx4 := ((Gr.refl _).alloc (.cells #[.int .i64 a, .int .i64 b] 23)).heap bx3
  have by4 := heap_alloc_self w3 (.cells #[.int .i64 a, .int .i64 b] 23)
  have g4 := g3.alloc (.cells #[.int .i64 a, .int .i64 b] 23)
  have dc4 := dc3.gr ((Gr.refl _).alloc (.cells #[.int .i64 a, .int .i64 b] 23)) lc3
  have lc4 : kc < (w3.alloc (.cells #[.int .i64 a, .int .i64 b] 23)).heap.size := by simp; omega
  have gz : w.heap.size ≤ w3.heap.size := g3.b.size
  have hcs' := hcs
  generalize hW : w3.alloc (.cells #[.int .i64 a, .int .i64 b] 23) = W at *
  obtain ⟨k7, h7⟩ : ∃ k7, w3.heap.size = k7 := ⟨_, rfl⟩
  rw [h7] at by4 gz
  rw [h7]
  clear bx3 g3 dc3 lc3 hW h7
  obtain ⟨cx, fx, zx⟩ := blk_cells bx4
  obtain ⟨cy, fy, zy⟩ := blk_cells by4
  obtain ⟨l1, l2⟩ := dc4 L (by omega)
  rw [hlast] at l1 l2
  dsimp only at l1 l2
  have ne : ∀ w, (binOp .neq 23 (fr a b) (fr a b)).run Tryd.prog w = .ok (.bool false) w := fun w => by rw [neq_Frac]; simp
  have DC := Lib.hid dc4
  clear dc4
  have hLL : (L : Int) < (L : Int) + 1 := by omega
  have q1 : IntKind.i64.wrap (L : Int) = L := IntWalk.i64_in _ (by omega)
  have l1' : W.cell? ⟨kc, L * 2, none⟩ = some (.int .i64 a) := by rw [← l1, Nat.zero_add]
  have l2' : W.cell? ⟨kc, L * 2 + 1, none⟩ = some (.int .i64 b) := by rw [← l2, Nat.zero_add]
  clear l1 l2
  refine wp_region_plan [.val (.int .i64 0), .val (.bool false), .val (.bool false), .val (.int .i64 0), .val (.bool false), .val (.bool false), .val (.bool false), .val (fr a b), .val (fr a b), .val (.bool false), .val (.bool false), .val (.bool false), .val (.slice (some ⟨kc, 0, none⟩) (L + 1) cap2), .val (.int .i64 ((L : Int) + 1)), .val (.bool false), .val (.bool false), .val (.bool false), .val (.slice (some ⟨kc, 0, none⟩) (L + 1) cap2), .val (.int .i64 ((L : Int) + 1)), .val (.slice p1 (L + 1) k1), .val (.int .i64 ((L : Int) + 1)), .val (.bool false), .val (.bool false), .val (.bool false), .val (.slice (some ⟨kc, 0, none⟩) (L + 1) cap2), .val (.slice (some ⟨kc, 0, none⟩) (L + 1) cap2), .val (.int .i64 ((L : Int) + 1)), .val (.int .i64 (L : Int)), .val (.pointer (some ⟨kc, L * 2, none⟩)), .val (fr a b), .val (fr a b), .val (.bool false), .val (.bool false)] (by kernel_rfl) (by kernel_rfl) (fun G => by first | (simp only [finAct, Act.put, Plan.value, List.setIfInBounds_toArray, List.set_cons_zero, List.set_cons_succ]; rfl) | (simp only [finAct, Act.put, Plan.value, List.setIfInBounds_toArray, List.set_cons_zero, List.set_cons_succ, Nat.zero_add, Nat.reduceAdd]; rfl)) ?_ ?_
  · refine ⟨?_, ?_, ?_, ?_, ?_, ?_, ?_, ?_, ?_, ?_, ?_, ?_, ?_, ?_, ?_, ?_, ?_, ?_, ?_, ?_, ?_, ?_, ?_, ?_, ?_, ?_, ?_, ?_, ?_, ?_, ?_, ?_, ?_, trivial⟩ <;> (first | exact trivial | (intro G; first | (refine ⟨by kernel_rfl, fun u hu => ?_⟩; obtain ⟨hc, hf, hz⟩ := hu.cells; go_simp; first | exact ⟨rfl, Gr.refl _⟩ | skip) | (refine ⟨by kernel_rfl, fun u T z hu hG hj hb => ?_⟩; cases hj; obtain ⟨hbc, hbf, hbz⟩ := blk_cells hb; first | (refine ⟨_, ?_, ((GrL.of_gr (Gr.refl _)).set _ _ (Or.inr (by simp))).set _ _ (Or.inr (by simp)), put_two hb⟩; go_simp; done) | (refine ⟨_, ?_, (GrL.of_gr (Gr.refl _)).set _ _ (Or.inr (by simp)), put_one hb⟩; go_simp; done)) | (refine ⟨by kernel_rfl, fun u => ?_⟩; go_simp; done) | (show _ = false; kernel_rfl)))
  intro _ U hg _ _
  have gu : Gr w U := g4.trans hg
  have bxu := hg.heap bx4
  have DU := Lib.hid (DC.out.gr hg lc4)
  have lcu := Nat.lt_of_lt_of_le lc4 hg.b.size
  clear cx fx zx cy fy zy DC bx4 by4 g4 l1' l2' lc4 hg q1 hLL
  go_wp2_with fail
  go_loopw [78] (fun p wr => ∃ i : Nat, p = .int .i64 i ∧ i ≤ L ∧ Gr U wr) (fun p _ => L - (intOf p).toNat)
  case atStart => exact ⟨0, rfl, by omega, Gr.refl _⟩
  case round =>
    obtain ⟨i, rfl, hi, gl⟩ := hrel
    by_cases hil : i < L
    · obtain ⟨x, y, O, S, SW⟩ := ST.out i (by omega)
      obtain ⟨c1, c2⟩ := (DU.out.gr gl lcu) i (by omega)
      rw [S.at'] at c1 c2
      dsimp only at c1 c2
      rw [Nat.zero_add] at c1 c2
      have bxl := gl.heap bxu
      obtain ⟨cx, fx, zx⟩ := blk_cells bxl
      have nn := Rm.nd_bound x1 x2 S.y1 S.y2
      have eO := S.eO
      have O0 := S.O0
      have O1 := S.O1
      have O2 := S.O2
      have lkc := Nat.lt_of_lt_of_le lcu gl.b.size
      have w1 : IntKind.i64.wrap (a*y) = a*y := IntWalk.i64_in _ (by omega)
      have w2 : IntKind.i64.wrap (x*b) = x*b := IntWalk.i64_in _ (by omega)
      have w3 : IntKind.i64.wrap O = O := IntWalk.i64_in _ (by omega)
      have hO0 : (O == 0) = false := beq_eq_false_iff_ne.2 O0
      by_cases hi0 : i = 0
      · subst hi0
        have hp : 0 < O := by have := S.sg; simp at this; omega
        go_wp2
        go_roundw
        case rel => exact ⟨1, rfl, by omega, gl.alloc _⟩
        case measure => simp only [intOf]; omega
      · obtain ⟨x', y', P, p, q, F, V⟩ := SW hi0
        obtain ⟨j, rfl⟩ : ∃ j, i = j + 1 := ⟨i - 1, by omega⟩
        obtain ⟨d1, d2⟩ := (DU.out.gr gl lcu) j (by omega)
        have Vat := V.at'
        rw [Nat.add_sub_cancel] at Vat
        rw [Vat] at d1 d2
        dsimp only at d1 d2
        rw [Nat.zero_add] at d1 d2
        have VV := Lib.hid V
        have hsg : (!decide (0 < O) == (((j : Int) + 1) % 2 == 0)) = false := by
          have := S.sg
          by_cases hp : 0 < O
          · simp [hp] at this ⊢; omega
          · simp [hp] at this ⊢; omega
        have hj0 : ((j : Int) + 1 == 0) = false := by simp; omega
        have hxx := And.intro S.x1 S.x2
        have hyy := And.intro S.y1 S.y2
        clear V Vat SW S ST
        go_wp2_with fail
        have gl2 := gl.alloc (.cells #[.int .i64 x, .int .i64 y] 23)
        have bt := heap_alloc_self wr (.cells #[.int .i64 x, .int .i64 y] 23)
        have bx2 := ((Gr.refl _).alloc (.cells #[.int .i64 x, .int .i64 y] 23)).heap bxl
        have e1 : (wr.alloc (.cells #[.int .i64 x, .int .i64 y] 23)).cell? ⟨kc, j * 2, none⟩ = some (.int .i64 x') := (((Gr.refl wr).alloc _).cells.1 _ _ lkc).trans d1
        have e2 : (wr.alloc (.cells #[.int .i64 x, .int .i64 y] 23)).cell? ⟨kc, j * 2 + 1, none⟩ = some (.int .i64 y') := (((Gr.refl wr).alloc _).cells.1 _ _ lkc).trans d2
        have lkc2 : kc < (wr.alloc (.cells #[.int .i64 x, .int .i64 y] 23)).heap.size := by simp; omega
        generalize hW : wr.alloc (.cells #[.int .i64 x, .int .i64 y] 23) = Wr at *
        have hkt : ∃ kt, wr.heap.size = kt := ⟨_, rfl⟩
        obtain ⟨kt, hkt⟩ := hkt
        rw [hkt] at bt
        rw [hkt]
        clear hW cx fx zx c1 c2 d1 d2 bxl lkc hkt gl hj0 hsg
        obtain ⟨cx, fx, zx⟩ := blk_cells bx2
        have V := VV.out
        have m1 := Rm.nd_bound x1 x2 V.y1 V.y2
        have eP := V.eP
        have P1 := V.P1
        have P2 := V.P2
        have u1 : IntKind.i64.wrap (a*y') = a*y' := IntWalk.i64_in _ (by omega)
        have u2 : IntKind.i64.wrap (x'*b) = x'*b := IntWalk.i64_in _ (by omega)
        have u3 : IntKind.i64.wrap P = P := IntWalk.i64_in _ (by omega)
        have u4 : IntKind.i64.wrap (j : Int) = j := IntWalk.i64_in _ (by omega)
        have hjl : (j : Int) < (L : Int) + 1 := by omega
        clear V
        go_quiet (fail)
        clear cx fx zx
        have gd : Gr Wr (Wr.drewN nq) := (Gr.refl _).drewN _
        have gl3 := gl2.trans gd
        have bx3 := gd.heap bx2
        have bt3 := gd.heap bt
        have f1 := (gd.cells.1 _ 1 lkc2)
        have f2 : (Wr.drewN nq).cell? ⟨kc, j * 2 + 1, none⟩ = some (.int .i64 y') := (gd.cells.1 _ _ lkc2).trans e2
        have lkc3 : kc < (Wr.drewN nq).heap.size := lkc2
        clear f1 e1 e2 gl2 bx2 bt gd u1 u2 u3
        generalize Wr.drewN nq = Wr2 at *
        obtain ⟨ct, ft, zt⟩ := blk_cells bt3
        have V := VV.out
        have o1 := @Rm.mul_bound (max O (-O)) y' 1000000 1000000 (by omega) (by omega) (by omega) (by have := V.y1; omega) V.y2
        have o2 := @Rm.mul_bound (max P (-P)) y 1000000 1000000 (by omega) (by omega) (by omega) (by omega) (by omega)
        have hleb : decide (max P (-P) * y ≤ max O (-O) * y') = false := decide_eq_false (by have := V.le; omega)
        have v1 : IntKind.i64.wrap (-O) = -O := IntWalk.i64_in _ (by omega)
        have v2 : IntKind.i64.wrap (-P) = -P := IntWalk.i64_in _ (by omega)
        have v3 : IntKind.i64.wrap (max O (-O) * y') = max O (-O) * y' := IntWalk.i64_in _ (by omega)
        have v4 : IntKind.i64.wrap (max P (-P) * y) = max P (-P) * y := IntWalk.i64_in _ (by omega)
        clear V
        go_wp2_with fail
        refine wp_region_plan [.val (.int .i64 O), .val (.int .i64 O), .val (.int .i64 (-O)), .val (.int .i64 (max O (-O))), .val (.slice (some ⟨kc, 0, none⟩) (L + 1) cap2), .val (.int .i64 ((j : Int) + 1)), .val (.int .i64 (j : Int)), .val (.pointer (some ⟨kc, j * 2, none⟩)), .val (.pointer (some ⟨kc, j * 2 + 1, none⟩)), .val (.int .i64 y'), .val (.int .i64 (max O (-O) * y')), .val (.int .i64 P), .val (.int .i64 P), .val (.int .i64 (-P)), .val (.int .i64 (max P (-P))), .val (.pointer (some ⟨kt, 1, none⟩)), .val (.int .i64 y), .val (.int .i64 (max P (-P) * y)), .val (.bool false)] (by kernel_rfl) (by kernel_rfl) (fun G => by first | (simp only [finAct, Act.put, Plan.value, List.setIfInBounds_toArray, List.set_cons_zero, List.set_cons_succ]; rfl) | (simp only [finAct, Act.put, Plan.value, List.setIfInBounds_toArray, List.set_cons_zero, List.set_cons_succ, Nat.zero_add, Nat.reduceAdd]; rfl)) ?_ ?_
        · refine ⟨?_, ?_, ?_, ?_, ?_, ?_, ?_, ?_, ?_, ?_, ?_, ?_, ?_, ?_, ?_, ?_, ?_, ?_, ?_, trivial⟩ <;> (first | exact trivial | (intro G; first | (refine ⟨by kernel_rfl, fun u hu => ?_⟩; obtain ⟨hc, hf, hz⟩ := hu.cells; go_simp; first | exact ⟨rfl, Gr.refl _⟩ | skip) | (refine ⟨by kernel_rfl, fun u T z hu hG hj hb => ?_⟩; cases hj; obtain ⟨hbc, hbf, hbz⟩ := blk_cells hb; first | (refine ⟨_, ?_, ((GrL.of_gr (Gr.refl _)).set _ _ (Or.inr (by simp))).set _ _ (Or.inr (by simp)), put_two hb⟩; go_simp; done) | (refine ⟨_, ?_, (GrL.of_gr (Gr.refl _)).set _ _ (Or.inr (by simp)), put_one hb⟩; go_simp; done)) | (refine ⟨by kernel_rfl, fun u => ?_⟩; go_simp; done) | (show _ = false; kernel_rfl)))
        intro _ U2 hg2 _ _
        clear ct ft zt f2 o1 o2 hleb v1 v2 v3 v4
        have gl4 := gl3.trans hg2
        have bx4 := hg2.heap bx3
        have bt4 := hg2.heap bt3
        clear gl3 bx3 bt3 hg2
        obtain ⟨cx, fx, zx⟩ := blk_cells bx4
        obtain ⟨ct, ft, zt⟩ := blk_cells bt4
        have V := VV.out
        have NR2 := Lib.hid (fun w => (NR.out y w V.ok))
        rw [V.ep, V.eq] at NR2
        clear V
        go_wp2_with fail
        refine (NR2.out _).mono ?_
        rintro e w4 ⟨rfl, hg4⟩
        clear cx fx zx ct ft zt
        have gl5 := gl4.trans hg4
        have bx5 := hg4.heap bx4
        have bt5 := hg4.heap bt4
        clear gl4 bx4 bt4 hg4 NR2
        have V := VV.out
        have n1 := Rm.nd_bound x1 x2 V.q1 V.q2
        have eF := V.eF
        have F1 := V.F1
        have F2 := V.F2
        have o1 := @Rm.mul_bound (max O (-O)) q 1000000 1000000 (by omega) (by omega) (by omega) (by have := V.q1; omega) V.q2
        have o2 := @Rm.mul_bound (max F (-F)) y 1000000000000 1000000 (by omega) (by omega) (by omega) (by omega) (by omega)
        have hlt : ¬ max F (-F) * y < max O (-O) * q := by have := V.ne; omega
        have v1 : IntKind.i64.wrap (-O) = -O := IntWalk.i64_in _ (by omega)
        have v2 : IntKind.i64.wrap (-F) = -F := IntWalk.i64_in _ (by omega)
        have v3 : IntKind.i64.wrap (max O (-O) * q) = max O (-O) * q := IntWalk.i64_in _ (by omega)
        have v4 : IntKind.i64.wrap (max F (-F) * y) = max F (-F) * y := IntWalk.i64_in _ (by omega)
        have v5 : IntKind.i64.wrap (a*q) = a*q := IntWalk.i64_in _ (by omega)
        have v6 : IntKind.i64.wrap (p*b) = p*b := IntWalk.i64_in _ (by omega)
        have v7 : IntKind.i64.wrap F = F := IntWalk.i64_in _ (by omega)
        clear V
        obtain ⟨cx, fx, zx⟩ := blk_cells bx5
        obtain ⟨ct, ft, zt⟩ := blk_cells bt5
        go_wp2_with fail
        go_roundw
        case rel => exact ⟨j + 1 + 1, by go_num, by omega, gl5.alloc _⟩
        case measure => simp only [intOf]; omega
    · obtain rfl : i = L := by omega
      go_wp2_with fail
      refine (AL.out _ (gu.trans gl)).mono ?_
      rintro e w4 ⟨rfl, hg4⟩
      go_wp2
      go_ret
      exact ⟨rfl, (gu.trans gl).trans hg4⟩
theorem RuleSteps_any (a b : Int) (w : World) (ht : Tab w) : Calls Tryd.prog 19 #[fr a b] w fun e w' => e = .returned (.bool true) ∧ Gr w w' := by
  cases ho : Rm.okF a b
  · exact RuleSteps_no a b w ht ho
  · exact RuleSteps_yes a b w ht ho
end Go.Proofs.YtconhikflghkdaaDoor
