/- rule/shrink.go: Twice. -/
import Derived.Test.YtconhikflghkdaaGreatDoorBested
namespace Go.Proofs.YtconhikflghkdaaGreatDoor
open Go.RowKit Go.Shelf
/-- a shrink behind another one -/
def twN (a b c d : Int) : Int := b*d - (b-a)*(d-c)
def twD (_a b _c d : Int) : Int := b*d
structure TwB (a b c d : Int) : Prop where
  b1 : 1 ≤ b
  b2 : b ≤ 1000
  d1 : 1 ≤ d
  d2 : d ≤ 1000
  a0 : 0 ≤ a
  ab : a ≤ b
  c0 : 0 ≤ c
  cd : c ≤ d
theorem TwB.bd {a b c d : Int} (h : TwB a b c d) : 1 ≤ b*d ∧ b*d ≤ 1000000 ∧ 0 ≤ (b-a)*(d-c) ∧ (b-a)*(d-c) ≤ 1000000 := by
  obtain ⟨b1, b2, d1, d2, a0, ab, c0, cd⟩ := h
  have p := Rm.mul_bound (a := b) (b := d) (A := 1000) (B := 1000) (by omega) (by omega) b2 (by omega) d2
  have q := Int.mul_pos (show 0 < b by omega) (show 0 < d by omega)
  have r := Rm.mul_bound (a := b-a) (b := d-c) (A := 1000) (B := 1000) (by omega) (by omega) (by omega) (by omega) (by omega)
  have s := Int.mul_nonneg (show 0 ≤ b-a by omega) (show 0 ≤ d-c by omega)
  omega
set_option maxRecDepth 100000 in
set_option maxHeartbeats 1000000 in
theorem Twice1_ok (a b c d : Int) (w : World) (h : TwB a b c d) (ho : Rm.okR (twN a b c d) (twD a b c d) = true) :
    Calls Tryz.prog 49 #[fr a b, fr c d] w fun e w' => e = .returned (fr (Rm.redN (twN a b c d) (twD a b c d)) (Rm.redD (twN a b c d) (twD a b c d))) ∧ Gr w w' := by
  obtain ⟨p1, p2, p3, p4⟩ := h.bd
  obtain ⟨b1, b2, d1, d2, a0, ab, c0, cd⟩ := h
  have PR := Lib.hid (fun w => product_any (b-a) b (d-c) d w (by omega) (by omega) (by omega) (by omega))
  have TL := Lib.hid (fun w => told_ok (twN a b c d) (twD a b c d) w p1 (by unfold twN; omega) (by unfold twN; omega) (by unfold twD; omega) ho)
  have EN : Hid (twN a b c d = b*d - (b-a)*(d-c)) := Lib.hid rfl
  unfold twD at *
  rw [EN.out] at TL ⊢
  clear ho EN
  generalize (b-a)*(d-c) = X at *
  generalize b*d = Y at *
  generalize Rm.redN (Y - X) Y = N at *
  generalize Rm.redD (Y - X) Y = D at *
  go_enter Tryz.func49, Tryz.ntmps49
  go_wp2_with fail
  refine (PR.out _).mono ?_
  rintro e w1 ⟨rfl, hg1⟩
  obtain ⟨hc1, hf1, hz1⟩ := hg1.at (n := w.heap.size + 3) (by first | (simp; done) | (simp; omega) | omega)
  go_wp2_with fail
  refine (TL.out _).mono ?_
  rintro e w2 ⟨rfl, hg2⟩
  obtain ⟨hc2, hf2, hz2⟩ := hg2.at (n := w.heap.size + 3) (by first | (simp; done) | (simp; omega) | omega)
  have : ¬ w1.heap.size = w.heap.size := (by omega); have : ¬ w.heap.size = w1.heap.size := (by omega); have : w.heap.size < w1.heap.size := (by omega); have : w.heap.size ≤ w1.heap.size := (by omega); have : ¬ w1.heap.size = w.heap.size + 1 := (by omega); have : ¬ w.heap.size + 1 = w1.heap.size := (by omega); have : w.heap.size + 1 < w1.heap.size := (by omega); have : w.heap.size + 1 ≤ w1.heap.size := (by omega); have : ¬ w1.heap.size = w.heap.size + 2 := (by omega); have : ¬ w.heap.size + 2 = w1.heap.size := (by omega); have : w.heap.size + 2 < w1.heap.size := (by omega); have : w.heap.size + 2 ≤ w1.heap.size := (by omega)
  have : ¬ w2.heap.size = w.heap.size := (by omega); have : ¬ w.heap.size = w2.heap.size := (by omega); have : w.heap.size < w2.heap.size := (by omega); have : w.heap.size ≤ w2.heap.size := (by omega); have : ¬ w2.heap.size = w.heap.size + 1 := (by omega); have : ¬ w.heap.size + 1 = w2.heap.size := (by omega); have : w.heap.size + 1 < w2.heap.size := (by omega); have : w.heap.size + 1 ≤ w2.heap.size := (by omega); have : ¬ w2.heap.size = w.heap.size + 2 := (by omega); have : ¬ w.heap.size + 2 = w2.heap.size := (by omega); have : w.heap.size + 2 < w2.heap.size := (by omega); have : w.heap.size + 2 ≤ w2.heap.size := (by omega)
  go_wp2
  exact bodyPost_ret (v := fr N D) (by simp [results, Tryz.results49, go_sem, *]) rfl ⟨rfl, (by repeat (first | exact Gr.refl _ | assumption | refine Gr.alloc ?_ _ | refine Gr.drew ?_ | refine Gr.drewN ?_ _ | refine Gr.set ?_ _ _ (by first | (simp; done) | (simp; omega)) | refine Gr.trans ?_ (by assumption)))⟩
set_option maxRecDepth 100000 in
set_option maxHeartbeats 1000000 in
theorem Twice1_no (a b c d : Int) (w : World) (h : TwB a b c d) (ho : Rm.okR (twN a b c d) (twD a b c d) = false) :
    Calls Tryz.prog 49 #[fr a b, fr c d] w fun e w' => e = .panicked [{ v := giv 10, recovered := false }] ∧ Gr w w' := by
  obtain ⟨p1, p2, p3, p4⟩ := h.bd
  obtain ⟨b1, b2, d1, d2, a0, ab, c0, cd⟩ := h
  have PR := Lib.hid (fun w => product_any (b-a) b (d-c) d w (by omega) (by omega) (by omega) (by omega))
  have TL := Lib.hid (fun w => told_no (twN a b c d) (twD a b c d) w p1 (by unfold twN; omega) (by unfold twN; omega) (by unfold twD; omega) ho)
  have EN : Hid (twN a b c d = b*d - (b-a)*(d-c)) := Lib.hid rfl
  unfold twD at *
  rw [EN.out] at TL
  clear ho EN
  generalize (b-a)*(d-c) = X at *
  generalize b*d = Y at *
  go_enter Tryz.func49, Tryz.ntmps49
  go_wp2_with fail
  refine (PR.out _).mono ?_
  rintro e w1 ⟨rfl, hg1⟩
  obtain ⟨hc1, hf1, hz1⟩ := hg1.at (n := w.heap.size + 3) (by first | (simp; done) | (simp; omega) | omega)
  go_wp2_with fail
  refine (TL.out _).mono ?_
  rintro e w2 ⟨rfl, hg2⟩
  exact ⟨rfl, rfl, (by repeat (first | exact Gr.refl _ | assumption | refine Gr.alloc ?_ _ | refine Gr.drew ?_ | refine Gr.drewN ?_ _ | refine Gr.set ?_ _ _ (by first | (simp; done) | (simp; omega)) | refine Gr.trans ?_ (by assumption)))⟩
/-- where the closure of Twice finds what it needs -/
structure TwIn (t r q o : Nat) (a b c d a' b' c' d' : Int) (w : World) : Prop where
  t0 : w.cell? ⟨t, 0, none⟩ = some (.func (.func 49) #[] #[])
  r : MB r a b c d w
  q : MB q a' b' c' d' w
  o : w.heap[o]? = some (.cells #[.int .i64 0, .int .i64 0, .int .i64 0, .int .i64 0] 43 (0, 0))
set_option maxRecDepth 100000 in
set_option maxHeartbeats 1000000 in
theorem Twice2_no1 (t r q o : Nat) (a b c d a' b' c' d' : Int) (w : World) (I : TwIn t r q o a b c d a' b' c' d' w) (h1 : TwB a b a' b')
    (ho : Rm.okR (twN a b a' b') (twD a b a' b') = false) :
    Calls Tryz.prog 51 #[.pointer (some ⟨t, 0, none⟩), .pointer (some ⟨r, 0, none⟩), .pointer (some ⟨q, 0, none⟩), .pointer (some ⟨o, 0, none⟩)] w fun e w' => e = .panicked [{ v := giv 10, recovered := false }] ∧ GrL [] w w' := by
  obtain ⟨t0, ⟨r0, r1, r2, r3⟩, ⟨q0, q1, q2, q3⟩, o0⟩ := I
  have T1 := Lib.hid (fun w => Twice1_no a b a' b' w h1 ho)
  have lt := World.block_lt_of_cell? _ _ t0
  have lr := World.block_lt_of_cell? _ _ r0
  have lq := World.block_lt_of_cell? _ _ q0
  clear h1 ho
  go_enter Tryz.func51, Tryz.ntmps51
  go_upto_region 0 with (fail)
  refine wp_region_dies 5 [{ v := giv 10, recovered := false }] [.val (.func (.func 49) #[] #[]), .val (.pointer (some ⟨r, 0, none⟩)), .val (fr a b), .val (.pointer (some ⟨q, 0, none⟩)), .val (fr a' b'), .dies [{ v := giv 10, recovered := false }],
    .val (.func (.func 49) #[] #[]), .val (.pointer (some ⟨r, 2, none⟩)), .val (fr c d), .val (.pointer (some ⟨q, 2, none⟩)), .val (fr c' d'), .never, .never, .never] (by kernel_rfl) (by kernel_rfl) (fun G => by first | (simp only [finAct, Act.put, Plan.value, List.setIfInBounds_toArray, List.set_cons_zero, List.set_cons_succ]; rfl) | (simp only [finAct, Act.put, Plan.value, List.setIfInBounds_toArray, List.set_cons_zero, List.set_cons_succ, Nat.zero_add, Nat.reduceAdd]; rfl)) ?_ rfl ?_
  · refine ⟨?_, ?_, ?_, ?_, ?_, ?_, ?_, ?_, ?_, ?_, ?_, ?_, ?_, ?_, trivial⟩ <;> (first | exact trivial | (intro G; first | (refine ⟨by kernel_rfl, fun u hu => ?_⟩; obtain ⟨hc, hf, hz⟩ := hu.cells; go_simp; first | exact ⟨rfl, Gr.refl _⟩ | skip) | (refine ⟨by kernel_rfl, fun u T z hu hG hj hb => ?_⟩; cases hj; obtain ⟨hbc, hbf, hbz⟩ := blk_cells hb; first | (refine ⟨_, ?_, ((GrL.of_gr (Gr.refl _)).set _ _ (Or.inr (by simp))).set _ _ (Or.inr (by simp)), put_two hb⟩; go_simp; done) | (refine ⟨_, ?_, (GrL.of_gr (Gr.refl _)).set _ _ (Or.inr (by simp)), put_one hb⟩; go_simp; done)) | (refine ⟨by kernel_rfl, fun u => ?_⟩; go_simp; done) | (show _ = false; kernel_rfl)))
    exact T1.out _
  · intro a u hg hd
    exact ⟨hd, rfl, GrL.of_gr hg⟩
set_option maxRecDepth 100000 in
set_option maxHeartbeats 1000000 in
theorem Twice2_no2 (t r q o : Nat) (a b c d a' b' c' d' : Int) (w : World) (I : TwIn t r q o a b c d a' b' c' d' w) (h1 : TwB a b a' b') (h2 : TwB c d c' d')
    (ho : Rm.okR (twN a b a' b') (twD a b a' b') = true) (ho2 : Rm.okR (twN c d c' d') (twD c d c' d') = false) :
    Calls Tryz.prog 51 #[.pointer (some ⟨t, 0, none⟩), .pointer (some ⟨r, 0, none⟩), .pointer (some ⟨q, 0, none⟩), .pointer (some ⟨o, 0, none⟩)] w fun e w' => e = .panicked [{ v := giv 10, recovered := false }] ∧ GrL [] w w' := by
  obtain ⟨t0, ⟨r0, r1, r2, r3⟩, ⟨q0, q1, q2, q3⟩, o0⟩ := I
  have T1 := Lib.hid (fun w => Twice1_ok a b a' b' w h1 ho)
  have T2 := Lib.hid (fun w => Twice1_no c d c' d' w h2 ho2)
  have lt := World.block_lt_of_cell? _ _ t0
  have lr := World.block_lt_of_cell? _ _ r0
  have lq := World.block_lt_of_cell? _ _ q0
  clear h1 ho h2 ho2
  generalize Rm.redN (twN a b a' b') (twD a b a' b') = N at *
  generalize Rm.redD (twN a b a' b') (twD a b a' b') = D at *
  go_enter Tryz.func51, Tryz.ntmps51
  go_upto_region 0 with (fail)
  refine wp_region_dies 11 [{ v := giv 10, recovered := false }] [.val (.func (.func 49) #[] #[]), .val (.pointer (some ⟨r, 0, none⟩)), .val (fr a b), .val (.pointer (some ⟨q, 0, none⟩)), .val (fr a' b'), .val (fr N D),
    .val (.func (.func 49) #[] #[]), .val (.pointer (some ⟨r, 2, none⟩)), .val (fr c d), .val (.pointer (some ⟨q, 2, none⟩)), .val (fr c' d'), .dies [{ v := giv 10, recovered := false }], .never, .never] (by kernel_rfl) (by kernel_rfl) (fun G => by first | (simp only [finAct, Act.put, Plan.value, List.setIfInBounds_toArray, List.set_cons_zero, List.set_cons_succ]; rfl) | (simp only [finAct, Act.put, Plan.value, List.setIfInBounds_toArray, List.set_cons_zero, List.set_cons_succ, Nat.zero_add, Nat.reduceAdd]; rfl)) ?_ rfl ?_
  · refine ⟨?_, ?_, ?_, ?_, ?_, ?_, ?_, ?_, ?_, ?_, ?_, ?_, ?_, ?_, trivial⟩ <;> (first | exact trivial | (intro G; first | (refine ⟨by kernel_rfl, fun u hu => ?_⟩; obtain ⟨hc, hf, hz⟩ := hu.cells; go_simp; first | exact ⟨rfl, Gr.refl _⟩ | skip) | (refine ⟨by kernel_rfl, fun u T z hu hG hj hb => ?_⟩; cases hj; obtain ⟨hbc, hbf, hbz⟩ := blk_cells hb; first | (refine ⟨_, ?_, ((GrL.of_gr (Gr.refl _)).set _ _ (Or.inr (by simp))).set _ _ (Or.inr (by simp)), put_two hb⟩; go_simp; done) | (refine ⟨_, ?_, (GrL.of_gr (Gr.refl _)).set _ _ (Or.inr (by simp)), put_one hb⟩; go_simp; done)) | (refine ⟨by kernel_rfl, fun u => ?_⟩; go_simp; done) | (show _ = false; kernel_rfl)))
    · exact T1.out _
    · exact T2.out _
  · intro a u hg hd
    exact ⟨hd, rfl, GrL.of_gr hg⟩
theorem put_four {u : World} {g : Nat} {x0 y0 z0 t0 x y z t : Value} {T : TypeId} (h : u.heap[g]? = some (.cells #[x0, y0, z0, t0] T (0, 0))) : ((((u.setCell ⟨g, 0, none⟩ x).setCell ⟨g, 1, none⟩ y).setCell ⟨g, 2, none⟩ z).setCell ⟨g, 3, none⟩ t).heap[g]? = some (.cells #[x, y, z, t] T (0, 0)) := by
  have go : ∀ (v : World) (c : Array Value) (i : Nat) (s : Value), v.heap[g]? = some (.cells c T (0, 0)) → (v.setCell ⟨g, i, none⟩ s).heap[g]? = some (.cells (c.setIfInBounds i s) T (0, 0)) := fun v c i s hv => by
    have : (v.setCell ⟨g, i, none⟩ s).heap = v.heap.modify g fun | .cells c elem fr => .cells (c.setIfInBounds i s) elem fr | o => o := rfl
    rw [this, Array.getElem?_modify]
    simp [hv]
  have := go _ _ 3 t (go _ _ 2 z (go _ _ 1 y (go _ _ 0 x h)))
  simpa using this
set_option maxRecDepth 100000 in
set_option maxHeartbeats 1000000 in
theorem Twice2_go (t r q o : Nat) (a b c d a' b' c' d' : Int) (w : World) (I : TwIn t r q o a b c d a' b' c' d' w) (h1 : TwB a b a' b') (h2 : TwB c d c' d')
    (ho : Rm.okR (twN a b a' b') (twD a b a' b') = true) (ho2 : Rm.okR (twN c d c' d') (twD c d c' d') = true) (N D N' D' : Int) (eN : N = Rm.redN (twN a b a' b') (twD a b a' b')) (eD : D = Rm.redD (twN a b a' b') (twD a b a' b')) (eN' : N' = Rm.redN (twN c d c' d') (twD c d c' d')) (eD' : D' = Rm.redD (twN c d c' d') (twD c d c' d')) :
    Calls Tryz.prog 51 #[.pointer (some ⟨t, 0, none⟩), .pointer (some ⟨r, 0, none⟩), .pointer (some ⟨q, 0, none⟩), .pointer (some ⟨o, 0, none⟩)] w fun e w' => e = (if ruOk N D N' D' then .returned (.tuple #[]) else .panicked [{ v := giv 10, recovered := false }]) ∧ GrL [o] w w' ∧ w'.heap[o]? = some (.cells #[.int .i64 N, .int .i64 D, .int .i64 N', .int .i64 D'] 43 (0, 0)) := by
  obtain ⟨t0, ⟨r0, r1, r2, r3⟩, ⟨q0, q1, q2, q3⟩, o0⟩ := I
  have T1 := Lib.hid (fun w => Twice1_ok a b a' b' w h1 ho)
  have T2 := Lib.hid (fun w => Twice1_ok c d c' d' w h2 ho2)
  have lt := World.block_lt_of_cell? _ _ t0
  have lr := World.block_lt_of_cell? _ _ r0
  have lq := World.block_lt_of_cell? _ _ q0
  rw [← eN, ← eD] at T1
  rw [← eN', ← eD'] at T2
  clear h1 ho h2 ho2 eN eD eN' eD'
  have CK := Lib.hid (fun w => CheckRule_any N D N' D' w)
  cases hk : ruOk N D N' D'
  all_goals
    rw [hk] at CK
    clear hk
    go_enter Tryz.func51, Tryz.ntmps51
    go_upto_region 0 with (fail)
    refine wp_region_plan1 13 [.val (.func (.func 49) #[] #[]), .val (.pointer (some ⟨r, 0, none⟩)), .val (fr a b), .val (.pointer (some ⟨q, 0, none⟩)), .val (fr a' b'), .val (fr N D),
      .val (.func (.func 49) #[] #[]), .val (.pointer (some ⟨r, 2, none⟩)), .val (fr c d), .val (.pointer (some ⟨q, 2, none⟩)), .val (fr c' d'), .val (fr N' D'), .val (ru N D N' D'), .later] (by kernel_rfl) (by kernel_rfl) (fun G => by first | (simp only [finAct, Act.put, Plan.value, List.setIfInBounds_toArray, List.set_cons_zero, List.set_cons_succ]; rfl) | (simp only [finAct, Act.put, Plan.value, List.setIfInBounds_toArray, List.set_cons_zero, List.set_cons_succ, Nat.zero_add, Nat.reduceAdd]; rfl)) ?_ ?_
    · refine ⟨?_, ?_, ?_, ?_, ?_, ?_, ?_, ?_, ?_, ?_, ?_, ?_, ?_, ?_, trivial⟩ <;> (first | exact trivial | (intro G; first | (refine ⟨by kernel_rfl, fun u hu => ?_⟩; obtain ⟨hc, hf, hz⟩ := hu.cells; go_simp; first | exact ⟨rfl, Gr.refl _⟩ | skip) | (refine ⟨by kernel_rfl, fun u T z hu hG hj hb => ?_⟩; cases hj; obtain ⟨hbc, hbf, hbz⟩ := blk_cells hb; first | (refine ⟨_, ?_, ((GrL.of_gr (Gr.refl _)).set _ _ (Or.inr (by simp))).set _ _ (Or.inr (by simp)), put_two hb⟩; go_simp; done) | (refine ⟨_, ?_, (GrL.of_gr (Gr.refl _)).set _ _ (Or.inr (by simp)), put_one hb⟩; go_simp; done)) | (refine ⟨by kernel_rfl, fun u => ?_⟩; go_simp; done) | (show _ = false; kernel_rfl)))
      · exact T1.out _
      · exact T2.out _
    · intro G u hg hb hd
      clear hb hd
      have o1 := hg.heap o0
      obtain ⟨oc, of, oz⟩ := blk_cells o1
      refine ⟨⟨none, _, _, _, _, _⟩, rfl, rfl, ?_⟩
      go_simp
      have p4 := put_four (x := .int .i64 N) (y := .int .i64 D) (z := .int .i64 N') (t := .int .i64 D') o1
      have gl : GrL [o] w ((((u.setCell ⟨o, 0, none⟩ (.int .i64 N)).setCell ⟨o, 1, none⟩ (.int .i64 D)).setCell ⟨o, 2, none⟩ (.int .i64 N')).setCell ⟨o, 3, none⟩ (.int .i64 D')) :=
        ((((GrL.of_gr hg).set _ _ (Or.inr (by simp))).set _ _ (Or.inr (by simp))).set _ _ (Or.inr (by simp))).set _ _ (Or.inr (by simp))
      generalize ((((u.setCell ⟨o, 0, none⟩ (.int .i64 N)).setCell ⟨o, 1, none⟩ (.int .i64 D)).setCell ⟨o, 2, none⟩ (.int .i64 N')).setCell ⟨o, 3, none⟩ (.int .i64 D')) = v at *
      clear oc of oz o1
      obtain ⟨oc, of, oz⟩ := blk_cells p4
      go_wp2_with fail
      refine (CK.out _).mono ?_
      rintro e w2 ⟨rfl, hg2⟩
      first
      | (rw [Rm.err_false rfl]
         go_wp2_with fail
         refine (need_no _ _).mono ?_
         rintro e w3 ⟨rfl, rfl⟩
         exact ⟨rfl, rfl, gl.trans (GrL.of_gr hg2), hg2.heap p4⟩)
      | (rw [Rm.err_true rfl]
         go_wp2_with fail
         refine (need_ok _ _).mono ?_
         rintro e w3 ⟨rfl, rfl⟩
         go_wp2
         go_end0
         exact ⟨rfl, gl.trans (GrL.of_gr hg2), hg2.heap p4⟩)
end Go.Proofs.YtconhikflghkdaaGreatDoor
