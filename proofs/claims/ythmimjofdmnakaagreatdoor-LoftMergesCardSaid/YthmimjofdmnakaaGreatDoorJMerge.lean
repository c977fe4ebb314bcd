/- loft: Merge. -/
import Derived.Test.YthmimjofdmnakaaGreatDoorJInsW
import Derived.Test.YthmimjofdmnakaaGreatDoorJRMrg
namespace Go.Proofs.YthmimjofdmnakaaGreatDoor
open Go.RowKit Go.Shelf Go.Lib
theorem addK_hit {l : List Rc} {x : Rc} (hp : posK l x < l.length) (hc : cmpR l[posK l x] x = 0) (he : l[posK l x] = x) : addK l x = some l := by
  unfold addK; rw [dif_pos hp, if_pos hc, if_pos he]
theorem addK_part {l : List Rc} {x : Rc} (hp : posK l x < l.length) (hc : cmpR l[posK l x] x = 0) (he : l[posK l x] ≠ x) : addK l x = none := by
  unfold addK; rw [dif_pos hp, if_pos hc, if_neg he]
theorem addK_new {l : List Rc} {x : Rc} (h : ∀ hp : posK l x < l.length, cmpR l[posK l x] x ≠ 0) : addK l x = some (insK l x) := by
  unfold addK
  by_cases hp : posK l x < l.length
  · rw [dif_pos hp, if_neg (h hp)]
  · rw [dif_neg hp]
theorem mrgK_step {m b : List Rc} {i : Nat} (hi : i < b.length) : mrgK m (b.drop i) = (addK m b[i]).bind fun l' => mrgK l' (b.drop (i+1)) := by
  rw [List.drop_eq_getElem_cons hi]
  rfl
theorem addK_keys {l l' : List Rc} {x : Rc} (hk : KeyS l) (h : addK l x = some l') : KeyS l' := by
  rcases addK_is (x := x) hk with ⟨h1, _⟩ | ⟨l2, h1, h2, _⟩
  · rw [h1] at h; cases h
  · rw [h1] at h; cases h; exact h2
theorem insK_len (l : List Rc) (x : Rc) : (insK l x).length = l.length + 1 := by
  have := posK_le l x
  unfold insK
  simp only [List.length_append, List.length_take, List.length_drop, List.length_singleton]
  omega
set_option maxRecDepth 100000 in
set_option maxHeartbeats 4000000 in
theorem Merge_no (n : Int) (v1 v2 : Value) (a b : List Rc) (i0 e0 : Int) (w : World) (hv1 : RecsAt w v1 a) (hv2 : RecsAt w v2 b) (h0 : e0 ≠ 0)
    (hc : (∀ u, Gr w u → Calls Tryz.prog 16 #[.int .i64 n, v1] u fun e w' => e = .returned (.tuple #[.int .i64 i0, .int .i64 e0]) ∧ Gr u w')) :
    Calls Tryz.prog 20 #[.int .i64 n, v1, v2] w fun e w' => e = .returned (.tuple #[.slice none 0 0, .int .i64 e0]) ∧ Gr w w' := by
  have CH := Lib.hid hc
  have h1 : (e0 == 0) = false := by simpa using h0
  have h2 : decide (e0 = 0) = false := by simpa using h0
  obtain ⟨aa, capa, rfl, -, -⟩ := hv1
  obtain ⟨ab, capb, rfl, -, -⟩ := hv2
  have bx := heap_alloc_self w (.cells #[.slice aa a.length capa, .slice ab b.length capb] 32)
  have g0 : Gr w (w.alloc (.cells #[.slice aa a.length capa, .slice ab b.length capb] 32)) := (Gr.refl w).alloc _
  clear hc
  go_enter Tryz.func20, Tryz.ntmps20
  go_wp2
  generalize w.alloc (.cells #[.slice aa a.length capa, .slice ab b.length capb] 32) = W at *
  obtain ⟨p, hp⟩ : ∃ p, w.heap.size = p := ⟨_, rfl⟩
  rw [hp] at bx
  simp only [hp]
  clear hp
  go_loopw [9, 10, 11, 21] (fun _ _ _ q wr => q = .int .i64 0 ∧ Gr W wr) (fun _ _ _ _ _ => 0)
  case atStart => exact ⟨rfl, Gr.refl _⟩
  case round =>
    obtain ⟨rfl, gr⟩ := hrel
    obtain ⟨cx, fx, zx⟩ := blk_cells (gr.heap bx)
    go_wp2_with fail
    refine (CH.out _ (g0.trans gr)).mono ?_
    rintro e w1 ⟨rfl, hg1⟩
    have G := (g0.trans gr).trans hg1
    clear cx fx zx
    go_wp2
    go_ret2
    exact ⟨rfl, G⟩
set_option maxRecDepth 100000 in
set_option maxHeartbeats 4000000 in
theorem Merge_no2 (n : Int) (v1 v2 : Value) (a b : List Rc) (i0 e0 : Int) (w : World) (hv1 : RecsAt w v1 a) (hv2 : RecsAt w v2 b) (h0 : e0 ≠ 0)
    (hc : (∀ u, Gr w u → Calls Tryz.prog 16 #[.int .i64 n, v1] u fun e w' => e = .returned (.tuple #[.int .i64 0, .int .i64 0]) ∧ Gr u w'))
    (hc2 : (∀ u, Gr w u → Calls Tryz.prog 16 #[.int .i64 n, v2] u fun e w' => e = .returned (.tuple #[.int .i64 i0, .int .i64 e0]) ∧ Gr u w')) :
    Calls Tryz.prog 20 #[.int .i64 n, v1, v2] w fun e w' => e = .returned (.tuple #[.slice none 0 0, .int .i64 e0]) ∧ Gr w w' := by
  have CH := Lib.hid hc
  have CH2 := Lib.hid hc2
  have h1 : (e0 == 0) = false := by simpa using h0
  have h2 : decide (e0 = 0) = false := by simpa using h0
  obtain ⟨aa, capa, rfl, -, -⟩ := hv1
  obtain ⟨ab, capb, rfl, -, -⟩ := hv2
  have bx := heap_alloc_self w (.cells #[.slice aa a.length capa, .slice ab b.length capb] 32)
  have g0 : Gr w (w.alloc (.cells #[.slice aa a.length capa, .slice ab b.length capb] 32)) := (Gr.refl w).alloc _
  clear hc hc2
  go_enter Tryz.func20, Tryz.ntmps20
  go_wp2
  generalize w.alloc (.cells #[.slice aa a.length capa, .slice ab b.length capb] 32) = W at *
  obtain ⟨p, hp⟩ : ∃ p, w.heap.size = p := ⟨_, rfl⟩
  rw [hp] at bx
  simp only [hp]
  clear hp
  go_loopw [9, 10, 11, 21] (fun _ _ _ q wr => ∃ i : Nat, q = .int .i64 i ∧ i ≤ 1 ∧ Gr W wr) (fun _ _ _ q _ => 1 - (intOf q).toNat)
  case atStart => exact ⟨0, rfl, by omega, Gr.refl _⟩
  case round =>
    obtain ⟨i, rfl, hi, gr⟩ := hrel
    obtain ⟨cx, fx, zx⟩ := blk_cells (gr.heap bx)
    rcases (show i = 0 ∨ i = 1 by omega) with rfl | rfl
    · go_wp2_with fail
      refine (CH.out _ (g0.trans gr)).mono ?_
      rintro e w1 ⟨rfl, hg1⟩
      have G := gr.trans hg1
      clear cx fx zx gr hg1
      go_wp2
      exact ⟨⟨1, by simp, by omega, G⟩, by simp [intOf]⟩
    · go_wp2_with fail
      refine (CH2.out _ (g0.trans gr)).mono ?_
      rintro e w1 ⟨rfl, hg1⟩
      have G := (g0.trans gr).trans hg1
      clear cx fx zx
      go_wp2
      go_ret2
      exact ⟨rfl, G⟩
set_option maxRecDepth 100000 in
set_option maxHeartbeats 16000000 in
theorem Merge_yes (n : Int) (v1 v2 : Value) (a b : List Rc) (w : World) (hv1 : RecsAt w v1 a) (hv2 : RecsAt w v2 b) (hla : a.length ≤ 1000) (hlb : b.length ≤ 1000) (ha : KeyS a)
    (hc : (∀ u, Gr w u → Calls Tryz.prog 16 #[.int .i64 n, v1] u fun e w' => e = .returned (.tuple #[.int .i64 0, .int .i64 0]) ∧ Gr u w'))
    (hc2 : (∀ u, Gr w u → Calls Tryz.prog 16 #[.int .i64 n, v2] u fun e w' => e = .returned (.tuple #[.int .i64 0, .int .i64 0]) ∧ Gr u w')) :
    Calls Tryz.prog 20 #[.int .i64 n, v1, v2] w fun e w' => ((mrgK a b = none ∧ e = .returned (.tuple #[.slice none 0 0, .int .i64 96])) ∨ ∃ m v', mrgK a b = some m ∧ e = .returned (.tuple #[v', .int .i64 0]) ∧ w'.ownsRow w.heap.size 23 4 v' m.length (rcs m)) ∧ Gr w w' := by
  have CH := Lib.hid hc
  have CH2 := Lib.hid hc2
  have CL := Lib.hid (fun u (g : Gr w u) => CloneA_any v1 a u (hv1.gr g) (by omega))
  obtain ⟨aa, capa, rfl, -, -⟩ := hv1
  obtain ⟨ab, capb, rfl, hcapb, hcell⟩ := hv2
  have HC := Lib.hid hcell
  have HKA := Lib.hid ha
  have bx := heap_alloc_self w (.cells #[.slice aa a.length capa, .slice ab b.length capb] 32)
  have g0 : Gr w (w.alloc (.cells #[.slice aa a.length capa, .slice ab b.length capb] 32)) := (Gr.refl w).alloc _
  clear hc hc2 hcell ha
  go_enter Tryz.func20, Tryz.ntmps20
  go_wp2
  generalize w.alloc (.cells #[.slice aa a.length capa, .slice ab b.length capb] 32) = W at *
  obtain ⟨p, hp⟩ : ∃ p, w.heap.size = p := ⟨_, rfl⟩
  rw [hp] at bx
  simp only [hp]
  have HP := Lib.hid hp
  clear hp
  go_loopw [9, 10, 11, 21] (fun _ _ _ q wr => ∃ i : Nat, q = .int .i64 i ∧ i ≤ 2 ∧ Gr W wr) (fun _ _ _ q _ => 2 - (intOf q).toNat)
  case atStart => exact ⟨0, rfl, by omega, Gr.refl _⟩
  case round =>
    obtain ⟨i, rfl, hi, gr⟩ := hrel
    rcases (show i = 0 ∨ i = 1 ∨ i = 2 by omega) with rfl | rfl | rfl
    · obtain ⟨cx, fx, zx⟩ := blk_cells (gr.heap bx)
      go_wp2_with fail
      refine (CH.out _ (g0.trans gr)).mono ?_
      rintro e w1 ⟨rfl, hg1⟩
      have G := gr.trans hg1
      clear cx fx zx gr hg1
      go_wp2
      exact ⟨⟨1, by simp, by omega, G⟩, by simp [intOf]⟩
    · obtain ⟨cx, fx, zx⟩ := blk_cells (gr.heap bx)
      go_wp2_with fail
      refine (CH2.out _ (g0.trans gr)).mono ?_
      rintro e w1 ⟨rfl, hg1⟩
      have G := gr.trans hg1
      clear cx fx zx gr hg1
      go_wp2
      exact ⟨⟨2, by simp, by omega, G⟩, by simp [intOf]⟩
    · go_wp2_with fail
      refine (CL.out _ (g0.trans gr)).mono ?_
      rintro e w2 ⟨v0, rfl, hown, hg2⟩
      have G2 := (g0.trans gr).trans hg2
      have HO0 : Hid (w2.ownsRow p 23 4 v0 a.length (rcs a)) := Lib.hid (World.ownsRow.mono hown (by rw [← HP.out]; exact (g0.trans gr).b.size))
      clear bx g0 gr hown hg2 CH CH2 CL
      go_wp2
      go_loopw [12, 14, 15, 16, 39] (fun o _ _ _ q wr => ∃ (i : Nat) (m : List Rc), q = .int .i64 i ∧ i ≤ b.length ∧ m.length ≤ a.length + i ∧ Hid (KeyS m) ∧ Hid (mrgK a b = mrgK m (b.drop i)) ∧ Hid (wr.ownsRow p 23 4 o m.length (rcs m)) ∧ Gr w wr) (fun _ _ _ _ q _ => b.length - (intOf q).toNat)
      case atStart => exact ⟨0, a, rfl, by omega, by omega, HKA, Lib.hid (by rw [List.drop_zero]), HO0, G2⟩
      case round =>
        obtain ⟨i, m, rfl, hib, hml, HK, HM, HO, gr⟩ := hrel
        by_cases hil : i < b.length
        · have hil' : (i : Int) < b.length := by omega
          have hi0 : (0 : Int) ≤ i := by omega
          obtain ⟨g, o, rfl, hgl, c0, c1, c2, c3⟩ := HC.out i hil
          rw [← gr.cells.1 g _ hgl] at c0 c1 c2 c3
          have hz : g < wr.heap.size := Nat.lt_of_lt_of_le hgl gr.b.size
          have HST := Lib.hid (mrgK_step (m := m) hil)
          generalize b[i] = x at *
          obtain ⟨ao, co, rfl⟩ := own_slice HO.out
          have HXV : Hid (x.v = .agg #[.int .i64 x.s, .int .i64 x.k, .int .i64 x.d, .string x.t]) := Lib.hid rfl
          have bx := heap_alloc_self wr (.cells #[.int .i64 x.s, .int .i64 x.k, .int .i64 x.d, .string x.t] 23)
          have gx : Gr wr (wr.alloc (.cells #[.int .i64 x.s, .int .i64 x.k, .int .i64 x.d, .string x.t] 23)) := (Gr.refl wr).alloc _
          have HO1 := Lib.hid (ownsRow_g HO.out gx)
          have hpw : p ≤ wr.heap.size := by rw [← HP.out]; exact gr.b.size
          obtain ⟨pos, hpos⟩ : ∃ pos, posK m x = pos := ⟨_, rfl⟩
          have hpl : pos ≤ m.length := by rw [← hpos]; exact posK_le m x
          obtain ⟨fb, hfb⟩ : ∃ fb, (if h : pos < m.length then decide (cmpR m[pos] x = 0) else false) = fb := ⟨_, rfl⟩
          have hm6 : m.length ≤ 1000000 := by omega
          have SE := Lib.hid (fun u (hu : u.ownsRow p 23 4 (.slice ao m.length co) m.length (rcs m)) => search_any (.slice ao m.length co) m x pos fb u (World.ownsRow.mono hu (Nat.zero_le _)) hm6 hpl (fun j hj h => posK_lt j hj (by rw [hpos]; exact h)) (fun j hj h => posK_ge HK.out j hj (by rw [hpos]; exact h)) (fun h => by rw [← hfb, dif_pos h]) (fun h => by rw [← hfb, dif_neg h]))
          have HPOS := Lib.hid hpos
          have HFB := Lib.hid hfb
          clear hpos hfb
          rw [HXV.out] at SE
          go_wp2_with fail
          generalize wr.alloc (.cells #[.int .i64 x.s, .int .i64 x.k, .int .i64 x.d, .string x.t] 23) = W3 at *
          obtain ⟨px, hpx⟩ : ∃ q, wr.heap.size = q := ⟨_, rfl⟩
          rw [hpx] at bx
          simp only [hpx]
          clear c0 c1 c2 c3 hz hpw hpx
          refine (SE.out _ HO1.out).mono ?_
          rintro e w4 ⟨rfl, hg4⟩
          have bx4 := hg4.heap bx
          have HO4 := Lib.hid (ownsRow_g HO1.out hg4)
          have G4 : Gr w w4 := (gr.trans gx).trans hg4
          clear bx HO1 HO SE hg4 gx gr
          obtain ⟨cx, fx, zx⟩ := blk_cells bx4
          cases fb
          · have HA : Hid (mrgK a b = mrgK (insK m x) (b.drop (i+1))) := Lib.hid (by
              rw [HM.out, HST.out, addK_new (fun hp => by
                have h1 := HFB.out
                rw [HPOS.out] at hp
                rw [dif_pos hp] at h1
                simp only [HPOS.out]
                simpa using h1)]
              rfl)
            have HI : Hid (m.take pos ++ [x] ++ m.drop pos = insK m x) := Lib.hid (by rw [← HPOS.out]; rfl)
            have HKI : Hid (KeyS (insK m x)) := Lib.hid (addK_keys HK.out (addK_new (fun hp => by
                have h1 := HFB.out
                rw [HPOS.out] at hp
                rw [dif_pos hp] at h1
                simp only [HPOS.out]
                simpa using h1)))
            have hil2 : (insK m x).length ≤ a.length + (i + 1) := by rw [insK_len]; omega
            go_wp2_with fail
            refine wp_region_steps [.val (.bool false), .val (.bool false), .off, .off, .off, .off, .off, .off, .val (.bool false), .val (.bool false)] (by kernel_rfl) (by kernel_rfl) (fun V => by first | (simp only [finS, Step.isLater, Bool.false_eq_true, if_false, Act.put, Step.value, List.setIfInBounds_toArray, List.set_cons_zero, List.set_cons_succ]; rfl) | (simp only [finS, Step.isLater, Bool.false_eq_true, if_false, if_true, Act.put, Step.value, List.setIfInBounds_toArray, List.set_cons_zero, List.set_cons_succ, Nat.zero_add, Nat.reduceAdd]; rfl)) ?_ ?_
            · refine ⟨?_, ?_, ?_, ?_, ?_, ?_, ?_, ?_, ?_, ?_, trivial⟩ <;> (first | exact trivial | (refine ⟨(by intro v u u1 h g; obtain ⟨b, rfl, h⟩ := h; exact ⟨b, rfl, g.heap h⟩), ?_⟩; intro V u hu hk; refine ⟨by kernel_rfl, ?_⟩; go_simp; exact ⟨⟨_, rfl, heap_alloc_self _ _⟩, (Gr.refl _).alloc _⟩) | (refine ⟨(by intro v u u1 h g; first | exact ownsRow_g h g | exact st_and h g | exact h), ?_⟩; intro V u hu hk; refine ⟨by kernel_rfl, turn_owes (by kernel_rfl) ?_⟩; obtain ⟨hc, hf, hz⟩ := hu.cells; go_simp; skip) | (refine ⟨(by intro v u u1 h g; first | exact ownsRow_g h g | exact st_and h g | exact h), ?_⟩; intro V u hu hk; refine ⟨by kernel_rfl, ?_⟩; obtain ⟨hc, hf, hz⟩ := hu.cells; go_simp; skip) | (intro V u hu hk; refine ⟨by kernel_rfl, ?_⟩; obtain ⟨hc, hf, hz⟩ := hu.cells; go_simp; first | exact ⟨rfl, Gr.refl _⟩ | skip) | (intro V u hu hk; show _ = false; kernel_rfl))
            · intro V u hg hsx
              have bx5 := hg.heap bx4
              have HO5 := Lib.hid (ownsRow_g HO4.out hg)
              have G5 := G4.trans hg
              clear cx fx zx bx4 HO4 hg hsx G4
              obtain ⟨cx, fx, zx⟩ := blk_cells bx5
              have bn := heap_alloc_self u (.cells #[.int .i64 x.s, .int .i64 x.k, .int .i64 x.d, .string x.t] 23)
              have gn : Gr u (u.alloc (.cells #[.int .i64 x.s, .int .i64 x.k, .int .i64 x.d, .string x.t] 23)) := (Gr.refl u).alloc _
              have HO6 := Lib.hid (ownsRow_g HO5.out gn)
              have hpu : p ≤ (u.alloc (.cells #[.int .i64 x.s, .int .i64 x.k, .int .i64 x.d, .string x.t] 23)).heap.size := by rw [← HP.out]; exact (G5.trans gn).b.size
              have IN := Lib.hid (Insert_any p (.slice ao m.length co) m x pos u.heap.size 1 _ hpu HO6.out bn (fun hq => by have := (HO5.out.lt _ hq).2; omega) hpl hm6)
              have G6 := G5.trans gn
              clear bn gn hpu
              go_simp
              go_wp2_with fail
              refine IN.out.mono ?_
              rintro e w7 ⟨v7, rfl, hown7, hg7⟩
              rw [HI.out] at hown7
              have HN := Lib.hid hown7
              have G7 : Gr w w7 := GrL.gr G6 hg7 (fun k hk => by
                rw [HP.out]
                exact (HO6.out.lt k (by simpa using hk)).1)
              clear hown7 hg7 IN HO5 HO6 G5 G6 cx fx zx bx5
              go_wp2
              exact ⟨⟨i + 1, insK m x, by simp, by omega, hil2, HKI, HA, HN, G7⟩, by simp [intOf]; omega⟩
          · have hp2 : pos < m.length := by
              have h1 := HFB.out
              by_cases h : pos < m.length
              · exact h
              · rw [dif_neg h] at h1; cases h1
            have hc0 : cmpR m[pos] x = 0 := by
              have h1 := HFB.out
              rw [dif_pos hp2] at h1
              simpa using h1
            obtain ⟨gm, om, rfl, hgm, d0, d1, d2, d3⟩ := (recs_of_own HO4.out).cells.2 pos hp2
            have hpp : (0 : Int) ≤ pos := by omega
            have hpp2 : (pos : Int) < m.length := by omega
            obtain ⟨bq, hbq⟩ : ∃ b, (!decide (m[pos] = x)) = b := ⟨_, rfl⟩
            have NE := Lib.hid hbq.symm
            cases bq
            · have HA : Hid (mrgK a b = mrgK m (b.drop (i+1))) := Lib.hid (by
                rw [HM.out, HST.out, addK_hit (by rw [HPOS.out]; exact hp2) (by simp only [HPOS.out]; exact hc0) (by simp only [HPOS.out]; simpa using hbq)]
                rfl)
              clear hbq hc0 HFB
              generalize m[pos] = y at *
              go_wp2_with fail
              refine wp_region_steps [.val (.bool true), .val (.bool true), .val (.slice (some ⟨gm, om, none⟩) m.length co), .val (.int .i64 pos), .val (.pointer (some ⟨gm, om + pos * 4, none⟩)), .val y.v, .val x.v, .val (.bool false), .val (.bool false), .val (.bool false)] (by kernel_rfl) (by kernel_rfl) (fun V => by first | (simp only [finS, Step.isLater, Bool.false_eq_true, if_false, Act.put, Step.value, List.setIfInBounds_toArray, List.set_cons_zero, List.set_cons_succ]; rfl) | (simp only [finS, Step.isLater, Bool.false_eq_true, if_false, if_true, Act.put, Step.value, List.setIfInBounds_toArray, List.set_cons_zero, List.set_cons_succ, Nat.zero_add, Nat.reduceAdd]; rfl)) ?_ ?_
              · refine ⟨?_, ?_, ?_, ?_, ?_, ?_, ?_, ?_, ?_, ?_, trivial⟩ <;> (first | exact trivial | (refine ⟨(by intro v u u1 h g; obtain ⟨b, rfl, h⟩ := h; exact ⟨b, rfl, g.heap h⟩), ?_⟩; intro V u hu hk; refine ⟨by kernel_rfl, ?_⟩; go_simp; exact ⟨⟨_, rfl, heap_alloc_self _ _⟩, (Gr.refl _).alloc _⟩) | (refine ⟨(by intro v u u1 h g; first | exact ownsRow_g h g | exact st_and h g | exact h), ?_⟩; intro V u hu hk; refine ⟨by kernel_rfl, turn_owes (by kernel_rfl) ?_⟩; obtain ⟨hc, hf, hz⟩ := hu.cells; go_simp; skip) | (refine ⟨(by intro v u u1 h g; first | exact ownsRow_g h g | exact st_and h g | exact h), ?_⟩; intro V u hu hk; refine ⟨by kernel_rfl, ?_⟩; obtain ⟨hc, hf, hz⟩ := hu.cells; go_simp; skip) | (intro V u hu hk; refine ⟨by kernel_rfl, ?_⟩; obtain ⟨hc, hf, hz⟩ := hu.cells; go_simp; first | exact ⟨rfl, Gr.refl _⟩ | skip) | (intro V u hu hk; show _ = false; kernel_rfl))
                exact came_neq y x _ _ NE.out
              · intro V u hg hsx
                have HN := Lib.hid (ownsRow_g HO4.out hg)
                have G5 := G4.trans hg
                clear cx fx zx d0 d1 d2 d3 hg hsx
                go_simp
                go_wp2
                exact ⟨⟨i + 1, m, by simp, by omega, by omega, HK, HA, HN, G5⟩, by simp [intOf]; omega⟩
            · have HN : Hid (mrgK a b = none) := Lib.hid (by
                rw [HM.out, HST.out, addK_part (by rw [HPOS.out]; exact hp2) (by simp only [HPOS.out]; exact hc0) (by simp only [HPOS.out]; simpa using hbq)]
                rfl)
              clear hbq hc0 HFB
              generalize m[pos] = y at *
              go_wp2_with fail
              refine wp_region_steps [.val (.bool true), .val (.bool true), .val (.slice (some ⟨gm, om, none⟩) m.length co), .val (.int .i64 pos), .val (.pointer (some ⟨gm, om + pos * 4, none⟩)), .val y.v, .val x.v, .val (.bool true), .val (.bool true), .val (.bool true)] (by kernel_rfl) (by kernel_rfl) (fun V => by first | (simp only [finS, Step.isLater, Bool.false_eq_true, if_false, Act.put, Step.value, List.setIfInBounds_toArray, List.set_cons_zero, List.set_cons_succ]; rfl) | (simp only [finS, Step.isLater, Bool.false_eq_true, if_false, if_true, Act.put, Step.value, List.setIfInBounds_toArray, List.set_cons_zero, List.set_cons_succ, Nat.zero_add, Nat.reduceAdd]; rfl)) ?_ ?_
              · refine ⟨?_, ?_, ?_, ?_, ?_, ?_, ?_, ?_, ?_, ?_, trivial⟩ <;> (first | exact trivial | (refine ⟨(by intro v u u1 h g; obtain ⟨b, rfl, h⟩ := h; exact ⟨b, rfl, g.heap h⟩), ?_⟩; intro V u hu hk; refine ⟨by kernel_rfl, ?_⟩; go_simp; exact ⟨⟨_, rfl, heap_alloc_self _ _⟩, (Gr.refl _).alloc _⟩) | (refine ⟨(by intro v u u1 h g; first | exact ownsRow_g h g | exact st_and h g | exact h), ?_⟩; intro V u hu hk; refine ⟨by kernel_rfl, turn_owes (by kernel_rfl) ?_⟩; obtain ⟨hc, hf, hz⟩ := hu.cells; go_simp; skip) | (refine ⟨(by intro v u u1 h g; first | exact ownsRow_g h g | exact st_and h g | exact h), ?_⟩; intro V u hu hk; refine ⟨by kernel_rfl, ?_⟩; obtain ⟨hc, hf, hz⟩ := hu.cells; go_simp; skip) | (intro V u hu hk; refine ⟨by kernel_rfl, ?_⟩; obtain ⟨hc, hf, hz⟩ := hu.cells; go_simp; first | exact ⟨rfl, Gr.refl _⟩ | skip) | (intro V u hu hk; show _ = false; kernel_rfl))
                exact came_neq y x _ _ NE.out
              · intro V u hg hsx
                have G5 := G4.trans hg
                clear cx fx zx d0 d1 d2 d3 hg hsx
                go_simp
                go_wp2
                go_ret2
                exact ⟨.inl ⟨HN.out, rfl⟩, G5⟩
        · have hil' : ¬ (i : Int) < b.length := by omega
          obtain rfl : i = b.length := by omega
          have HMM : Hid (mrgK a b = some m) := Lib.hid (by rw [HM.out, List.drop_length]; rfl)
          go_wp2
          go_ret2
          exact ⟨.inr ⟨m, HMM.out, _, rfl, by rw [HP.out]; exact HO.out⟩, gr⟩
end Go.Proofs.YthmimjofdmnakaaGreatDoor
