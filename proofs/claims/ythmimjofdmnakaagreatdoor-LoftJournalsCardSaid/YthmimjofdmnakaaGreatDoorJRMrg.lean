/- strickleref09: Merge. -/
import Derived.Test.YthmimjofdmnakaaGreatDoorJMrgF
namespace Go.Proofs.YthmimjofdmnakaaGreatDoor
open Go.RowKit Go.Shelf Go.Lib
theorem mrgF_none {a b : List Rc} {s : Nat} (h : mrgF a b s = none) : ∀ t, s ≤ t → mrgF a b t = none
  | 0, ht => by obtain rfl : s = 0 := by omega
                exact h
  | t + 1, ht => by
    by_cases e : s = t + 1
    · subst e; exact h
    · rw [mrgF, mrgF_none h t (by omega)]; rfl
theorem mrgF_stop {a b m : List Rc} {s i : Nat} (h1 : mrgF a b s = some m) (i1 : i < (ofR a s).length) (i2 : i < (ofR b s).length) (hne : (ofR a s)[i] ≠ (ofR b s)[i]) : mrgF a b (s+1) = none := by
  rw [mrgF, h1, Option.bind_some, if_neg (fun hg => hne (hg i i1 i2))]
theorem mrgF_go {a b m : List Rc} {s : Nat} (h1 : mrgF a b s = some m) (hg : agree (ofR a s) (ofR b s)) : mrgF a b (s+1) = some (m ++ lonR (ofR a s) (ofR b s)) := by
  rw [mrgF, h1, Option.bind_some, if_pos hg]
set_option maxRecDepth 100000 in
set_option maxHeartbeats 4000000 in
theorem rMerge_no (n : Int) (v1 v2 : Value) (i0 e0 : Int) (w : World) (h0 : e0 ≠ 0)
    (hc : (∀ u, Gr w u → Calls Tryz.prog 17 #[.int .i64 n, v1] u fun e w' => e = .returned (.tuple #[.int .i64 i0, .int .i64 e0]) ∧ Gr u w')) :
    Calls Tryz.prog 21 #[.int .i64 n, v1, v2] w fun e w' => e = .returned (.tuple #[.slice none 0 0, .int .i64 e0]) ∧ Gr w w' := by
  have CH := Lib.hid hc
  have h1 : (e0 == 0) = false := by simpa using h0
  have h2 : decide (e0 = 0) = false := by simpa using h0
  clear hc
  go_enter Tryz.func21, Tryz.ntmps21
  go_wp2_with fail
  refine (CH.out _ (Gr.refl w)).mono ?_
  rintro e w1 ⟨rfl, hg1⟩
  go_wp2
  go_ret2
  exact ⟨rfl, hg1⟩
set_option maxRecDepth 100000 in
set_option maxHeartbeats 4000000 in
theorem rMerge_no2 (n : Int) (v1 v2 : Value) (i0 e0 : Int) (w : World) (h0 : e0 ≠ 0)
    (hc : (∀ u, Gr w u → Calls Tryz.prog 17 #[.int .i64 n, v1] u fun e w' => e = .returned (.tuple #[.int .i64 0, .int .i64 0]) ∧ Gr u w'))
    (hc2 : (∀ u, Gr w u → Calls Tryz.prog 17 #[.int .i64 n, v2] u fun e w' => e = .returned (.tuple #[.int .i64 i0, .int .i64 e0]) ∧ Gr u w')) :
    Calls Tryz.prog 21 #[.int .i64 n, v1, v2] w fun e w' => e = .returned (.tuple #[.slice none 0 0, .int .i64 e0]) ∧ Gr w w' := by
  have CH := Lib.hid hc
  have CH2 := Lib.hid hc2
  have h1 : (e0 == 0) = false := by simpa using h0
  have h2 : decide (e0 = 0) = false := by simpa using h0
  clear hc hc2
  go_enter Tryz.func21, Tryz.ntmps21
  go_wp2_with fail
  refine (CH.out _ (Gr.refl w)).mono ?_
  rintro e w1 ⟨rfl, hg1⟩
  go_wp2_with fail
  refine (CH2.out _ hg1).mono ?_
  rintro e w2 ⟨rfl, hg2⟩
  have G := hg1.trans hg2
  clear hg1 hg2
  go_wp2
  go_ret2
  exact ⟨rfl, G⟩
theorem wpList_append_runR {P : Program} (w : World) {ops : Array Oper} {rest : List Oper} {o : Oper} {a : Act} {Q : Exit → Act → World → Prop} (hgd : o.guard = none) (d s : Operand) (t t' : TypeId)
    (ho : o.op = .call { callee := .builtin .append, args := #[d, s], argTypes := #[t, t'] }) (v u : Value) (hd : a.eval d = v) (hs : a.eval s = u) {v' : Value} {w' : World}
    (hr : (Builtin.append_ #[t, t'] o.type #[v, u]).run P w = .ok v' w') (h : wpList P ops Q rest (a.put o.dst v') w') : wpList P ops Q (o :: rest) a w :=
  wpList_plain hgd fun _ hK => by
    unfold Oper.wp execOp
    simp only [ho, resolve, invoke, builtin, Sem.run_bind, Sem.run_pure, Result.andThen_ok, List.map_toArray, List.map_cons, List.map_nil, hd, hs, hr]
    exact hK _ _ h
theorem RecsAt.cells {w : World} {a : Option Addr} {n cap : Nat} {l : List Rc} (h : RecsAt w (.slice a n cap) l) : n = l.length ∧ ∀ j (hj : j < l.length), ∃ g o, a = some ⟨g, o, none⟩ ∧ g < w.heap.size ∧
    w.cell? ⟨g, o + j * 4, none⟩ = some (.int .i64 l[j].s) ∧ w.cell? ⟨g, o + j * 4 + 1, none⟩ = some (.int .i64 l[j].k) ∧ w.cell? ⟨g, o + j * 4 + 2, none⟩ = some (.int .i64 l[j].d) ∧ w.cell? ⟨g, o + j * 4 + 3, none⟩ = some (.string l[j].t) := by
  obtain ⟨a', cap', hv, hc, hr⟩ := h
  injection hv with h1 h2 h3
  subst h1
  exact ⟨h2, hr⟩
set_option maxRecDepth 100000 in
set_option maxHeartbeats 8000000 in
theorem rMerge_yes (n : Int) (v1 v2 : Value) (a b : List Rc) (w : World) (hn0 : 0 ≤ n) (hn2 : n ≤ 1000) (hv1 : RecsAt w v1 a) (hv2 : RecsAt w v2 b) (hla : a.length ≤ 1000) (hlb : b.length ≤ 1000)
    (hc : (∀ u, Gr w u → Calls Tryz.prog 17 #[.int .i64 n, v1] u fun e w' => e = .returned (.tuple #[.int .i64 0, .int .i64 0]) ∧ Gr u w'))
    (hc2 : (∀ u, Gr w u → Calls Tryz.prog 17 #[.int .i64 n, v2] u fun e w' => e = .returned (.tuple #[.int .i64 0, .int .i64 0]) ∧ Gr u w')) :
    Calls Tryz.prog 21 #[.int .i64 n, v1, v2] w fun e w' => ((mrgF a b n.toNat = none ∧ e = .returned (.tuple #[.slice none 0 0, .int .i64 96])) ∨ ∃ m v', mrgF a b n.toNat = some m ∧ e = .returned (.tuple #[v', .int .i64 0]) ∧ w'.ownsRow w.heap.size 23 4 v' m.length (rcs m)) ∧ Gr w w' := by
  have CH := Lib.hid hc
  have CH2 := Lib.hid hc2
  obtain ⟨N, rfl⟩ : ∃ N : Nat, n = N := ⟨n.toNat, by omega⟩
  rw [Int.toNat_natCast]
  have OA := Lib.hid (fun (s : Nat) u (g : Gr w u) => of_any v1 a s u (hv1.gr g) (by omega))
  have OB := Lib.hid (fun (s : Nat) u (g : Gr w u) => of_any v2 b s u (hv2.gr g) (by omega))
  clear hc hc2 hv1 hv2
  go_enter Tryz.func21, Tryz.ntmps21
  go_wp2_with fail
  refine (CH.out _ (Gr.refl w)).mono ?_
  rintro e w1 ⟨rfl, hg1⟩
  go_wp2_with fail
  refine (CH2.out _ hg1).mono ?_
  rintro e w2 ⟨rfl, hg2⟩
  have G2 := hg1.trans hg2
  clear hg1 hg2 CH CH2
  go_wp2
  go_loopw [10, 11, 12, 13, 14] (fun o q _ _ _ wr => ∃ (s : Nat) (m : List Rc), q = .int .i64 s ∧ s ≤ N ∧ m.length ≤ s * 1000 ∧ Hid (mrgF a b s = some m) ∧ Hid (wr.ownsRow w.heap.size 23 4 o m.length (rcs m)) ∧ Gr w wr) (fun _ q _ _ _ _ => N - (intOf q).toNat)
  case atStart => exact ⟨0, [], rfl, by omega, by simp, Lib.hid rfl, Lib.hid (World.ownsRow_nil _ _ _ _), G2⟩
  case round =>
    obtain ⟨s, m, rfl, hs, hml, HM, HO, gr⟩ := hrel
    by_cases hsN : s < N
    · have hsN' : (s : Int) < N := by omega
      go_wp2_with fail
      refine (OA.out s _ gr).mono ?_
      rintro e w3 ⟨x, rfl, ox, hg3⟩
      go_wp2_with fail
      refine (OB.out s _ (gr.trans hg3)).mono ?_
      rintro e w4 ⟨y, rfl, oy, hg4⟩
      have G4 := (gr.trans hg3).trans hg4
      have HOX := Lib.hid (ownsRow_g (World.ownsRow.mono (base' := w.heap.size) ox gr.b.size) hg4)
      have HOY := Lib.hid (World.ownsRow.mono (base' := w.heap.size) oy (gr.trans hg3).b.size)
      have HO4 := Lib.hid (ownsRow_g HO.out (hg3.trans hg4))
      have hlx : (ofR a s).length ≤ 1000 := by have := ofR_le a s; omega
      have hly : (ofR b s).length ≤ 1000 := by have := ofR_le b s; omega
      clear ox oy hg3 hg4 HO
      have HST := Lib.hid (fun i i1 i2 hne => mrgF_none (mrgF_stop (i := i) HM.out i1 i2 hne) N (by omega))
      have HGO := Lib.hid (fun hg => mrgF_go (a := a) (b := b) HM.out hg)
      obtain ⟨ax, cx, rfl⟩ := own_slice HOX.out
      obtain ⟨ay, cy, rfl⟩ := own_slice HOY.out
      have HRX := Lib.hid (recs_of_own HOX.out)
      have HRY := Lib.hid (recs_of_own HOY.out)
      obtain ⟨X, hX⟩ : ∃ X, ofR a s = X := ⟨_, rfl⟩
      obtain ⟨Y, hY⟩ : ∃ Y, ofR b s = Y := ⟨_, rfl⟩
      simp only [hX, hY] at *
      clear hX hY
      obtain ⟨ao, co, rfl⟩ := own_slice HO4.out
      obtain ⟨i0, hi, hz0, hz1, hz2⟩ := info_parts info_rec
      have HCX := Lib.hid HRX.out.cells.2
      have HCY := Lib.hid HRY.out.cells.2
      go_wp2
      go_loopw [14] (fun q wr2 => ∃ i : Nat, q = .int .i64 i ∧ i ≤ X.length ∧ i ≤ Y.length ∧ Hid (∀ j (h1 : j < X.length) (h2 : j < Y.length), j < i → X[j] = Y[j]) ∧ Gr w4 wr2) (fun q _ => X.length - (intOf q).toNat)
      case atStart => exact ⟨0, rfl, by omega, by omega, Lib.hid (fun j _ _ h => absurd h (Nat.not_lt_zero _)), Gr.refl _⟩
      case round =>
        obtain ⟨i, rfl, hi1, hi2, HE, gi⟩ := hrel
        by_cases hx : i < X.length
        · have hx' : (i : Int) < X.length := by omega
          by_cases hy : i < Y.length
          · have hy' : (i : Int) < Y.length := by omega
            obtain ⟨g, o, rfl, hgl, c0, c1, c2, c3⟩ := HCX.out i hx
            obtain ⟨g2, o2, rfl, hgl2, d0, d1, d2, d3⟩ := HCY.out i hy
            rw [← gi.cells.1 g _ hgl] at c0 c1 c2 c3
            rw [← gi.cells.1 g2 _ hgl2] at d0 d1 d2 d3
            have hz : g < wr.heap.size := Nat.lt_of_lt_of_le hgl gi.b.size
            have hz2 : g2 < wr.heap.size := Nat.lt_of_lt_of_le hgl2 gi.b.size
            have hi0 : (0 : Int) ≤ i := by omega
            obtain ⟨bq, hbq⟩ : ∃ b, (!decide (X[i] = Y[i])) = b := ⟨_, rfl⟩
            have NE := Lib.hid hbq.symm
            by_cases hs : X[i] = Y[i]
            · have HI : Hid (∀ j (h1 : j < X.length) (h2 : j < Y.length), j < i + 1 → X[j] = Y[j]) := Lib.hid (fun j h1 h2 hji => by
                rcases Nat.lt_or_ge j i with h | h
                · exact HE.out j h1 h2 h
                · obtain rfl : j = i := by omega
                  exact hs)
              obtain rfl : false = bq := by rw [← hbq, decide_eq_true hs]; rfl
              generalize X[i] = x at *
              generalize Y[i] = y at *
              clear hs hbq
              go_wp2_with fail
              refine wp_region_steps [.val (.slice (some ⟨g, o, none⟩) X.length cx), .val (.int .i64 i), .val (.pointer (some ⟨g, o + i * 4, none⟩)), .val x.v, .val (.slice (some ⟨g2, o2, none⟩) Y.length cy), .val (.int .i64 i), .val (.pointer (some ⟨g2, o2 + i * 4, none⟩)), .val y.v, .val (.bool false)] (by kernel_rfl) (by kernel_rfl) (fun V => by first | (simp only [finS, Step.isLater, Bool.false_eq_true, if_false, Act.put, Step.value, List.setIfInBounds_toArray, List.set_cons_zero, List.set_cons_succ]; rfl) | (simp only [finS, Step.isLater, Bool.false_eq_true, if_false, if_true, Act.put, Step.value, List.setIfInBounds_toArray, List.set_cons_zero, List.set_cons_succ, Nat.zero_add, Nat.reduceAdd]; rfl)) ?_ ?_
              · refine ⟨?_, ?_, ?_, ?_, ?_, ?_, ?_, ?_, ?_, trivial⟩ <;> (first | exact trivial | (refine ⟨(by intro v u u1 h g; obtain ⟨b, rfl, h⟩ := h; exact ⟨b, rfl, g.heap h⟩), ?_⟩; intro V u hu hk; refine ⟨by kernel_rfl, ?_⟩; go_simp; exact ⟨⟨_, rfl, heap_alloc_self _ _⟩, (Gr.refl _).alloc _⟩) | (refine ⟨(by intro v u u1 h g; first | exact ownsRow_g h g | exact st_and h g | exact h), ?_⟩; intro V u hu hk; refine ⟨by kernel_rfl, turn_owes (by kernel_rfl) ?_⟩; obtain ⟨hc, hf, hz⟩ := hu.cells; go_simp; skip) | (refine ⟨(by intro v u u1 h g; first | exact ownsRow_g h g | exact st_and h g | exact h), ?_⟩; intro V u hu hk; refine ⟨by kernel_rfl, ?_⟩; obtain ⟨hc, hf, hz⟩ := hu.cells; go_simp; skip) | (intro V u hu hk; refine ⟨by kernel_rfl, ?_⟩; obtain ⟨hc, hf, hz⟩ := hu.cells; go_simp; first | exact ⟨rfl, Gr.refl _⟩ | skip) | (intro V u hu hk; show _ = false; kernel_rfl))
                exact came_neq x y _ _ NE.out
              · intro V u hg hsx
                have gu := gi.trans hg
                go_simp
                go_wp2
                refine ⟨?_, by simp [intOf]; omega⟩
                (repeat apply Exists.intro)
                exact ⟨(show Value.int .i64 ((i : Int) + 1) = .int .i64 ((i + 1 : Nat) : Int) by simp), by omega, by omega, HI, gu⟩
            · have HNN := Lib.hid (HST.out i hx hy hs)
              obtain rfl : true = bq := by rw [← hbq, decide_eq_false hs]; rfl
              generalize X[i] = x at *
              generalize Y[i] = y at *
              clear hs hbq
              go_wp2_with fail
              refine wp_region_steps [.val (.slice (some ⟨g, o, none⟩) X.length cx), .val (.int .i64 i), .val (.pointer (some ⟨g, o + i * 4, none⟩)), .val x.v, .val (.slice (some ⟨g2, o2, none⟩) Y.length cy), .val (.int .i64 i), .val (.pointer (some ⟨g2, o2 + i * 4, none⟩)), .val y.v, .val (.bool true)] (by kernel_rfl) (by kernel_rfl) (fun V => by first | (simp only [finS, Step.isLater, Bool.false_eq_true, if_false, Act.put, Step.value, List.setIfInBounds_toArray, List.set_cons_zero, List.set_cons_succ]; rfl) | (simp only [finS, Step.isLater, Bool.false_eq_true, if_false, if_true, Act.put, Step.value, List.setIfInBounds_toArray, List.set_cons_zero, List.set_cons_succ, Nat.zero_add, Nat.reduceAdd]; rfl)) ?_ ?_
              · refine ⟨?_, ?_, ?_, ?_, ?_, ?_, ?_, ?_, ?_, trivial⟩ <;> (first | exact trivial | (refine ⟨(by intro v u u1 h g; obtain ⟨b, rfl, h⟩ := h; exact ⟨b, rfl, g.heap h⟩), ?_⟩; intro V u hu hk; refine ⟨by kernel_rfl, ?_⟩; go_simp; exact ⟨⟨_, rfl, heap_alloc_self _ _⟩, (Gr.refl _).alloc _⟩) | (refine ⟨(by intro v u u1 h g; first | exact ownsRow_g h g | exact st_and h g | exact h), ?_⟩; intro V u hu hk; refine ⟨by kernel_rfl, turn_owes (by kernel_rfl) ?_⟩; obtain ⟨hc, hf, hz⟩ := hu.cells; go_simp; skip) | (refine ⟨(by intro v u u1 h g; first | exact ownsRow_g h g | exact st_and h g | exact h), ?_⟩; intro V u hu hk; refine ⟨by kernel_rfl, ?_⟩; obtain ⟨hc, hf, hz⟩ := hu.cells; go_simp; skip) | (intro V u hu hk; refine ⟨by kernel_rfl, ?_⟩; obtain ⟨hc, hf, hz⟩ := hu.cells; go_simp; first | exact ⟨rfl, Gr.refl _⟩ | skip) | (intro V u hu hk; show _ = false; kernel_rfl))
                exact came_neq x y _ _ NE.out
              · intro V u hg hsx
                have gu := G4.trans (gi.trans hg)
                go_simp
                go_wp2
                go_ret2
                exact ⟨.inl ⟨HNN.out, rfl⟩, gu⟩
          · have hy' : ¬ (i : Int) < Y.length := by omega
            have hg : agree X Y := fun j h1 h2 => HE.out j h1 h2 (by omega)
            have HMM := Lib.hid (HGO.out hg)
            have hlon : lonR X Y = X := by unfold lonR; rw [if_neg (by omega)]
            rw [hlon] at HMM
            have hyx : ¬ (X.length : Int) < Y.length := by omega
            have HW := Lib.hid (ownsRow_g HO4.out gi)
            have hm6 : m.length ≤ 1000000 := by omega
            rcases HOX.out.2 with ⟨hn, hz⟩ | ⟨gx, cx', cur, hv, -⟩
            · obtain rfl := List.eq_nil_of_length_eq_zero hz
              injection hn with ha _ hcc
              exact absurd hx (Nat.not_lt_zero _)
            · injection hv with ha _ hcc
              subst ha; subst hcc
              have HXF := Lib.hid (RecsAt.flat (recs_of_own (ownsRow_g HOX.out gi)))
              have hwb := gr.b.size
              have HB := Lib.hid (show w.heap.size ≤ wr.heap.size by have := G4.b.size; have := gi.b.size; omega)
              go_wp2_with (at_builtin; refine wpList_append_own _ rfl _ _ 32 rfl w.heap.size 23 i0 _ 4 40 Tryz.underlying32 hi hz0 hz1 hz2 rfl (by decide) _ _ _ rfl HW.out ⟨gx, 0, none⟩ X.length cx (rcs X) rfl (rcs_len X) ?c1 ?c2 ?c3 ?c4 ?c5 ?c6)
              case c1 =>
                intro j u hu
                have := HXF.out j u hu
                rw [Nat.zero_add] at this
                exact this
              case c2 => exact rcs_one X
              case c3 => unfold maxLen; omega
              case c4 => omega
              case c5 => exact HB.out
              case c6 =>
                intro v' w5 hown hgrow _
                have G5 : Gr w w5 := GrL.gr (G4.trans gi) (GrL.of_grown' hgrow) (fun k hk => (HW.out.lt k (by simpa using hk)).1)
                have HN : Hid (w5.ownsRow w.heap.size 23 4 v' (m ++ X).length (rcs (m ++ X))) := Lib.hid (by rw [rcs_append, List.length_append]; exact hown)
                clear hown hgrow
                go_wp2
                exact ⟨⟨s + 1, m ++ X, by simp, by omega, by rw [List.length_append]; omega, HMM, HN, G5⟩, by simp [intOf]; omega⟩
        · have hx' : ¬ (i : Int) < X.length := by omega
          by_cases hxy : X.length < Y.length
          · have hg : agree X Y := fun j h1 h2 => HE.out j h1 h2 (by omega)
            have HMM := Lib.hid (HGO.out hg)
            have hlon : lonR X Y = Y := by unfold lonR; rw [if_pos hxy]
            rw [hlon] at HMM
            have hyx : (X.length : Int) < Y.length := by omega
            have HW := Lib.hid (ownsRow_g HO4.out gi)
            have hm6 : m.length ≤ 1000000 := by omega
            rcases HOY.out.2 with ⟨hn, hz⟩ | ⟨gx, cx', cur, hv, -⟩
            · obtain rfl := List.eq_nil_of_length_eq_zero hz
              injection hn with ha _ hcc
              exact absurd hxy (Nat.not_lt_zero _)
            · injection hv with ha _ hcc
              subst ha; subst hcc
              have HXF := Lib.hid (RecsAt.flat (recs_of_own (ownsRow_g HOY.out gi)))
              have hwb := gr.b.size
              have HB := Lib.hid (show w.heap.size ≤ wr.heap.size by have := G4.b.size; have := gi.b.size; omega)
              go_wp2_with (at_builtin; refine wpList_append_own _ rfl _ _ 32 rfl w.heap.size 23 i0 _ 4 40 Tryz.underlying32 hi hz0 hz1 hz2 rfl (by decide) _ _ _ rfl HW.out ⟨gx, 0, none⟩ Y.length cy (rcs Y) rfl (rcs_len Y) ?c1 ?c2 ?c3 ?c4 ?c5 ?c6)
              case c1 =>
                intro j u hu
                have := HXF.out j u hu
                rw [Nat.zero_add] at this
                exact this
              case c2 => exact rcs_one Y
              case c3 => unfold maxLen; omega
              case c4 => omega
              case c5 => exact HB.out
              case c6 =>
                intro v' w5 hown hgrow _
                have G5 : Gr w w5 := GrL.gr (G4.trans gi) (GrL.of_grown' hgrow) (fun k hk => (HW.out.lt k (by simpa using hk)).1)
                have HN : Hid (w5.ownsRow w.heap.size 23 4 v' (m ++ Y).length (rcs (m ++ Y))) := Lib.hid (by rw [rcs_append, List.length_append]; exact hown)
                clear hown hgrow
                go_wp2
                exact ⟨⟨s + 1, m ++ Y, by simp, by omega, by rw [List.length_append]; omega, HMM, HN, G5⟩, by simp [intOf]; omega⟩
          · have hg : agree X Y := fun j h1 h2 => HE.out j h1 h2 (by omega)
            have HMM := Lib.hid (HGO.out hg)
            have hlon : lonR X Y = X := by unfold lonR; rw [if_neg hxy]
            rw [hlon] at HMM
            have hyx : ¬ (X.length : Int) < Y.length := by omega
            have HW := Lib.hid (ownsRow_g HO4.out gi)
            have hm6 : m.length ≤ 1000000 := by omega
            rcases HOX.out.2 with ⟨hn, hz⟩ | ⟨gx, cx', cur, hv, -⟩
            · obtain rfl := List.eq_nil_of_length_eq_zero hz
              injection hn with ha _ hcc
              subst ha; subst hcc
              have hmc : m.length ≤ co := by
                rcases HW.out.2 with ⟨hv, hz⟩ | ⟨_, _, _, hv, _, _, hcap, _⟩
                · injection hv with _ _ h; omega
                · injection hv with _ _ h; omega
              rw [List.append_nil] at HMM
              have RA : ∀ ty, (Builtin.append_ #[32, 32] ty #[.slice ao m.length co, .slice none 0 0]).run Tryz.prog wr = .ok (.slice ao m.length co) wr := fun ty => by
                cases ao <;> simp [Builtin.append_, run_underlying Tryz.underlying32, Tryz.sizeOf23, hmc, Builtin.lenOf, Builtin.firstCells, storeCells]
              go_wp2_with (at_builtin; refine wpList_append_runR _ rfl _ _ _ _ rfl _ _ rfl rfl (RA _) ?_)
              exact ⟨⟨s + 1, m, by simp, by omega, by omega, HMM, HW, G4.trans gi⟩, by simp [intOf]; omega⟩
            · injection hv with ha _ hcc
              subst ha; subst hcc
              have HXF := Lib.hid (RecsAt.flat (recs_of_own (ownsRow_g HOX.out gi)))
              have hwb := gr.b.size
              have HB := Lib.hid (show w.heap.size ≤ wr.heap.size by have := G4.b.size; have := gi.b.size; omega)
              go_wp2_with (at_builtin; refine wpList_append_own _ rfl _ _ 32 rfl w.heap.size 23 i0 _ 4 40 Tryz.underlying32 hi hz0 hz1 hz2 rfl (by decide) _ _ _ rfl HW.out ⟨gx, 0, none⟩ X.length cx (rcs X) rfl (rcs_len X) ?c1 ?c2 ?c3 ?c4 ?c5 ?c6)
              case c1 =>
                intro j u hu
                have := HXF.out j u hu
                rw [Nat.zero_add] at this
                exact this
              case c2 => exact rcs_one X
              case c3 => unfold maxLen; omega
              case c4 => omega
              case c5 => exact HB.out
              case c6 =>
                intro v' w5 hown hgrow _
                have G5 : Gr w w5 := GrL.gr (G4.trans gi) (GrL.of_grown' hgrow) (fun k hk => (HW.out.lt k (by simpa using hk)).1)
                have HN : Hid (w5.ownsRow w.heap.size 23 4 v' (m ++ X).length (rcs (m ++ X))) := Lib.hid (by rw [rcs_append, List.length_append]; exact hown)
                clear hown hgrow
                go_wp2
                exact ⟨⟨s + 1, m ++ X, by simp, by omega, by rw [List.length_append]; omega, HMM, HN, G5⟩, by simp [intOf]; omega⟩
    · have hsN' : ¬ (s : Int) < N := by omega
      obtain rfl : s = N := by omega
      go_wp2
      go_ret2
      exact ⟨.inr ⟨m, HM.out, _, rfl, HO.out⟩, gr⟩
end Go.Proofs.YthmimjofdmnakaaGreatDoor
