/- slices.IndexFunc and slices.DeleteFunc over records, with loft's missing$1. -/
import Derived.Test.YthmimjofdmnakaaGreatDoorJDel
namespace Go.Proofs.YthmimjofdmnakaaGreatDoor
open Go.RowKit Go.Shelf Go.Lib
set_option maxRecDepth 100000 in
set_option maxHeartbeats 4000000 in
theorem IdxR_any (v : Value) (l : List Rc) (px : Nat) (P : Rc → Bool) (w : World) (hv : RecsAt w v l) (hl : l.length ≤ 1000000)
    (hm : ∀ j (hj : j < l.length) u, Gr w u → Calls Tryz.prog 137 #[l[j].v, .pointer (some ⟨px, 0, none⟩)] u fun e w' => e = .returned (.bool (P l[j])) ∧ Gr u w') :
    Calls Tryz.prog 199 #[v, .func (.func 137) #[] #[.pointer (some ⟨px, 0, none⟩)]] w fun e w' =>
      ((e = .returned (.int .i64 (-1)) ∧ ∀ j (hj : j < l.length), P l[j] = false) ∨ ∃ k : Nat, ∃ hk : k < l.length, e = .returned (.int .i64 k) ∧ P l[k] = true ∧ ∀ j (hj : j < l.length), j < k → P l[j] = false) ∧ Gr w w' := by
  obtain ⟨a, cap, rfl, hcap, hcell⟩ := hv
  have HC := Lib.hid hcell
  have HM := Lib.hid hm
  clear hcell hm
  go_enter Tryz.func199, Tryz.ntmps199
  go_wp2
  go_loopw [5, 8] (fun _ q wr => ∃ i : Nat, q = .int .i64 i ∧ i ≤ l.length ∧ Hid (∀ j (hj : j < l.length), j < i → P l[j] = false) ∧ Gr w wr) (fun _ q _ => l.length - (intOf q).toNat)
  case atStart => exact ⟨0, rfl, by omega, Lib.hid (fun j hj h => absurd h (Nat.not_lt_zero _)), Gr.refl _⟩
  case round =>
    obtain ⟨i, rfl, hi, HS, gr⟩ := hrel
    by_cases hil : i < l.length
    · have hil' : (i : Int) < l.length := by omega
      obtain ⟨g, o, rfl, hgl, c0, c1, c2, c3⟩ := HC.out i hil
      have hz : g < wr.heap.size := Nat.lt_of_lt_of_le hgl gr.b.size
      rw [← gr.cells.1 g _ hgl] at c0 c1 c2 c3
      have CM := Lib.hid (HM.out i hil)
      obtain ⟨b, hb⟩ : ∃ b, P l[i] = b := ⟨_, rfl⟩
      have HB := Lib.hid hb
      rw [hb] at CM
      clear hb
      have HV : Hid (l[i].v = .agg #[.int .i64 l[i].s, .int .i64 l[i].k, .int .i64 l[i].d, .string l[i].t]) := Lib.hid rfl
      rw [HV.out] at CM
      clear HV
      generalize l[i].s = xs at *
      generalize l[i].k = xk at *
      generalize l[i].d = xd at *
      generalize l[i].t = xt at *
      go_wp2_with fail
      refine (CM.out _ gr).mono ?_
      rintro e w1 ⟨rfl, hg1⟩
      have gu := gr.trans hg1
      clear hg1 c0 c1 c2 c3 hz
      cases b
      · go_wp2
        exact ⟨⟨i + 1, by simp, by omega, Lib.hid (fun j hj hji => by
          rcases Nat.lt_or_ge j i with h | h
          · exact HS.out j hj h
          · obtain rfl : j = i := by omega
            exact HB.out), gu⟩, by simp [intOf]; omega⟩
      · go_wp2
        go_ret
        exact ⟨.inr ⟨i, hil, rfl, HB.out, HS.out⟩, gu⟩
    · have hil' : ¬ (i : Int) < l.length := by omega
      obtain rfl : i = l.length := by omega
      go_wp2
      go_ret
      exact ⟨.inl ⟨rfl, fun j hj => HS.out j hj hj⟩, gr⟩
theorem take_filter {α : Type} (P : α → Bool) {l : List α} {i : Nat} (hi : i < l.length) : (l.take (i+1)).filter P = (l.take i).filter P ++ if P l[i] = true then [l[i]] else [] := by
  rw [List.take_succ_eq_append_getElem hi, List.filter_append]
  congr 1
  cases h : P l[i] <;> simp [h]
theorem filter_all {α : Type} (P : α → Bool) {l : List α} {k : Nat} (h : ∀ j (hj : j < l.length), j < k → P l[j] = true) : (l.take k).filter P = l.take k := by
  apply List.filter_eq_self.2
  intro a ha
  obtain ⟨j, hj, rfl⟩ := List.mem_take_iff_getElem.1 ha
  exact h j (by omega) (by omega)
set_option maxRecDepth 100000 in
set_option maxHeartbeats 8000000 in
theorem DelR_any (g cap base px : Nat) (l : List Rc) (P : Rc → Bool) (w : World) (hr : w.ownsRow base 23 4 (.slice (some ⟨g, 0, none⟩) l.length cap) l.length (rcs l)) (hl : l.length ≤ 1000000)
    (hm : ∀ j (hj : j < l.length) u, GrL [g] w u → Calls Tryz.prog 137 #[l[j].v, .pointer (some ⟨px, 0, none⟩)] u fun e w' => e = .returned (.bool (!P l[j])) ∧ Gr u w') :
    Calls Tryz.prog 136 #[.slice (some ⟨g, 0, none⟩) l.length cap, .func (.func 137) #[] #[.pointer (some ⟨px, 0, none⟩)]] w fun e w' => ∃ v', e = .returned v' ∧ w'.ownsRow base 23 4 v' (l.filter P).length (rcs (l.filter P)) ∧ GrL [g] w w' := by
  have IX := Lib.hid (IdxR_any _ l px (fun x => !P x) w (recs_of_own hr) hl (fun j hj u hu => hm j hj u (GrL.of_gr hu)))
  have HR := Lib.hid hr
  have HM := Lib.hid hm
  have hgz := (hr.lt g rfl).2
  have HGB := Lib.hid (hr.lt g rfl).1
  clear hr hm
  go_enter Tryz.func136, Tryz.ntmps136
  go_wp2_with fail
  refine IX.out.mono ?_
  rintro e w1 ⟨⟨rfl, hall⟩ | ⟨k, hk, rfl, hkt, hkf⟩, hg1⟩
  · have hE : l.filter P = l := List.filter_eq_self.2 (fun a ha => by
      obtain ⟨j, hj, rfl⟩ := List.mem_iff_getElem.1 ha
      simpa using hall j hj)
    have HN := Lib.hid (ownsRow_g HR.out hg1)
    clear IX hall
    go_wp2
    go_ret
    exact ⟨_, rfl, by rw [hE]; exact HN.out, GrL.of_gr hg1⟩
  · have HI : Hid (∃ L' : List Rc, L'.length = l.length ∧ L'.take k = (l.take (k+1)).filter P ∧ L'.drop (k+1) = l.drop (k+1) ∧ k = ((l.take (k+1)).filter P).length ∧ w1.ownsRow base 23 4 (.slice (some ⟨g, 0, none⟩) l.length cap) l.length (rcs L')) := Lib.hid (by
      have e1 : (l.take (k+1)).filter P = l.take k := by
        rw [take_filter P hk, filter_all P (fun j hj hjk => by simpa using hkf j hj hjk)]
        have : P l[k] = false := by simpa using hkt
        simp [this]
      exact ⟨l, rfl, by rw [e1], rfl, by rw [e1, List.length_take]; omega, ownsRow_g HR.out hg1⟩)
    have hk' : (k : Int) < l.length := by omega
    have hkn : ((k : Int) == -1) = false := beq_eq_false_iff_ne.2 (by omega)
    have hkn2 : ¬ (k : Int) = -1 := by omega
    have G1 : GrL [g] w w1 := GrL.of_gr hg1
    clear IX hkt hkf hg1
    go_wp2
    go_loopw [5, 6, 7] (fun p q _ wr => ∃ i j : Nat, p = .int .i64 i ∧ q = .int .i64 j ∧ i < j ∧ j ≤ l.length ∧ GrL [g] w wr ∧ Hid (∃ L' : List Rc, L'.length = l.length ∧ L'.take i = (l.take j).filter P ∧ L'.drop j = l.drop j ∧ i = ((l.take j).filter P).length ∧ wr.ownsRow base 23 4 (.slice (some ⟨g, 0, none⟩) l.length cap) l.length (rcs L'))) (fun _ q _ _ => l.length - (intOf q).toNat)
    case atStart => exact ⟨k, k + 1, rfl, by simp, by omega, by omega, G1, HI⟩
    case round =>
      obtain ⟨i, j, rfl, rfl, hij, hjl0, gr, HL⟩ := hrel
      by_cases hjl : j < l.length
      · have hjl' : (j : Int) < l.length := by omega
        have hil' : (i : Int) < l.length := by omega
        have hi0 : (0 : Int) ≤ i := by omega
        have hj0 : (0 : Int) ≤ j := by omega
        obtain ⟨L', hL, htk, hdr, hilen, hown⟩ := HL.out
        have hLj : j < L'.length := by omega
        have hLi : i < L'.length := by omega
        have hx : L'[j] = l[j] := by
          have e1 : (L'.drop j)[0]? = (l.drop j)[0]? := by rw [hdr]
          rw [List.getElem?_drop, List.getElem?_drop, Nat.add_zero, List.getElem?_eq_getElem hLj, List.getElem?_eq_getElem hjl] at e1
          exact Option.some.inj e1
        have c0 := hown.cellAt (j * 4 + 0) (by omega)
        have c1 := hown.cellAt (j * 4 + 1) (by omega)
        have c2 := hown.cellAt (j * 4 + 2) (by omega)
        have c3 := hown.cellAt (j * 4 + 3) (by omega)
        rw [rcs_at L' j _ hLj (by omega), hx] at c0 c1 c2 c3
        have hz : g < wr.heap.size := Nat.lt_of_lt_of_le hgz gr.size
        replace c0 : wr.cell? ⟨g, j * 4, none⟩ = some (.int .i64 l[j].s) := c0
        replace c1 : wr.cell? ⟨g, j * 4 + 1, none⟩ = some (.int .i64 l[j].k) := c1
        replace c2 : wr.cell? ⟨g, j * 4 + 2, none⟩ = some (.int .i64 l[j].d) := c2
        replace c3 : wr.cell? ⟨g, j * 4 + 3, none⟩ = some (.string l[j].t) := c3
        have CM := Lib.hid (HM.out j hjl)
        have HF := Lib.hid (take_filter P hjl)
        obtain ⟨b, hb⟩ : ∃ b, P l[j] = b := ⟨_, rfl⟩
        rw [hb] at CM HF
        clear hb
        have HV : Hid (l[j].v = .agg #[.int .i64 l[j].s, .int .i64 l[j].k, .int .i64 l[j].d, .string l[j].t]) := Lib.hid rfl
        rw [HV.out] at CM
        have HPUT := Lib.hid (fun (u : World) (h : u.ownsRow base 23 4 (.slice (some ⟨g, 0, none⟩) L'.length cap) L'.length (rcs L')) => own_put h i hLi l[j])
        have HDJ : Hid (l.drop (j+1) = L'.drop (j+1)) := Lib.hid (by
          have := congrArg (List.drop 1) hdr
          rw [List.drop_drop, List.drop_drop] at this
          exact this.symm)
        have HO := Lib.hid hown
        have HY := Lib.hid (fun (u : World) (h : u.ownsRow base 23 4 (.slice (some ⟨g, 0, none⟩) l.length cap) l.length (rcs L')) => show u.cell? ⟨g, i * 4, none⟩ = some (.int .i64 L'[i].s) ∧ u.cell? ⟨g, i * 4 + 1, none⟩ = some (.int .i64 L'[i].k) ∧ u.cell? ⟨g, i * 4 + 2, none⟩ = some (.int .i64 L'[i].d) ∧ u.cell? ⟨g, i * 4 + 3, none⟩ = some (.string L'[i].t) ∧
            u.frozen? ⟨g, i * 4, none⟩ = false ∧ u.frozen? ⟨g, i * 4 + 1, none⟩ = false ∧ u.frozen? ⟨g, i * 4 + 2, none⟩ = false ∧ u.frozen? ⟨g, i * 4 + 3, none⟩ = false from by
          have c0 := h.cellAt (i * 4 + 0) (by omega)
          have c1 := h.cellAt (i * 4 + 1) (by omega)
          have c2 := h.cellAt (i * 4 + 2) (by omega)
          have c3 := h.cellAt (i * 4 + 3) (by omega)
          rw [rcs_at L' i _ hLi (by omega)] at c0 c1 c2 c3
          exact ⟨c0, c1, c2, c3, h.frozenAt _, h.frozenAt _, h.frozenAt _, h.frozenAt _⟩)
        have HTK := Lib.hid htk
        have HIL := Lib.hid hilen
        have HDR := Lib.hid hdr
        have HXJ : Hid (l[j] = ⟨l[j].s, l[j].k, l[j].d, l[j].t⟩) := Lib.hid rfl
        clear hown htk hdr hilen HV hx
        generalize hxj : l[j] = x at *
        have HJ := Lib.hid hxj
        clear hxj
        have bx := heap_alloc_self wr (.cells #[.int .i64 x.s, .int .i64 x.k, .int .i64 x.d, .string x.t] 23)
        have gu : GrL [g] w (wr.alloc (.cells #[.int .i64 x.s, .int .i64 x.k, .int .i64 x.d, .string x.t] 23)) := gr.trans (GrL.of_gr ((Gr.refl wr).alloc _))
        have HO2 := Lib.hid (ownsRow_g HO.out ((Gr.refl wr).alloc (.cells #[.int .i64 x.s, .int .i64 x.k, .int .i64 x.d, .string x.t] 23)))
        go_wp2_with fail
        generalize wr.alloc (.cells #[.int .i64 x.s, .int .i64 x.k, .int .i64 x.d, .string x.t] 23) = W at *
        obtain ⟨pn, hpn⟩ : ∃ p, wr.heap.size = p := ⟨_, rfl⟩
        rw [hpn] at bx hz
        rw [hpn]
        clear hpn c0 c1 c2 c3 HO
        refine (CM.out _ gu).mono ?_
        rintro e w2 ⟨rfl, hg2⟩
        have gu2 := gu.trans (GrL.of_gr (l := [g]) hg2)
        have bx2 := hg2.heap bx
        have HO3 := Lib.hid (ownsRow_g HO2.out hg2)
        clear hg2 bx HO2 CM gu
        cases b
        · clear bx2
          go_wp2
          refine ⟨⟨i, j + 1, rfl, by simp, by omega, by omega, gu2, Lib.hid ⟨L', hL, ?_, HDJ.out.symm, ?_, HO3.out⟩⟩, by simp [intOf]; omega⟩
          · rw [HF.out, HTK.out]; simp
          · rw [HF.out]; simpa using HIL.out
        · obtain ⟨cx, fx, zx⟩ := blk_cells bx2
          obtain ⟨d0, d1, d2, d3, f0, f1, f2, f3⟩ := HY.out _ HO3.out
          have hgn : g ≠ pn := by omega
          clear bx2
          go_wp2
          have HP := HPUT.out w2 (by rw [hL]; exact HO3.out)
          refine ⟨⟨i + 1, j + 1, by simp, by simp, by omega, by omega, gu2.trans HP.2, Lib.hid ⟨L'.set i x, by rw [List.length_set]; exact hL, ?_, ?_, ?_, ?_⟩⟩, by simp [intOf]; omega⟩
          · rw [HF.out, ← HTK.out, List.take_succ_eq_append_getElem (by rw [List.length_set]; exact hLi), List.take_set_of_le (Nat.le_refl i)]; simp
          · rw [List.drop_set_of_lt (by omega)]; exact HDJ.out.symm
          · rw [HF.out, List.length_append, ← HIL.out]; rfl
          · have := HP.1
            rw [hL] at this
            exact this
      · have hjl' : ¬ (j : Int) < l.length := by omega
        obtain rfl : j = l.length := by omega
        obtain ⟨L', hL, htk, hdr, hilen, hown⟩ := HL.out
        have hin : i < l.length := hij
        obtain ⟨zs, hcl⟩ := run_clear_rec wr g (i * 4) (l.length - i) (cap - i) (by omega) (fun t ht => by
          rw [hown.cellAt (i * 4 + t) (by omega), List.getElem?_eq_getElem (by rw [rcs_len]; omega)]; rfl) (fun t ht => hown.frozenAt _)
        obtain ⟨xs', o1, o2, o3⟩ := own_sets zs (i * 4) _ _ hown
        have o4 := own_cut o1 (k := i) (by omega)
        rw [o2, rcs_take, htk, List.take_length] at o4
        rw [List.take_length] at hilen
        have HN := Lib.hid o4
        have HI2 := Lib.hid hilen
        have G3 := gr.trans o3
        have hil' : (i : Int) < l.length := by omega
        have hi0 : (0 : Int) ≤ i := by omega
        have hic0 : l.length ≤ cap := by
          rcases hown.2 with ⟨hv, _⟩ | ⟨g', cap', cur, hv, _, _, hcap, _⟩
          · cases hv
          · injection hv with _ _ hc; omega
        have hic : i ≤ cap := by omega
        have hne : ¬ cap = i := by omega
        have hne2 : ¬ cap - i = 0 := by omega
        clear o1 o2 o3 o4 hown htk hdr hilen hL
        go_wp2
        go_ret
        refine ⟨_, rfl, ?_, G3⟩
        have := HN.out
        rw [← HI2.out]
        exact this
end Go.Proofs.YthmimjofdmnakaaGreatDoor
