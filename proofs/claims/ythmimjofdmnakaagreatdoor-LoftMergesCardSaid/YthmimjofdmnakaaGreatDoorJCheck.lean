/- loft: CheckRecords at records at any address. -/
import Derived.Test.YthmimjofdmnakaaGreatDoorLCheck
namespace Go.Proofs.YthmimjofdmnakaaGreatDoor
open Go.RowKit Go.Shelf
/-- records that can be read -/
def RecsAt (w : World) (v : Value) (l : List Rc) : Prop := ∃ a cap, v = .slice a l.length cap ∧ l.length ≤ cap ∧ ∀ j (hj : j < l.length), ∃ g o, a = some ⟨g, o, none⟩ ∧ g < w.heap.size ∧
    w.cell? ⟨g, o + j * 4, none⟩ = some (.int .i64 l[j].s) ∧ w.cell? ⟨g, o + j * 4 + 1, none⟩ = some (.int .i64 l[j].k) ∧ w.cell? ⟨g, o + j * 4 + 2, none⟩ = some (.int .i64 l[j].d) ∧ w.cell? ⟨g, o + j * 4 + 3, none⟩ = some (.string l[j].t)
theorem RecsAt.gr {w w' : World} {v : Value} {l : List Rc} (h : RecsAt w v l) (g : Gr w w') : RecsAt w' v l := by
  obtain ⟨a, cap, hv, hc, hr⟩ := h
  refine ⟨a, cap, hv, hc, fun j hj => ?_⟩
  obtain ⟨b, o, ha, hb, c0, c1, c2, c3⟩ := hr j hj
  exact ⟨b, o, ha, Nat.lt_of_lt_of_le hb g.b.size, (g.cells.1 b _ hb).trans c0, (g.cells.1 b _ hb).trans c1, (g.cells.1 b _ hb).trans c2, (g.cells.1 b _ hb).trans c3⟩
theorem RowR.recs {w : World} {v : Value} {l : List Rc} (h : RowR w v l) : RecsAt w v l := by
  obtain ⟨a, cap, hv, hc, hr⟩ := h.form
  refine ⟨a, cap, hv, hc, fun j hj => ?_⟩
  obtain ⟨b, ha, hb, c0, c1, c2, c3⟩ := hr j hj
  refine ⟨b, 0, ha, hb, ?_⟩
  rw [Nat.zero_add]
  exact ⟨c0, c1, c2, c3⟩
theorem RecsAt.nil (w : World) (cap : Nat) (a : Option Addr) : RecsAt w (.slice a 0 cap) [] := ⟨a, cap, rfl, Nat.zero_le _, fun _j hj => absurd hj (Nat.not_lt_zero _)⟩
theorem CheckR_no (n : Int) (v : Value) (w : World) (hc : (decide (n = 3) || decide (n = 5)) = false) :
    Calls Tryz.prog 16 #[.int .i64 n, v] w fun e w' => e = .returned (.tuple #[.int .i64 0, .int .i64 1]) ∧ Gr w w' := by
  have IC := Lib.hid (isCount_any n w)
  rw [hc] at IC
  go_enter Tryz.func16, Tryz.ntmps16
  go_wp2_with fail
  refine IC.out.mono ?_
  rintro e w1 ⟨rfl, hg1⟩
  go_wp2
  go_ret2
  exact ⟨rfl, hg1⟩
set_option maxRecDepth 100000 in
set_option maxHeartbeats 8000000 in
theorem CheckR_any (n : Int) (v : Value) (l : List Rc) (w : World) (hn1 : -1000000 ≤ n) (hn2 : n ≤ 1000000) (hr : RecsAt w v l) (hl : l.length ≤ 1000000) (ht : ∀ x ∈ l, x.t.size ≤ 100000) (hc : (decide (n = 3) || decide (n = 5)) = true) :
    Calls Tryz.prog 16 #[.int .i64 n, v] w fun e w' => e = .returned (.tuple #[.int .i64 (chkL n l).1, .int .i64 (chkL n l).2]) ∧ Gr w w' := by
  obtain ⟨a, cap, rfl, hcap, hcell⟩ := hr
  have HC := Lib.hid hcell
  have IC := Lib.hid (fun w => isCount_any n w)
  rw [hc] at IC
  have FO := Lib.hid (fun (j : Nat) (h : j < l.length) w => formedR_any n l[j] w hn1 hn2 (ht _ (List.getElem_mem h)))
  obtain ⟨R1, R2, hR⟩ : ∃ R1 R2, chkL n l = (R1, R2) := ⟨_, _, rfl⟩
  rw [hR]
  have HR := Lib.hid hR
  clear hcell hc hR ht
  go_enter Tryz.func16, Tryz.ntmps16
  go_wp2_with fail
  refine (IC.out _).mono ?_
  rintro e w1 ⟨rfl, hg1⟩
  clear IC
  go_wp2
  go_loopw [6, 7, 8, 9, 15] (fun _ _ _ _ q wr => ∃ i : Nat, q = .int .i64 i ∧ i ≤ l.length ∧ Hid (∀ j, j < i → j < l.length → chkA n l j = 0) ∧ Gr w wr) (fun _ _ _ _ q _ => l.length - (intOf q).toNat)
  case atStart => exact ⟨0, rfl, by omega, Lib.hid (fun j hj => by omega), hg1⟩
  case round =>
    obtain ⟨i, rfl, hi, HZ, gr⟩ := hrel
    by_cases hil : i < l.length
    · have hil' : (i : Int) < l.length := by omega
      have hi0 : (0 : Int) ≤ i := by omega
      obtain ⟨g, o, rfl, hg, c0, c1, c2, c3⟩ := HC.out i hil
      rw [← gr.cells.1 g _ hg] at c0 c1 c2 c3
      have hz : g < wr.heap.size := Nat.lt_of_lt_of_le hg gr.b.size
      have FX := Lib.hid (FO.out i hil)
      rcases Nat.eq_zero_or_pos i with rfl | hpos
      · have HA := Lib.hid (chkA_0 (n := n) hil)
        simp only [Nat.zero_mul, Nat.add_zero] at c0 c1 c2 c3
        generalize l[0] = x at *
        have bx := heap_alloc_self wr (.cells #[.int .i64 x.s, .int .i64 x.k, .int .i64 x.d, .string x.t] 23)
        have gu := gr.alloc (.cells #[.int .i64 x.s, .int .i64 x.k, .int .i64 x.d, .string x.t] 23)
        go_wp2_with fail
        generalize wr.alloc (.cells #[.int .i64 x.s, .int .i64 x.k, .int .i64 x.d, .string x.t] 23) = W at *
        obtain ⟨px, hpx⟩ : ∃ p, wr.heap.size = p := ⟨_, rfl⟩
        rw [hpx] at bx
        rw [hpx]
        clear hpx c0 c1 c2 c3
        obtain ⟨cx, fx, zx⟩ := blk_cells bx
        refine wp_region_steps [.val (.int .i64 0), .val (.bool false), .val (.bool false), .off, .off, .off, .off, .off, .off, .off, .off, .off, .val (.bool false)] (by kernel_rfl) (by kernel_rfl) (fun V => by first | (simp only [finS, Step.isLater, Bool.false_eq_true, if_false, Act.put, Step.value, List.setIfInBounds_toArray, List.set_cons_zero, List.set_cons_succ]; rfl) | (simp only [finS, Step.isLater, Bool.false_eq_true, if_false, if_true, Act.put, Step.value, List.setIfInBounds_toArray, List.set_cons_zero, List.set_cons_succ, Nat.zero_add, Nat.reduceAdd]; rfl)) ?_ ?_
        · refine ⟨?_, ?_, ?_, ?_, ?_, ?_, ?_, ?_, ?_, ?_, ?_, ?_, ?_, trivial⟩ <;> (first | exact trivial | (refine ⟨(by intro v u u1 h g; obtain ⟨b, rfl, h⟩ := h; exact ⟨b, rfl, g.heap h⟩), ?_⟩; intro V u hu hk; refine ⟨by kernel_rfl, ?_⟩; go_simp; exact ⟨⟨_, rfl, heap_alloc_self _ _⟩, (Gr.refl _).alloc _⟩) | (refine ⟨(by intro v u u1 h g; first | exact ownsRow_g h g | exact st_and h g | exact h), ?_⟩; intro V u hu hk; refine ⟨by kernel_rfl, turn_owes (by kernel_rfl) ?_⟩; obtain ⟨hc, hf, hz⟩ := hu.cells; go_simp; skip) | (refine ⟨(by intro v u u1 h g; first | exact ownsRow_g h g | exact st_and h g | exact h), ?_⟩; intro V u hu hk; refine ⟨by kernel_rfl, ?_⟩; obtain ⟨hc, hf, hz⟩ := hu.cells; go_simp; skip) | (intro V u hu hk; refine ⟨by kernel_rfl, ?_⟩; obtain ⟨hc, hf, hz⟩ := hu.cells; go_simp; first | exact ⟨rfl, Gr.refl _⟩ | skip) | (intro V u hu hk; show _ = false; kernel_rfl))
        · intro V u3 hg3 hs
          have gu := gu.trans hg3
          have bx := hg3.heap bx
          clear cx fx zx
          obtain ⟨cx, fx, zx⟩ := blk_cells bx
          go_simp
          go_wp2_with fail
          refine (FX.out _).mono ?_
          rintro e w4 ⟨rfl, hg4⟩
          have gu := gu.trans hg4
          have bx := hg4.heap bx
          clear hg4 cx fx zx
          obtain ⟨cx, fx, zx⟩ := blk_cells bx
          obtain ⟨b, hb⟩ : ∃ b, okR n x = b := ⟨_, rfl⟩
          rw [hb]
          have HB := Lib.hid hb
          clear hb
          cases b
          · go_wp2
            go_ret2
            obtain ⟨rfl, rfl⟩ := Prod.ext_iff.1 (HR.out.symm.trans (chkL_at HZ.out hil (e := 1) (by rw [HA.out]; simp [chkE, HB.out]) (by decide)))
            exact ⟨by simp, gu⟩
          · go_wp2_with fail
            refine wp_region_steps [.val (.int .i64 0), .val (.bool false), .val (.bool false), .off, .off, .off, .off, .off, .off, .off, .off, .val (.bool false), .val (.bool false)] (by kernel_rfl) (by kernel_rfl) (fun V => by first | (simp only [finS, Step.isLater, Bool.false_eq_true, if_false, Act.put, Step.value, List.setIfInBounds_toArray, List.set_cons_zero, List.set_cons_succ]; rfl) | (simp only [finS, Step.isLater, Bool.false_eq_true, if_false, if_true, Act.put, Step.value, List.setIfInBounds_toArray, List.set_cons_zero, List.set_cons_succ, Nat.zero_add, Nat.reduceAdd]; rfl)) ?_ ?_
            · refine ⟨?_, ?_, ?_, ?_, ?_, ?_, ?_, ?_, ?_, ?_, ?_, ?_, ?_, trivial⟩ <;> (first | exact trivial | (refine ⟨(by intro v u u1 h g; obtain ⟨b, rfl, h⟩ := h; exact ⟨b, rfl, g.heap h⟩), ?_⟩; intro V u hu hk; refine ⟨by kernel_rfl, ?_⟩; go_simp; exact ⟨⟨_, rfl, heap_alloc_self _ _⟩, (Gr.refl _).alloc _⟩) | (refine ⟨(by intro v u u1 h g; first | exact ownsRow_g h g | exact st_and h g | exact h), ?_⟩; intro V u hu hk; refine ⟨by kernel_rfl, turn_owes (by kernel_rfl) ?_⟩; obtain ⟨hc, hf, hz⟩ := hu.cells; go_simp; skip) | (refine ⟨(by intro v u u1 h g; first | exact ownsRow_g h g | exact st_and h g | exact h), ?_⟩; intro V u hu hk; refine ⟨by kernel_rfl, ?_⟩; obtain ⟨hc, hf, hz⟩ := hu.cells; go_simp; skip) | (intro V u hu hk; refine ⟨by kernel_rfl, ?_⟩; obtain ⟨hc, hf, hz⟩ := hu.cells; go_simp; first | exact ⟨rfl, Gr.refl _⟩ | skip) | (intro V u hu hk; show _ = false; kernel_rfl))
            · intro V u5 hg5 hs
              have gu := gu.trans hg5
              have bx := hg5.heap bx
              clear cx fx zx
              obtain ⟨cx, fx, zx⟩ := blk_cells bx
              go_simp
              by_cases h93 : x.k = 1
              · have e93 : decide (x.k = 1) = true := by simpa using h93
                by_cases h7 : x.d < 0
                · go_wp2
                  go_ret2
                  obtain ⟨rfl, rfl⟩ := Prod.ext_iff.1 (HR.out.symm.trans (chkL_at HZ.out hil (e := 7) (by rw [HA.out]; simp [chkE, HB.out, h93, h7]) (by decide)))
                  exact ⟨by simp, gu⟩
                · go_wp2
                  have NX : chkA n l (0) = 0 := by rw [HA.out]; simp [chkE, HB.out, h93, h7]
                  exact ⟨⟨1, by simp, by omega, Lib.hid (fun j hj hjl => by
                    rcases Nat.lt_or_ge j (0) with h | h
                    · exact HZ.out j h hjl
                    · obtain rfl : j = 0 := by omega
                      exact NX), gu⟩, by simp [intOf]; omega⟩
              · have e93 : decide (x.k = 1) = false := by simpa using h93
                go_wp2
                go_ret2
                obtain ⟨rfl, rfl⟩ := Prod.ext_iff.1 (HR.out.symm.trans (chkL_at HZ.out hil (e := 93) (by rw [HA.out]; simp [chkE, HB.out, h93]) (by decide)))
                exact ⟨by simp, gu⟩
      · obtain ⟨i, rfl⟩ : ∃ k, i = k + 1 := ⟨i - 1, by omega⟩
        clear hpos
        have HA := Lib.hid (chkA_s (n := n) hil)
        obtain ⟨g2, o2, hge, _, d0, d1, d2, d3⟩ := HC.out i (by omega)
        obtain ⟨rfl, rfl⟩ : g2 = g ∧ o2 = o := by injection hge with h; injection h with h h2; exact ⟨h.symm, h2.symm⟩
        clear hge
        rw [← gr.cells.1 g2 _ hg] at d0 d1 d2 d3
        obtain ⟨k1, k2⟩ := okR_k (chkA_ok (show i < l.length by omega) (HZ.out i (by omega) (by omega)))
        generalize l[i+1] = x at *
        generalize l[i] = p at *
        have C0 := Lib.hid c0
        have q1 : IntKind.i64.wrap ((i : Int) + 1) = (i : Int) + 1 := IntWalk.i64_in _ (by omega)
        have q2 : IntKind.i64.wrap (i : Int) = i := IntWalk.i64_in _ (by omega)
        have q3 : (0 : Int) < (i : Int) + 1 := by omega
        have q4 : (i : Int) < l.length := by omega
        have q5 : (0 : Int) ≤ i := by omega
        have q6 : ((i : Int) + 1).toNat = i + 1 := by omega
        have bx := heap_alloc_self wr (.cells #[.int .i64 x.s, .int .i64 x.k, .int .i64 x.d, .string x.t] 23)
        have gu := gr.alloc (.cells #[.int .i64 x.s, .int .i64 x.k, .int .i64 x.d, .string x.t] 23)
        go_wp2_with fail
        generalize wr.alloc (.cells #[.int .i64 x.s, .int .i64 x.k, .int .i64 x.d, .string x.t] 23) = W at *
        obtain ⟨px, hpx⟩ : ∃ p, wr.heap.size = p := ⟨_, rfl⟩
        rw [hpx] at bx
        rw [hpx]
        clear hpx c0 c1 c2 c3 C0
        obtain ⟨cx, fx, zx⟩ := blk_cells bx
        have D0 := Lib.hid (fun (u : World) (h : Gr w u) => show u.cell? ⟨g2, o2 + i * 4, none⟩ = some (.int .i64 p.s) ∧ u.cell? ⟨g2, o2 + i * 4 + 1, none⟩ = some (.int .i64 p.k) ∧ u.cell? ⟨g2, o2 + i * 4 + 2, none⟩ = some (.int .i64 p.d) ∧ u.cell? ⟨g2, o2 + i * 4 + 3, none⟩ = some (.string p.t) ∧ g2 < u.heap.size from by
          rw [gr.cells.1 g2 _ hg] at d0 d1 d2 d3
          refine ⟨(h.cells.1 g2 _ hg).trans d0, (h.cells.1 g2 _ hg).trans d1, (h.cells.1 g2 _ hg).trans d2, (h.cells.1 g2 _ hg).trans d3, Nat.lt_of_lt_of_le hg h.b.size⟩)
        clear d0 d1 d2 d3 hz
        obtain ⟨d0, d1, d2, d3, hz⟩ := D0.out _ gu
        by_cases hs : p.s = x.s
        · have hd : decide (p.s = x.s) = true := by simpa using hs
          have hd2 : (p.s == x.s) = true := by simpa using hs
          have hC : chkP n (some p) x = chkE n p.k p.d (some p) x := by unfold chkP; simp only [hs, if_true]
          rw [hC] at HA
          clear hC hs
          refine wp_region_steps [.val (.int .i64 ((i : Int) + 1)), .val (.bool true), .val (.bool true), .val (.slice (some ⟨g2, o2, none⟩) l.length cap), .val (.int .i64 ((i : Int) + 1)), .val (.int .i64 i), .val (.pointer (some ⟨g2, o2 + i * 4, none⟩)), .val (.pointer (some ⟨g2, o2 + i * 4, none⟩)), .val (.int .i64 p.s), .val (.pointer (some ⟨px, 0, none⟩)), .val (.int .i64 x.s), .val (.bool true), .val (.bool true)] (by kernel_rfl) (by kernel_rfl) (fun V => by first | (simp only [finS, Step.isLater, Bool.false_eq_true, if_false, Act.put, Step.value, List.setIfInBounds_toArray, List.set_cons_zero, List.set_cons_succ]; rfl) | (simp only [finS, Step.isLater, Bool.false_eq_true, if_false, if_true, Act.put, Step.value, List.setIfInBounds_toArray, List.set_cons_zero, List.set_cons_succ, Nat.zero_add, Nat.reduceAdd]; rfl)) ?_ ?_
          · refine ⟨?_, ?_, ?_, ?_, ?_, ?_, ?_, ?_, ?_, ?_, ?_, ?_, ?_, trivial⟩ <;> (first | exact trivial | (refine ⟨(by intro v u u1 h g; obtain ⟨b, rfl, h⟩ := h; exact ⟨b, rfl, g.heap h⟩), ?_⟩; intro V u hu hk; refine ⟨by kernel_rfl, ?_⟩; go_simp; exact ⟨⟨_, rfl, heap_alloc_self _ _⟩, (Gr.refl _).alloc _⟩) | (refine ⟨(by intro v u u1 h g; first | exact ownsRow_g h g | exact st_and h g | exact h), ?_⟩; intro V u hu hk; refine ⟨by kernel_rfl, turn_owes (by kernel_rfl) ?_⟩; obtain ⟨hc, hf, hz⟩ := hu.cells; go_simp; skip) | (refine ⟨(by intro v u u1 h g; first | exact ownsRow_g h g | exact st_and h g | exact h), ?_⟩; intro V u hu hk; refine ⟨by kernel_rfl, ?_⟩; obtain ⟨hc, hf, hz⟩ := hu.cells; go_simp; skip) | (intro V u hu hk; refine ⟨by kernel_rfl, ?_⟩; obtain ⟨hc, hf, hz⟩ := hu.cells; go_simp; first | exact ⟨rfl, Gr.refl _⟩ | skip) | (intro V u hu hk; show _ = false; kernel_rfl))
          · intro V u3 hg3 hs3
            have gu := gu.trans hg3
            have bx := hg3.heap bx
            clear cx fx zx d0 d1 d2 d3 hz
            obtain ⟨cx, fx, zx⟩ := blk_cells bx
            obtain ⟨d0, d1, d2, d3, hz⟩ := D0.out _ gu
            go_simp
            go_wp2_with fail
            refine wp_region_steps [.val (.slice (some ⟨g2, o2, none⟩) l.length cap), .val (.int .i64 ((i : Int) + 1)), .val (.int .i64 i), .val (.pointer (some ⟨g2, o2 + i * 4, none⟩)), .val (.pointer (some ⟨g2, o2 + i * 4 + 1, none⟩)), .val (.int .i64 p.k), .val (.slice (some ⟨g2, o2, none⟩) l.length cap), .val (.int .i64 ((i : Int) + 1)), .val (.int .i64 i), .val (.pointer (some ⟨g2, o2 + i * 4, none⟩)), .val (.pointer (some ⟨g2, o2 + i * 4 + 2, none⟩)), .val (.int .i64 p.d), .val (.int .i64 p.k), .val (.int .i64 p.d)] (by kernel_rfl) (by kernel_rfl) (fun V => by first | (simp only [finS, Step.isLater, Bool.false_eq_true, if_false, Act.put, Step.value, List.setIfInBounds_toArray, List.set_cons_zero, List.set_cons_succ]; rfl) | (simp only [finS, Step.isLater, Bool.false_eq_true, if_false, if_true, Act.put, Step.value, List.setIfInBounds_toArray, List.set_cons_zero, List.set_cons_succ, Nat.zero_add, Nat.reduceAdd]; rfl)) ?_ ?_
            · refine ⟨?_, ?_, ?_, ?_, ?_, ?_, ?_, ?_, ?_, ?_, ?_, ?_, ?_, ?_, trivial⟩ <;> (first | exact trivial | (refine ⟨(by intro v u u1 h g; obtain ⟨b, rfl, h⟩ := h; exact ⟨b, rfl, g.heap h⟩), ?_⟩; intro V u hu hk; refine ⟨by kernel_rfl, ?_⟩; go_simp; exact ⟨⟨_, rfl, heap_alloc_self _ _⟩, (Gr.refl _).alloc _⟩) | (refine ⟨(by intro v u u1 h g; first | exact ownsRow_g h g | exact st_and h g | exact h), ?_⟩; intro V u hu hk; refine ⟨by kernel_rfl, turn_owes (by kernel_rfl) ?_⟩; obtain ⟨hc, hf, hz⟩ := hu.cells; go_simp; skip) | (refine ⟨(by intro v u u1 h g; first | exact ownsRow_g h g | exact st_and h g | exact h), ?_⟩; intro V u hu hk; refine ⟨by kernel_rfl, ?_⟩; obtain ⟨hc, hf, hz⟩ := hu.cells; go_simp; skip) | (intro V u hu hk; refine ⟨by kernel_rfl, ?_⟩; obtain ⟨hc, hf, hz⟩ := hu.cells; go_simp; first | exact ⟨rfl, Gr.refl _⟩ | skip) | (intro V u hu hk; show _ = false; kernel_rfl))
            · intro V u7 hg7 hs7
              have gu := gu.trans hg7
              have bx := hg7.heap bx
              clear cx fx zx d0 d1 d2 d3 hz
              obtain ⟨cx, fx, zx⟩ := blk_cells bx
              obtain ⟨d0, d1, d2, d3, hz⟩ := D0.out _ gu
              go_simp
              go_wp2_with fail
              refine (FX.out _).mono ?_
              rintro e w4 ⟨rfl, hg4⟩
              have gu := gu.trans hg4
              have bx := hg4.heap bx
              clear hg4 cx fx zx
              obtain ⟨cx, fx, zx⟩ := blk_cells bx
              clear d0 d1 d2 d3 hz
              obtain ⟨d0, d1, d2, d3, hz⟩ := D0.out _ gu
              obtain ⟨b, hb⟩ : ∃ b, okR n x = b := ⟨_, rfl⟩
              rw [hb]
              have HB := Lib.hid hb
              clear hb
              cases b
              · go_wp2
                go_ret2
                obtain ⟨rfl, rfl⟩ := Prod.ext_iff.1 (HR.out.symm.trans (chkL_at HZ.out hil (e := 1) (by rw [HA.out]; simp [chkE, HB.out]) (by decide)))
                exact ⟨by simp, gu⟩
              · go_wp2_with fail
                have CR := Lib.hid (fun w => compare_any p x w)
                obtain ⟨q, hq⟩ : ∃ q, cmpR p x = q := ⟨_, rfl⟩
                rw [hq] at CR
                have HQ := Lib.hid hq
                clear hq
                by_cases h6 : 0 ≤ q
                · have hd : decide (0 ≤ q) = true := by simpa using h6
                  refine wp_region_steps [.val (.int .i64 ((i : Int) + 1)), .val (.bool true), .val (.bool true), .val (.slice (some ⟨g2, o2, none⟩) l.length cap), .val (.int .i64 ((i : Int) + 1)), .val (.int .i64 i), .val (.pointer (some ⟨g2, o2 + i * 4, none⟩)), .val p.v, .val x.v, .val (.int .i64 q), .val (.bool true), .val (.bool true), .val (.bool true)] (by kernel_rfl) (by kernel_rfl) (fun V => by first | (simp only [finS, Step.isLater, Bool.false_eq_true, if_false, Act.put, Step.value, List.setIfInBounds_toArray, List.set_cons_zero, List.set_cons_succ]; rfl) | (simp only [finS, Step.isLater, Bool.false_eq_true, if_false, if_true, Act.put, Step.value, List.setIfInBounds_toArray, List.set_cons_zero, List.set_cons_succ, Nat.zero_add, Nat.reduceAdd]; rfl)) ?_ ?_
                  · refine ⟨?_, ?_, ?_, ?_, ?_, ?_, ?_, ?_, ?_, ?_, ?_, ?_, ?_, trivial⟩ <;> (first | exact trivial | (refine ⟨(by intro v u u1 h g; obtain ⟨b, rfl, h⟩ := h; exact ⟨b, rfl, g.heap h⟩), ?_⟩; intro V u hu hk; refine ⟨by kernel_rfl, ?_⟩; go_simp; exact ⟨⟨_, rfl, heap_alloc_self _ _⟩, (Gr.refl _).alloc _⟩) | (refine ⟨(by intro v u u1 h g; first | exact ownsRow_g h g | exact st_and h g | exact h), ?_⟩; intro V u hu hk; refine ⟨by kernel_rfl, turn_owes (by kernel_rfl) ?_⟩; obtain ⟨hc, hf, hz⟩ := hu.cells; go_simp; skip) | (refine ⟨(by intro v u u1 h g; first | exact ownsRow_g h g | exact st_and h g | exact h), ?_⟩; intro V u hu hk; refine ⟨by kernel_rfl, ?_⟩; obtain ⟨hc, hf, hz⟩ := hu.cells; go_simp; skip) | (intro V u hu hk; refine ⟨by kernel_rfl, ?_⟩; obtain ⟨hc, hf, hz⟩ := hu.cells; go_simp; first | exact ⟨rfl, Gr.refl _⟩ | skip) | (intro V u hu hk; show _ = false; kernel_rfl))
                    exact CR.out _
                  · intro V u5 hg5 hs
                    have gu := gu.trans hg5
                    have bx := hg5.heap bx
                    clear cx fx zx
                    obtain ⟨cx, fx, zx⟩ := blk_cells bx
                    go_simp
                    go_wp2
                    go_ret2
                    obtain ⟨rfl, rfl⟩ := Prod.ext_iff.1 (HR.out.symm.trans (chkL_at HZ.out hil (e := 6) (by rw [HA.out]; simp [chkE, HB.out, HQ.out, hd]) (by decide)))
                    exact ⟨by simp, gu⟩
                · have hd : decide (0 ≤ q) = false := by simpa using h6
                  refine wp_region_steps [.val (.int .i64 ((i : Int) + 1)), .val (.bool true), .val (.bool true), .val (.slice (some ⟨g2, o2, none⟩) l.length cap), .val (.int .i64 ((i : Int) + 1)), .val (.int .i64 i), .val (.pointer (some ⟨g2, o2 + i * 4, none⟩)), .val p.v, .val x.v, .val (.int .i64 q), .val (.bool false), .val (.bool false), .val (.bool false)] (by kernel_rfl) (by kernel_rfl) (fun V => by first | (simp only [finS, Step.isLater, Bool.false_eq_true, if_false, Act.put, Step.value, List.setIfInBounds_toArray, List.set_cons_zero, List.set_cons_succ]; rfl) | (simp only [finS, Step.isLater, Bool.false_eq_true, if_false, if_true, Act.put, Step.value, List.setIfInBounds_toArray, List.set_cons_zero, List.set_cons_succ, Nat.zero_add, Nat.reduceAdd]; rfl)) ?_ ?_
                  · refine ⟨?_, ?_, ?_, ?_, ?_, ?_, ?_, ?_, ?_, ?_, ?_, ?_, ?_, trivial⟩ <;> (first | exact trivial | (refine ⟨(by intro v u u1 h g; obtain ⟨b, rfl, h⟩ := h; exact ⟨b, rfl, g.heap h⟩), ?_⟩; intro V u hu hk; refine ⟨by kernel_rfl, ?_⟩; go_simp; exact ⟨⟨_, rfl, heap_alloc_self _ _⟩, (Gr.refl _).alloc _⟩) | (refine ⟨(by intro v u u1 h g; first | exact ownsRow_g h g | exact st_and h g | exact h), ?_⟩; intro V u hu hk; refine ⟨by kernel_rfl, turn_owes (by kernel_rfl) ?_⟩; obtain ⟨hc, hf, hz⟩ := hu.cells; go_simp; skip) | (refine ⟨(by intro v u u1 h g; first | exact ownsRow_g h g | exact st_and h g | exact h), ?_⟩; intro V u hu hk; refine ⟨by kernel_rfl, ?_⟩; obtain ⟨hc, hf, hz⟩ := hu.cells; go_simp; skip) | (intro V u hu hk; refine ⟨by kernel_rfl, ?_⟩; obtain ⟨hc, hf, hz⟩ := hu.cells; go_simp; first | exact ⟨rfl, Gr.refl _⟩ | skip) | (intro V u hu hk; show _ = false; kernel_rfl))
                    exact CR.out _
                  · intro V u5 hg5 hs
                    have gu := gu.trans hg5
                    have bx := hg5.heap bx
                    clear cx fx zx
                    obtain ⟨cx, fx, zx⟩ := blk_cells bx
                    go_simp
                    by_cases h93 : x.k = p.k + 1
                    · have e93 : decide (x.k = p.k + 1) = true := by simpa using h93
                      by_cases h7 : x.d < p.d
                      · go_wp2
                        go_ret2
                        obtain ⟨rfl, rfl⟩ := Prod.ext_iff.1 (HR.out.symm.trans (chkL_at HZ.out hil (e := 7) (by rw [HA.out]; simp [chkE, HB.out, HQ.out, hd, h93, h7]) (by decide)))
                        exact ⟨by simp, gu⟩
                      · go_wp2
                        have NX : chkA n l (i + 1) = 0 := by rw [HA.out]; simp [chkE, HB.out, HQ.out, hd, h93, h7]
                        exact ⟨⟨i + 1 + 1, by simp, by omega, Lib.hid (fun j hj hjl => by
                          rcases Nat.lt_or_ge j (i + 1) with h | h
                          · exact HZ.out j h hjl
                          · obtain rfl : j = i + 1 := by omega
                            exact NX), gu⟩, by simp [intOf]; omega⟩
                    · have e93 : decide (x.k = p.k + 1) = false := by simpa using h93
                      go_wp2
                      go_ret2
                      obtain ⟨rfl, rfl⟩ := Prod.ext_iff.1 (HR.out.symm.trans (chkL_at HZ.out hil (e := 93) (by rw [HA.out]; simp [chkE, HB.out, HQ.out, hd, h93]) (by decide)))
                      exact ⟨by simp, gu⟩
        · have hd : decide (p.s = x.s) = false := by simpa using hs
          have hd2 : (p.s == x.s) = false := by simpa using hs
          have hC : chkP n (some p) x = chkE n 0 0 (some p) x := by unfold chkP; simp only [hs, if_false]
          rw [hC] at HA
          clear hC hs
          refine wp_region_steps [.val (.int .i64 ((i : Int) + 1)), .val (.bool true), .val (.bool true), .val (.slice (some ⟨g2, o2, none⟩) l.length cap), .val (.int .i64 ((i : Int) + 1)), .val (.int .i64 i), .val (.pointer (some ⟨g2, o2 + i * 4, none⟩)), .val (.pointer (some ⟨g2, o2 + i * 4, none⟩)), .val (.int .i64 p.s), .val (.pointer (some ⟨px, 0, none⟩)), .val (.int .i64 x.s), .val (.bool false), .val (.bool false)] (by kernel_rfl) (by kernel_rfl) (fun V => by first | (simp only [finS, Step.isLater, Bool.false_eq_true, if_false, Act.put, Step.value, List.setIfInBounds_toArray, List.set_cons_zero, List.set_cons_succ]; rfl) | (simp only [finS, Step.isLater, Bool.false_eq_true, if_false, if_true, Act.put, Step.value, List.setIfInBounds_toArray, List.set_cons_zero, List.set_cons_succ, Nat.zero_add, Nat.reduceAdd]; rfl)) ?_ ?_
          · refine ⟨?_, ?_, ?_, ?_, ?_, ?_, ?_, ?_, ?_, ?_, ?_, ?_, ?_, trivial⟩ <;> (first | exact trivial | (refine ⟨(by intro v u u1 h g; obtain ⟨b, rfl, h⟩ := h; exact ⟨b, rfl, g.heap h⟩), ?_⟩; intro V u hu hk; refine ⟨by kernel_rfl, ?_⟩; go_simp; exact ⟨⟨_, rfl, heap_alloc_self _ _⟩, (Gr.refl _).alloc _⟩) | (refine ⟨(by intro v u u1 h g; first | exact ownsRow_g h g | exact st_and h g | exact h), ?_⟩; intro V u hu hk; refine ⟨by kernel_rfl, turn_owes (by kernel_rfl) ?_⟩; obtain ⟨hc, hf, hz⟩ := hu.cells; go_simp; skip) | (refine ⟨(by intro v u u1 h g; first | exact ownsRow_g h g | exact st_and h g | exact h), ?_⟩; intro V u hu hk; refine ⟨by kernel_rfl, ?_⟩; obtain ⟨hc, hf, hz⟩ := hu.cells; go_simp; skip) | (intro V u hu hk; refine ⟨by kernel_rfl, ?_⟩; obtain ⟨hc, hf, hz⟩ := hu.cells; go_simp; first | exact ⟨rfl, Gr.refl _⟩ | skip) | (intro V u hu hk; show _ = false; kernel_rfl))
          · intro V u3 hg3 hs3
            have gu := gu.trans hg3
            have bx := hg3.heap bx
            clear cx fx zx d0 d1 d2 d3 hz
            obtain ⟨cx, fx, zx⟩ := blk_cells bx
            obtain ⟨d0, d1, d2, d3, hz⟩ := D0.out _ gu
            go_simp
            go_wp2_with fail
            refine (FX.out _).mono ?_
            rintro e w4 ⟨rfl, hg4⟩
            have gu := gu.trans hg4
            have bx := hg4.heap bx
            clear hg4 cx fx zx
            obtain ⟨cx, fx, zx⟩ := blk_cells bx
            clear d0 d1 d2 d3 hz
            obtain ⟨d0, d1, d2, d3, hz⟩ := D0.out _ gu
            obtain ⟨b, hb⟩ : ∃ b, okR n x = b := ⟨_, rfl⟩
            rw [hb]
            have HB := Lib.hid hb
            clear hb
            cases b
            · go_wp2
              go_ret2
              obtain ⟨rfl, rfl⟩ := Prod.ext_iff.1 (HR.out.symm.trans (chkL_at HZ.out hil (e := 1) (by rw [HA.out]; simp [chkE, HB.out]) (by decide)))
              exact ⟨by simp, gu⟩
            · go_wp2_with fail
              have CR := Lib.hid (fun w => compare_any p x w)
              obtain ⟨q, hq⟩ : ∃ q, cmpR p x = q := ⟨_, rfl⟩
              rw [hq] at CR
              have HQ := Lib.hid hq
              clear hq
              by_cases h6 : 0 ≤ q
              · have hd : decide (0 ≤ q) = true := by simpa using h6
                refine wp_region_steps [.val (.int .i64 ((i : Int) + 1)), .val (.bool true), .val (.bool true), .val (.slice (some ⟨g2, o2, none⟩) l.length cap), .val (.int .i64 ((i : Int) + 1)), .val (.int .i64 i), .val (.pointer (some ⟨g2, o2 + i * 4, none⟩)), .val p.v, .val x.v, .val (.int .i64 q), .val (.bool true), .val (.bool true), .val (.bool true)] (by kernel_rfl) (by kernel_rfl) (fun V => by first | (simp only [finS, Step.isLater, Bool.false_eq_true, if_false, Act.put, Step.value, List.setIfInBounds_toArray, List.set_cons_zero, List.set_cons_succ]; rfl) | (simp only [finS, Step.isLater, Bool.false_eq_true, if_false, if_true, Act.put, Step.value, List.setIfInBounds_toArray, List.set_cons_zero, List.set_cons_succ, Nat.zero_add, Nat.reduceAdd]; rfl)) ?_ ?_
                · refine ⟨?_, ?_, ?_, ?_, ?_, ?_, ?_, ?_, ?_, ?_, ?_, ?_, ?_, trivial⟩ <;> (first | exact trivial | (refine ⟨(by intro v u u1 h g; obtain ⟨b, rfl, h⟩ := h; exact ⟨b, rfl, g.heap h⟩), ?_⟩; intro V u hu hk; refine ⟨by kernel_rfl, ?_⟩; go_simp; exact ⟨⟨_, rfl, heap_alloc_self _ _⟩, (Gr.refl _).alloc _⟩) | (refine ⟨(by intro v u u1 h g; first | exact ownsRow_g h g | exact st_and h g | exact h), ?_⟩; intro V u hu hk; refine ⟨by kernel_rfl, turn_owes (by kernel_rfl) ?_⟩; obtain ⟨hc, hf, hz⟩ := hu.cells; go_simp; skip) | (refine ⟨(by intro v u u1 h g; first | exact ownsRow_g h g | exact st_and h g | exact h), ?_⟩; intro V u hu hk; refine ⟨by kernel_rfl, ?_⟩; obtain ⟨hc, hf, hz⟩ := hu.cells; go_simp; skip) | (intro V u hu hk; refine ⟨by kernel_rfl, ?_⟩; obtain ⟨hc, hf, hz⟩ := hu.cells; go_simp; first | exact ⟨rfl, Gr.refl _⟩ | skip) | (intro V u hu hk; show _ = false; kernel_rfl))
                  exact CR.out _
                · intro V u5 hg5 hs
                  have gu := gu.trans hg5
                  have bx := hg5.heap bx
                  clear cx fx zx
                  obtain ⟨cx, fx, zx⟩ := blk_cells bx
                  go_simp
                  go_wp2
                  go_ret2
                  obtain ⟨rfl, rfl⟩ := Prod.ext_iff.1 (HR.out.symm.trans (chkL_at HZ.out hil (e := 6) (by rw [HA.out]; simp [chkE, HB.out, HQ.out, hd]) (by decide)))
                  exact ⟨by simp, gu⟩
              · have hd : decide (0 ≤ q) = false := by simpa using h6
                refine wp_region_steps [.val (.int .i64 ((i : Int) + 1)), .val (.bool true), .val (.bool true), .val (.slice (some ⟨g2, o2, none⟩) l.length cap), .val (.int .i64 ((i : Int) + 1)), .val (.int .i64 i), .val (.pointer (some ⟨g2, o2 + i * 4, none⟩)), .val p.v, .val x.v, .val (.int .i64 q), .val (.bool false), .val (.bool false), .val (.bool false)] (by kernel_rfl) (by kernel_rfl) (fun V => by first | (simp only [finS, Step.isLater, Bool.false_eq_true, if_false, Act.put, Step.value, List.setIfInBounds_toArray, List.set_cons_zero, List.set_cons_succ]; rfl) | (simp only [finS, Step.isLater, Bool.false_eq_true, if_false, if_true, Act.put, Step.value, List.setIfInBounds_toArray, List.set_cons_zero, List.set_cons_succ, Nat.zero_add, Nat.reduceAdd]; rfl)) ?_ ?_
                · refine ⟨?_, ?_, ?_, ?_, ?_, ?_, ?_, ?_, ?_, ?_, ?_, ?_, ?_, trivial⟩ <;> (first | exact trivial | (refine ⟨(by intro v u u1 h g; obtain ⟨b, rfl, h⟩ := h; exact ⟨b, rfl, g.heap h⟩), ?_⟩; intro V u hu hk; refine ⟨by kernel_rfl, ?_⟩; go_simp; exact ⟨⟨_, rfl, heap_alloc_self _ _⟩, (Gr.refl _).alloc _⟩) | (refine ⟨(by intro v u u1 h g; first | exact ownsRow_g h g | exact st_and h g | exact h), ?_⟩; intro V u hu hk; refine ⟨by kernel_rfl, turn_owes (by kernel_rfl) ?_⟩; obtain ⟨hc, hf, hz⟩ := hu.cells; go_simp; skip) | (refine ⟨(by intro v u u1 h g; first | exact ownsRow_g h g | exact st_and h g | exact h), ?_⟩; intro V u hu hk; refine ⟨by kernel_rfl, ?_⟩; obtain ⟨hc, hf, hz⟩ := hu.cells; go_simp; skip) | (intro V u hu hk; refine ⟨by kernel_rfl, ?_⟩; obtain ⟨hc, hf, hz⟩ := hu.cells; go_simp; first | exact ⟨rfl, Gr.refl _⟩ | skip) | (intro V u hu hk; show _ = false; kernel_rfl))
                  exact CR.out _
                · intro V u5 hg5 hs
                  have gu := gu.trans hg5
                  have bx := hg5.heap bx
                  clear cx fx zx
                  obtain ⟨cx, fx, zx⟩ := blk_cells bx
                  go_simp
                  by_cases h93 : x.k = 1
                  · have e93 : decide (x.k = 1) = true := by simpa using h93
                    by_cases h7 : x.d < 0
                    · go_wp2
                      go_ret2
                      obtain ⟨rfl, rfl⟩ := Prod.ext_iff.1 (HR.out.symm.trans (chkL_at HZ.out hil (e := 7) (by rw [HA.out]; simp [chkE, HB.out, HQ.out, hd, h93, h7]) (by decide)))
                      exact ⟨by simp, gu⟩
                    · go_wp2
                      have NX : chkA n l (i + 1) = 0 := by rw [HA.out]; simp [chkE, HB.out, HQ.out, hd, h93, h7]
                      exact ⟨⟨i + 1 + 1, by simp, by omega, Lib.hid (fun j hj hjl => by
                        rcases Nat.lt_or_ge j (i + 1) with h | h
                        · exact HZ.out j h hjl
                        · obtain rfl : j = i + 1 := by omega
                          exact NX), gu⟩, by simp [intOf]; omega⟩
                  · have e93 : decide (x.k = 1) = false := by simpa using h93
                    go_wp2
                    go_ret2
                    obtain ⟨rfl, rfl⟩ := Prod.ext_iff.1 (HR.out.symm.trans (chkL_at HZ.out hil (e := 93) (by rw [HA.out]; simp [chkE, HB.out, HQ.out, hd, h93]) (by decide)))
                    exact ⟨by simp, gu⟩
    · have hil' : ¬ (i : Int) < l.length := by omega
      obtain rfl : i = l.length := by omega
      go_wp2
      go_ret2
      obtain ⟨rfl, rfl⟩ := Prod.ext_iff.1 (HR.out.symm.trans (chkL_ok (fun j hj => HZ.out j hj hj)))
      exact ⟨rfl, gr⟩
end Go.Proofs.YthmimjofdmnakaaGreatDoor
