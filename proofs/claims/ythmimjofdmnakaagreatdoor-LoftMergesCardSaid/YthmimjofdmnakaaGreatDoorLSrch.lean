/- slices.BinarySearchFunc over records. -/
import Derived.Test.YthmimjofdmnakaaGreatDoorLCmp
namespace Go.Proofs.YthmimjofdmnakaaGreatDoor
open Go.RowKit Go.Shelf
set_option maxRecDepth 100000 in
set_option maxHeartbeats 2000000 in
theorem search_any (v : Value) (l : List Rc) (x : Rc) (m : Nat) (fb : Bool) (w : World) (hr : RowR w v l) (hl : l.length ≤ 1000000) (hm : m ≤ l.length)
    (h1 : ∀ j (hj : j < l.length), j < m → cmpR l[j] x < 0) (h2 : ∀ j (hj : j < l.length), m ≤ j → ¬ cmpR l[j] x < 0)
    (f1 : ∀ h : m < l.length, fb = decide (cmpR l[m] x = 0)) (f2 : ¬ m < l.length → fb = false) :
    Calls Tryz.prog 72 #[v, x.v, .func (.func 64) #[] #[]] w fun e w' => e = .returned (.tuple #[.int .i64 m, .bool fb]) ∧ Gr w w' := by
  obtain ⟨a, cap, rfl, hcap, hcell⟩ := hr.form
  have HC := Lib.hid hcell
  have H1 := Lib.hid h1
  have H2 := Lib.hid h2
  have F1 := Lib.hid f1
  have F2 := Lib.hid f2
  have CX := Lib.hid (fun (r : Rc) w => compare_any r x w)
  have HX : x.v = .agg #[.int .i64 x.s, .int .i64 x.k, .int .i64 x.d, .string x.t] := rfl
  rw [HX]
  have HX := Lib.hid HX
  have bx := heap_alloc_self w (.cells #[.int .i64 x.s, .int .i64 x.k, .int .i64 x.d, .string x.t] 23)
  have g0 : Gr w (w.alloc (.cells #[.int .i64 x.s, .int .i64 x.k, .int .i64 x.d, .string x.t] 23)) := (Gr.refl w).alloc _
  clear hcell hr h1 h2 f1 f2
  go_enter Tryz.func72, Tryz.ntmps72
  go_wp2
  generalize w.alloc (.cells #[.int .i64 x.s, .int .i64 x.k, .int .i64 x.d, .string x.t] 23) = W at *
  obtain ⟨px, hpx⟩ : ∃ p, w.heap.size = p := ⟨_, rfl⟩
  rw [hpx] at bx
  rw [hpx]
  clear hpx
  go_loopw [9, 10] (fun p q wr => ∃ i j : Nat, p = .int .i64 i ∧ q = .int .i64 j ∧ i ≤ m ∧ m ≤ j ∧ j ≤ l.length ∧ Gr W wr) (fun p q _ => (intOf q).toNat - (intOf p).toNat)
  case atStart => exact ⟨0, l.length, rfl, rfl, by omega, by omega, by omega, Gr.refl _⟩
  case round =>
    obtain ⟨i, j, rfl, rfl, hi, hj, hjl, gr⟩ := hrel
    have bx' := gr.heap bx
    obtain ⟨cx, fx, zx⟩ := blk_cells bx'
    by_cases hij : i < j
    · have hij' : (i : Int) < j := by omega
      go_wp2_with fail
      obtain ⟨h, hh⟩ : ∃ h : Nat, ((i : Int) + j) / 2 = h := ⟨(i + j) / 2, by omega⟩
      rw [hh]
      have hh1 : i ≤ h := by omega
      have hh2 : h < j := by omega
      clear hh
      have hlt : h < l.length := by omega
      obtain ⟨g, rfl, hg, c0, c1, c2, c3⟩ := HC.out h hlt
      have G := g0.trans gr
      rw [← G.cells.1 g _ hg] at c0 c1 c2 c3
      have hz : g < wr.heap.size := Nat.lt_of_lt_of_le hg G.b.size
      have A1 := Lib.hid (H1.out h hlt)
      have A2 := Lib.hid (H2.out h hlt)
      generalize l[h] = r at *
      have CR := Lib.hid (fun w => CX.out r w)
      have hb1 : (0 : Int) ≤ h := by omega
      have hb2 : (h : Int) < l.length := by omega
      obtain ⟨q, hq⟩ : ∃ q, cmpR r x = q := ⟨_, rfl⟩
      rw [hq] at A1 A2
      simp only [hq] at CR
      refine wp_region_steps [.val (.func (.func 64) #[] #[]), .val (.slice (some ⟨g, 0, none⟩) l.length cap), .val (.int .i64 h), .val (.pointer (some ⟨g, h * 4, none⟩)), .val r.v, .val x.v, .val (.int .i64 q), .val (.bool (decide (q < 0)))] (by kernel_rfl) (by kernel_rfl) (fun V => by first | (simp only [finS, Step.isLater, Bool.false_eq_true, if_false, Act.put, Step.value, List.setIfInBounds_toArray, List.set_cons_zero, List.set_cons_succ]; rfl) | (simp only [finS, Step.isLater, Bool.false_eq_true, if_false, if_true, Act.put, Step.value, List.setIfInBounds_toArray, List.set_cons_zero, List.set_cons_succ, Nat.zero_add, Nat.reduceAdd]; rfl)) ?_ ?_
      · refine ⟨?_, ?_, ?_, ?_, ?_, ?_, ?_, ?_, trivial⟩ <;> (first | exact trivial | (refine ⟨(by intro v u u1 h g; obtain ⟨b, rfl, h⟩ := h; exact ⟨b, rfl, g.heap h⟩), ?_⟩; intro V u hu hk; refine ⟨by kernel_rfl, ?_⟩; go_simp; exact ⟨⟨_, rfl, heap_alloc_self _ _⟩, (Gr.refl _).alloc _⟩) | (refine ⟨(by intro v u u1 h g; first | exact ownsRow_g h g | exact st_and h g | exact h), ?_⟩; intro V u hu hk; refine ⟨by kernel_rfl, turn_owes (by kernel_rfl) ?_⟩; obtain ⟨hc, hf, hz⟩ := hu.cells; go_simp; skip) | (refine ⟨(by intro v u u1 h g; first | exact ownsRow_g h g | exact st_and h g | exact h), ?_⟩; intro V u hu hk; refine ⟨by kernel_rfl, ?_⟩; obtain ⟨hc, hf, hz⟩ := hu.cells; go_simp; skip) | (intro V u hu hk; refine ⟨by kernel_rfl, ?_⟩; obtain ⟨hc, hf, hz⟩ := hu.cells; go_simp; first | exact ⟨rfl, Gr.refl _⟩ | skip) | (intro V u hu hk; show _ = false; kernel_rfl))
        exact CR.out _
      · intro V u hg' hs
        have gu := gr.trans hg'
        by_cases hk : h < m
        · have hq0 := A1.out hk
          go_simp
          go_wp2
          exact ⟨⟨h+1, j, by simp, rfl, by omega, by omega, by omega, gu⟩, by simp [intOf]; omega⟩
        · have hq0 := A2.out (by omega)
          have hq1 : decide (q < 0) = false := by simpa using hq0
          go_simp
          go_wp2
          exact ⟨⟨i, h, rfl, rfl, by omega, by omega, by omega, gu⟩, by simp [intOf]; omega⟩
    · have hij' : ¬ (i : Int) < j := by omega
      obtain rfl : i = m := by omega
      obtain rfl : j = i := by omega
      by_cases hk : j < l.length
      · have hk' : (j : Int) < l.length := by omega
        have fq := Lib.hid (F1.out hk)
        obtain ⟨g, rfl, hg, c0, c1, c2, c3⟩ := HC.out j hk
        have G := g0.trans gr
        rw [← G.cells.1 g _ hg] at c0 c1 c2 c3
        have hz : g < wr.heap.size := Nat.lt_of_lt_of_le hg G.b.size
        generalize l[j] = r at *
        have CR := Lib.hid (fun w => CX.out r w)
        have hb1 : (0 : Int) ≤ j := by omega
        obtain ⟨q, hq⟩ : ∃ q, cmpR r x = q := ⟨_, rfl⟩
        rw [hq] at fq
        simp only [hq] at CR
        obtain rfl := fq.out
        go_wp2_with fail
        refine wp_region_steps [.val (.int .i64 j), .val (.int .i64 j), .val (.int .i64 l.length), .val (.bool true), .val (.bool true), .val (.func (.func 64) #[] #[]), .val (.slice (some ⟨g, 0, none⟩) l.length cap), .val (.int .i64 j), .val (.pointer (some ⟨g, j * 4, none⟩)), .val r.v, .val x.v, .val (.int .i64 q), .val (.bool (decide (q = 0))), .val (.bool (decide (q = 0))), .val (.int .i64 j), .val (.bool (decide (q = 0)))] (by kernel_rfl) (by kernel_rfl) (fun V => by first | (simp only [finS, Step.isLater, Bool.false_eq_true, if_false, Act.put, Step.value, List.setIfInBounds_toArray, List.set_cons_zero, List.set_cons_succ]; rfl) | (simp only [finS, Step.isLater, Bool.false_eq_true, if_false, if_true, Act.put, Step.value, List.setIfInBounds_toArray, List.set_cons_zero, List.set_cons_succ, Nat.zero_add, Nat.reduceAdd]; rfl)) ?_ ?_
        · refine ⟨?_, ?_, ?_, ?_, ?_, ?_, ?_, ?_, ?_, ?_, ?_, ?_, ?_, ?_, ?_, ?_, trivial⟩ <;> (first | exact trivial | (refine ⟨(by intro v u u1 h g; obtain ⟨b, rfl, h⟩ := h; exact ⟨b, rfl, g.heap h⟩), ?_⟩; intro V u hu hk; refine ⟨by kernel_rfl, ?_⟩; go_simp; exact ⟨⟨_, rfl, heap_alloc_self _ _⟩, (Gr.refl _).alloc _⟩) | (refine ⟨(by intro v u u1 h g; first | exact ownsRow_g h g | exact st_and h g | exact h), ?_⟩; intro V u hu hk; refine ⟨by kernel_rfl, turn_owes (by kernel_rfl) ?_⟩; obtain ⟨hc, hf, hz⟩ := hu.cells; go_simp; skip) | (refine ⟨(by intro v u u1 h g; first | exact ownsRow_g h g | exact st_and h g | exact h), ?_⟩; intro V u hu hk; refine ⟨by kernel_rfl, ?_⟩; obtain ⟨hc, hf, hz⟩ := hu.cells; go_simp; skip) | (intro V u hu hk; refine ⟨by kernel_rfl, ?_⟩; obtain ⟨hc, hf, hz⟩ := hu.cells; go_simp; first | exact ⟨rfl, Gr.refl _⟩ | skip) | (intro V u hu hk; show _ = false; kernel_rfl))
          exact CR.out _
        · intro V u hg' hs
          go_simp
          go_wp2
          go_ret2
          exact ⟨rfl, (g0.trans gr).trans hg'⟩
      · have hk' : ¬ (j : Int) < l.length := by omega
        obtain rfl := F2.out hk
        go_wp2_with fail
        refine wp_region_steps [.val (.int .i64 j), .val (.int .i64 j), .val (.int .i64 l.length), .val (.bool false), .val (.bool false), .off, .off, .off, .off, .off, .off, .off, .off, .val (.bool false), .val (.int .i64 j), .val (.bool false)] (by kernel_rfl) (by kernel_rfl) (fun V => by first | (simp only [finS, Step.isLater, Bool.false_eq_true, if_false, Act.put, Step.value, List.setIfInBounds_toArray, List.set_cons_zero, List.set_cons_succ]; rfl) | (simp only [finS, Step.isLater, Bool.false_eq_true, if_false, if_true, Act.put, Step.value, List.setIfInBounds_toArray, List.set_cons_zero, List.set_cons_succ, Nat.zero_add, Nat.reduceAdd]; rfl)) ?_ ?_
        · refine ⟨?_, ?_, ?_, ?_, ?_, ?_, ?_, ?_, ?_, ?_, ?_, ?_, ?_, ?_, ?_, ?_, trivial⟩ <;> (first | exact trivial | (refine ⟨(by intro v u u1 h g; obtain ⟨b, rfl, h⟩ := h; exact ⟨b, rfl, g.heap h⟩), ?_⟩; intro V u hu hk; refine ⟨by kernel_rfl, ?_⟩; go_simp; exact ⟨⟨_, rfl, heap_alloc_self _ _⟩, (Gr.refl _).alloc _⟩) | (refine ⟨(by intro v u u1 h g; first | exact ownsRow_g h g | exact st_and h g | exact h), ?_⟩; intro V u hu hk; refine ⟨by kernel_rfl, turn_owes (by kernel_rfl) ?_⟩; obtain ⟨hc, hf, hz⟩ := hu.cells; go_simp; skip) | (refine ⟨(by intro v u u1 h g; first | exact ownsRow_g h g | exact st_and h g | exact h), ?_⟩; intro V u hu hk; refine ⟨by kernel_rfl, ?_⟩; obtain ⟨hc, hf, hz⟩ := hu.cells; go_simp; skip) | (intro V u hu hk; refine ⟨by kernel_rfl, ?_⟩; obtain ⟨hc, hf, hz⟩ := hu.cells; go_simp; first | exact ⟨rfl, Gr.refl _⟩ | skip) | (intro V u hu hk; show _ = false; kernel_rfl))
        · intro V u hg' hs
          go_simp
          go_wp2
          go_ret2
          exact ⟨rfl, (g0.trans gr).trans hg'⟩
end Go.Proofs.YthmimjofdmnakaaGreatDoor
