/- cmp.Compare, cmp.Or at int; loft: compare. -/
import Derived.Test.YthmimjofdmnakaaGreatDoorLNil
import Derived.Test.YthmimjofdmnakaaGreatDoorSteps
namespace Go.Proofs.YthmimjofdmnakaaGreatDoor
section
open Go.RowKit Go.Shelf
/-- cmp.Compare -/
def cmpI (x y : Int) : Int := if x < y then -1 else if y < x then 1 else 0
theorem isNaN_any (x : Int) (w : World) : Calls Tryz.prog 133 #[.int .i64 x] w fun e w' => e = .returned (.bool false) ∧ w = w' := by
  go_enter Tryz.func133, Tryz.ntmps133
  go_wp2
  go_ret
  exact ⟨rfl, rfl⟩
theorem Compare_any (x y : Int) (w : World) : Calls Tryz.prog 70 #[.int .i64 x, .int .i64 y] w fun e w' => e = .returned (.int .i64 (cmpI x y)) ∧ w = w' := by
  unfold cmpI
  by_cases h1 : x < y
  · rw [if_pos h1]
    go_enter Tryz.func70, Tryz.ntmps70
    go_wp2_with (go_at_call 133; refine (isNaN_any _ _).mono ?_; rintro e w1 ⟨rfl, rfl⟩)
    go_ret
    exact ⟨rfl, rfl⟩
  · rw [if_neg h1]
    by_cases h2 : y < x
    · rw [if_pos h2]
      go_enter Tryz.func70, Tryz.ntmps70
      go_wp2_with (go_at_call 133; refine (isNaN_any _ _).mono ?_; rintro e w1 ⟨rfl, rfl⟩)
      go_ret
      exact ⟨rfl, rfl⟩
    · rw [if_neg h2]
      go_enter Tryz.func70, Tryz.ntmps70
      go_wp2_with (go_at_call 133; refine (isNaN_any _ _).mono ?_; rintro e w1 ⟨rfl, rfl⟩)
      go_ret
      exact ⟨rfl, rfl⟩
/-- cmp.Or of two -/
def orI (x y : Int) : Int := if x ≠ 0 then x else y
set_option maxHeartbeats 400000 in
theorem Or_any (g cap : Nat) (x y : Int) (w : World) (hx : w.cell? ⟨g, 0, none⟩ = some (.int .i64 x)) (hy : w.cell? ⟨g, 1, none⟩ = some (.int .i64 y)) :
    Calls Tryz.prog 69 #[.slice (some ⟨g, 0, none⟩) 2 cap] w fun e w' => e = .returned (.int .i64 (orI x y)) ∧ w = w' := by
  unfold orI
  by_cases h : x = 0
  · subst h
    by_cases k : y = 0
    · subst k
      go_enter Tryz.func69, Tryz.ntmps69
      go_wp2
      refine wp_loop_rounds 3 ?_
      rw [rounds_succ]
      go_wp2
      rw [rounds_succ]
      go_wp2
      try (rw [rounds_succ]; go_wp2)
      go_ret
      exact ⟨rfl, rfl⟩
    · go_enter Tryz.func69, Tryz.ntmps69
      go_wp2
      refine wp_loop_rounds 3 ?_
      rw [rounds_succ]
      go_wp2
      rw [rounds_succ]
      go_wp2
      try (rw [rounds_succ]; go_wp2)
      go_ret
      exact ⟨rfl, rfl⟩
  · go_enter Tryz.func69, Tryz.ntmps69
    go_wp2
    refine wp_loop_rounds 3 ?_
    rw [rounds_succ]
    go_wp2
    go_ret
    exact ⟨ret_int (by simp), rfl⟩
/-- loft's compare -/
def cmpR (a b : Rc) : Int := orI (cmpI a.s b.s) (cmpI a.k b.k)
set_option maxRecDepth 100000 in
set_option maxHeartbeats 1000000 in
theorem compare_any (a b : Rc) (w : World) : Calls Tryz.prog 64 #[a.v, b.v] w fun e w' => e = .returned (.int .i64 (cmpR a b)) ∧ Gr w w' := by
  obtain ⟨s, k, d, t⟩ := a
  obtain ⟨s2, k2, d2, t2⟩ := b
  unfold cmpR Rc.v
  dsimp only
  have bx := heap_alloc_self w (.cells #[.int .i64 s, .int .i64 k, .int .i64 d, .string t] 23)
  have by_ := heap_alloc_self (w.alloc (.cells #[.int .i64 s, .int .i64 k, .int .i64 d, .string t] 23)) (.cells #[.int .i64 s2, .int .i64 k2, .int .i64 d2, .string t2] 23)
  have bx := ((Gr.refl _).alloc (.cells #[.int .i64 s2, .int .i64 k2, .int .i64 d2, .string t2] 23)).heap bx
  have g0 : Gr w ((w.alloc (.cells #[.int .i64 s, .int .i64 k, .int .i64 d, .string t] 23)).alloc (.cells #[.int .i64 s2, .int .i64 k2, .int .i64 d2, .string t2] 23)) := ((Gr.refl w).alloc _).alloc _
  simp only [World.size_alloc] at by_
  go_enter Tryz.func64, Tryz.ntmps64
  go_wp2
  generalize (w.alloc (.cells #[.int .i64 s, .int .i64 k, .int .i64 d, .string t] 23)).alloc (.cells #[.int .i64 s2, .int .i64 k2, .int .i64 d2, .string t2] 23) = W at *
  obtain ⟨p2, h2⟩ : ∃ p2, w.heap.size + 1 = p2 := ⟨_, rfl⟩
  rw [h2] at by_
  rw [h2]
  clear h2
  generalize w.heap.size = p1 at *
  obtain ⟨cx, fx, zx⟩ := blk_cells bx
  obtain ⟨cy, fy, zy⟩ := blk_cells by_
  refine wp_region_steps [.val (.pointer (some ⟨p1, 0, none⟩)), .val (.int .i64 s), .val (.pointer (some ⟨p2, 0, none⟩)), .val (.int .i64 s2), .val (.int .i64 (cmpI s s2)), .val (.pointer (some ⟨p1, 1, none⟩)), .val (.int .i64 k), .val (.pointer (some ⟨p2, 1, none⟩)), .val (.int .i64 k2), .val (.int .i64 (cmpI k k2)), .sat (fun v u => ∃ g, v = .slice (some ⟨g, 0, none⟩) 2 2 ∧ u.heap[g]? = some (.cells #[.int .i64 (cmpI s s2), .int .i64 (cmpI k k2)] 3 (0, 0))), .val (.int .i64 (orI (cmpI s s2) (cmpI k k2))), .val (.int .i64 (orI (cmpI s s2) (cmpI k k2)))] (by kernel_rfl) (by kernel_rfl) (fun V => by first | (simp only [finS, Step.isLater, Bool.false_eq_true, if_false, Act.put, Step.value, List.setIfInBounds_toArray, List.set_cons_zero, List.set_cons_succ]; rfl) | (simp only [finS, Step.isLater, Bool.false_eq_true, if_false, if_true, Act.put, Step.value, List.setIfInBounds_toArray, List.set_cons_zero, List.set_cons_succ, Nat.zero_add, Nat.reduceAdd]; rfl)) ?_ ?_
  · refine ⟨?_, ?_, ?_, ?_, ?_, ?_, ?_, ?_, ?_, ?_, ?_, ?_, ?_, trivial⟩ <;> (first | exact trivial | (refine ⟨(by intro v u u1 h g; obtain ⟨b, rfl, h⟩ := h; exact ⟨b, rfl, g.heap h⟩), ?_⟩; intro V u hu hk; refine ⟨by kernel_rfl, ?_⟩; go_simp; exact ⟨⟨_, rfl, heap_alloc_self _ _⟩, (Gr.refl _).alloc _⟩) | (refine ⟨(by intro v u u1 h g; first | exact ownsRow_g h g | exact st_and h g | exact h), ?_⟩; intro V u hu hk; refine ⟨by kernel_rfl, turn_owes (by kernel_rfl) ?_⟩; obtain ⟨hc, hf, hz⟩ := hu.cells; go_simp; skip) | (refine ⟨(by intro v u u1 h g; first | exact ownsRow_g h g | exact st_and h g | exact h), ?_⟩; intro V u hu hk; refine ⟨by kernel_rfl, ?_⟩; obtain ⟨hc, hf, hz⟩ := hu.cells; go_simp; skip) | (intro V u hu hk; refine ⟨by kernel_rfl, ?_⟩; obtain ⟨hc, hf, hz⟩ := hu.cells; go_simp; first | exact ⟨rfl, Gr.refl _⟩ | skip) | (intro V u hu hk; show _ = false; kernel_rfl))
    · exact (Compare_any _ _ _).mono fun e w' ⟨h, e'⟩ => ⟨h, e' ▸ Gr.refl _⟩
    · exact (Compare_any _ _ _).mono fun e w' ⟨h, e'⟩ => ⟨h, e' ▸ Gr.refl _⟩
    · obtain ⟨g, hv, hb⟩ := hk 10 _ rfl (by kernel_rfl)
      rw [hv]
      obtain ⟨cg, fg, zg⟩ := blk_cells hb
      exact (Or_any g 2 _ _ _ (cg 0) (cg 1)).mono fun e w' ⟨h, e'⟩ => ⟨h, e' ▸ Gr.refl _⟩
  · intro V u hg hs
    go_simp
    go_wp2
    go_ret
    exact ⟨rfl, g0.trans hg⟩
end
section
open Go.RowKit Go.Shelf
set_option maxRecDepth 100000 in
set_option maxHeartbeats 2000000 in
theorem search_any (v : Value) (l : List Rc) (x : Rc) (m : Nat) (fb : Bool) (w : World) (hr : RowR w v l) (hl : l.length ≤ 1000000) (hm : m ≤ l.length)
    (h1 : ∀ j (hj : j < l.length), j < m → cmpR l[j] x < 0) (h2 : ∀ j (hj : j < l.length), m ≤ j → ¬ cmpR l[j] x < 0)
    (f1 : ∀ h : m < l.length, fb = decide (cmpR l[m] x = 0)) (f2 : ¬ m < l.length → fb = false) :
    Calls Tryz.prog 72 #[v, x.v, .func (.func 64) #[] #[]] w fun e w' => e = .returned (.tuple #[.int .i64 m, .bool fb]) ∧ Gr w w' := by
  obtain ⟨a, cap, rfl, hcap, hcell⟩ := hr.form
  have HC := Lib.hid hcell
  have H1 := Lib.hid h1
  have H2 := Lib.hid h2
  have F1 := Lib.hid f1
  have F2 := Lib.hid f2
  have CX := Lib.hid (fun (r : Rc) w => compare_any r x w)
  have HX : x.v = .agg #[.int .i64 x.s, .int .i64 x.k, .int .i64 x.d, .string x.t] := rfl
  rw [HX]
  have HX := Lib.hid HX
  have bx := heap_alloc_self w (.cells #[.int .i64 x.s, .int .i64 x.k, .int .i64 x.d, .string x.t] 23)
  have g0 : Gr w (w.alloc (.cells #[.int .i64 x.s, .int .i64 x.k, .int .i64 x.d, .string x.t] 23)) := (Gr.refl w).alloc _
  clear hcell hr h1 h2 f1 f2
  go_enter Tryz.func72, Tryz.ntmps72
  go_wp2
  generalize w.alloc (.cells #[.int .i64 x.s, .int .i64 x.k, .int .i64 x.d, .string x.t] 23) = W at *
  obtain ⟨px, hpx⟩ : ∃ p, w.heap.size = p := ⟨_, rfl⟩
  rw [hpx] at bx
  rw [hpx]
  clear hpx
  go_loopw [9, 10] (fun p q wr => ∃ i j : Nat, p = .int .i64 i ∧ q = .int .i64 j ∧ i ≤ m ∧ m ≤ j ∧ j ≤ l.length ∧ Gr W wr) (fun p q _ => (intOf q).toNat - (intOf p).toNat)
  case atStart => exact ⟨0, l.length, rfl, rfl, by omega, by omega, by omega, Gr.refl _⟩
  case round =>
    obtain ⟨i, j, rfl, rfl, hi, hj, hjl, gr⟩ := hrel
    have bx' := gr.heap bx
    obtain ⟨cx, fx, zx⟩ := blk_cells bx'
    by_cases hij : i < j
    · have hij' : (i : Int) < j := by omega
      go_wp2_with fail
      obtain ⟨h, hh⟩ : ∃ h : Nat, ((i : Int) + j) / 2 = h := ⟨(i + j) / 2, by omega⟩
      rw [hh]
      have hh1 : i ≤ h := by omega
      have hh2 : h < j := by omega
      clear hh
      have hlt : h < l.length := by omega
      obtain ⟨g, rfl, hg, c0, c1, c2, c3⟩ := HC.out h hlt
      have G := g0.trans gr
      rw [← G.cells.1 g _ hg] at c0 c1 c2 c3
      have hz : g < wr.heap.size := Nat.lt_of_lt_of_le hg G.b.size
      have A1 := Lib.hid (H1.out h hlt)
      have A2 := Lib.hid (H2.out h hlt)
      generalize l[h] = r at *
      have CR := Lib.hid (fun w => CX.out r w)
      have hb1 : (0 : Int) ≤ h := by omega
      have hb2 : (h : Int) < l.length := by omega
      obtain ⟨q, hq⟩ : ∃ q, cmpR r x = q := ⟨_, rfl⟩
      rw [hq] at A1 A2
      simp only [hq] at CR
      refine wp_region_steps [.val (.func (.func 64) #[] #[]), .val (.slice (some ⟨g, 0, none⟩) l.length cap), .val (.int .i64 h), .val (.pointer (some ⟨g, h * 4, none⟩)), .val r.v, .val x.v, .val (.int .i64 q), .val (.bool (decide (q < 0)))] (by kernel_rfl) (by kernel_rfl) (fun V => by first | (simp only [finS, Step.isLater, Bool.false_eq_true, if_false, Act.put, Step.value, List.setIfInBounds_toArray, List.set_cons_zero, List.set_cons_succ]; rfl) | (simp only [finS, Step.isLater, Bool.false_eq_true, if_false, if_true, Act.put, Step.value, List.setIfInBounds_toArray, List.set_cons_zero, List.set_cons_succ, Nat.zero_add, Nat.reduceAdd]; rfl)) ?_ ?_
      · refine ⟨?_, ?_, ?_, ?_, ?_, ?_, ?_, ?_, trivial⟩ <;> (first | exact trivial | (refine ⟨(by intro v u u1 h g; obtain ⟨b, rfl, h⟩ := h; exact ⟨b, rfl, g.heap h⟩), ?_⟩; intro V u hu hk; refine ⟨by kernel_rfl, ?_⟩; go_simp; exact ⟨⟨_, rfl, heap_alloc_self _ _⟩, (Gr.refl _).alloc _⟩) | (refine ⟨(by intro v u u1 h g; first | exact ownsRow_g h g | exact st_and h g | exact h), ?_⟩; intro V u hu hk; refine ⟨by kernel_rfl, turn_owes (by kernel_rfl) ?_⟩; obtain ⟨hc, hf, hz⟩ := hu.cells; go_simp; skip) | (refine ⟨(by intro v u u1 h g; first | exact ownsRow_g h g | exact st_and h g | exact h), ?_⟩; intro V u hu hk; refine ⟨by kernel_rfl, ?_⟩; obtain ⟨hc, hf, hz⟩ := hu.cells; go_simp; skip) | (intro V u hu hk; refine ⟨by kernel_rfl, ?_⟩; obtain ⟨hc, hf, hz⟩ := hu.cells; go_simp; first | exact ⟨rfl, Gr.refl _⟩ | skip) | (intro V u hu hk; show _ = false; kernel_rfl))
        exact CR.out _
      · intro V u hg' hs
        have gu := gr.trans hg'
        by_cases hk : h < m
        · have hq0 := A1.out hk
          go_simp
          go_wp2
          exact ⟨⟨h+1, j, by simp, rfl, by omega, by omega, by omega, gu⟩, by simp [intOf]; omega⟩
        · have hq0 := A2.out (by omega)
          have hq1 : decide (q < 0) = false := by simpa using hq0
          go_simp
          go_wp2
          exact ⟨⟨i, h, rfl, rfl, by omega, by omega, by omega, gu⟩, by simp [intOf]; omega⟩
    · have hij' : ¬ (i : Int) < j := by omega
      obtain rfl : i = m := by omega
      obtain rfl : j = i := by omega
      by_cases hk : j < l.length
      · have hk' : (j : Int) < l.length := by omega
        have fq := Lib.hid (F1.out hk)
        obtain ⟨g, rfl, hg, c0, c1, c2, c3⟩ := HC.out j hk
        have G := g0.trans gr
        rw [← G.cells.1 g _ hg] at c0 c1 c2 c3
        have hz : g < wr.heap.size := Nat.lt_of_lt_of_le hg G.b.size
        generalize l[j] = r at *
        have CR := Lib.hid (fun w => CX.out r w)
        have hb1 : (0 : Int) ≤ j := by omega
        obtain ⟨q, hq⟩ : ∃ q, cmpR r x = q := ⟨_, rfl⟩
        rw [hq] at fq
        simp only [hq] at CR
        obtain rfl := fq.out
        go_wp2_with fail
        refine wp_region_steps [.val (.int .i64 j), .val (.int .i64 j), .val (.int .i64 l.length), .val (.bool true), .val (.bool true), .val (.func (.func 64) #[] #[]), .val (.slice (some ⟨g, 0, none⟩) l.length cap), .val (.int .i64 j), .val (.pointer (some ⟨g, j * 4, none⟩)), .val r.v, .val x.v, .val (.int .i64 q), .val (.bool (decide (q = 0))), .val (.bool (decide (q = 0))), .val (.int .i64 j), .val (.bool (decide (q = 0)))] (by kernel_rfl) (by kernel_rfl) (fun V => by first | (simp only [finS, Step.isLater, Bool.false_eq_true, if_false, Act.put, Step.value, List.setIfInBounds_toArray, List.set_cons_zero, List.set_cons_succ]; rfl) | (simp only [finS, Step.isLater, Bool.false_eq_true, if_false, if_true, Act.put, Step.value, List.setIfInBounds_toArray, List.set_cons_zero, List.set_cons_succ, Nat.zero_add, Nat.reduceAdd]; rfl)) ?_ ?_
        · refine ⟨?_, ?_, ?_, ?_, ?_, ?_, ?_, ?_, ?_, ?_, ?_, ?_, ?_, ?_, ?_, ?_, trivial⟩ <;> (first | exact trivial | (refine ⟨(by intro v u u1 h g; obtain ⟨b, rfl, h⟩ := h; exact ⟨b, rfl, g.heap h⟩), ?_⟩; intro V u hu hk; refine ⟨by kernel_rfl, ?_⟩; go_simp; exact ⟨⟨_, rfl, heap_alloc_self _ _⟩, (Gr.refl _).alloc _⟩) | (refine ⟨(by intro v u u1 h g; first | exact ownsRow_g h g | exact st_and h g | exact h), ?_⟩; intro V u hu hk; refine ⟨by kernel_rfl, turn_owes (by kernel_rfl) ?_⟩; obtain ⟨hc, hf, hz⟩ := hu.cells; go_simp; skip) | (refine ⟨(by intro v u u1 h g; first | exact ownsRow_g h g | exact st_and h g | exact h), ?_⟩; intro V u hu hk; refine ⟨by kernel_rfl, ?_⟩; obtain ⟨hc, hf, hz⟩ := hu.cells; go_simp; skip) | (intro V u hu hk; refine ⟨by kernel_rfl, ?_⟩; obtain ⟨hc, hf, hz⟩ := hu.cells; go_simp; first | exact ⟨rfl, Gr.refl _⟩ | skip) | (intro V u hu hk; show _ = false; kernel_rfl))
          exact CR.out _
        · intro V u hg' hs
          go_simp
          go_wp2
          go_ret2
          exact ⟨rfl, (g0.trans gr).trans hg'⟩
      · have hk' : ¬ (j : Int) < l.length := by omega
        obtain rfl := F2.out hk
        go_wp2_with fail
        refine wp_region_steps [.val (.int .i64 j), .val (.int .i64 j), .val (.int .i64 l.length), .val (.bool false), .val (.bool false), .off, .off, .off, .off, .off, .off, .off, .off, .val (.bool false), .val (.int .i64 j), .val (.bool false)] (by kernel_rfl) (by kernel_rfl) (fun V => by first | (simp only [finS, Step.isLater, Bool.false_eq_true, if_false, Act.put, Step.value, List.setIfInBounds_toArray, List.set_cons_zero, List.set_cons_succ]; rfl) | (simp only [finS, Step.isLater, Bool.false_eq_true, if_false, if_true, Act.put, Step.value, List.setIfInBounds_toArray, List.set_cons_zero, List.set_cons_succ, Nat.zero_add, Nat.reduceAdd]; rfl)) ?_ ?_
        · refine ⟨?_, ?_, ?_, ?_, ?_, ?_, ?_, ?_, ?_, ?_, ?_, ?_, ?_, ?_, ?_, ?_, trivial⟩ <;> (first | exact trivial | (refine ⟨(by intro v u u1 h g; obtain ⟨b, rfl, h⟩ := h; exact ⟨b, rfl, g.heap h⟩), ?_⟩; intro V u hu hk; refine ⟨by kernel_rfl, ?_⟩; go_simp; exact ⟨⟨_, rfl, heap_alloc_self _ _⟩, (Gr.refl _).alloc _⟩) | (refine ⟨(by intro v u u1 h g; first | exact ownsRow_g h g | exact st_and h g | exact h), ?_⟩; intro V u hu hk; refine ⟨by kernel_rfl, turn_owes (by kernel_rfl) ?_⟩; obtain ⟨hc, hf, hz⟩ := hu.cells; go_simp; skip) | (refine ⟨(by intro v u u1 h g; first | exact ownsRow_g h g | exact st_and h g | exact h), ?_⟩; intro V u hu hk; refine ⟨by kernel_rfl, ?_⟩; obtain ⟨hc, hf, hz⟩ := hu.cells; go_simp; skip) | (intro V u hu hk; refine ⟨by kernel_rfl, ?_⟩; obtain ⟨hc, hf, hz⟩ := hu.cells; go_simp; first | exact ⟨rfl, Gr.refl _⟩ | skip) | (intro V u hu hk; show _ = false; kernel_rfl))
        · intro V u hg' hs
          go_simp
          go_wp2
          go_ret2
          exact ⟨rfl, (g0.trans gr).trans hg'⟩
end
section
open Go.RowKit Go.Shelf
/-- is a record formed? -/
def okR (n : Int) (x : Rc) : Bool := formedB n x.s x.k x.d x.t
/-- what is wrong with a record behind another one -/
def chkE (n : Int) (num day : Int) (p : Option Rc) (x : Rc) : Int :=
  if okR n x = false then 1 else if (p.any fun q => decide (0 ≤ cmpR q x)) = true then 6 else if x.k ≠ num + 1 then 93 else if x.d < day then 7 else 0
def chkP (n : Int) (p : Option Rc) (x : Rc) : Int := match p with
  | none => chkE n 0 0 none x
  | some q => if q.s = x.s then chkE n q.k q.d (some q) x else chkE n 0 0 (some q) x
/-- what is wrong with record i of a list -/
def chkA (n : Int) (l : List Rc) (i : Nat) : Int := match l[i]? with
  | none => 0
  | some x => chkP n (if i = 0 then none else l[i-1]?) x
theorem chkA_0 {n : Int} {l : List Rc} (h : 0 < l.length) : chkA n l 0 = chkE n 0 0 none l[0] := by
  unfold chkA; rw [List.getElem?_eq_getElem h]; rfl
theorem chkA_s {n : Int} {l : List Rc} {i : Nat} (h : i + 1 < l.length) : chkA n l (i+1) = chkP n (some (l[i]'(by omega))) l[i+1] := by
  unfold chkA
  rw [List.getElem?_eq_getElem h, if_neg (by omega), Nat.add_sub_cancel, List.getElem?_eq_getElem (show i < l.length by omega)]
/-- what CheckRecords returns for a list, from place i on -/
def chkF (n : Int) (l : List Rc) : Nat → Nat → Int × Int
  | 0, _ => (0, 0)
  | f + 1, i => if i < l.length then if chkA n l i ≠ 0 then (i, chkA n l i) else chkF n l f (i+1) else (0, 0)
def chkL (n : Int) (l : List Rc) : Int × Int := chkF n l (l.length + 1) 0
theorem chkF_skip {n : Int} {l : List Rc} : ∀ (f i k : Nat), (∀ j, j < k → j < l.length → chkA n l j = 0) → k ≤ l.length → i ≤ k → l.length + 1 ≤ f + i → chkF n l f i = chkF n l (f - (k - i)) k
  | 0, i, k, _, h, h1, h2 => by have : i = k := by omega
                                subst this; simp
  | f + 1, i, k, h, hk, h1, h2 => by
    by_cases e : i = k
    · subst e; simp
    · rw [chkF, if_pos (by omega), if_neg (by rw [h i (by omega) (by omega)]; simp), chkF_skip f (i+1) k h hk (by omega) (by omega)]
      congr 1; omega
theorem chkL_at {n : Int} {l : List Rc} {i : Nat} {e : Int} (h : ∀ j, j < i → j < l.length → chkA n l j = 0) (hi : i < l.length) (he : chkA n l i = e) (h0 : e ≠ 0) : chkL n l = ((i : Int), e) := by
  unfold chkL
  rw [chkF_skip _ 0 i h (by omega) (by omega) (by omega)]
  obtain ⟨f, hf⟩ : ∃ f, l.length + 1 - (i - 0) = f + 1 := ⟨l.length - i, by omega⟩
  rw [hf, chkF, if_pos hi, if_pos (by rw [he]; exact h0), he]
theorem chkL_ok {n : Int} {l : List Rc} (h : ∀ j, j < l.length → chkA n l j = 0) : chkL n l = (0, 0) := by
  unfold chkL
  rw [chkF_skip _ 0 l.length (fun j hj _ => h j hj) (by omega) (by omega) (by omega)]
  obtain ⟨f, hf⟩ : ∃ f, l.length + 1 - (l.length - 0) = f + 1 := ⟨0, by omega⟩
  rw [hf, chkF, if_neg (by omega)]
theorem chkE_ok {n a b : Int} {p : Option Rc} {x : Rc} (h : chkE n a b p x = 0) : okR n x = true := by
  unfold chkE at h
  cases hb : okR n x with
  | true => rfl
  | false => rw [hb] at h; simp at h
theorem okR_k {n : Int} {x : Rc} (h : okR n x = true) : 1 ≤ x.k ∧ x.k ≤ 400 := by
  unfold okR formedB at h
  simp only [Bool.and_eq_true, decide_eq_true_eq] at h
  omega
theorem chkA_ok {n : Int} {l : List Rc} {i : Nat} (hi : i < l.length) (h : chkA n l i = 0) : okR n l[i] = true := by
  unfold chkA at h
  rw [List.getElem?_eq_getElem hi] at h
  dsimp only at h
  unfold chkP at h
  split at h
  · exact chkE_ok h
  · split at h
    · exact chkE_ok h
    · exact chkE_ok h
theorem formedR_any (n : Int) (x : Rc) (w : World) (hn1 : -1000000 ≤ n) (hn2 : n ≤ 1000000) (ht : x.t.size ≤ 100000) :
    Calls Tryz.prog 52 #[.int .i64 n, x.v] w fun e w' => e = .returned (.bool (okR n x)) ∧ Gr w w' := formed_any n x.s x.k x.d x.t w hn1 hn2 ht
end
end Go.Proofs.YthmimjofdmnakaaGreatDoor
