/- strickleref09: refused, CheckRecords. -/
import Derived.Test.YthmimjofdmnakaaGreatDoorJCheck
import Derived.Test.YthmimjofdmnakaaGreatDoorLSort
namespace Go.Proofs.YthmimjofdmnakaaGreatDoor
section
open Go.RowKit Go.Shelf
theorem okR_d {n : Int} {x : Rc} (h : okR n x = true) : 0 ≤ x.d ∧ 1 ≤ x.k ∧ x.k ≤ 400 ∧ 0 ≤ x.s ∧ x.s ≤ n - 1 := by
  unfold okR formedB at h
  simp only [Bool.and_eq_true, decide_eq_true_eq] at h
  omega
theorem chkP_1 {n : Int} {p : Option Rc} {x : Rc} (h : okR n x = false) : chkP n p x = 1 := by
  unfold chkP
  cases p with
  | none => simp [chkE, h]
  | some q => dsimp only; split <;> simp [chkE, h]
theorem chkP_n {n : Int} {x : Rc} (h : okR n x = true) : chkP n none x = if x.k = 1 then 0 else 93 := by
  have := okR_d h
  have h1 : ¬ x.d < 0 := by omega
  unfold chkP chkE
  by_cases hk : x.k = 1
  · simp [h, hk, h1]
  · simp [h, hk]
theorem chkP_6 {n : Int} {q x : Rc} (h : okR n x = true) (c : x.s < q.s ∨ x.s = q.s ∧ x.k ≤ q.k) : chkP n (some q) x = 6 := by
  have hc : 0 ≤ cmpR q x := by
    rcases Int.lt_or_le (cmpR q x) 0 with h | h
    · rw [cmpR_lt] at h; omega
    · exact h
  unfold chkP
  dsimp only
  split <;> simp [chkE, h, hc]
theorem chkP_f {n : Int} {q x : Rc} (h : okR n x = true) (c : q.s < x.s) : chkP n (some q) x = if x.k = 1 then 0 else 93 := by
  have hc : ¬ 0 ≤ cmpR q x := by
    have := (cmpR_lt q x).2 (Or.inl c)
    omega
  have h2 : ¬ q.s = x.s := by omega
  have := okR_d h
  have h1 : ¬ x.d < 0 := by omega
  unfold chkP chkE
  by_cases hk : x.k = 1
  · simp [h, hk, h1, h2, hc]
  · simp [h, hk, h2, hc]
theorem chkP_g {n : Int} {q x : Rc} (h : okR n x = true) (c : x.s = q.s) (c2 : q.k < x.k) : chkP n (some q) x = if x.k = q.k + 1 then if x.d < q.d then 7 else 0 else 93 := by
  have hc : ¬ 0 ≤ cmpR q x := by
    have := (cmpR_lt q x).2 (Or.inr ⟨c.symm, c2⟩)
    omega
  unfold chkP chkE
  by_cases hk : x.k = q.k + 1
  · simp [h, hk, hc, c]
  · simp [h, hk, hc, c]
theorem rformedR_any (n : Int) (x : Rc) (w : World) (hn1 : -1000000 ≤ n) (hn2 : n ≤ 1000000) (ht : x.t.size ≤ 100000) :
    Calls Tryz.prog 55 #[.int .i64 n, x.v] w fun e w' => e = .returned (.bool (okR n x)) ∧ Gr w w' := rformed_any n x.s x.k x.d x.t w hn1 hn2 ht
set_option maxRecDepth 100000 in
set_option maxHeartbeats 2000000 in
theorem refused_none (n : Int) (x : Rc) (a : Option Addr) (cap : Nat) (w : World) (hn1 : -1000000 ≤ n) (hn2 : n ≤ 1000000) (ht : x.t.size ≤ 100000) :
    Calls Tryz.prog 65 #[.int .i64 n, .slice a 0 cap, x.v] w fun e w' => e = .returned (.int .i64 (chkP n none x)) ∧ Gr w w' := by
  have FO := Lib.hid (fun w => rformedR_any n x w hn1 hn2 ht)
  have P1 := Lib.hid (fun h => chkP_1 (n := n) (p := none) (x := x) h)
  have P2 := Lib.hid (fun h => chkP_n (n := n) (x := x) h)
  generalize chkP n none x = E at *
  have HX : x.v = .agg #[.int .i64 x.s, .int .i64 x.k, .int .i64 x.d, .string x.t] := rfl
  rw [HX] at FO ⊢
  clear HX ht
  generalize x.s = s at *
  generalize x.k = k at *
  generalize x.d = d at *
  generalize x.t = t at *
  have bx := heap_alloc_self w (.cells #[.int .i64 s, .int .i64 k, .int .i64 d, .string t] 23)
  have gu : Gr w (w.alloc (.cells #[.int .i64 s, .int .i64 k, .int .i64 d, .string t] 23)) := (Gr.refl w).alloc _
  obtain ⟨b, hb⟩ : ∃ b, okR n x = b := ⟨_, rfl⟩
  rw [hb] at FO P1 P2
  clear hb
  go_enter Tryz.func65, Tryz.ntmps65
  go_wp2_with fail
  generalize w.alloc (.cells #[.int .i64 s, .int .i64 k, .int .i64 d, .string t] 23) = W at *
  obtain ⟨px, hpx⟩ : ∃ p, w.heap.size = p := ⟨_, rfl⟩
  rw [hpx] at bx
  rw [hpx]
  clear hpx
  refine (FO.out _).mono ?_
  rintro e w4 ⟨rfl, hg4⟩
  have gu := gu.trans hg4
  have bx := hg4.heap bx
  clear hg4 FO
  obtain ⟨cx, fx, zx⟩ := blk_cells bx
  cases b
  · have hE := P1.out rfl
    go_wp2
    go_ret
    exact ⟨ret_int hE.symm, gu⟩
  · have hE := P2.out rfl
    by_cases hk : k = 1
    · rw [if_pos hk] at hE
      have e1 : decide (k = 1) = true := by simpa using hk
      go_wp2
      go_ret
      exact ⟨ret_int hE.symm, gu⟩
    · rw [if_neg hk] at hE
      have e1 : decide (k = 1) = false := by simpa using hk
      go_wp2
      go_ret
      exact ⟨ret_int hE.symm, gu⟩
set_option maxRecDepth 100000 in
set_option maxHeartbeats 4000000 in
theorem refused_some (n : Int) (q x : Rc) (g o i cap : Nat) (w : World) (hn1 : -1000000 ≤ n) (hn2 : n ≤ 1000000) (ht : x.t.size ≤ 100000) (hi : i ≤ 1000000) (_hc : i + 1 ≤ cap) (hk1 : -1000000 ≤ q.k) (hk2 : q.k ≤ 1000000) (hg : g < w.heap.size)
    (c0 : w.cell? ⟨g, o + i * 4, none⟩ = some (.int .i64 q.s)) (c1 : w.cell? ⟨g, o + i * 4 + 1, none⟩ = some (.int .i64 q.k)) (c2 : w.cell? ⟨g, o + i * 4 + 2, none⟩ = some (.int .i64 q.d)) (c3 : w.cell? ⟨g, o + i * 4 + 3, none⟩ = some (.string q.t)) :
    Calls Tryz.prog 65 #[.int .i64 n, .slice (some ⟨g, o, none⟩) (i + 1) cap, x.v] w fun e w' => e = .returned (.int .i64 (chkP n (some q) x)) ∧ Gr w w' := by
  have FO := Lib.hid (fun w => rformedR_any n x w hn1 hn2 ht)
  have P1 := Lib.hid (fun h => chkP_1 (n := n) (p := some q) (x := x) h)
  have P6 := Lib.hid (fun h => chkP_6 (n := n) (q := q) (x := x) h)
  have PF := Lib.hid (fun h => chkP_f (n := n) (q := q) (x := x) h)
  have PG := Lib.hid (fun h => chkP_g (n := n) (q := q) (x := x) h)
  generalize chkP n (some q) x = E at *
  have HX : x.v = .agg #[.int .i64 x.s, .int .i64 x.k, .int .i64 x.d, .string x.t] := rfl
  rw [HX] at FO ⊢
  obtain ⟨b, hb⟩ : ∃ b, okR n x = b := ⟨_, rfl⟩
  rw [hb] at FO P1 P6 PF PG
  clear HX ht hb
  generalize x.s = s at *
  generalize x.k = k at *
  generalize x.d = d at *
  generalize x.t = t at *
  generalize q.s = s2 at *
  generalize q.k = k2 at *
  generalize q.d = d2 at *
  generalize q.t = t2 at *
  have bx := heap_alloc_self w (.cells #[.int .i64 s, .int .i64 k, .int .i64 d, .string t] 23)
  have gu : Gr w (w.alloc (.cells #[.int .i64 s, .int .i64 k, .int .i64 d, .string t] 23)) := (Gr.refl w).alloc _
  have i1 : ((i + 1 : Nat) : Int) = (i : Int) + 1 := by omega
  have i2 : (0 : Int) ≤ i := by omega
  go_enter Tryz.func65, Tryz.ntmps65
  go_wp2_with fail
  generalize w.alloc (.cells #[.int .i64 s, .int .i64 k, .int .i64 d, .string t] 23) = W at *
  obtain ⟨px, hpx⟩ : ∃ p, w.heap.size = p := ⟨_, rfl⟩
  rw [hpx] at bx hg
  rw [hpx]
  have HC := Lib.hid (fun u (G : Gr w u) => show u.cell? ⟨g, o + i * 4, none⟩ = some (.int .i64 s2) ∧ u.cell? ⟨g, o + i * 4 + 1, none⟩ = some (.int .i64 k2) ∧ u.cell? ⟨g, o + i * 4 + 2, none⟩ = some (.int .i64 d2) ∧ u.cell? ⟨g, o + i * 4 + 3, none⟩ = some (.string t2) ∧ g < u.heap.size from
    ⟨(G.cells.1 g _ (by omega)).trans c0, (G.cells.1 g _ (by omega)).trans c1, (G.cells.1 g _ (by omega)).trans c2, (G.cells.1 g _ (by omega)).trans c3, Nat.lt_of_lt_of_le (by omega) G.b.size⟩)
  clear hpx c0 c1 c2 c3 hg
  refine (FO.out _).mono ?_
  rintro e w4 ⟨rfl, hg4⟩
  have gu := gu.trans hg4
  have bx := hg4.heap bx
  clear hg4 FO
  obtain ⟨cx, fx, zx⟩ := blk_cells bx
  obtain ⟨c0, c1, c2, c3, hz⟩ := HC.out _ gu
  cases b
  · have hE := P1.out rfl
    go_wp2
    go_ret
    exact ⟨ret_int hE.symm, gu⟩
  · replace P6 := P6.out rfl
    replace PF := PF.out rfl
    replace PG := PG.out rfl
    rcases Int.lt_trichotomy s s2 with h | h | h
    · have hE := P6 (Or.inl h)
      clear P6 PF PG
      go_wp2
      go_ret
      exact ⟨ret_int hE.symm, gu.alloc _⟩
    · subst h
      by_cases h1 : k ≤ k2
      · have hE := P6 (Or.inr ⟨rfl, h1⟩)
        clear P6 PF PG
        go_wp2
        go_ret
        exact ⟨ret_int hE.symm, gu.alloc _⟩
      · have hE := PG rfl (by omega)
        clear P6 PF PG
        by_cases h2 : k = k2 + 1
        · rw [if_pos h2] at hE
          have e1 : decide (k = k2 + 1) = true := by simpa using h2
          by_cases h3 : d < d2
          · rw [if_pos h3] at hE
            go_wp2
            go_ret
            exact ⟨ret_int hE.symm, gu.alloc _⟩
          · rw [if_neg h3] at hE
            go_wp2
            go_ret
            exact ⟨ret_int hE.symm, gu.alloc _⟩
        · rw [if_neg h2] at hE
          have e1 : decide (k = k2 + 1) = false := by simpa using h2
          go_wp2
          go_ret
          exact ⟨ret_int hE.symm, gu.alloc _⟩
    · have hE := PF h
      have n1 : ¬ s < s2 := by omega
      have n2 : ¬ s = s2 := by omega
      have n3 : decide (s = s2) = false := by simpa using n2
      clear P6 PF PG
      by_cases h2 : k = 1
      · rw [if_pos h2] at hE
        have e1 : decide (k = 1) = true := by simpa using h2
        go_wp2
        go_ret
        exact ⟨ret_int hE.symm, gu.alloc _⟩
      · rw [if_neg h2] at hE
        have e1 : decide (k = 1) = false := by simpa using h2
        go_wp2
        go_ret
        exact ⟨ret_int hE.symm, gu.alloc _⟩
end
section
open Go.RowKit Go.Shelf
theorem rCheckR_no (n : Int) (v : Value) (w : World) (hc : (decide (n = 3) || decide (n = 5)) = false) :
    Calls Tryz.prog 17 #[.int .i64 n, v] w fun e w' => e = .returned (.tuple #[.int .i64 0, .int .i64 1]) ∧ Gr w w' := by
  have IC := Lib.hid (Many_any n w)
  rw [hc] at IC
  go_enter Tryz.func17, Tryz.ntmps17
  go_wp2_with fail
  refine IC.out.mono ?_
  rintro e w1 ⟨rfl, hg1⟩
  go_wp2
  go_ret2
  exact ⟨rfl, hg1⟩
set_option maxRecDepth 100000 in
set_option maxHeartbeats 8000000 in
theorem rCheckR_any (n : Int) (v : Value) (l : List Rc) (w : World) (hn1 : -1000000 ≤ n) (hn2 : n ≤ 1000000) (hr : RecsAt w v l) (hl : l.length ≤ 1000000) (ht : ∀ x ∈ l, x.t.size ≤ 100000) (hc : (decide (n = 3) || decide (n = 5)) = true) :
    Calls Tryz.prog 17 #[.int .i64 n, v] w fun e w' => e = .returned (.tuple #[.int .i64 (chkL n l).1, .int .i64 (chkL n l).2]) ∧ Gr w w' := by
  obtain ⟨a, cap, rfl, hcap, hcell⟩ := hr
  have HC := Lib.hid hcell
  have IC := Lib.hid (Many_any n w)
  rw [hc] at IC
  have FN := Lib.hid (fun (j : Nat) (h : j < l.length) a cap w => refused_none n l[j] a cap w hn1 hn2 (ht _ (List.getElem_mem h)))
  have FS := Lib.hid (fun (j : Nat) (h : j < l.length) (q : Rc) g o i cap w => refused_some n q l[j] g o i cap w hn1 hn2 (ht _ (List.getElem_mem h)))
  obtain ⟨R1, R2, hR⟩ : ∃ R1 R2, chkL n l = (R1, R2) := ⟨_, _, rfl⟩
  rw [hR]
  have HR := Lib.hid hR
  clear hcell hc hR ht
  go_enter Tryz.func17, Tryz.ntmps17
  go_wp2_with fail
  refine IC.out.mono ?_
  rintro e w1 ⟨rfl, hg1⟩
  clear IC
  go_wp2
  go_loopw [6] (fun q wr => ∃ i : Nat, q = .int .i64 i ∧ i ≤ l.length ∧ Hid (∀ j, j < i → j < l.length → chkA n l j = 0) ∧ Gr w wr) (fun q _ => l.length - (intOf q).toNat)
  case atStart => exact ⟨0, rfl, by omega, Lib.hid (fun j hj => by omega), hg1⟩
  case round =>
    obtain ⟨i, rfl, hi, HZ, gr⟩ := hrel
    by_cases hil : i < l.length
    · have hil' : (i : Int) < l.length := by omega
      have hi0 : (0 : Int) ≤ i := by omega
      have hic : i ≤ cap := by omega
      obtain ⟨g, o, rfl, hg, c0, c1, c2, c3⟩ := HC.out i hil
      rw [← gr.cells.1 g _ hg] at c0 c1 c2 c3
      have hz : g < wr.heap.size := Nat.lt_of_lt_of_le hg gr.b.size
      have CALL : ∃ E, chkA n l i = E ∧ Hid (∀ u, Gr wr u → Calls Tryz.prog 65 #[.int .i64 n, .slice (some ⟨g, o, none⟩) i cap, l[i].v] u fun e w' => e = .returned (.int .i64 E) ∧ Gr u w') := by
        refine ⟨_, rfl, Lib.hid (fun u hu => ?_)⟩
        rcases Nat.eq_zero_or_pos i with rfl | hpos
        · have := FN.out 0 hil (some ⟨g, o, none⟩) cap u
          rw [show chkA n l 0 = chkP n none l[0] from chkA_0 hil]
          exact this
        · obtain ⟨k, rfl⟩ : ∃ k, i = k + 1 := ⟨i - 1, by omega⟩
          rw [chkA_s hil]
          obtain ⟨g2, o2, hge, _, d0, d1, d2, d3⟩ := HC.out k (by omega)
          obtain ⟨rfl, rfl⟩ : g2 = g ∧ o2 = o := by injection hge with h; injection h with h h2; exact ⟨h.symm, h2.symm⟩
          have G := gr.trans hu
          have hk := okR_d (chkA_ok (show k < l.length by omega) (HZ.out k (by omega) (by omega)))
          exact FS.out (k+1) hil _ g2 o2 k cap u (by omega) hic (by omega) (by omega) (Nat.lt_of_lt_of_le hg G.b.size) ((G.cells.1 g2 _ hg).trans d0) ((G.cells.1 g2 _ hg).trans d1) ((G.cells.1 g2 _ hg).trans d2) ((G.cells.1 g2 _ hg).trans d3)
      obtain ⟨E, hE, CR⟩ := CALL
      have HE := Lib.hid hE
      clear hE
      generalize l[i] = x at *
      go_wp2_with fail
      refine wp_region_steps [.val (.int .i64 n), .val (.slice (some ⟨g, o, none⟩) l.length cap), .val (.int .i64 i), .val (.slice (some ⟨g, o, none⟩) i cap), .val (.slice (some ⟨g, o, none⟩) l.length cap), .val (.int .i64 i), .val (.pointer (some ⟨g, o + i * 4, none⟩)), .val x.v, .val (.int .i64 E), .val (.int .i64 E)] (by kernel_rfl) (by kernel_rfl) (fun V => by first | (simp only [finS, Step.isLater, Bool.false_eq_true, if_false, Act.put, Step.value, List.setIfInBounds_toArray, List.set_cons_zero, List.set_cons_succ]; rfl) | (simp only [finS, Step.isLater, Bool.false_eq_true, if_false, if_true, Act.put, Step.value, List.setIfInBounds_toArray, List.set_cons_zero, List.set_cons_succ, Nat.zero_add, Nat.reduceAdd]; rfl)) ?_ ?_
      · refine ⟨?_, ?_, ?_, ?_, ?_, ?_, ?_, ?_, ?_, ?_, trivial⟩ <;> (first | exact trivial | (refine ⟨(by intro v u u1 h g; obtain ⟨b, rfl, h⟩ := h; exact ⟨b, rfl, g.heap h⟩), ?_⟩; intro V u hu hk; refine ⟨by kernel_rfl, ?_⟩; go_simp; exact ⟨⟨_, rfl, heap_alloc_self _ _⟩, (Gr.refl _).alloc _⟩) | (refine ⟨(by intro v u u1 h g; first | exact ownsRow_g h g | exact st_and h g | exact h), ?_⟩; intro V u hu hk; refine ⟨by kernel_rfl, turn_owes (by kernel_rfl) ?_⟩; obtain ⟨hc, hf, hz⟩ := hu.cells; go_simp; skip) | (refine ⟨(by intro v u u1 h g; first | exact ownsRow_g h g | exact st_and h g | exact h), ?_⟩; intro V u hu hk; refine ⟨by kernel_rfl, ?_⟩; obtain ⟨hc, hf, hz⟩ := hu.cells; go_simp; skip) | (intro V u hu hk; refine ⟨by kernel_rfl, ?_⟩; obtain ⟨hc, hf, hz⟩ := hu.cells; go_simp; first | exact ⟨rfl, Gr.refl _⟩ | skip) | (intro V u hu hk; show _ = false; kernel_rfl))
        exact CR.out _ hu
      · intro V u3 hg3 hs
        have gu := gr.trans hg3
        clear c0 c1 c2 c3 hz
        by_cases h0 : E = 0
        · have e0 : decide (E = 0) = true := by simpa using h0
          go_simp
          go_wp2
          exact ⟨⟨i + 1, by simp, by omega, Lib.hid (fun j hj hjl => by
            rcases Nat.lt_or_ge j i with h | h
            · exact HZ.out j h hjl
            · obtain rfl : j = i := by omega
              exact HE.out.trans h0), gu⟩, by simp [intOf]; omega⟩
        · have e0 : decide (E = 0) = false := by simpa using h0
          go_simp
          go_wp2
          go_ret2
          obtain ⟨r1, r2⟩ := Prod.ext_iff.1 (HR.out.symm.trans (chkL_at HZ.out hil (e := E) HE.out h0))
          replace r1 : R1 = (i : Int) := r1
          replace r2 : R2 = E := r2
          rw [r1, r2]
          exact ⟨rfl, gu⟩
    · have hil' : ¬ (i : Int) < l.length := by omega
      obtain rfl : i = l.length := by omega
      go_wp2
      go_ret2
      obtain ⟨rfl, rfl⟩ := Prod.ext_iff.1 (HR.out.symm.trans (chkL_ok (fun j hj => HZ.out j hj hj)))
      exact ⟨rfl, gr⟩
end
end Go.Proofs.YthmimjofdmnakaaGreatDoor
