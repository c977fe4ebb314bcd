/- loft: missing$1; slices.DeleteFunc over records; missing. -/
import Derived.Test.YthmimjofdmnakaaGreatDoorJOf
namespace Go.Proofs.YthmimjofdmnakaaGreatDoor
open Go.RowKit Go.Shelf Go.Lib
set_option maxRecDepth 100000 in
set_option maxHeartbeats 2000000 in
theorem missing1_any (x : Rc) (px q : Nat) (f : Nat → Int) (w : World) (hp : w.cell? ⟨px, 0, none⟩ = some (.slice (some ⟨q, 0, none⟩) 5 5)) (hq : ∀ s, s < 5 → w.cell? ⟨q, s, none⟩ = some (.int .i64 (f s))) (hpl : px < w.heap.size) (hql : q < w.heap.size) (h0 : 0 ≤ x.s) (h4 : x.s ≤ 4) :
    Calls Tryz.prog 137 #[x.v, .pointer (some ⟨px, 0, none⟩)] w fun e w' => e = .returned (.bool (decide (x.k ≤ f x.s.toNat))) ∧ Gr w w' := by
  have HX : x.v = .agg #[.int .i64 x.s, .int .i64 x.k, .int .i64 x.d, .string x.t] := rfl
  rw [HX]
  clear HX
  obtain ⟨sn, hsn⟩ : ∃ n : Nat, x.s = n := ⟨x.s.toNat, by omega⟩
  have est : x.s.toNat = sn := by omega
  have hsn5 : sn < 5 := by omega
  have hsn4 : (sn : Int) < 5 := by omega
  have hsn0 : (0 : Int) ≤ sn := by omega
  have hsn3 : (sn : Int).toNat = sn := by omega
  rw [est]
  have cq := hq sn hsn5
  rw [hsn]
  clear hq h0 h4 hsn est
  generalize x.k = k at *
  generalize x.d = d at *
  generalize x.t = t at *
  generalize f sn = fs at *
  obtain ⟨b, hb⟩ : ∃ b, decide (k ≤ fs) = b := ⟨_, rfl⟩
  rw [hb]
  have bx := heap_alloc_self w (.cells #[.int .i64 sn, .int .i64 k, .int .i64 d, .string t] 23)
  have g0 : Gr w (w.alloc (.cells #[.int .i64 sn, .int .i64 k, .int .i64 d, .string t] 23)) := (Gr.refl w).alloc _
  have cp' := (g0.cells.1 px 0 hpl).trans hp
  have cq' := (g0.cells.1 q sn hql).trans cq
  have zp : px < (w.alloc (.cells #[.int .i64 sn, .int .i64 k, .int .i64 d, .string t] 23)).heap.size := Nat.lt_of_lt_of_le hpl g0.b.size
  have zq : q < (w.alloc (.cells #[.int .i64 sn, .int .i64 k, .int .i64 d, .string t] 23)).heap.size := Nat.lt_of_lt_of_le hql g0.b.size
  clear hp cq hpl hql
  go_enter Tryz.func137, Tryz.ntmps137
  go_wp2_with fail
  generalize w.alloc (.cells #[.int .i64 sn, .int .i64 k, .int .i64 d, .string t] 23) = W at *
  obtain ⟨p, hp⟩ : ∃ p, w.heap.size = p := ⟨_, rfl⟩
  rw [hp] at bx
  rw [hp]
  clear hp
  obtain ⟨cx, fx, zx⟩ := blk_cells bx
  refine wp_region_steps [.val (.pointer (some ⟨p, 1, none⟩)), .val (.int .i64 k), .val (.slice (some ⟨q, 0, none⟩) 5 5), .val (.pointer (some ⟨p, 0, none⟩)), .val (.int .i64 sn), .val (.pointer (some ⟨q, sn, none⟩)), .val (.int .i64 fs), .val (.bool b), .val (.bool b)] (by kernel_rfl) (by kernel_rfl) (fun V => by first | (simp only [finS, Step.isLater, Bool.false_eq_true, if_false, Act.put, Step.value, List.setIfInBounds_toArray, List.set_cons_zero, List.set_cons_succ]; rfl) | (simp only [finS, Step.isLater, Bool.false_eq_true, if_false, if_true, Act.put, Step.value, List.setIfInBounds_toArray, List.set_cons_zero, List.set_cons_succ, Nat.zero_add, Nat.reduceAdd]; rfl)) ?_ ?_
  · refine ⟨?_, ?_, ?_, ?_, ?_, ?_, ?_, ?_, ?_, trivial⟩ <;> (first | exact trivial | (refine ⟨(by intro v u u1 h g; obtain ⟨b, rfl, h⟩ := h; exact ⟨b, rfl, g.heap h⟩), ?_⟩; intro V u hu hk; refine ⟨by kernel_rfl, ?_⟩; go_simp; exact ⟨⟨_, rfl, heap_alloc_self _ _⟩, (Gr.refl _).alloc _⟩) | (refine ⟨(by intro v u u1 h g; first | exact ownsRow_g h g | exact st_and h g | exact h), ?_⟩; intro V u hu hk; refine ⟨by kernel_rfl, turn_owes (by kernel_rfl) ?_⟩; obtain ⟨hc, hf, hz⟩ := hu.cells; go_simp; skip) | (refine ⟨(by intro v u u1 h g; first | exact ownsRow_g h g | exact st_and h g | exact h), ?_⟩; intro V u hu hk; refine ⟨by kernel_rfl, ?_⟩; obtain ⟨hc, hf, hz⟩ := hu.cells; go_simp; skip) | (intro V u hu hk; refine ⟨by kernel_rfl, ?_⟩; obtain ⟨hc, hf, hz⟩ := hu.cells; go_simp; first | exact ⟨rfl, Gr.refl _⟩ | skip) | (intro V u hu hk; show _ = false; kernel_rfl))
  · intro V u hg hsx
    have gu := g0.trans hg
    go_simp
    go_wp2
    go_ret
    exact ⟨rfl, gu⟩
theorem own_sets {base : Nat} {T : TypeId} {g cap n : Nat} : ∀ (zs : List Value) (o : Nat) (xs : List Value) (w : World), w.ownsRow base T 4 (.slice (some ⟨g, 0, none⟩) n cap) n xs →
    ∃ xs', (w.setCells g o zs).ownsRow base T 4 (.slice (some ⟨g, 0, none⟩) n cap) n xs' ∧ xs'.take o = xs.take o ∧ GrL [g] w (w.setCells g o zs)
  | [], _, xs, w, h => ⟨xs, h, rfl, GrL.of_gr (Gr.refl w)⟩
  | u :: zs, o, xs, w, h => by
    obtain ⟨h1, -⟩ := h.stored o u
    obtain ⟨xs', h2, h3, h4⟩ := own_sets zs (o + 1) _ _ h1
    refine ⟨xs', h2, ?_, (GrL.set (l := [g]) (GrL.of_gr (Gr.refl w)) ⟨g, o, none⟩ u (Or.inr (by simp))).trans h4⟩
    have := congrArg (List.take o) h3
    rw [List.take_take, List.take_take, Nat.min_eq_left (Nat.le_succ o), List.take_set_of_le (Nat.le_refl o)] at this
    exact this
theorem own_cut {base : Nat} {T : TypeId} {g cap n k : Nat} {xs : List Value} {w : World} (h : w.ownsRow base T 4 (.slice (some ⟨g, 0, none⟩) n cap) n xs) (hk : k ≤ n) :
    w.ownsRow base T 4 (.slice (some ⟨g, 0, none⟩) k cap) k (xs.take (k * 4)) := by
  rcases h.2 with ⟨hv, _⟩ | ⟨g', cap', cur, hv, hb, hg, hcap, hmax, hsz, htk⟩
  · cases hv
  injection hv with ha _ hc
  subst hc
  injection ha with ha
  injection ha with ha
  subst ha
  have hle : k * 4 ≤ n * 4 := Nat.mul_le_mul_right _ hk
  refine ⟨by rw [List.length_take, h.1]; omega, .inr ⟨g, cap, cur, rfl, hb, hg, by omega, hmax, hsz, ?_⟩⟩
  rw [← htk, List.take_take, Nat.min_eq_left hle]
theorem rcs_set : ∀ (l : List Rc) (j : Nat) (x : Rc) (_ : j < l.length), ((((rcs l).set (j * 4) (.int .i64 x.s)).set (j * 4 + 1) (.int .i64 x.k)).set (j * 4 + 2) (.int .i64 x.d)).set (j * 4 + 3) (.string x.t) = rcs (l.set j x)
  | y :: l, 0, x, _ => rfl
  | y :: l, j + 1, x, h => by
    have e : (j + 1) * 4 = j * 4 + 4 := by omega
    have := rcs_set l j x (by simpa using h)
    rw [e]
    show (((([_, _, _, _] ++ rcs l).set (j * 4 + 4) _).set (j * 4 + 4 + 1) _).set (j * 4 + 4 + 2) _).set (j * 4 + 4 + 3) _ = y.cells ++ rcs (l.set j x)
    rw [← this]
    rfl
theorem rcs_take : ∀ (l : List Rc) (i : Nat), (rcs l).take (i * 4) = rcs (l.take i)
  | _, 0 => by simp [rcs]
  | [], i + 1 => by simp [rcs]
  | y :: l, i + 1 => by
    rw [show (i + 1) * 4 = i * 4 + 4 from by omega, List.take_succ_cons]
    show (y.cells ++ rcs l).take (i * 4 + 4) = y.cells ++ rcs (l.take i)
    rw [← rcs_take l i]
    rfl
theorem own_put {base : Nat} {g cap : Nat} {L : List Rc} {w : World} (h : w.ownsRow base 23 4 (.slice (some ⟨g, 0, none⟩) L.length cap) L.length (rcs L)) (j : Nat) (hj : j < L.length) (x : Rc) :
    ((((w.setCell ⟨g, j * 4, none⟩ (.int .i64 x.s)).setCell ⟨g, j * 4 + 1, none⟩ (.int .i64 x.k)).setCell ⟨g, j * 4 + 2, none⟩ (.int .i64 x.d)).setCell ⟨g, j * 4 + 3, none⟩ (.string x.t)).ownsRow base 23 4 (.slice (some ⟨g, 0, none⟩) L.length cap) L.length (rcs (L.set j x)) ∧
    GrL [g] w ((((w.setCell ⟨g, j * 4, none⟩ (.int .i64 x.s)).setCell ⟨g, j * 4 + 1, none⟩ (.int .i64 x.k)).setCell ⟨g, j * 4 + 2, none⟩ (.int .i64 x.d)).setCell ⟨g, j * 4 + 3, none⟩ (.string x.t)) := by
  rw [← rcs_set L j x hj]
  refine ⟨((((h.stored _ _).1.stored _ _).1.stored _ _).1.stored _ _).1, ?_⟩
  exact GrL.set (GrL.set (GrL.set (GrL.set (GrL.of_gr (Gr.refl w)) _ _ (Or.inr (by simp))) _ _ (Or.inr (by simp))) _ _ (Or.inr (by simp))) _ _ (Or.inr (by simp))
theorem run_clear_rec (w : World) (g o n c : Nat) (hn : 0 < n) (hc : ∀ j, j < n * 4 → (w.cell? ⟨g, o + j, none⟩).isSome = true) (hf : ∀ j, j < n * 4 → w.frozen? ⟨g, o + j, none⟩ = false) :
    ∃ zs, ∀ ty, (Builtin.clear_ #[32] ty #[.slice (some ⟨g, o, none⟩) n c]).run Tryz.prog w = .ok (.tuple #[]) (w.setCells g o zs) := by
  obtain ⟨i0, hi, hz0, hz1, hz2⟩ := info_parts info_rec
  have hv : ∀ w, (zeroValue 23).run Tryz.prog w = .ok (.agg #[.int .i64 0, .int .i64 0, .int .i64 0, .string ⟨#[]⟩]) w := fun w => by
    go_simp
  have hzc : Value.cells (.agg #[.int .i64 0, .int .i64 0, .int .i64 0, .string ⟨#[]⟩]) = #[.int .i64 0, .int .i64 0, .int .i64 0, .string ⟨#[]⟩] := rfl
  obtain ⟨Z, hZ⟩ : ∃ Z, Builtin.zeroCells #[.int .i64 0, .int .i64 0, .int .i64 0, .string ⟨#[]⟩] n = Z := ⟨_, rfl⟩
  have hlen : Z.size = n * 4 := by rw [← hZ]; simp [Builtin.zeroCells]
  have hone : ∀ v ∈ Z.toList, v.oneCell' = true := by
    intro v hv
    rw [← hZ, Builtin.zeroCells, Array.toList_map] at hv
    obtain ⟨i, -, rfl⟩ := List.mem_map.1 hv
    have h4 : i % 4 < 4 := Nat.mod_lt _ (by omega)
    show (#[Value.int .i64 0, .int .i64 0, .int .i64 0, .string ⟨#[]⟩] : Array Value)[i % 4]!.oneCell' = true
    generalize i % 4 = r at *
    match r, h4 with
    | 0, _ => rfl
    | 1, _ => rfl
    | 2, _ => rfl
    | 3, _ => rfl
  have hst := run_storeCells_cells (P := Tryz.prog) g o Z.toList 0 w (fun j hj => by rw [Nat.add_zero]; exact hc j (by rw [Array.length_toList, hlen] at hj; exact hj)) (fun j hj => by rw [Nat.add_zero]; exact hf j (by rw [Array.length_toList, hlen] at hj; exact hj)) hone
  rw [Nat.add_zero] at hst
  obtain ⟨m, rfl⟩ : ∃ m, n = m + 1 := ⟨n - 1, by omega⟩
  refine ⟨Z.toList, fun ty => ?_⟩
  simp [Builtin.clear_, run_underlying Tryz.underlying32, hv, hzc, hZ, hst]
end Go.Proofs.YthmimjofdmnakaaGreatDoor
