/- rule/near.go: Convergents: the row that the range over the convergents makes. -/
import Derived.Test.YtconhikflghkdaaDoorNeigh
import Derived.Test.YtconhikflghkdaaDoorTerms
namespace Go.Proofs.YtconhikflghkdaaDoor
open Go.RowKit Go.Shelf
attribute [local go_sem] Oper.semAt_some
theorem info_fr2 : (Tryd.prog.info? 23).map (fun i => (i.zero, i.size, i.bytes)) = some (some (fr 0 0), 2, 16) := by kernel_rfl
/-- the cells of a row of fractions -/
def flat (l : List (Int × Int)) : List Value := l.flatMap fun p => [.int .i64 p.1, .int .i64 p.2]
theorem flat_snoc (l : List (Int × Int)) (x : Int × Int) : flat (l ++ [x]) = flat l ++ [.int .i64 x.1, .int .i64 x.2] := by simp [flat]
/-- what the loop of Convergents keeps -/
structure CgI (b5 z : Nat) (w : World) (pv : List Nat) (pre : List (Int × Int)) (W : World) : Prop where
  g : Gr w W
  p : ∀ b ∈ pv, z ≤ b
  r : ∃ B v, (∀ b ∈ pv, b < B) ∧ z ≤ B ∧ B ≤ W.heap.size ∧ Boxed W b5 65 v ∧ W.ownsRow B 23 2 v pre.length (flat pre)
theorem CgI.keep {b5 z : Nat} {w : World} {pv : List Nat} {pre : List (Int × Int)} {W W' : World} {bs : List Nat} (h : CgI b5 z w pv pre W) (g : GrL bs W W') (hbs : ∀ b ∈ bs, b ≠ b5 ∧ w.heap.size ≤ b ∧ (b < z ∨ b ∈ pv)) : CgI b5 z w pv pre W' := by
  obtain ⟨B, v, r1, r2, r3, r4, r5⟩ := h.r
  refine ⟨⟨⟨g.os.trans h.g.b.os, g.tape.trans h.g.b.tape, g.output.trans h.g.b.output, Nat.le_trans h.g.b.size g.size, fun k hk => (g.block k (Nat.lt_of_lt_of_le hk h.g.b.size) (fun hb => by have := (hbs k hb).2.1; omega)).trans (h.g.b.block k hk)⟩, trivial⟩, h.p, B, v, r1, r2, Nat.le_trans r3 g.size, g.heap r4 (fun hb => (hbs _ hb).1 rfl), ownsRow_gr r5 g (fun i hi hb => ?_)⟩
  have := (r5.lt i hi).1
  rcases (hbs i hb).2.2 with h' | h'
  · omega
  · have := r1 i h'; omega
/-- what Convergents returns where it answers -/
def ConvPost (a b : Int) (w : World) (e : Ending) (w' : World) : Prop :=
  ∃ v, e = .returned (.tuple #[v, .int .i64 0]) ∧ w'.ownsRow w.heap.size 23 2 v (Rm.cv (Rm.tm a b)).length (flat (Rm.cv (Rm.tm a b))) ∧ Gr w w'
set_option maxRecDepth 100000 in
set_option maxHeartbeats 4000000 in
theorem Convergents_in (m : Nat) (a b : Int) (w : World) (h : Rm.okF a b = true) :
    CallsIn Fence.wide m Tryd.prog 69 #[fr a b] w (ConvPost a b w) := by
  have hmf : ∀ (fn : Fn) (first cap : Array Value) (w : World), (Instr.makeFunc fn first cap).run Tryd.prog w = .ok (.func fn first cap) w := fun _ _ _ _ => rfl
  obtain ⟨x1, x2, x3, x4, x5⟩ := Rm.okF_iff.1 h
  obtain ⟨hCB, P, t, s, hP, hci⟩ := Rm.conv_last x1 x2 x3 x4 x5
  have hlen := Rm.tm_len40 (n := a) x3 x4
  have hcl : (Rm.cv (Rm.tm a b)).length ≤ 39 := by rw [Rm.cv, Rm.fwd_length]; exact hlen
  obtain ⟨i0, hi, hz0, hz1, hz2⟩ := info_parts info_fr2
  have hE := Lib.hid (Rm.err_true (e := 1) h)
  clear h hP hci
  refine callsIn_of_wp_marks Tryd.func69 rfl trivial ?_ rfl
  simp only [Tryd.ntmps69, List.size_toArray, List.length_cons, List.length_nil, Nat.reduceAdd, Nat.reduceSub, Array.replicate_succ, Array.replicate_zero, List.push_toArray, List.append_toArray, List.nil_append, List.cons_append]
  gi_wp2_with fail
  refine ⟨trivial, fun h => absurd h (by simp [Fence.wide]), (callsIn_wide.2 (checked_one _ _ a b _ (by simp [go_sem]) (by simp [go_sem]))).mono ?_⟩
  rintro e w1 ⟨rfl, hg1⟩
  rw [hE.out]
  obtain ⟨hc1, hf1, hz1'⟩ := blk_cells (hg1.heap (Gr.heap ((Gr.refl _).alloc _) (heap_alloc_self w (.cells #[.int .i64 a, .int .i64 b] 23))))
  gi_wp2_with fail
  refine ⟨trivial, fun h => absurd h (by simp [Fence.wide]), (callsIn_wide.2 (of_any _ _ _)).mono ?_⟩
  rintro e w2 ⟨rfl, hg2⟩
  clear hc1 hf1
  gi_wp2_with fail
  refine ⟨trivial, fun h => absurd h (by simp [Fence.wide]), (callsIn_wide.2 (terms_any _ _ _)).mono ?_⟩
  rintro e w3 ⟨rfl, rfl⟩
  gi_wp2_with fail
  refine ⟨trivial, fun h => absurd h (by simp [Fence.wide]), (callsIn_wide.2 (convergents_any _ _ _)).mono ?_⟩
  rintro e w3 ⟨rfl, rfl⟩
  gi_wp2_with fail
  have gw1 : Gr w w1 := (by repeat (first | exact Gr.refl _ | assumption | refine Gr.alloc ?_ _ | refine Gr.drew ?_ | refine Gr.drewN ?_ _ | refine Gr.set ?_ _ _ (by first | (simp; done) | (simp; omega)) | refine Gr.trans ?_ (by assumption)))
  have gw2 : Gr w w2 := (gw1.alloc _).trans hg2
  obtain ⟨W, hW⟩ : ∃ W, ((w2.alloc (Obj.cells #[.int .i64 a, .int .i64 b] 73)).alloc (Obj.cells #[.func (.func 140) #[] #[.pointer (some ⟨w2.heap.size, 0, none⟩)]] 113)) = W := ⟨_, rfl⟩
  have gl : Gr w W := by rw [← hW]; exact (gw2.alloc _).alloc _
  have zl : W.heap.size = w2.heap.size + 2 := by rw [← hW]; simp
  have z1 : w.heap.size ≤ w1.heap.size := gw1.b.size
  have z2 : w1.heap.size + 1 ≤ w2.heap.size := by have := hg2.b.size; simpa using this
  have h5 : Boxed W w1.heap.size 65 (.slice none 0 0) := by
    rw [← hW]
    exact Gr.heap (((Gr.refl _).alloc _).alloc _) (hg2.heap (heap_alloc_self w1 _))
  have ht : W.heap[w2.heap.size]? = some (.cells #[.int .i64 a, .int .i64 b] 73 (0, 0)) := by
    rw [← hW]; exact Gr.heap ((Gr.refl _).alloc _) (heap_alloc_self w2 _)
  have hc : W.heap[w2.heap.size + 1]? = some (.cells #[.func (.func 140) #[] #[.pointer (some ⟨w2.heap.size, 0, none⟩)]] 113 (0, 0)) := by
    have := heap_alloc_self (w2.alloc (Obj.cells #[.int .i64 a, .int .i64 b] 73)) (Obj.cells #[.func (.func 140) #[] #[.pointer (some ⟨w2.heap.size, 0, none⟩)]] 113)
    rw [World.size_alloc] at this
    rw [← hW]; exact this
  rw [hW]
  have IT := (terms_iter w2.heap.size 73 a b W ht x1 x2 x3 x4).p
  have IC := conv_iter (w2.heap.size + 1) 140 #[.pointer (some ⟨w2.heap.size, 0, none⟩)] [w2.heap.size] (Rm.tm a b) W ((blk_cells hc).1 0) (by simp; omega) (enters_of Tryd.func140 rfl rfl) IT hCB
  clear hCB IT hc ht hW hg1 hg2 hz1'
  obtain ⟨b5, e5⟩ : ∃ b5, w1.heap.size = b5 := ⟨_, rfl⟩
  obtain ⟨b8, e8⟩ : ∃ b8, w2.heap.size = b8 := ⟨_, rfl⟩
  rw [e5] at h5 z1 z2
  rw [e8] at zl z2 IC
  rw [e5, e8]
  clear gw1 gw2
  refine range_lawP (gf := 141) (lb := #[.pointer (some ⟨b8 + 1, 0, none⟩)]) rfl (enters_of Tryd.func141 rfl rfl) [b8] encF (Rm.cv (Rm.tm a b)) (by simp; omega) IC (fun _ => rfl)
    (CgI b5 (W.heap.size + 2) w) (fun _ _ => False) ?hI (fun _ _ _ _ h _ _ _ => h.elim) ?h0
    (fun y a1 Wx => ∃ k, W.heap.size + 2 ≤ k ∧ Wx.heap[k]? = some (.cells #[.int .i64 y.1, .int .i64 y.2] 73 (0, 0)) ∧ a1 = { tmps := #[fr a b, .pointer (some ⟨w.heap.size, 0, none⟩), .slice none 0 0, .int .i64 0, .int .i64 0, .pointer (some ⟨b5, 0, none⟩), .pointer (some ⟨k, 0, none⟩), fr a b, .slice (some ⟨w.heap.size + 1, 0, none⟩) 1 1, .int .i64 0, .int .i64 0, .bool false, undef, fr a b, fr a b, .func (.func 140) #[] #[.pointer (some ⟨b8, 0, none⟩)], .func (.func 141) #[] #[.pointer (some ⟨b8 + 1, 0, none⟩)], fr y.1 y.2, undef, undef, undef, undef, undef, undef, undef, undef, undef], defers := [] }) ?hA ?assign ?body ?done (fun _ _ _ _ h _ => h.elim)
  case hI =>
    rintro pv pre W1 W2 bs hi' g hbs
    refine hi'.keep g fun k hk => ?_
    rcases hbs k hk with h | ⟨h, _⟩
    · rcases List.mem_append.1 h with h | h
      · simp at h; omega
      · have := hi'.p k h; exact ⟨by omega, by omega, .inr h⟩
    · omega
  case h0 =>
    intro pv W1 g hz hp
    exact ⟨gl.trans g, fun k hk => (hp k hk).1, W1.heap.size, .slice none 0 0, fun k hk => (hp k hk).2, hz, Nat.le_refl _, g.heap h5, World.ownsRow_nil _ _ _ _⟩
  case hA =>
    rintro y a1 W1 W2 l o ⟨k, hk, hc, ha⟩ ho g
    exact ⟨k, hk, g.heap hc (fun h => by simp at h; subst h; rw [hc] at ho; cases ho), ha⟩
  case assign =>
    intro m l pv pre y Wx K hi' hK
    obtain ⟨B, v, r1, r2, r3, r4, r5⟩ := hi'.r
    gi_wp2
    exact hK _ _ ((Gr.refl _).alloc _) ⟨Wx.heap.size, by omega, heap_alloc_self Wx _, rfl⟩
  case body =>
    rintro m l pv pre y a1 Wx hi' hpre ⟨k, hk, hkc, rfl⟩
    obtain ⟨B, v, r1, r2, r3, hv, hrow⟩ := hi'.r
    obtain ⟨c3, f3, z3⟩ := blk_cells hkc
    obtain ⟨y1, y2⟩ := y
    dsimp only at *
    have hpl : pre.length + 1 ≤ 39 := by have := hpre.length_le; simp at this; omega
    have hnr : some b5 ≠ v.ownBlock := hv.not_row (by decide) hrow
    have hcv := hv.cell
    have hvl := hv.lt
    have q0 := (blk_cells (heap_alloc_self Wx (.cells #[.int .i64 y1, .int .i64 y2] 23))).1
    have qq : ∀ j u, [Value.int .i64 y1, Value.int .i64 y2][j]? = some u → (Wx.alloc (.cells #[.int .i64 y1, .int .i64 y2] 23)).cell? ((⟨Wx.heap.size, 0, none⟩ : Addr).add j) = some u := fun j u hj => by
      match j, hj with
      | 0, hj => rw [← hj]; exact q0 0
      | 1, hj => rw [← hj]; exact q0 1
      | (j+2), hj => exact absurd hj (by simp)
    clear q0
    gi_wp2_with (gi_at_builtin; refine wpListIn_append_own _ rfl _ _ 65 rfl B 23 i0 (fr 0 0) 2 16 Tryd.underlying65 hi hz0 hz1 hz2 rfl (by decide) _ _ _ rfl (hrow.alloc _) ⟨Wx.heap.size, 0, none⟩ 1 1 [.int .i64 y1, .int .i64 y2] rfl rfl qq (by simp [Value.oneCell']) (by unfold maxLen; omega) (by omega) (by simp; omega) ?_; intro v' w1' hown' hgrow _; obtain ⟨g', cap', rfl⟩ := ownsRow_succ hown'; have hv1 : Boxed w1' b5 65 v := (hv.alloc _).kept hgrow hnr; have hc1 := hv1.cell; have hf1 := hv1.frozen; have hl1 := hv1.lt)
    have hne : some b5 ≠ (Value.slice (some ⟨g', 0, none⟩) (pre.length + 1) cap').ownBlock := hv1.not_row (by decide) hown'
    have g1 : GrL (b5 :: v.ownBlock.toList) Wx (w1'.setCell ⟨b5, 0, none⟩ (.slice (some ⟨g', 0, none⟩) (pre.length + 1) cap')) :=
      (((GrL.of_gr (Gr.refl Wx)).alloc _).trans (GrL.of_grown (row := v.ownBlock) hgrow _ (fun k hk => by simp [hk]))).set _ _ (Or.inr (by simp))
    have ob : ∀ j, j ∈ b5 :: v.ownBlock.toList → j = b5 ∨ B ≤ j := fun j hj => by
      simp only [List.mem_cons, Option.mem_toList] at hj
      rcases hj with rfl | hj
      · exact .inl rfl
      · exact .inr (hrow.lt j hj).1
    have hrow2 := hown'.kept (grownBy_setCell' w1' b5 (.slice (some ⟨g', 0, none⟩) (pre.length + 1) cap')) (.inr hne.symm)
    refine ⟨?_, ⟨?_, hi'.p, B, _, r1, r2, Nat.le_trans r3 g1.size, hv1.set _, ?_⟩⟩
    · intro j hj
      have hjx : j < Wx.heap.size ∧ j ≠ b5 ∧ j < B := by
        simp only [List.mem_cons, List.mem_append, List.not_mem_nil, or_false] at hj
        rcases hj with rfl | rfl | rfl | hj
        · omega
        · omega
        · omega
        · have := r1 j hj; have := hi'.p j hj; omega
      exact g1.block j hjx.1 (fun h => by rcases ob j h with h | h <;> omega)
    · have G := hi'.g
      exact ⟨⟨g1.os.trans G.b.os, g1.tape.trans G.b.tape, g1.output.trans G.b.output, Nat.le_trans G.b.size g1.size, fun j hj => (g1.block j (Nat.lt_of_lt_of_le hj G.b.size) (fun h => by rcases ob j h with h | h <;> omega)).trans (G.b.block j hj)⟩, trivial⟩
    · rw [flat_snoc]
      simpa using hrow2
  case done =>
    rintro D pv Wx rfl hi' hK
    obtain ⟨B, v, r1, r2, r3, hv, hrow⟩ := hi'.r
    have hcv := hv.cell
    have hvl := hv.lt
    gi_wp2
    refine ⟨by simp, .inl ⟨_, _, rfl, run_takeDeferred hK, ?_⟩⟩
    have g := GrL.putObj Wx W.heap.size (.deferred none)
    refine ⟨.tuple #[v, .int .i64 0], ?_, v, rfl, ownsRow_le (ownsRow_putObj hrow _ hK rfl) (by omega), GrL.gr hi'.g g (by simp; omega)⟩
    generalize World.putObj _ W.heap.size _ = Wf at *
    simp [results, Tryd.results69, go_sem]
set_option maxRecDepth 100000 in
set_option maxHeartbeats 1000000 in
theorem Convergents_no (a b : Int) (w : World) (h : Rm.okF a b = false) : Calls Tryd.prog 69 #[fr a b] w fun e w' => e = .returned (.tuple #[.slice none 0 0, .int .i64 1]) ∧ Gr w w' := by
  have hE := Lib.hid (Rm.err_false (e := 1) h)
  clear h
  go_enter Tryd.func69, Tryd.ntmps69
  go_wp2_with fail
  refine (checked_one _ _ a b _ (by simp [go_sem]) (by simp [go_sem])).mono ?_
  rintro e w1 ⟨rfl, hg1⟩
  rw [hE.out]
  go_wp2
  exact bodyPost_ret (v := .tuple #[.slice none 0 0, .int .i64 1]) (by simp [results, Tryd.results69, go_sem]) rfl ⟨rfl, (by repeat (first | exact Gr.refl _ | assumption | refine Gr.alloc ?_ _ | refine Gr.drew ?_ | refine Gr.drewN ?_ _ | refine Gr.set ?_ _ _ (by first | (simp; done) | (simp; omega)) | refine Gr.trans ?_ (by assumption)))⟩
theorem Convergents_yes (a b : Int) (w : World) (h : Rm.okF a b = true) : Calls Tryd.prog 69 #[fr a b] w (ConvPost a b w) :=
  callsIn_wide.1 (Convergents_in 9 a b w h)
end Go.Proofs.YtconhikflghkdaaDoor
