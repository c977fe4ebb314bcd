/- slices.Collect over an iterator that keeps blocks of its own; rule/near.go: terms, Terms. -/
import Derived.Test.YtconhikflghkdaaGreatDoorRange
import Derived.Test.YtconhikflghkdaaGreatDoorArith
import Derived.RangeFuncBox
import Derived.Maps.AppendAt
namespace Go.Proofs.YtconhikflghkdaaGreatDoor
open Go.RowKit Go.Shelf
attribute [local go_sem] Oper.semAt_some
theorem info_int : (Tryz.prog.info? 3).map (fun i => (i.zero, i.size, i.bytes)) = some (some (.int .i64 0), 1, 8) := by kernel_rfl
theorem ownsRow_gr {W W' : World} {base : Nat} {e : TypeId} {size : Nat} {v : Value} {k : Nat} {xs : List Value} {bs : List Nat} (h : W.ownsRow base e size v k xs) (g : GrL bs W W') (hb : ∀ i, v.ownBlock = some i → i ∉ bs) : W'.ownsRow base e size v k xs := by
  refine ⟨h.1, ?_⟩
  rcases h.2 with hn | ⟨i, cap, cur, rfl, hbi, hgg, rest⟩
  · exact .inl hn
  · exact .inr ⟨i, cap, cur, rfl, hbi, g.heap hgg (hb i rfl), rest⟩
theorem GrL.of_grown {W W' : World} {row : Option Nat} (h : W.grownBy W' row) (bs : List Nat) (hr : ∀ k, row = some k → k ∈ bs) : GrL bs W W' :=
  ⟨h.os, h.tape, h.output, h.size, fun k hk hn => h.block k hk (fun e => hn (hr k e.symm)), trivial⟩
/-- what the loop of AppendSeq keeps -/
def ApI (own : List Nat) (w : World) (B : Nat) (pre : List Int) (W : World) : Prop :=
  (∃ v, Boxed W B 37 v ∧ W.ownsRow (w.heap.size + 1) 3 1 v pre.length (pre.map (Value.int .i64)) ∧ (v = .slice none 0 0 ↔ pre = [])) ∧ GrL own w W
set_option maxRecDepth 100000 in
set_option maxHeartbeats 2000000 in
theorem AppendSeq_in (n gf : Nat) (lb : Array Value) (own : List Nat) (ts : List Int) (w : World) (hown : ∀ b ∈ own, b < w.heap.size) (eg : ∀ args w, (callFunc gf args).run Tryz.prog w = .ok (.enter gf args) w)
    (hit : Iter Tryz.prog gf lb own (fun x : Int => #[.int .i64 x]) ts (w.alloc (.cells #[.slice none 0 0] 37))) (hlen : ts.length ≤ 1000) :
    CallsIn Fence.wide n Tryz.prog 66 #[.slice none 0 0, .func (.func gf) #[] lb] w fun e w' => ∃ v, e = .returned v ∧ w'.ownsRow (w.heap.size + 1) 3 1 v ts.length (ts.map (Value.int .i64)) ∧ (v = .slice none 0 0 ↔ ts = []) ∧ GrL own w w' := by
  obtain ⟨i0, hi, hz0, hz1, hz2⟩ := info_parts info_int
  refine callsIn_of_wp_marks Tryz.func66 rfl trivial ?_ rfl
  simp only [Tryz.ntmps66, List.size_toArray, List.length_cons, List.length_nil, Nat.reduceAdd, Nat.reduceSub, Array.replicate_succ, Array.replicate_zero, List.push_toArray, List.append_toArray, List.nil_append, List.cons_append]
  gi_wp2
  have bO := Boxed.new w 37 (.slice none 0 0)
  refine range_law (gf := gf) (lb := lb) rfl eg own (fun x : Int => #[.int .i64 x]) ts (fun b hb => by have := hown b hb; simp; omega) hit (fun _ => rfl)
    (ApI own w w.heap.size) (fun _ _ => False) ?hI (fun _ _ _ _ h _ _ => h.elim)
    ⟨⟨_, bO, World.ownsRow_nil _ _ _ _, by simp⟩, (GrL.of_gr (Gr.refl _)).alloc _⟩
    (fun x a1 _ => a1 = { tmps := #[.slice none 0 0, .func (.func gf) #[] lb, .pointer (some ⟨w.heap.size, 0, none⟩), undef, .slice none 0 0, .int .i64 x, .func (.func gf) #[] lb, .int .i64 x, undef, undef, undef, undef, undef], defers := [] }) (fun _ _ _ _ _ _ h _ _ => h) ?assign ?body ?done (fun _ _ _ _ h _ => h.elim)
  case hI =>
    rintro pre W W' bs ⟨⟨v, hv, hrow, hnil⟩, hg⟩ g hbs
    refine ⟨⟨v, ?_, ownsRow_gr hrow g ?_, hnil⟩, ?_⟩
    · refine g.heap hv (fun h => ?_)
      rcases hbs _ h with h1 | ⟨_, r, h1⟩
      · have := hown _ h1; omega
      · rw [show W.heap[w.heap.size]? = _ from hv] at h1; cases h1
    · intro i hi h
      have hlt := hrow.lt i hi
      rcases hbs _ h with h1 | ⟨_, r, h1⟩
      · have := hown _ h1; omega
      · rcases hrow.2 with ⟨rfl, _⟩ | ⟨i', cap, cur, rfl, _, hgg, _⟩
        · simp [Value.ownBlock] at hi
        · simp [Value.ownBlock] at hi; subst hi; rw [hgg] at h1; cases h1
    · refine ⟨g.os.trans hg.os, g.tape.trans hg.tape, g.output.trans hg.output, Nat.le_trans hg.size g.size, fun k hk hn => ?_, trivial⟩
      have hk' : k < W.heap.size := Nat.lt_of_lt_of_le hk hg.size
      by_cases hb : k ∈ bs
      · exfalso
        rcases hbs _ hb with h1 | ⟨h1, _⟩
        · exact hn h1
        · simp at h1; omega
      · exact (g.block k hk' hb).trans (hg.block k hk hn)
  case assign =>
    intro m l pre x W K _ hK
    gi_wp2
    exact hK _ _ (Gr.refl _) rfl
  case body =>
    rintro m l pre x a1 W ⟨⟨v, hv, hrow, hnil⟩, hg⟩ hpre rfl
    have hc := hv.cell
    have hvl := hv.lt
    have hpl : pre.length + 1 ≤ 1000 := by have := hpre.length_le; simp at this; omega
    have hnr : some w.heap.size ≠ v.ownBlock := hv.not_row (by decide) hrow
    gi_wp2_with (gi_at_builtin; refine wpListIn_append_own _ rfl _ _ 37 rfl (w.heap.size + 1) 3 i0 (.int .i64 0) 1 8 Tryz.underlying37 hi hz0 hz1 hz2 rfl (by decide) _ _ _ rfl (hrow.alloc _) ⟨W.heap.size, 0, none⟩ 1 1 [.int .i64 x] rfl rfl (cell_one_new _ _ _) (by simp [Value.oneCell']) (by unfold maxLen; omega) (by omega) (by simp; omega) ?_; intro v' w1 hown' hgrow _; obtain ⟨g', cap', rfl⟩ := ownsRow_succ hown'; have hv1 : Boxed w1 w.heap.size 37 v := (hv.alloc _).kept hgrow hnr; have hc1 := hv1.cell; have hf1 := hv1.frozen)
    have hne : some w.heap.size ≠ (Value.slice (some ⟨g', 0, none⟩) (pre.length + 1) cap').ownBlock := hv1.not_row (by decide) hown'
    have g1 : GrL (w.heap.size :: v.ownBlock.toList) W (w1.setCell ⟨w.heap.size, 0, none⟩ (.slice (some ⟨g', 0, none⟩) (pre.length + 1) cap')) :=
      (((GrL.of_gr (Gr.refl W)).alloc _).trans (GrL.of_grown (row := v.ownBlock) hgrow _ (fun k hk => by simp [hk]))).set _ _ (Or.inr (by simp))
    have own2 : ∀ k, v.ownBlock = some k → w.heap.size + 1 ≤ k ∧ ∃ c T f, W.heap[k]? = some (.cells c T f) := fun k hk => by
      refine ⟨(hrow.lt k hk).1, ?_⟩
      rcases hrow.2 with ⟨rfl, _⟩ | ⟨i', cap, cur, rfl, _, hgg, _⟩
      · simp [Value.ownBlock] at hk
      · simp [Value.ownBlock] at hk; subst hk; exact ⟨_, _, _, hgg⟩
    refine ⟨⟨_, g1, ?_⟩, ⟨_, hv1.set _, ?_, by simp⟩, ?_⟩
    · intro b hb
      simp only [List.mem_cons, Option.mem_toList] at hb
      rcases hb with rfl | hb
      · exact ⟨fun h => by have := hown _ h; omega, _, _, _, hv⟩
      · obtain ⟨q1, q2⟩ := own2 b (by simpa using hb)
        exact ⟨fun h => by have := hown _ h; omega, q2⟩
    · have := hown'.kept (grownBy_setCell' w1 w.heap.size (.slice (some ⟨g', 0, none⟩) (pre.length + 1) cap')) (.inr hne.symm)
      simpa using this
    · refine ⟨g1.os.trans hg.os, g1.tape.trans hg.tape, g1.output.trans hg.output, Nat.le_trans hg.size g1.size, fun k hk hn => ?_, trivial⟩
      have hk' : k < W.heap.size := Nat.lt_of_lt_of_le hk hg.size
      refine (g1.block k hk' (fun hb => ?_)).trans (hg.block k hk hn)
      simp only [List.mem_cons, Option.mem_toList] at hb
      rcases hb with rfl | hb
      · omega
      · have := (own2 k (by simpa using hb)).1; omega
  case done =>
    rintro D W hD ⟨⟨v, hv, hrow, hnil⟩, hg⟩ hK
    have hc := hv.cell
    simp at hD
    gi_wp2
    refine ⟨by simp, .inl ⟨_, _, rfl, run_takeDeferred hK, ?_⟩⟩
    refine ⟨_, results_tmp rfl _ _ _, v, rfl, ownsRow_putObj hrow _ hK rfl, hnil, ?_⟩
    have g := GrL.putObj W D (.deferred none)
    refine ⟨g.os.trans hg.os, g.tape.trans hg.tape, g.output.trans hg.output, Nat.le_trans hg.size g.size, fun k hk hn => ?_, trivial⟩
    exact (g.block k (Nat.lt_of_lt_of_le hk hg.size) (by simp; omega)).trans (hg.block k hk hn)
set_option maxHeartbeats 1000000 in
theorem Collect_any (gf : Nat) (lb : Array Value) (own : List Nat) (ts : List Int) (w : World) (hown : ∀ b ∈ own, b < w.heap.size) (eg : ∀ args w, (callFunc gf args).run Tryz.prog w = .ok (.enter gf args) w)
    (hit : Iter Tryz.prog gf lb own (fun x : Int => #[.int .i64 x]) ts (w.alloc (.cells #[.slice none 0 0] 37))) (hlen : ts.length ≤ 1000) :
    Calls Tryz.prog 38 #[.func (.func gf) #[] lb] w fun e w' => ∃ v, e = .returned v ∧ w'.ownsRow (w.heap.size + 1) 3 1 v ts.length (ts.map (Value.int .i64)) ∧ (v = .slice none 0 0 ↔ ts = []) ∧ GrL own w w' := by
  have AP := Lib.hid (callsIn_wide.1 (AppendSeq_in 9 gf lb own ts w hown eg hit hlen))
  clear hit
  go_enter Tryz.func38, Tryz.ntmps38
  go_wp2_with fail
  refine AP.out.mono ?_
  rintro e w1 ⟨v, rfl, h1, h2, h3⟩
  go_wp2
  go_ret
  exact ⟨_, rfl, h1, h2, h3⟩
end Go.Proofs.YtconhikflghkdaaGreatDoor
