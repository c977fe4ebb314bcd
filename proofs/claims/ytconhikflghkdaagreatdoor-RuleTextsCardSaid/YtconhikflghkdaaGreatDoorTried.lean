/- rule/frac.go: giving up by a panic that is recovered. -/
import Derived.Test.YtconhikflghkdaaGreatDoorFrac
import Derived.Defers
import Derived.Recover
import Derived.Laws.Pointers
namespace Go.Proofs.YtconhikflghkdaaGreatDoor
open Go.RowKit
/-- a way out of a drawn region: what is left of it has no operations -/
theorem wpAny_back {G : Prop} {md : Region.Mode} {a : Act} {w : World} (h : wpAny Tryz.prog md #[] (fun _ _ _ => G) 0 #[] a w) : G := h.2
abbrev giv (e : Int) : Value := .iface 95 (.agg #[.int .i64 e])
set_option maxHeartbeats 400000 in
theorem need_ok (k : Int) (w : World) :
    Calls Tryz.prog 52 #[.bool true, .int .i64 k] w fun e w' => e = .returned (.tuple #[]) ∧ w = w' := by
  go_enter Tryz.func52, Tryz.ntmps52
  go_wp2
  go_end0
  exact ⟨rfl, rfl⟩
set_option maxHeartbeats 400000 in
theorem need_no (k : Int) (w : World) :
    Calls Tryz.prog 52 #[.bool false, .int .i64 k] w fun e w' => e = .panicked [{ v := giv k, recovered := false }] ∧ w = w' := by
  go_enter Tryz.func52, Tryz.ntmps52
  go_wp2
  exact ⟨rfl, rfl, rfl⟩
set_option maxHeartbeats 400000 in
theorem catch_idle (p : Addr) (w : World) :
    CallsD Tryz.prog 60 #[.pointer (some p)] .returning w fun e u' w' => e = .returned (.tuple #[]) ∧ u' = .returning ∧ w' = w := by
  refine callsD_of_wpS Tryz.func60 rfl fun c₀ cs hu => ?_
  simp only [Tryz.ntmps60, List.size_toArray, List.length_cons, List.length_nil, Nat.reduceAdd, Nat.reduceSub, Array.replicate_succ, Array.replicate_zero, List.push_toArray, List.append_toArray, List.nil_append, List.cons_append]
  apply wpS_seq
  apply wpS_region
  simp [wpOpsS, go_sem, recoverD, hu, Exit.thenS]
  refine wpS_of_wp ?_
  go_wp2
  cases c₀
  simp_all [bodyPostS, results, Tryz.results60]
theorem run_eql_giv (k : Int) (w : World) : (binOp .eql 20 (giv k) .nilIface).run Tryz.prog w = .ok (.bool false) w := run_eql_held_nil _ _ _ _ (by kernel_rfl)
theorem run_as_giv (k : Int) (w : World) : (Instr.typeAssert (giv k) 20 95 true).run Tryz.prog w = .ok (.tuple #[.agg #[.int .i64 k], .bool true]) w := by kernel_rfl
set_option maxRecDepth 10000 in
set_option maxHeartbeats 400000 in
theorem catch_given (b : Nat) (k x : Int) (older : List PanicEntry) (w : World) (hc : w.cell? ⟨b, 0, none⟩ = some (.int .i64 x)) (hz : w.frozen? ⟨b, 0, none⟩ = false) :
    CallsD Tryz.prog 60 #[.pointer (some ⟨b, 0, none⟩)] (.panicking ({ v := giv k, recovered := false } :: older)) w fun e u' w' =>
      e = .returned (.tuple #[]) ∧ u' = .panicking ({ v := giv k, recovered := true } :: older) ∧ w' = (w.setCell ⟨b, 0, none⟩ (.int .i64 k)).alloc (.cells #[.int .i64 k] 95) := by
  have hl : b < w.heap.size := World.block_lt_of_cell? w _ hc
  have q1 := run_eql_giv k
  have q2 := run_as_giv k
  have hz2 : (w.alloc (.cells #[.int .i64 k] 95)).frozen? ⟨b, 0, none⟩ = false := (((Gr.refl w).alloc _).cells.2.1 b 0 hl).trans hz
  have hc2 : (w.alloc (.cells #[.int .i64 k] 95)).cell? ⟨b, 0, none⟩ = some (.int .i64 x) := (((Gr.refl w).alloc _).cells.1 b 0 hl).trans hc
  refine callsD_of_wpS Tryz.func60 rfl fun c₀ cs hu => ?_
  simp only [Tryz.ntmps60, List.size_toArray, List.length_cons, List.length_nil, Nat.reduceAdd, Nat.reduceSub, Array.replicate_succ, Array.replicate_zero, List.push_toArray, List.append_toArray, List.nil_append, List.cons_append]
  apply wpS_seq
  apply wpS_region
  simp [wpOpsS, go_sem, recoverD, hu, Exit.thenS]
  refine wpS_of_wp ?_
  go_wp2
  simp [bodyPostS, results, Tryz.results60]
theorem Gr.lt {W w1 : World} (h : Gr W w1) : ∀ b, b < W.heap.size → b < w1.heap.size := fun _ k => Nat.lt_of_lt_of_le k h.b.size
/-- w' is w with new blocks and draws, and perhaps other contents of the blocks of the list -/
structure GrL (l : List Nat) (w w' : World) : Prop where
  os : w'.os = w.os
  tape : w'.tape = w.tape
  output : w'.output = w.output
  size : w.heap.size ≤ w'.heap.size
  block : ∀ k, k < w.heap.size → k ∉ l → w'.heap[k]? = w.heap[k]?
  d : True
theorem GrL.of_gr {l : List Nat} {w w' : World} (h : Gr w w') : GrL l w w' := ⟨h.b.os, h.b.tape, h.b.output, h.b.size, fun k hk _ => h.b.block k hk, h.d⟩
theorem GrL.trans {l : List Nat} {a b c : World} (h : GrL l a b) (k : GrL l b c) : GrL l a c :=
  ⟨k.os.trans h.os, k.tape.trans h.tape, k.output.trans h.output, Nat.le_trans h.size k.size, fun i hi hn => (k.block i (Nat.lt_of_lt_of_le hi h.size) hn).trans (h.block i hi hn), trivial⟩
/-- the blocks of the list are new in w: what the callee does to them the caller's world does not see -/
theorem GrL.gr {l : List Nat} {w w1 w2 : World} (h : Gr w w1) (k : GrL l w1 w2) (hl : ∀ i ∈ l, w.heap.size ≤ i) : Gr w w2 :=
  ⟨⟨k.os.trans h.b.os, k.tape.trans h.b.tape, k.output.trans h.b.output, Nat.le_trans h.b.size k.size, fun i hi =>
    (k.block i (Nat.lt_of_lt_of_le hi h.b.size) (fun hm => by have := hl i hm; omega)).trans (h.b.block i hi)⟩, trivial⟩
theorem GrL.at {l : List Nat} {W w1 : World} (h : GrL l W w1) {n : Nat} (hn : n ≤ W.heap.size) : (∀ b o, b < n → b ∉ l → w1.cell? ⟨b, o, none⟩ = W.cell? ⟨b, o, none⟩) ∧ (∀ b o, b < n → b ∉ l → w1.frozen? ⟨b, o, none⟩ = W.frozen? ⟨b, o, none⟩) ∧ n ≤ w1.heap.size :=
  ⟨fun b _ hb hm => World.cell?_of_block (h.block b (Nat.lt_of_lt_of_le hb hn) hm), fun b _ hb hm => World.frozen?_of_block (h.block b (Nat.lt_of_lt_of_le hb hn) hm), Nat.le_trans hn h.size⟩
theorem GrL.set {l : List Nat} {w w' : World} (h : GrL l w w') (a : Addr) (v : Value) (ha : w.heap.size ≤ a.block ∨ a.block ∈ l) : GrL l w (w'.setCell a v) := by
  refine ⟨h.os, h.tape, h.output, by simpa using h.size, fun k hk hm => ?_, h.d⟩
  rw [Below.heap_setCell w' a v k (by rintro rfl; rcases ha with ha | ha; omega; exact hm ha)]
  exact h.block k hk hm
theorem GrL.alloc {l : List Nat} {w w' : World} (h : GrL l w w') (o : Obj) : GrL l w (w'.alloc o) := h.trans (GrL.of_gr ((Gr.refl _).alloc o))
theorem GrL.drew {l : List Nat} {w w' : World} (h : GrL l w w') : GrL l w w'.drew := h.trans (GrL.of_gr (Gr.refl _).drew)
theorem GrL.mono {l m : List Nat} {w w' : World} (h : GrL l w w') (k : ∀ i ∈ l, i ∈ m) : GrL m w w' := ⟨h.os, h.tape, h.output, h.size, fun i hi hn => h.block i hi (fun q => hn (k i q)), h.d⟩
set_option maxHeartbeats 400000 in
/-- what is tried returns -/
theorem tried_ok (g : Nat) (cap : Array Value) (l : List Nat) (Q : World → Prop) (w : World) (hl : ∀ i ∈ l, i < w.heap.size)
    (eg : ∀ args w, (callFunc g args).run Tryz.prog w = .ok (.enter g args) w)
    (h : Calls Tryz.prog g cap (w.alloc (.cells #[.int .i64 0] 25)) fun e w' => e = .returned (.tuple #[]) ∧ GrL l (w.alloc (.cells #[.int .i64 0] 25)) w' ∧ Q w') :
    Calls Tryz.prog 29 #[.func (.func g) #[] cap] w fun e w' => e = .returned (.int .i64 0) ∧ GrL l w w' ∧ ∃ w1, Q w1 ∧ GrL [w.heap.size] w1 w' := by
  have hmf : ∀ (fn : Fn) (first cap : Array Value) (w : World), (Instr.makeFunc fn first cap).run Tryz.prog w = .ok (.func fn first cap) w := fun _ _ _ _ => rfl
  have H := Lib.hid h
  clear h
  go_enter_defers Tryz.func29, Tryz.ntmps29
  go_wp2_with fail
  refine H.out.mono ?_
  rintro e w1 ⟨rfl, g1, q1⟩
  have hn : w.heap.size ∉ l := fun hm => by have := hl _ hm; omega
  have hc1 : w1.cell? ⟨w.heap.size, 0, none⟩ = some (.int .i64 0) := ((g1.at (n := w.heap.size + 1) (by first | (simp; done) | (simp; omega) | omega)).1 _ _ (by omega) hn).trans (by simp [go_sem])
  have hf1 : w1.frozen? ⟨w.heap.size, 0, none⟩ = false := ((g1.at (n := w.heap.size + 1) (by first | (simp; done) | (simp; omega) | omega)).2.1 _ _ (by omega) hn).trans (by simp [go_sem])
  have gw : GrL l w (w1.setCell ⟨w.heap.size, 0, none⟩ (.int .i64 0)) := ((GrL.of_gr ((Gr.refl _).alloc _)).trans g1).set _ _ (Or.inl (Nat.le_refl _))
  have gw2 : GrL [w.heap.size] w1 (w1.setCell ⟨w.heap.size, 0, none⟩ (.int .i64 0)) := (GrL.of_gr (Gr.refl _)).set _ _ (Or.inr (by simp))
  go_wp2
  refine leaves_cons (f := 60) (args := #[.pointer (some ⟨w.heap.size, 0, none⟩)]) (by simp) (by simp [go_sem]) ?_
  refine (catch_idle ⟨w.heap.size, 0, none⟩ _).mono ?_
  rintro e u' w'' ⟨rfl, rfl, rfl⟩
  simp [Leaves, settle, results, Tryz.results29, go_sem, hc1]
  exact ⟨gw, w1, q1, gw2⟩
set_option maxHeartbeats 400000 in
/-- what is tried gives up -/
theorem tried_no (g : Nat) (cap : Array Value) (l : List Nat) (k : Int) (w : World) (hl : ∀ i ∈ l, i < w.heap.size)
    (eg : ∀ args w, (callFunc g args).run Tryz.prog w = .ok (.enter g args) w)
    (h : Calls Tryz.prog g cap (w.alloc (.cells #[.int .i64 0] 25)) fun e w' => e = .panicked [{ v := giv k, recovered := false }] ∧ GrL l (w.alloc (.cells #[.int .i64 0] 25)) w') :
    Calls Tryz.prog 29 #[.func (.func g) #[] cap] w fun e w' => e = .returned (.int .i64 k) ∧ GrL l w w' := by
  have hmf : ∀ (fn : Fn) (first cap : Array Value) (w : World), (Instr.makeFunc fn first cap).run Tryz.prog w = .ok (.func fn first cap) w := fun _ _ _ _ => rfl
  have H := Lib.hid h
  clear h
  go_enter_defers Tryz.func29, Tryz.ntmps29
  go_wp2_with fail
  refine H.out.mono ?_
  rintro e w1 ⟨rfl, g1⟩
  have hn : w.heap.size ∉ l := fun hm => by have := hl _ hm; omega
  have hc1 : w1.cell? ⟨w.heap.size, 0, none⟩ = some (.int .i64 0) := ((g1.at (n := w.heap.size + 1) (by first | (simp; done) | (simp; omega) | omega)).1 _ _ (by omega) hn).trans (by simp [go_sem])
  have hf1 : w1.frozen? ⟨w.heap.size, 0, none⟩ = false := ((g1.at (n := w.heap.size + 1) (by first | (simp; done) | (simp; omega) | omega)).2.1 _ _ (by omega) hn).trans (by simp [go_sem])
  have hz1 : w.heap.size < w1.heap.size := (g1.at (n := w.heap.size + 1) (by first | (simp; done) | (simp; omega) | omega)).2.2
  have gw : GrL l w ((w1.setCell ⟨w.heap.size, 0, none⟩ (.int .i64 k)).alloc (.cells #[.int .i64 k] 95)) := (((GrL.of_gr ((Gr.refl _).alloc _)).trans g1).set _ _ (Or.inl (Nat.le_refl _))).alloc _
  go_wp2
  refine leaves_cons (f := 60) (args := #[.pointer (some ⟨w.heap.size, 0, none⟩)]) (by simp) (by simp [go_sem]) ?_
  refine (catch_given w.heap.size k 0 [] _ hc1 hf1).mono ?_
  rintro e u' w'' ⟨rfl, rfl, rfl⟩
  simp [Leaves, settle, results, Tryz.results29, go_sem, hc1, hz1]
  exact gw
end Go.Proofs.YtconhikflghkdaaGreatDoor
