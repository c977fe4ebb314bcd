/- What a call that only reckons does to the world: it lays blocks of its own and draws; what was there stays. -/
import Derived.Test.YthmimjofdmnakaaGreatDoorProg
import Derived.KernelRfl
import Derived.WalkKit
import Derived.WalkSpells
import Derived.WalkLawsBesides
import Derived.RegionTactic
import Derived.ChangeAlike
import Derived.Lib.Hide
import Derived.Deep.QuietTactic
import Derived.BigQuiet
import Derived.Sort.Grow
import Derived.Shelf.Abstract
import Derived.Laws.StructEq
import Derived.Deep.RegionHeld3
import Derived.Defers
import Derived.Recover
import Derived.Laws.Pointers
namespace Go.Proofs.YthmimjofdmnakaaGreatDoor
section
open Go.RowKit
/-- w' is w with new blocks and draws -/
structure Gr (w w' : World) : Prop where
  b : Below w.heap.size w w'
  d : True
theorem Gr.refl (w : World) : Gr w w := ⟨Below.refl _ _, trivial⟩
theorem Gr.alloc {w w' : World} (h : Gr w w') (o : Obj) : Gr w (w'.alloc o) := ⟨h.b.alloc h.b.size o, h.d⟩
theorem Gr.drew {w w' : World} (h : Gr w w') : Gr w w'.drew := ⟨h.b.drew, trivial⟩
theorem Gr.drewN {w w' : World} (h : Gr w w') (n : Nat) : Gr w (w'.drewN n) := ⟨⟨h.b.os, h.b.tape, h.b.output, h.b.size, h.b.block⟩, trivial⟩
theorem Gr.of_below {w w' : World} (h : Below w.heap.size w w') : Gr w w' := ⟨h, trivial⟩
theorem Gr.trans {a b c : World} (h : Gr a b) (k : Gr b c) : Gr a c := ⟨h.b.trans (k.b.mono h.b.size), trivial⟩
theorem Gr.set {w w' : World} (h : Gr w w') (a : Addr) (v : Value) (ha : w.heap.size ≤ a.block) : Gr w (w'.setCell a v) := ⟨h.b.setCell ha v, h.d⟩
/-- what was there reads as before; the heap has not shrunk -/
theorem Gr.cells {W w1 : World} (h : Gr W w1) : (∀ b o, b < W.heap.size → w1.cell? ⟨b, o, none⟩ = W.cell? ⟨b, o, none⟩) ∧ (∀ b o, b < W.heap.size → w1.frozen? ⟨b, o, none⟩ = W.frozen? ⟨b, o, none⟩) ∧ W.heap.size ≤ w1.heap.size :=
  ⟨fun b o hb => h.b.cell (p := ⟨b, o, none⟩) hb, fun b o hb => h.b.frozen (p := ⟨b, o, none⟩) hb, h.b.size⟩
/-- the same, up to a number that is known -/
theorem Gr.at {W w1 : World} (h : Gr W w1) {n : Nat} (hn : n ≤ W.heap.size) : (∀ b o, b < n → w1.cell? ⟨b, o, none⟩ = W.cell? ⟨b, o, none⟩) ∧ (∀ b o, b < n → w1.frozen? ⟨b, o, none⟩ = W.frozen? ⟨b, o, none⟩) ∧ n ≤ w1.heap.size :=
  ⟨fun b o hb => h.b.cell (p := ⟨b, o, none⟩) (Nat.lt_of_lt_of_le hb hn), fun b o hb => h.b.frozen (p := ⟨b, o, none⟩) (Nat.lt_of_lt_of_le hb hn), Nat.le_trans hn h.b.size⟩
theorem ret_int {k : IntKind} {a b : Int} (h : a = b) : Ending.returned (.int k a) = .returned (.int k b) := by rw [h]
theorem ret_bool {a b : Bool} (h : a = b) : Ending.returned (.bool a) = .returned (.bool b) := by rw [h]
/-- a fraction as a value -/
abbrev fr (a b : Int) : Value := .agg #[.int .i64 a, .int .i64 b]
end
section
open Go.RowKit
theorem Gr.lt {W w1 : World} (h : Gr W w1) : ∀ b, b < W.heap.size → b < w1.heap.size := fun _ k => Nat.lt_of_lt_of_le k h.b.size
/-- w' is w with new blocks and draws, and perhaps other contents of the blocks of the list -/
structure GrL (l : List Nat) (w w' : World) : Prop where
  os : w'.os = w.os
  tape : w'.tape = w.tape
  output : w'.output = w.output
  size : w.heap.size ≤ w'.heap.size
  block : ∀ k, k < w.heap.size → k ∉ l → w'.heap[k]? = w.heap[k]?
  d : True
theorem GrL.of_gr {l : List Nat} {w w' : World} (h : Gr w w') : GrL l w w' := ⟨h.b.os, h.b.tape, h.b.output, h.b.size, fun k hk _ => h.b.block k hk, h.d⟩
theorem GrL.trans {l : List Nat} {a b c : World} (h : GrL l a b) (k : GrL l b c) : GrL l a c :=
  ⟨k.os.trans h.os, k.tape.trans h.tape, k.output.trans h.output, Nat.le_trans h.size k.size, fun i hi hn => (k.block i (Nat.lt_of_lt_of_le hi h.size) hn).trans (h.block i hi hn), trivial⟩
/-- the blocks of the list are new in w: what the callee does to them the caller's world does not see -/
theorem GrL.gr {l : List Nat} {w w1 w2 : World} (h : Gr w w1) (k : GrL l w1 w2) (hl : ∀ i ∈ l, w.heap.size ≤ i) : Gr w w2 :=
  ⟨⟨k.os.trans h.b.os, k.tape.trans h.b.tape, k.output.trans h.b.output, Nat.le_trans h.b.size k.size, fun i hi =>
    (k.block i (Nat.lt_of_lt_of_le hi h.b.size) (fun hm => by have := hl i hm; omega)).trans (h.b.block i hi)⟩, trivial⟩
theorem GrL.at {l : List Nat} {W w1 : World} (h : GrL l W w1) {n : Nat} (hn : n ≤ W.heap.size) : (∀ b o, b < n → b ∉ l → w1.cell? ⟨b, o, none⟩ = W.cell? ⟨b, o, none⟩) ∧ (∀ b o, b < n → b ∉ l → w1.frozen? ⟨b, o, none⟩ = W.frozen? ⟨b, o, none⟩) ∧ n ≤ w1.heap.size :=
  ⟨fun b _ hb hm => World.cell?_of_block (h.block b (Nat.lt_of_lt_of_le hb hn) hm), fun b _ hb hm => World.frozen?_of_block (h.block b (Nat.lt_of_lt_of_le hb hn) hm), Nat.le_trans hn h.size⟩
theorem GrL.set {l : List Nat} {w w' : World} (h : GrL l w w') (a : Addr) (v : Value) (ha : w.heap.size ≤ a.block ∨ a.block ∈ l) : GrL l w (w'.setCell a v) := by
  refine ⟨h.os, h.tape, h.output, by simpa using h.size, fun k hk hm => ?_, h.d⟩
  rw [Below.heap_setCell w' a v k (by rintro rfl; rcases ha with ha | ha; omega; exact hm ha)]
  exact h.block k hk hm
theorem GrL.alloc {l : List Nat} {w w' : World} (h : GrL l w w') (o : Obj) : GrL l w (w'.alloc o) := h.trans (GrL.of_gr ((Gr.refl _).alloc o))
theorem GrL.drew {l : List Nat} {w w' : World} (h : GrL l w w') : GrL l w w'.drew := h.trans (GrL.of_gr (Gr.refl _).drew)
theorem GrL.mono {l m : List Nat} {w w' : World} (h : GrL l w w') (k : ∀ i ∈ l, i ∈ m) : GrL m w w' := ⟨h.os, h.tape, h.output, h.size, fun i hi hn => h.block i hi (fun q => hn (k i q)), h.d⟩
end
end Go.Proofs.YthmimjofdmnakaaGreatDoor
