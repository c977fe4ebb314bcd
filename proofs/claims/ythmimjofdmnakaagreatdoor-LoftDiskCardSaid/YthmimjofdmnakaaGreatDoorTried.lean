/- rule/frac.go: giving up by a panic that is recovered. -/
import Derived.Test.YthmimjofdmnakaaGreatDoorFrac
import Derived.Defers
import Derived.Recover
import Derived.Laws.Pointers
namespace Go.Proofs.YthmimjofdmnakaaGreatDoor
open Go.RowKit
/-- a way out of a drawn region: what is left of it has no operations -/
theorem wpAny_back {G : Prop} {md : Region.Mode} {a : Act} {w : World} (h : wpAny Tryz.prog md #[] (fun _ _ _ => G) 0 #[] a w) : G := h.2
theorem Gr.lt {W w1 : World} (h : Gr W w1) : ∀ b, b < W.heap.size → b < w1.heap.size := fun _ k => Nat.lt_of_lt_of_le k h.b.size
/-- w' is w with new blocks and draws, and perhaps other contents of the blocks of the list -/
structure GrL (l : List Nat) (w w' : World) : Prop where
  os : w'.os = w.os
  tape : w'.tape = w.tape
  output : w'.output = w.output
  size : w.heap.size ≤ w'.heap.size
  block : ∀ k, k < w.heap.size → k ∉ l → w'.heap[k]? = w.heap[k]?
  d : True
theorem GrL.of_gr {l : List Nat} {w w' : World} (h : Gr w w') : GrL l w w' := ⟨h.b.os, h.b.tape, h.b.output, h.b.size, fun k hk _ => h.b.block k hk, h.d⟩
theorem GrL.trans {l : List Nat} {a b c : World} (h : GrL l a b) (k : GrL l b c) : GrL l a c :=
  ⟨k.os.trans h.os, k.tape.trans h.tape, k.output.trans h.output, Nat.le_trans h.size k.size, fun i hi hn => (k.block i (Nat.lt_of_lt_of_le hi h.size) hn).trans (h.block i hi hn), trivial⟩
/-- the blocks of the list are new in w: what the callee does to them the caller's world does not see -/
theorem GrL.gr {l : List Nat} {w w1 w2 : World} (h : Gr w w1) (k : GrL l w1 w2) (hl : ∀ i ∈ l, w.heap.size ≤ i) : Gr w w2 :=
  ⟨⟨k.os.trans h.b.os, k.tape.trans h.b.tape, k.output.trans h.b.output, Nat.le_trans h.b.size k.size, fun i hi =>
    (k.block i (Nat.lt_of_lt_of_le hi h.b.size) (fun hm => by have := hl i hm; omega)).trans (h.b.block i hi)⟩, trivial⟩
theorem GrL.at {l : List Nat} {W w1 : World} (h : GrL l W w1) {n : Nat} (hn : n ≤ W.heap.size) : (∀ b o, b < n → b ∉ l → w1.cell? ⟨b, o, none⟩ = W.cell? ⟨b, o, none⟩) ∧ (∀ b o, b < n → b ∉ l → w1.frozen? ⟨b, o, none⟩ = W.frozen? ⟨b, o, none⟩) ∧ n ≤ w1.heap.size :=
  ⟨fun b _ hb hm => World.cell?_of_block (h.block b (Nat.lt_of_lt_of_le hb hn) hm), fun b _ hb hm => World.frozen?_of_block (h.block b (Nat.lt_of_lt_of_le hb hn) hm), Nat.le_trans hn h.size⟩
theorem GrL.set {l : List Nat} {w w' : World} (h : GrL l w w') (a : Addr) (v : Value) (ha : w.heap.size ≤ a.block ∨ a.block ∈ l) : GrL l w (w'.setCell a v) := by
  refine ⟨h.os, h.tape, h.output, by simpa using h.size, fun k hk hm => ?_, h.d⟩
  rw [Below.heap_setCell w' a v k (by rintro rfl; rcases ha with ha | ha; omega; exact hm ha)]
  exact h.block k hk hm
theorem GrL.alloc {l : List Nat} {w w' : World} (h : GrL l w w') (o : Obj) : GrL l w (w'.alloc o) := h.trans (GrL.of_gr ((Gr.refl _).alloc o))
theorem GrL.drew {l : List Nat} {w w' : World} (h : GrL l w w') : GrL l w w'.drew := h.trans (GrL.of_gr (Gr.refl _).drew)
theorem GrL.mono {l m : List Nat} {w w' : World} (h : GrL l w w') (k : ∀ i ∈ l, i ∈ m) : GrL m w w' := ⟨h.os, h.tape, h.output, h.size, fun i hi hn => h.block i hi (fun q => hn (k i q)), h.d⟩
end Go.Proofs.YthmimjofdmnakaaGreatDoor
