/- What a call that only reckons does to the world: it lays blocks of its own and draws; what was there stays. -/
import Derived.Test.YthmimjofdmnakaaGreatDoorProg
import Derived.KernelRfl
import Derived.WalkKit
import Derived.WalkSpells
import Derived.WalkLawsBesides
import Derived.RegionTactic
import Derived.ChangeAlike
import Derived.Lib.Hide
import Derived.Deep.QuietTactic
import Derived.BigQuiet
import Derived.Sort.Grow
import Derived.Shelf.Abstract
import Derived.Laws.StructEq
namespace Go.Proofs.YthmimjofdmnakaaGreatDoor
open Go.RowKit
/-- w' is w with new blocks and draws -/
structure Gr (w w' : World) : Prop where
  b : Below w.heap.size w w'
  d : True
theorem Gr.refl (w : World) : Gr w w := ⟨Below.refl _ _, trivial⟩
theorem Gr.alloc {w w' : World} (h : Gr w w') (o : Obj) : Gr w (w'.alloc o) := ⟨h.b.alloc h.b.size o, h.d⟩
theorem Gr.drew {w w' : World} (h : Gr w w') : Gr w w'.drew := ⟨h.b.drew, trivial⟩
theorem Gr.drewN {w w' : World} (h : Gr w w') (n : Nat) : Gr w (w'.drewN n) := ⟨⟨h.b.os, h.b.tape, h.b.output, h.b.size, h.b.block⟩, trivial⟩
theorem Gr.of_below {w w' : World} (h : Below w.heap.size w w') : Gr w w' := ⟨h, trivial⟩
theorem Gr.trans {a b c : World} (h : Gr a b) (k : Gr b c) : Gr a c := ⟨h.b.trans (k.b.mono h.b.size), trivial⟩
theorem Gr.set {w w' : World} (h : Gr w w') (a : Addr) (v : Value) (ha : w.heap.size ≤ a.block) : Gr w (w'.setCell a v) := ⟨h.b.setCell ha v, h.d⟩
/-- what was there reads as before; the heap has not shrunk -/
theorem Gr.cells {W w1 : World} (h : Gr W w1) : (∀ b o, b < W.heap.size → w1.cell? ⟨b, o, none⟩ = W.cell? ⟨b, o, none⟩) ∧ (∀ b o, b < W.heap.size → w1.frozen? ⟨b, o, none⟩ = W.frozen? ⟨b, o, none⟩) ∧ W.heap.size ≤ w1.heap.size :=
  ⟨fun b o hb => h.b.cell (p := ⟨b, o, none⟩) hb, fun b o hb => h.b.frozen (p := ⟨b, o, none⟩) hb, h.b.size⟩
/-- the same, up to a number that is known -/
theorem Gr.at {W w1 : World} (h : Gr W w1) {n : Nat} (hn : n ≤ W.heap.size) : (∀ b o, b < n → w1.cell? ⟨b, o, none⟩ = W.cell? ⟨b, o, none⟩) ∧ (∀ b o, b < n → w1.frozen? ⟨b, o, none⟩ = W.frozen? ⟨b, o, none⟩) ∧ n ≤ w1.heap.size :=
  ⟨fun b o hb => h.b.cell (p := ⟨b, o, none⟩) (Nat.lt_of_lt_of_le hb hn), fun b o hb => h.b.frozen (p := ⟨b, o, none⟩) (Nat.lt_of_lt_of_le hb hn), Nat.le_trans hn h.b.size⟩
theorem ret_int {k : IntKind} {a b : Int} (h : a = b) : Ending.returned (.int k a) = .returned (.int k b) := by rw [h]
theorem ret_bool {a b : Bool} (h : a = b) : Ending.returned (.bool a) = .returned (.bool b) := by rw [h]
/-- a fraction as a value -/
abbrev fr (a b : Int) : Value := .agg #[.int .i64 a, .int .i64 b]
end Go.Proofs.YthmimjofdmnakaaGreatDoor
