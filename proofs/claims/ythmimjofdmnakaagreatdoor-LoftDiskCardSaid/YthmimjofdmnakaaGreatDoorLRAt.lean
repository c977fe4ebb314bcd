/- strickleref09: the definition's disk in memory; padded, call, Stop, Read. -/
import Derived.Test.YthmimjofdmnakaaGreatDoorLOwe
import Derived.Test.YthmimjofdmnakaaGreatDoorLDSpec
import Derived.Test.YthmimjofdmnakaaGreatDoorStepsJ
namespace Go.Proofs.YthmimjofdmnakaaGreatDoor
open Go.RowKit Go.Shelf
abbrev sb (l : List UInt8) : Value := .string ⟨l.toArray⟩
abbrev putV (x : Nat × List UInt8) : List Value := [.int .i64 x.1, sb x.2]
/-- blocks of other types are other blocks -/
theorem ty_ne {w : World} {a b : Nat} {c c' : Array Value} {e e' : TypeId} {z z' : Nat × Nat} (h : w.heap[a]? = some (.cells c e z)) (h' : w.heap[b]? = some (.cells c' e' z')) (hne : e ≠ e') : a ≠ b := fun x => by
  subst x
  rw [h] at h'
  simp only [Option.some.injEq, Obj.cells.injEq] at h'
  exact hne h'.2.1
theorem own_ty {w : World} {base : Nat} {e : TypeId} {size : Nat} {v : Value} {n : Nat} {xs : List Value} (h : w.ownsRow base e size v n xs) : ∀ b, v.ownBlock = some b → ∃ c, w.heap[b]? = some (.cells c e (0, 0)) := fun b hb => by
  rcases h.2 with ⟨rfl, rfl⟩ | ⟨g, cap, cur, rfl, _, hg, _⟩
  · cases hb
  · obtain rfl := Option.some.inj hb
    exact ⟨cur, hg⟩
theorem owns_base {w : World} {base : Nat} {e : TypeId} {size : Nat} {v : Value} {n : Nat} {xs : List Value} (h : w.ownsRow base e size v n xs) : ∀ b, v.ownBlock = some b → base ≤ b := fun b hb => by
  rcases h.2 with ⟨rfl, rfl⟩ | ⟨g, cap, cur, rfl, hbg, hg, _⟩
  · cases hb
  · obtain rfl := Option.some.inj hb
    exact hbg
theorem owns_zero {w : World} {base : Nat} {e : TypeId} {size : Nat} {v : Value} {n : Nat} {xs : List Value} (h : w.ownsRow base e size v n xs) : w.ownsRow 0 e size v n xs := by
  refine ⟨h.1, ?_⟩
  rcases h.2 with h | ⟨g, cap, cur, h1, _, h3⟩
  · exact .inl h
  · exact .inr ⟨g, cap, cur, h1, Nat.zero_le _, h3⟩
theorem owns_up {w : World} {e : TypeId} {size : Nat} {v : Value} {n : Nat} {xs : List Value} {B : Nat} (h : w.ownsRow 0 e size v n xs) (hB : ∀ b, v.ownBlock = some b → B ≤ b) : w.ownsRow B e size v n xs := by
  refine ⟨h.1, ?_⟩
  rcases h.2 with h | ⟨g, cap, cur, rfl, _, h3⟩
  · exact .inl h
  · exact .inr ⟨g, cap, cur, rfl, hB g rfl, h3⟩
/-- a disk as its definition has it -/
structure RAt (w : World) (q : Nat) (dv pv : Value) (S : Sp) : Prop where
  d : w.heap[q]? = some (.cells #[dv, pv, .int .i64 S.left, .bool S.down] 135 (0, 0))
  u : w.ownsRow 0 9 1 dv S.dur.length (S.dur.map sb)
  p : w.ownsRow 0 237 2 pv S.pend.length (S.pend.flatMap putV)
/-- its blocks -/
def rbs (q : Nat) (dv pv : Value) : List Nat := q :: (dv.ownBlock.toList ++ pv.ownBlock.toList)
theorem RAt.ty {w : World} {q : Nat} {dv pv : Value} {S : Sp} (h : RAt w q dv pv S) : ∀ b ∈ rbs q dv pv, ∃ c e, w.heap[b]? = some (.cells c e (0, 0)) ∧ e ∈ [135, 9, 237] := fun b hb => by
  unfold rbs at hb
  simp only [List.mem_cons, List.mem_append, Option.mem_toList] at hb
  rcases hb with rfl | hb | hb
  · exact ⟨_, _, h.d, by simp⟩
  · obtain ⟨c, hc⟩ := own_ty h.u b hb
    exact ⟨_, _, hc, by simp⟩
  · obtain ⟨c, hc⟩ := own_ty h.p b hb
    exact ⟨_, _, hc, by simp⟩
theorem RAt.du {w : World} {q : Nat} {dv pv : Value} {S : Sp} (h : RAt w q dv pv S) : ∀ b, dv.ownBlock = some b → b ≠ q := fun b hb => by
  obtain ⟨c, hc⟩ := own_ty h.u b hb
  exact ty_ne hc h.d (by decide)
theorem RAt.pu {w : World} {q : Nat} {dv pv : Value} {S : Sp} (h : RAt w q dv pv S) : ∀ b, pv.ownBlock = some b → b ≠ q := fun b hb => by
  obtain ⟨c, hc⟩ := own_ty h.p b hb
  exact ty_ne hc h.d (by decide)
theorem RAt.dp {w : World} {q : Nat} {dv pv : Value} {S : Sp} (h : RAt w q dv pv S) : ∀ b, dv.ownBlock = some b → ∀ b', pv.ownBlock = some b' → b ≠ b' := fun b hb b' hb' => by
  obtain ⟨c, hc⟩ := own_ty h.u b hb
  obtain ⟨c', hc'⟩ := own_ty h.p b' hb'
  exact ty_ne hc hc' (by decide)
theorem RAt.grl {w w' : World} {q : Nat} {dv pv : Value} {S : Sp} {l : List Nat} (h : RAt w q dv pv S) (g : GrL l w w') (hl : ∀ b ∈ rbs q dv pv, b ∉ l) : RAt w' q dv pv S :=
  ⟨(g.block q (heap_lt h.d) (hl q (by simp [rbs]))).trans h.d, ownsRow_gr h.u g (fun i hi => hl i (by simp [rbs, hi])), ownsRow_gr h.p g (fun i hi => hl i (by simp [rbs, hi]))⟩
theorem RAt.gr {w w' : World} {q : Nat} {dv pv : Value} {S : Sp} (h : RAt w q dv pv S) (g : Gr w w') : RAt w' q dv pv S := h.grl (GrL.of_gr (l := []) g) (by simp)
/-- a row that is held: its slice and cells -/
theorem owns_form {w : World} {base : Nat} {e : TypeId} {size : Nat} {v : Value} {n : Nat} {xs : List Value} (h : w.ownsRow base e size v n xs) : ∃ a cap, v = .slice a n cap ∧ n ≤ cap ∧ n ≤ maxLen ∧ (∀ j, j < n → ∃ g, a = some ⟨g, 0, none⟩ ∧ g < w.heap.size ∧ v.ownBlock = some g ∧ (∀ i, i < n * size → w.cell? ⟨g, i, none⟩ = xs[i]?) ∧ (∀ i, w.frozen? ⟨g, i, none⟩ = false)) := by
  rcases h.2 with ⟨rfl, rfl⟩ | ⟨g, cap, cur, rfl, hb, hg, h1, h2, h3, h4⟩
  · exact ⟨none, 0, rfl, Nat.le_refl _, Nat.zero_le _, fun j hj => absurd hj (Nat.not_lt_zero _)⟩
  · refine ⟨_, cap, rfl, h1, Nat.le_trans h1 h2, fun j hj => ⟨g, rfl, heap_lt hg, rfl, fun i hi => World.ownsRow.cellAt h i hi, fun i => World.ownsRow.frozenAt h i⟩⟩
theorem flat2 {α : Type} {f : α → List Value} (hf : ∀ x, (f x).length = 2) (l : List α) (j : Nat) (hj : j < l.length) : (l.flatMap f)[j * 2]? = (f l[j])[0]? ∧ (l.flatMap f)[j * 2 + 1]? = (f l[j])[1]? :=
  ⟨by simpa using flk_at hf l j 0 hj (by omega), flk_at hf l j 1 hj (by omega)⟩
theorem pads_snoc (s : List UInt8) (h : s.length < 64) : padB s = padB (s ++ [0]) := by
  unfold padB
  rw [List.append_assoc]
  congr 1
  simp only [List.length_append, List.length_cons, List.length_nil]
  obtain ⟨k, hk⟩ : ∃ k, 64 - s.length = k + 1 := ⟨64 - s.length - 1, by omega⟩
  rw [hk, show 64 - (s.length + (0 + 1)) = k by omega]
  rfl
theorem cat0 (A : List UInt8) (c : UInt8) : (⟨(A ++ [c]).toArray⟩ : ByteArray) = ⟨A.toArray⟩ ++ ⟨#[c]⟩ := by
  apply ByteArray.ext
  simp
set_option maxHeartbeats 1000000 in
theorem padded_any (s : List UInt8) (w : World) (h : s.length ≤ 64) :
    Calls Tryz.prog 77 #[sb s] w fun e w' => e = .returned (sb (padB s)) ∧ w' = w := by
  go_enter Tryz.func77, Tryz.ntmps77
  go_wp2
  go_loopw [0] (fun p wr => ∃ t : List UInt8, p = sb t ∧ t.length ≤ 64 ∧ Hid (padB t = padB s) ∧ wr = w) (fun p _ => 64 - (match p with | .string t => t.size | _ => 0))
  case atStart => exact ⟨s, rfl, h, Lib.hid rfl, rfl⟩
  case round =>
    obtain ⟨t, rfl, ht, hp, rfl⟩ := hrel
    by_cases hl : t.length < 64
    · have hl' : (t.length : Int) < 64 := by omega
      have l1 : ¬ 9223372036854775807 < t.length + 1 := by omega
      have HS := Lib.hid (pads_snoc t hl)
      go_wp2
      refine ⟨⟨t ++ [0], ?_, by simp; omega, Lib.hid (HS.out.symm.trans hp.out), trivial⟩, ?_⟩
      · exact congrArg Value.string (cat0 t 0).symm
      · have e1 : (⟨t.toArray⟩ : ByteArray).size = t.length := rfl
        have e2 : (⟨t.toArray⟩ ++ ⟨#[0]⟩ : ByteArray).size = t.length + 1 := by rw [ByteArray.size_append, e1]; rfl
        change 64 - (⟨t.toArray⟩ ++ ⟨#[0]⟩ : ByteArray).size < 64 - (⟨t.toArray⟩ : ByteArray).size
        rw [e2, e1]
        show 64 - (t.length + 1) < 64 - t.length
        omega
    · have hl' : ¬ (t.length : Int) < 64 := by omega
      have he : padB t = t := by unfold padB; rw [show 64 - t.length = 0 by omega]; simp
      have hp' := hp.out
      rw [he] at hp'
      subst hp'
      clear he hp
      go_wp2
      go_ret
      exact ⟨rfl, rfl⟩
set_option maxRecDepth 100000 in
set_option maxHeartbeats 1000000 in
theorem call_any (q : Nat) (dv pv : Value) (left : Int) (down : Bool) (w : World) (hb : w.heap[q]? = some (.cells #[dv, pv, .int .i64 left, .bool down] 135 (0, 0))) (h1 : -1 ≤ left) (h2 : left ≤ 9223372036854775807) :
    Calls Tryz.prog 138 #[.pointer (some ⟨q, 0, none⟩)] w fun e w' => e = .returned (.bool (!decide (left = 0))) ∧ GrL [q] w w' ∧
      w'.heap[q]? = some (.cells #[dv, pv, .int .i64 (if left = 0 then left else if 0 < left then left - 1 else left), .bool (if left = 0 then true else down)] 135 (0, 0)) := by
  obtain ⟨cx, fx, zx⟩ := blk_cells hb
  by_cases h0 : left = 0
  · subst h0
    go_enter Tryz.func138, Tryz.ntmps138
    go_wp2
    go_ret
    exact ⟨rfl, (GrL.of_gr (Gr.refl _)).set _ _ (Or.inr (by simp)), by simpa using put_at hb 3 (.bool true)⟩
  · have hb1 : (left == 0) = false := by simpa using h0
    by_cases hp : 0 < left
    · go_enter Tryz.func138, Tryz.ntmps138
      go_wp2
      all_goals go_ret
      all_goals exact ⟨ret_bool (by simp), (GrL.of_gr (Gr.refl _)).set _ _ (Or.inr (by simp)), by simpa [h0, hp] using put_at hb 2 (.int .i64 (left - 1))⟩
    · go_enter Tryz.func138, Tryz.ntmps138
      go_wp2
      go_ret
      exact ⟨ret_bool (by simp), GrL.of_gr (Gr.refl _), by simpa [h0, hp] using hb⟩
set_option maxRecDepth 100000 in
set_option maxHeartbeats 1000000 in
theorem rStop_any (q : Nat) (dv pv : Value) (S : Sp) (n : Int) (w : World) (h : RAt w q dv pv S) :
    Calls Tryz.prog 81 #[.pointer (some ⟨q, 0, none⟩), .int .i64 n] w fun e w' => e = .returned (.int .i64 (S.stop n).1) ∧ GrL [q] w w' ∧ RAt w' q dv pv (S.stop n).2 := by
  obtain ⟨dur, pend, left, down⟩ := S
  have a1 := h.du
  have a2 := h.pu
  obtain ⟨hd, hu, hp⟩ := h
  dsimp only at hd hu hp
  obtain ⟨cx, fx, zx⟩ := blk_cells hd
  unfold Sp.stop
  dsimp only
  cases down
  · rw [if_neg (by simp)]
    by_cases hn : n < 0
    · rw [if_pos hn]
      go_enter Tryz.func81, Tryz.ntmps81
      go_wp2
      go_ret
      exact ⟨rfl, GrL.of_gr (Gr.refl _), hd, hu, hp⟩
    · rw [if_neg hn]
      go_enter Tryz.func81, Tryz.ntmps81
      go_wp2
      go_ret
      have g : GrL [q] w (w.setCell ⟨q, 2, none⟩ (.int .i64 n)) := (GrL.of_gr (Gr.refl _)).set _ _ (Or.inr (by simp))
      exact ⟨rfl, g, by simpa using put_at hd 2 (.int .i64 n), ownsRow_gr hu g (fun i hi => by simpa using a1 i hi), ownsRow_gr hp g (fun i hi => by simpa using a2 i hi)⟩
  · rw [if_pos rfl]
    go_enter Tryz.func81, Tryz.ntmps81
    go_wp2
    go_ret
    exact ⟨rfl, GrL.of_gr (Gr.refl _), hd, hu, hp⟩
end Go.Proofs.YthmimjofdmnakaaGreatDoor
