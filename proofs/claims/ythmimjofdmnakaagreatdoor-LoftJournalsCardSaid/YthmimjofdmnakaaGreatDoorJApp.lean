/- append of records that stand anywhere, behind an own row. -/
import Derived.Test.YthmimjofdmnakaaGreatDoorJRMrg
namespace Go.Proofs.YthmimjofdmnakaaGreatDoor
open Go.RowKit Go.Shelf Go.Lib
theorem append_recs (u : World) (base : Nat) (ty : TypeId) (v : Value) (L : List Rc) (hown : u.ownsRow base 23 4 v L.length (rcs L)) (sv : Value) (M : List Rc) (hs : RecsAt u sv M) (hl : L.length + M.length ≤ 1000000) (hb : base ≤ u.heap.size) :
    ∃ v' u', (Builtin.append_ #[32, 32] ty #[v, sv]).run Tryz.prog u = .ok v' u' ∧ u'.ownsRow base 23 4 v' (L ++ M).length (rcs (L ++ M)) ∧ GrL v.ownBlock.toList u u' := by
  obtain ⟨i0, hi, hz0, hz1, hz2⟩ := info_parts info_rec
  have hs0 := hs
  obtain ⟨a, cap, rfl, hc, hcell⟩ := hs
  have key : ∀ (ad : Addr) (news : List Value), a = some ad → news = rcs M → (∀ j x, news[j]? = some x → u.cell? (ad.add j) = some x) →
      ∃ v' u', (Builtin.append_ #[32, 32] ty #[v, .slice a M.length cap]).run Tryz.prog u = .ok v' u' ∧ u'.ownsRow base 23 4 v' (L ++ M).length (rcs (L ++ M)) ∧ GrL v.ownBlock.toList u u' := by
    intro ad news ha hn hx
    subst ha; subst hn
    obtain ⟨v', u', h1, h2, h3, _⟩ := run_append_own (P := Tryz.prog) u base 32 ty 23 i0 _ 4 40 Tryz.underlying32 hi hz0 hz1 hz2 rfl (by decide) v L.length (rcs L) hown ad M.length cap (rcs M) (rcs_len M) hx (rcs_one M) (by unfold maxLen; omega) (by omega) hb
    exact ⟨v', u', h1, by rw [rcs_append, List.length_append]; exact h2, GrL.of_grown' h3⟩
  cases M with
  | nil =>
    cases a with
    | none =>
      obtain ⟨ao, co, rfl⟩ := own_slice hown
      have hmc : L.length ≤ co := by
        rcases hown.2 with ⟨hv, hz⟩ | ⟨_, _, _, hv, _, _, hcap, _⟩
        · injection hv with _ _ h; omega
        · injection hv with _ _ h; omega
      refine ⟨_, u, ?_, by simpa using hown, GrL.of_gr (Gr.refl u)⟩
      cases ao <;> simp [Builtin.append_, run_underlying Tryz.underlying32, Tryz.sizeOf23, hmc, Builtin.lenOf, Builtin.firstCells, storeCells]
    | some ad => exact key ad _ rfl rfl (fun j x hj => by simp [rcs] at hj)
  | cons x M =>
    obtain ⟨g, o, rfl, -⟩ := hcell 0 (by simp)
    exact key _ _ rfl rfl (fun j x hj => by rw [Addr.add_mid]; exact RecsAt.flat hs0 j x hj)
theorem append_fresh (u : World) (base : Nat) (ty : TypeId) (b : Nat) (hb0 : base ≤ b) (hbk : u.heap[b]? = some (.cells #[] 23 (0, 0))) (sv : Value) (M : List Rc) (hs : RecsAt u sv M) (hM : M.length ≤ 1000000) (hb : base ≤ u.heap.size) :
    ∃ v' u', (Builtin.append_ #[32, 32] ty #[.slice (some ⟨b, 0, none⟩) 0 0, sv]).run Tryz.prog u = .ok v' u' ∧ u'.ownsRow base 23 4 v' M.length (rcs M) ∧ Gr u u' := by
  obtain ⟨i0, hi, hz0, hz1, hz2⟩ := info_parts info_rec
  have hs0 := hs
  obtain ⟨a, cap, rfl, hc, hcell⟩ := hs
  cases M with
  | nil =>
    have own : u.ownsRow base 23 4 (.slice (some ⟨b, 0, none⟩) 0 0) 0 [] := ⟨rfl, .inr ⟨b, 0, #[], rfl, hb0, hbk, Nat.le_refl _, Nat.zero_le _, rfl, rfl⟩⟩
    cases a with
    | none =>
      refine ⟨_, u, ?_, own, Gr.refl u⟩
      simp [Builtin.append_, run_underlying Tryz.underlying32, Tryz.sizeOf23, Builtin.lenOf, Builtin.firstCells, storeCells]
    | some ad =>
      have hr := run_append_room (P := Tryz.prog) u 32 ty 23 i0 Tryz.underlying32 hi b 0 0 #[] hbk ad 0 cap [] (by simp) (fun j x hj => by simp at hj) (fun x hx => by cases hx) (Nat.le_refl _) (by simp)
      simp only [List.take_nil, List.drop_nil, List.append_nil] at hr
      have e : u.setRow b #[] = u := setRow_self u b #[] 23 (0, 0) hbk
      rw [show ([] : List Value).toArray = #[] from rfl, e] at hr
      exact ⟨_, u, hr, own, Gr.refl u⟩
  | cons x M =>
    obtain ⟨g, o, rfl, -⟩ := hcell 0 (by simp)
    have hl := rcs_len (x :: M)
    have hpos : 0 < (x :: M).length := by simp
    generalize x :: M = L at *
    have hbytes : (0 + L.length) * i0.bytes ≤ 140737488355328 := by rw [hz2]; omega
    have hr := run_append_grow (P := Tryz.prog) u 32 ty 23 i0 _ Tryz.underlying32 hi hz0 ⟨b, 0, none⟩ 0 0 [] (by simp) (fun j v hj => by simp at hj) ⟨g, o, none⟩ L.length cap (rcs L) (by rw [hz1]; exact hl) (fun j v hj => by rw [Addr.add_mid]; exact RecsAt.flat hs0 j v hj) (by omega) (by omega) (growslice_fits (by omega) hbytes)
    rw [Nat.zero_add] at hr
    refine ⟨_, _, hr, ⟨hl, .inr ⟨u.heap.size, _, _, rfl, hb, heap_alloc_new u.drew _, grownCap_ge u _ _ _, grownCap_le_maxLen u _ _ _ (by unfold maxLen; omega), ?_, ?_⟩⟩, (Gr.refl u).drew.alloc _⟩
    · have hge := grownCap_ge u L.length 0 23
      simp only [Array.size_append, List.size_toArray, size_zeroCells, hl, List.length_nil]
      show 0 + L.length * 4 + (grownCap u L.length 0 23 - L.length) * 4 = _
      omega
    · simp only [Array.toList_append, List.nil_append]
      rw [← hl]
      exact List.take_left
theorem recs_one (w : World) (g : Nat) (x : Rc) (h : w.heap[g]? = some (.cells x.cells.toArray 23 (0, 0))) : RecsAt w (.slice (some ⟨g, 0, none⟩) 1 1) [x] := by
  obtain ⟨c, f, z⟩ := blk_cells h
  refine ⟨_, 1, rfl, by simp, fun j hj => ?_⟩
  obtain rfl : j = 0 := by simpa using hj
  exact ⟨g, 0, rfl, z, c 0, c 1, c 2, c 3⟩
theorem cameS_append_run {P : Program} {F : Value → World → Prop} {R : World → Prop} {o : Oper} {a : Act} {w : World} (d s : Operand) (t t' : TypeId)
    (ho : o.op = .call { callee := .builtin .append, args := #[d, s], argTypes := #[t, t'] }) (v u : Value) (hd : a.eval d = v) (hs : a.eval s = u) {v' : Value} {w' : World}
    (hr : (Builtin.append_ #[t, t'] o.type #[v, u]).run P w = .ok v' w') (h : F v' w' ∧ R w') : CameS P F R ((execOp a.eval o).run P w) := by
  unfold execOp
  simp only [ho, resolve, invoke, builtin, Sem.run_bind, Sem.run_pure, Result.andThen_ok, List.map_toArray, List.map_cons, List.map_nil, hd, hs, hr]
  exact h
/-- a part of records that stand anywhere -/
theorem RecsAt.takeS {w : World} {a : Option Addr} {n cap : Nat} {l : List Rc} (h : RecsAt w (.slice a n cap) l) (k : Nat) (hk : k ≤ l.length) : RecsAt w (.slice a k cap) (l.take k) := by
  obtain ⟨a', cap', hv, hc, hr⟩ := h
  injection hv with h1 h2 h3
  subst h1; subst h3
  have e : (l.take k).length = k := by rw [List.length_take]; omega
  refine ⟨a, cap, by rw [e], by omega, fun j hj => ?_⟩
  have hj2 : j < l.length := by omega
  obtain ⟨g, o, r1, r2, r3⟩ := hr j hj2
  refine ⟨g, o, r1, r2, ?_⟩
  rw [List.getElem_take]
  exact r3
theorem RecsAt.dropS {w : World} {g o n cap : Nat} {l : List Rc} (h : RecsAt w (.slice (some ⟨g, o, none⟩) n cap) l) (k m : Nat) (hm : m = l.length - k) (hk : k ≤ l.length) : RecsAt w (.slice (some ⟨g, o + k * 4, none⟩) m (cap - k)) (l.drop k) := by
  obtain ⟨a', cap', hv, hc, hr⟩ := h
  injection hv with h1 h2 h3
  subst h1; subst h3; subst hm
  have e : (l.drop k).length = l.length - k := List.length_drop ..
  refine ⟨_, _, by rw [e], by omega, fun j hj => ?_⟩
  have hj2 : k + j < l.length := by omega
  obtain ⟨g', o', r1, r2, r3, r4, r5, r6⟩ := hr (k + j) hj2
  injection r1 with r1
  injection r1 with q1 q2
  subst q1; subst q2
  refine ⟨g, o + k * 4, rfl, r2, ?_⟩
  rw [List.getElem_drop]
  have e4 : o + (k + j) * 4 = o + k * 4 + j * 4 := by omega
  rw [e4] at r3 r4 r5 r6
  exact ⟨r3, r4, r5, r6⟩
end Go.Proofs.YthmimjofdmnakaaGreatDoor
