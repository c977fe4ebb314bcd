/- loft/disk.go: a disk in memory, by its definition; Stop, Read. -/
import Derived.Test.YthmimjofdmnakaaGreatDoorLRNew
namespace Go.Proofs.YthmimjofdmnakaaGreatDoor
open Go.RowKit Go.Shelf
theorem flm_len {α : Type} {f : α → List Value} {k : Nat} : ∀ (l : List α) (_ : ∀ x ∈ l, (f x).length = k), (l.flatMap f).length = l.length * k
  | [], _ => by simp
  | x :: l, h => by rw [List.flatMap_cons, List.length_append, flm_len l (fun y hy => h y (by simp [hy])), h x (by simp), List.length_cons, Nat.succ_mul]; omega
theorem flm_at {α : Type} {f : α → List Value} {k : Nat} : ∀ (l : List α) (_ : ∀ x ∈ l, (f x).length = k) (j c : Nat) (hj : j < l.length) (_ : c < k), (l.flatMap f)[j * k + c]? = (f l[j])[c]?
  | [], _, j, c, hj, _ => by simp at hj
  | x :: l, h, 0, c, _, hc => by
    rw [List.flatMap_cons, List.getElem?_append_left (by rw [h x (by simp)]; omega)]
    simp
  | x :: l, h, j + 1, c, hj, hc => by
    have e : (j + 1) * k = j * k + k := Nat.succ_mul _ _
    have hx := h x (by simp)
    rw [List.flatMap_cons, List.getElem?_append_right (by omega)]
    have := flm_at l (fun y hy => h y (by simp [hy])) j c (by simpa using hj) hc
    simp only [List.getElem_cons_succ]
    rw [← this, hx]
    congr 1
    omega
theorem flm_set {α : Type} {f : α → List Value} {k : Nat} : ∀ (l : List α) (_ : ∀ x ∈ l, (f x).length = k) (i : Nat) (b : α) (_ : i < l.length) (_ : (f b).length = k),
    (l.flatMap f).take (i * k) ++ f b ++ (l.flatMap f).drop (i * k + k) = (l.set i b).flatMap f
  | [], _, i, b, hi, _ => by simp at hi
  | x :: l, h, 0, b, _, hb => by
    have hx := h x (by simp)
    simp only [Nat.zero_mul, List.take_zero, List.nil_append, Nat.zero_add, List.set_cons_zero, List.flatMap_cons]
    rw [List.drop_append, hx, Nat.sub_self, List.drop_zero, List.drop_eq_nil_of_le (by omega), List.nil_append]
  | x :: l, h, i + 1, b, hi, hb => by
    have hx := h x (by simp)
    have e : (i + 1) * k = k + i * k := by rw [Nat.succ_mul]; omega
    have ih := flm_set l (fun y hy => h y (by simp [hy])) i b (by simpa using hi) hb
    simp only [List.set_cons_succ, List.flatMap_cons]
    rw [← ih, e, List.take_append, hx, List.take_of_length_le (by omega), List.drop_append, hx, List.drop_eq_nil_of_le (by omega)]
    have e1 : k + i * k - k = i * k := by omega
    have e2 : k + i * k + k - k = i * k + k := by omega
    rw [e1, e2]
    simp
theorem secs_64 {l : List (List UInt8)} (h : ∀ x ∈ l, x.length = 64) : ∀ x ∈ l, (x.map byV).length = 64 := fun x hx => by rw [List.length_map, h x hx]
theorem secs_len {l : List (List UInt8)} (h : ∀ x ∈ l, x.length = 64) : (secs l).length = l.length * 64 := flm_len l (secs_64 h)
theorem secs_at {l : List (List UInt8)} (h : ∀ x ∈ l, x.length = 64) (i : Nat) (hi : i < l.length) (j : Nat) (v : Value) (hv : ((l.getD i []).map byV)[j]? = some v) : (secs l)[i * 64 + j]? = some v := by
  have e : l.getD i [] = l[i] := by rw [List.getD_eq_getElem?_getD, List.getElem?_eq_getElem hi]; rfl
  rw [e] at hv
  have hj : j < 64 := by
    have := (List.getElem?_eq_some_iff.1 hv).1
    rwa [List.length_map, h _ (List.getElem_mem hi)] at this
  unfold secs
  rw [flm_at l (secs_64 h) i j hi hj]
  exact hv
theorem secs_set {l : List (List UInt8)} (h : ∀ x ∈ l, x.length = 64) (i : Nat) (b : List UInt8) (hi : i < l.length) (hb : b.length = 64) : (secs l).take (i * 64) ++ b.map byV ++ (secs l).drop (i * 64 + 64) = secs (l.set i b) :=
  flm_set l (secs_64 h) i b hi (by rw [List.length_map, hb])
theorem secs_rep (n : Nat) : secs (List.replicate n (List.replicate 64 0)) = List.replicate (n * 64) (byV 0) := by
  unfold secs
  induction n with
  | zero => rfl
  | succ n ih =>
    rw [List.replicate_succ, List.flatMap_cons, ih, List.map_replicate, List.replicate_append_replicate]
    congr 1
    omega
abbrev chgV (x : Nat × List UInt8) : List Value := .int .i64 x.1 :: x.2.map byV
/-- a disk in memory: K bounds how many calls were counted while the power stays -/
structure DAt (w : World) (p du nw m : Nat) (pv : Value) (S : Sp) (K : Int) : Prop where
  d : ∃ k1 k2 ends c, w.heap[p]? = some (.cells #[.slice (some ⟨du, 0, none⟩) m k1, .slice (some ⟨nw, 0, none⟩) m k2, pv, .bool ends, .bool S.down, .int .i64 c] 132 (0, 0)) ∧ (ends = true ∧ c = S.left ∧ 0 ≤ S.left ∨ ends = false ∧ S.left = -1 ∧ -K ≤ c ∧ c ≤ 0)
  u : w.heap[du]? = some (.cells (secs S.dur).toArray 140 (0, 0))
  n : ∃ X : List Value, w.heap[nw]? = some (.cells (secs S.now ++ X).toArray 140 (0, 0))
  q : w.ownsRow 0 143 65 pv S.pend.length (S.pend.flatMap chgV)
  un : du ≠ nw
/-- its blocks -/
def dbs (p du nw : Nat) (pv : Value) : List Nat := p :: du :: nw :: pv.ownBlock.toList
theorem DAt.ty {w : World} {p du nw m : Nat} {pv : Value} {S : Sp} {K : Int} (h : DAt w p du nw m pv S K) : ∀ b ∈ dbs p du nw pv, ∃ c e, w.heap[b]? = some (.cells c e (0, 0)) ∧ e ∈ [132, 140, 143] := fun b hb => by
  unfold dbs at hb
  simp only [List.mem_cons, Option.mem_toList] at hb
  obtain ⟨_, _, _, _, hd, _⟩ := h.d
  obtain ⟨X, hX⟩ := h.n
  rcases hb with rfl | rfl | rfl | hb
  · exact ⟨_, _, hd, by simp⟩
  · exact ⟨_, _, h.u, by simp⟩
  · exact ⟨_, _, hX, by simp⟩
  · obtain ⟨c, hc⟩ := own_ty h.q b hb
    exact ⟨_, _, hc, by simp⟩
theorem DAt.pu {w : World} {p du nw m : Nat} {pv : Value} {S : Sp} {K : Int} (h : DAt w p du nw m pv S K) : p ≠ du := by
  obtain ⟨_, _, _, _, hd, _⟩ := h.d
  exact ty_ne hd h.u (by decide)
theorem DAt.pn {w : World} {p du nw m : Nat} {pv : Value} {S : Sp} {K : Int} (h : DAt w p du nw m pv S K) : p ≠ nw := by
  obtain ⟨_, _, _, _, hd, _⟩ := h.d
  obtain ⟨X, hX⟩ := h.n
  exact ty_ne hd hX (by decide)
theorem DAt.po {w : World} {p du nw m : Nat} {pv : Value} {S : Sp} {K : Int} (h : DAt w p du nw m pv S K) : ∀ b, pv.ownBlock = some b → b ≠ p ∧ b ≠ du ∧ b ≠ nw := fun b hb => by
  obtain ⟨_, _, _, _, hd, _⟩ := h.d
  obtain ⟨c, hc⟩ := own_ty h.q b hb
  obtain ⟨X, hX⟩ := h.n
  exact ⟨ty_ne hc hd (by decide), ty_ne hc h.u (by decide), ty_ne hc hX (by decide)⟩
theorem DAt.grl {w w' : World} {p du nw m : Nat} {pv : Value} {S : Sp} {K : Int} {l : List Nat} (h : DAt w p du nw m pv S K) (g : GrL l w w') (hl : ∀ b ∈ dbs p du nw pv, b ∉ l) : DAt w' p du nw m pv S K := by
  obtain ⟨k1, k2, ends, c, hd, hc⟩ := h.d
  obtain ⟨X, hX⟩ := h.n
  exact ⟨⟨k1, k2, ends, c, (g.block p (heap_lt hd) (hl p (by simp [dbs]))).trans hd, hc⟩, (g.block du (heap_lt h.u) (hl du (by simp [dbs]))).trans h.u, ⟨X, (g.block nw (heap_lt hX) (hl nw (by simp [dbs]))).trans hX⟩, ownsRow_gr h.q g (fun i hi => hl i (by simp [dbs, hi])), h.un⟩
theorem DAt.gr {w w' : World} {p du nw m : Nat} {pv : Value} {S : Sp} {K : Int} (h : DAt w p du nw m pv S K) (g : Gr w w') : DAt w' p du nw m pv S K := h.grl (GrL.of_gr (l := []) g) (by simp)
theorem DAt.mono {w : World} {p du nw m : Nat} {pv : Value} {S : Sp} {K K' : Int} (h : DAt w p du nw m pv S K) (hk : K ≤ K') : DAt w p du nw m pv S K' := by
  obtain ⟨k1, k2, ends, c, hd, hc⟩ := h.d
  refine ⟨⟨k1, k2, ends, c, hd, ?_⟩, h.u, h.n, h.q, h.un⟩
  rcases hc with h | ⟨h1, h2, h3, h4⟩
  · exact .inl h
  · exact .inr ⟨h1, h2, by omega, h4⟩
/-- the two disks' blocks are apart -/
theorem apart_rd {w : World} {p du nw m : Nat} {pv : Value} {S : Sp} {K : Int} (h : DAt w p du nw m pv S K) {q : Nat} {dv rv : Value} {S' : Sp} (h' : RAt w q dv rv S') : ∀ b ∈ dbs p du nw pv, b ∉ rbs q dv rv := fun b hb hr => by
  obtain ⟨c, e, hc, he⟩ := h.ty b hb
  obtain ⟨c', e', hc', he'⟩ := h'.ty b hr
  refine ty_ne hc hc' (fun x => ?_) rfl
  subst x
  simp only [List.mem_cons, List.not_mem_nil, or_false] at he he'
  rcases he with rfl | rfl | rfl <;> rcases he' with h | h | h <;> exact absurd h (by decide)
set_option maxRecDepth 100000 in
set_option maxHeartbeats 1000000 in
theorem dStop_any (p du nw m : Nat) (pv : Value) (S : Sp) (K n : Int) (w : World) (h : DAt w p du nw m pv S K) (hm : m ≤ 1000000) (hm0 : 0 < m) :
    Calls Tryz.prog 33 #[.pointer (some ⟨p, 0, none⟩), .int .i64 n] w fun e w' => e = .returned (.int .i64 (S.stop n).1) ∧ GrL (dbs p du nw pv) w w' ∧ DAt w' p du nw m pv (S.stop n).2 K := by
  obtain ⟨k1, k2, ends, c, hd, hc⟩ := h.d
  have hpu := h.pu
  have hpn := h.pn
  have hpo := h.po
  have HUP := Lib.hid (fun w h => up_any p (.slice (some ⟨du, 0, none⟩) m k1) pv (.bool ends) (.int .i64 c) (some ⟨nw, 0, none⟩) m k2 S.down 0 w h hm)
  have HH := Lib.hid h
  by_cases hdn : S.down = true
  · have e1 : S.stop n = (90, S) := by unfold Sp.stop; rw [if_pos hdn]
    have e2 : upE S.down 0 m = 90 := by unfold upE; rw [if_pos hdn]
    rw [e2] at HUP
    rw [e1]
    clear h e1 e2
    go_enter Tryz.func33, Tryz.ntmps33
    go_wp2_with fail
    refine (HUP.out _ hd).mono ?_
    rintro e w1 ⟨rfl, g1⟩
    go_wp2
    go_ret
    exact ⟨rfl, GrL.of_gr g1, HH.out.gr g1⟩
  · have e2 : upE S.down 0 m = 0 := by unfold upE; rw [if_neg hdn, if_pos ⟨by omega, by omega⟩]
    rw [e2] at HUP
    by_cases hn : n < 0
    · have e1 : S.stop n = (1, S) := by unfold Sp.stop; rw [if_neg hdn, if_pos hn]
      rw [e1]
      clear h e1 e2
      go_enter Tryz.func33, Tryz.ntmps33
      go_wp2_with fail
      refine (HUP.out _ hd).mono ?_
      rintro e w1 ⟨rfl, g1⟩
      go_wp2
      go_ret
      exact ⟨rfl, GrL.of_gr g1, HH.out.gr g1⟩
    · have e1 : S.stop n = (0, { S with left := n }) := by unfold Sp.stop; rw [if_neg hdn, if_neg hn]
      rw [e1]
      clear h e1 e2
      go_enter Tryz.func33, Tryz.ntmps33
      go_wp2_with fail
      refine (HUP.out _ hd).mono ?_
      rintro e w1 ⟨rfl, g1⟩
      have hd1 := g1.heap hd
      obtain ⟨cx, fx, zx⟩ := blk_cells hd1
      go_wp2
      go_ret
      have g2 : GrL [p] w1 ((w1.setCell ⟨p, 3, none⟩ (.bool true)).setCell ⟨p, 5, none⟩ (.int .i64 n)) := ((GrL.of_gr (Gr.refl _)).set _ _ (Or.inr (by simp))).set _ _ (Or.inr (by simp))
      have H := HH.out.gr g1
      obtain ⟨X, hX⟩ := H.n
      exact ⟨rfl, (GrL.of_gr g1).trans (g2.mono (by simp [dbs])), ⟨k1, k2, true, n, by simpa using put_at (put_at hd1 3 (.bool true)) 5 (.int .i64 n), .inl ⟨rfl, rfl, by show 0 ≤ n; omega⟩⟩, (g2.block du (heap_lt H.u) (by simpa using Ne.symm hpu)).trans H.u, ⟨X, (g2.block nw (heap_lt hX) (by simpa using Ne.symm hpn)).trans hX⟩, ownsRow_gr H.q g2 (fun i hi => by simpa using (hpo i hi).1), H.un⟩
end Go.Proofs.YthmimjofdmnakaaGreatDoor
