/- Plain laws of journals: merging, branch after branch; both ways are one. -/
import Derived.Test.YthmimjofdmnakaaGreatDoorJMrg
import Derived.Test.YthmimjofdmnakaaGreatDoorJMiss
import Derived.Test.YthmimjofdmnakaaGreatDoorLSort
import Derived.Test.YthmimjofdmnakaaGreatDoorLDisk
import Derived.OwnWalk
namespace Go.Proofs.YthmimjofdmnakaaGreatDoor
section
/-- the longer one -/
def lonR (x y : List Rc) : List Rc := if x.length < y.length then y else x
/-- one begins with the other -/
def agree (x y : List Rc) : Prop := ∀ i (h1 : i < x.length) (h2 : i < y.length), x[i] = y[i]
open Classical in
noncomputable def mrgF (a b : List Rc) : Nat → Option (List Rc)
  | 0 => some []
  | s + 1 => (mrgF a b s).bind fun m => if agree (ofR a s) (ofR b s) then some (m ++ lonR (ofR a s) (ofR b s)) else none
theorem ofR_mem {l : List Rc} {s : Int} {y : Rc} : y ∈ ofR l s ↔ y ∈ l ∧ y.s = s := by
  unfold ofR
  rw [List.mem_filter, decide_eq_true_iff]
theorem lonR_mem {x y : List Rc} (h : agree x y) (r : Rc) : r ∈ lonR x y ↔ r ∈ x ∨ r ∈ y := by
  unfold lonR
  split
  · rename_i hlt
    refine ⟨Or.inr, fun hr => hr.elim (fun hx => ?_) id⟩
    obtain ⟨i, hi, rfl⟩ := List.mem_iff_getElem.1 hx
    rw [h i hi (by omega)]
    exact List.getElem_mem _
  · rename_i hge
    refine ⟨Or.inl, fun hr => hr.elim id (fun hx => ?_)⟩
    obtain ⟨i, hi, rfl⟩ := List.mem_iff_getElem.1 hx
    rw [← h i (by omega) hi]
    exact List.getElem_mem _
theorem lonR_keys {x y : List Rc} (hx : KeyS x) (hy : KeyS y) : KeyS (lonR x y) := by
  unfold lonR; split
  · exact hy
  · exact hx
theorem mrgF_is {n : Int} {a b : List Rc} (ha : ∀ j, j < a.length → chkA n a j = 0) (hb : ∀ j, j < b.length → chkA n b j = 0) : ∀ k : Nat,
    (mrgF a b k = none ∧ ∃ y ∈ a, ∃ x ∈ b, sameK y x ∧ y ≠ x) ∨ ∃ m, mrgF a b k = some m ∧ KeyS m ∧ (∀ y, y ∈ m ↔ (y ∈ a ∨ y ∈ b) ∧ 0 ≤ y.s ∧ y.s < k) ∧ ∀ y ∈ a, ∀ x ∈ b, 0 ≤ y.s → y.s < k → sameK y x → y = x
  | 0 => Or.inr ⟨[], rfl, List.Pairwise.nil, fun y => by
      constructor
      · intro h; cases h
      · intro h; have := h.2; simp at this; omega, fun y _ x _ h0 h1 => by simp at h1; omega⟩
  | k + 1 => by
    rcases mrgF_is ha hb k with ⟨h1, h2⟩ | ⟨m, h1, h2, h3, h4⟩
    · exact Or.inl ⟨by rw [mrgF, h1]; rfl, h2⟩
    · by_cases hg : agree (ofR a k) (ofR b k)
      · refine Or.inr ⟨m ++ lonR (ofR a k) (ofR b k), by rw [mrgF, h1, Option.bind_some, if_pos hg], ?_, fun y => ?_, fun y hy x hx h0 hlt hs => ?_⟩
        · refine List.pairwise_append.2 ⟨h2, lonR_keys ((chk_keys ha).filter _) ((chk_keys hb).filter _), fun y hy x hx => ?_⟩
          have e1 := (h3 y).1 hy
          have e2 : x.s = k := by
            rcases (lonR_mem hg x).1 hx with h | h
            · exact (ofR_mem.1 h).2
            · exact (ofR_mem.1 h).2
          exact Or.inl (by omega)
        · rw [List.mem_append, h3, lonR_mem hg, ofR_mem, ofR_mem]
          constructor
          · rintro (⟨h, h5, h6⟩ | ⟨h, h5⟩ | ⟨h, h5⟩)
            · exact ⟨h, h5, by omega⟩
            · exact ⟨Or.inl h, by omega, by omega⟩
            · exact ⟨Or.inr h, by omega, by omega⟩
          · rintro ⟨h, h5, h6⟩
            by_cases e : y.s = k
            · exact Or.inr (h.elim (fun h => Or.inl ⟨h, e⟩) (fun h => Or.inr ⟨h, e⟩))
            · exact Or.inl ⟨h, h5, by omega⟩
        · by_cases e : y.s = k
          · have hy' : y ∈ ofR a k := ofR_mem.2 ⟨hy, e⟩
            have hx' : x ∈ ofR b k := ofR_mem.2 ⟨hx, by rw [← hs.1]; exact e⟩
            obtain ⟨i, hi, rfl⟩ := List.mem_iff_getElem.1 hy'
            obtain ⟨j, hj, rfl⟩ := List.mem_iff_getElem.1 hx'
            have n1 := ofR_at ha k i hi
            have n2 := ofR_at hb k j hj
            have := hs.2
            obtain rfl : i = j := by omega
            exact hg i hi hj
          · exact h4 y hy x hx h0 (by omega) hs
      · have : ∃ i, ∃ h1 : i < (ofR a k).length, ∃ h2 : i < (ofR b k).length, (ofR a k)[i] ≠ (ofR b k)[i] := by
          apply Classical.byContradiction
          intro hn
          exact hg (fun i h1 h2 => Classical.byContradiction (fun h => hn ⟨i, h1, h2, h⟩))
        obtain ⟨i, i1, i2, hne⟩ := this
        refine Or.inl ⟨by rw [mrgF, h1, Option.bind_some, if_neg hg], _, (ofR_mem.1 (List.getElem_mem i1)).1, _, (ofR_mem.1 (List.getElem_mem i2)).1, ⟨?_, ?_⟩, hne⟩
        · rw [(ofR_mem.1 (List.getElem_mem i1)).2, (ofR_mem.1 (List.getElem_mem i2)).2]
        · rw [ofR_at ha k i i1, ofR_at hb k i i2]
/-- both ways of merging are one -/
theorem mrg_one {n : Int} {a b : List Rc} (ha : ∀ j, j < a.length → chkA n a j = 0) (hb : ∀ j, j < b.length → chkA n b j = 0) : mrgK a b = mrgF a b n.toNat := by
  have hs : ∀ (l : List Rc), (∀ j, j < l.length → chkA n l j = 0) → ∀ y ∈ l, 0 ≤ y.s ∧ y.s < n.toNat := fun l hl y hy => by
    obtain ⟨j, hj, rfl⟩ := List.mem_iff_getElem.1 hy
    have := okR_d (chkA_ok hj (hl j hj))
    omega
  rcases mrgK_is (chk_keys ha) (chk_keys hb) with ⟨h1, y, hy, x, hx, h2, h3⟩ | ⟨m, h1, h2, h3, h4⟩
  · rcases mrgF_is ha hb n.toNat with ⟨k1, -⟩ | ⟨m, k1, k2, k3, k4⟩
    · rw [h1, k1]
    · exact absurd (k4 y hy x hx (hs a ha y hy).1 (hs a ha y hy).2 h2) h3
  · rcases mrgF_is ha hb n.toNat with ⟨k1, y, hy, x, hx, k2, k3⟩ | ⟨m', k1, k2, k3, k4⟩
    · exact absurd (h4 y hy x hx k2) k3
    · rw [h1, k1, keyS_ext h2 k2 (fun y => by
        rw [h3, k3]
        exact ⟨fun h => ⟨h, h.elim (fun h => hs a ha y h) (fun h => hs b hb y h)⟩, fun h => h.1⟩)]
end
section
open Go.RowKit Go.Shelf Go.Lib Go.Sort
set_option maxRecDepth 100000 in
set_option maxHeartbeats 2000000 in
theorem OrdA_no (n : Int) (v : Value) (l : List Rc) (w : World) (hn1 : -1000000 ≤ n) (hn2 : n ≤ 1000000) (hr : RecsAt w v l) (hl : l.length ≤ 1000000) (ht : ∀ x ∈ l, x.t.size ≤ 100000) (hc : (decide (n = 3) || decide (n = 5)) = true) (i e0 : Int) (he : chkL n l = (i, e0)) (h0 : e0 ≠ 0) :
    Calls Tryz.prog 18 #[.int .i64 n, v] w fun e w' => e = .returned (.tuple #[.slice none 0 0, .int .i64 e0]) ∧ Gr w w' := by
  have CH := Lib.hid (CheckR_any n v l w hn1 hn2 hr hl ht hc)
  rw [he] at CH
  have h1 : (e0 == 0) = false := by simpa using h0
  have h2 : decide (e0 = 0) = false := by simpa using h0
  clear hr ht hc he
  go_enter Tryz.func18, Tryz.ntmps18
  go_wp2_with fail
  refine CH.out.mono ?_
  rintro e w1 ⟨rfl, hg1⟩
  go_wp2
  go_ret2
  exact ⟨rfl, hg1⟩
set_option maxRecDepth 100000 in
set_option maxHeartbeats 2000000 in
theorem OrdA_yes (n : Int) (v : Value) (l : List Rc) (w : World) (hn1 : -1000000 ≤ n) (hn2 : n ≤ 1000000) (hr : RecsAt w v l) (hl : l.length ≤ 1000000) (ht : ∀ x ∈ l, x.t.size ≤ 100000) (hc : (decide (n = 3) || decide (n = 5)) = true) (he : chkL n l = (0, 0)) :
    Calls Tryz.prog 18 #[.int .i64 n, v] w fun e w' => ∃ v' l', e = .returned (.tuple #[v', .int .i64 0]) ∧ l'.Perm l ∧ InOrder l' ∧ w'.ownsRow w.heap.size 23 4 v' l'.length (rcs l') ∧ Gr w w' := by
  have CH := Lib.hid (CheckR_any n v l w hn1 hn2 hr hl ht hc)
  rw [he] at CH
  have CL := Lib.hid (fun w1 (g : Gr w w1) => CloneA_any v l w1 (hr.gr g) hl)
  have SO := Lib.hid (fun b v' w1 h => SortR_row b v' l w1 h hl)
  clear hr ht hc he
  go_enter Tryz.func18, Tryz.ntmps18
  go_wp2_with fail
  refine CH.out.mono ?_
  rintro e w1 ⟨rfl, hg1⟩
  go_wp2_with fail
  refine (CL.out _ hg1).mono ?_
  rintro e w2 ⟨v', rfl, hr2, hg2⟩
  go_wp2_with fail
  refine (SO.out _ _ _ hr2).mono ?_
  rintro e w3 ⟨rfl, l', hp, ho, hr3, hg3⟩
  have G : Gr w w3 := GrL.gr (hg1.trans hg2) hg3 (fun i hi => by
    have := (hr2.lt i (by simpa using hi)).1
    have := hg1.b.size
    omega)
  have hr4 := World.ownsRow.mono (base' := w.heap.size) hr3 hg1.b.size
  clear hg3 hr3 hr2 hg2 SO CL CH hg1
  go_wp2
  go_ret2
  exact ⟨v', l', rfl, hp, ho, hr4, G⟩
theorem OrdA_is (n : Int) (v : Value) (l : List Rc) (w : World) (hn1 : -1000000 ≤ n) (hn2 : n ≤ 1000000) (hr : RecsAt w v l) (hl : l.length ≤ 1000000) (ht : ∀ x ∈ l, x.t.size ≤ 100000) (hc : (decide (n = 3) || decide (n = 5)) = true) (he : chkL n l = (0, 0)) :
    Calls Tryz.prog 18 #[.int .i64 n, v] w fun e w' => ∃ v', e = .returned (.tuple #[v', .int .i64 0]) ∧ w'.ownsRow w.heap.size 23 4 v' (ordO l).length (rcs (ordO l)) ∧ Gr w w' := by
  refine (OrdA_yes n v l w hn1 hn2 hr hl ht hc he).mono ?_
  rintro e w' ⟨v', l', h1, h2, h3, h4, h5⟩
  obtain rfl := ordO_one (chk_keys (chkL_zero (by rw [he]))) h2 h3
  exact ⟨v', h1, h4, h5⟩
end
section
open Go.RowKit Go.Shelf
set_option maxHeartbeats 2000000 in
theorem InsertEnd_any (base : Nat) (s : Value) (l : List Rc) (x : Rc) (g2 c2 : Nat) (w : World) (hb : base ≤ w.heap.size) (hs : w.ownsRow base 23 4 s l.length (rcs l)) (hx : w.heap[g2]? = some (.cells x.cells.toArray 23 (0, 0))) (hl : l.length ≤ 1000000) :
    Calls Tryz.prog 73 #[s, .int .i64 l.length, .slice (some ⟨g2, 0, none⟩) 1 c2] w fun e w' => ∃ v', e = .returned v' ∧ w'.ownsRow base 23 4 v' (l ++ [x]).length (rcs (l ++ [x])) ∧ GrL s.ownBlock.toList w w' := by
  obtain ⟨i0, hi, hz0, hz1, hz2⟩ := info_parts info_rec
  have HS := Lib.hid hs
  have hxl : rcs (l ++ [x]) = rcs l ++ x.cells := by rw [rcs_append]; simp [rcs]
  have hn1 : (l ++ [x]).length = l.length + 1 := by simp
  rw [hxl, hn1]
  have one : ∀ v ∈ x.cells, v.oneCell' = true := fun v hv => rcs_one [x] v (by simpa [rcs] using hv)
  have hcx := (blk_cells hx).1
  have HCX := Lib.hid hcx
  have HONE := Lib.hid one
  have hxlen : x.cells.length = 1 * 4 := rfl
  have HXL := Lib.hid hxlen
  generalize x.cells = xc at *
  clear hx hcx one hxl hn1 hxlen
  have hsf : ∃ a cap, s = .slice a l.length cap ∧ l.length ≤ cap ∧ cap ≤ 9223372036854775807 := by
    rcases hs.2 with ⟨rfl, hz⟩ | ⟨g, cap, cur, rfl, _, _, h1, h2, _⟩
    · rw [hz]; exact ⟨none, 0, rfl, Nat.le_refl _, by omega⟩
    · exact ⟨_, cap, rfl, h1, by unfold maxLen at h2; omega⟩
  obtain ⟨a, cap, rfl, hcap, hcm⟩ := hsf
  clear hs
  have hl0 : (0 : Int) ≤ l.length := by omega
  have hc0 : (l.length : Int) ≤ cap := by omega
  by_cases hk : cap = l.length
  · subst hk
    go_enter Tryz.func73, Tryz.ntmps73
    go_wp2_with (at_builtin; refine wpList_append_own _ rfl _ _ 32 rfl base 23 i0 _ 4 40 Tryz.underlying32 hi hz0 hz1 hz2 rfl (by decide) _ _ _ rfl HS.out ⟨g2, 0, none⟩ 1 c2 xc rfl HXL.out ?c1 ?c2 ?c3 ?c4 ?c5 ?c6)
    case c1 =>
      intro j u hu
      rw [Addr.add_mid, Nat.zero_add, HCX.out j]
      simpa using hu
    case c2 => exact HONE.out
    case c3 => unfold maxLen; omega
    case c4 => omega
    case c5 => exact hb
    case c6 =>
      intro v' w1 hown hgrow _
      go_wp2
      go_ret
      exact ⟨v', rfl, hown, GrL.of_grown' hgrow⟩
  · have hk2 : (l.length : Int) < cap := by omega
    go_enter Tryz.func73, Tryz.ntmps73
    go_wp2_with (at_builtin; refine wpList_append_own _ rfl _ _ 32 rfl base 23 i0 _ 4 40 Tryz.underlying32 hi hz0 hz1 hz2 rfl (by decide) _ _ _ rfl HS.out ⟨g2, 0, none⟩ 1 c2 xc rfl HXL.out ?c1 ?c2 ?c3 ?c4 ?c5 ?c6)
    case c1 =>
      intro j u hu
      rw [Addr.add_mid, Nat.zero_add, HCX.out j]
      simpa using hu
    case c2 => exact HONE.out
    case c3 => unfold maxLen; omega
    case c4 => omega
    case c5 => exact hb
    case c6 =>
      intro v' w1 hown hgrow _
      go_wp2
      go_ret
      exact ⟨v', rfl, hown, GrL.of_grown' hgrow⟩
end
end Go.Proofs.YthmimjofdmnakaaGreatDoor
