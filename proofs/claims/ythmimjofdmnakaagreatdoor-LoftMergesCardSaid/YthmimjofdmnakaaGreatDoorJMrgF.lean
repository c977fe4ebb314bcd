/- Plain laws of journals: merging, branch after branch; both ways are one. -/
import Derived.Test.YthmimjofdmnakaaGreatDoorJMrg
import Derived.Test.YthmimjofdmnakaaGreatDoorLOrder
import Derived.Test.YthmimjofdmnakaaGreatDoorLDisk
import Derived.OwnWalk
namespace Go.Proofs.YthmimjofdmnakaaGreatDoor
section
/-- one begins with the other -/
def agree (x y : List Rc) : Prop := ∀ i (h1 : i < x.length) (h2 : i < y.length), x[i] = y[i]
open Classical in
theorem ofR_mem {l : List Rc} {s : Int} {y : Rc} : y ∈ ofR l s ↔ y ∈ l ∧ y.s = s := by
  unfold ofR
  rw [List.mem_filter, decide_eq_true_iff]
end
section
open Go.RowKit Go.Shelf
set_option maxHeartbeats 2000000 in
theorem InsertEnd_any (base : Nat) (s : Value) (l : List Rc) (x : Rc) (g2 c2 : Nat) (w : World) (hb : base ≤ w.heap.size) (hs : w.ownsRow base 23 4 s l.length (rcs l)) (hx : w.heap[g2]? = some (.cells x.cells.toArray 23 (0, 0))) (hl : l.length ≤ 1000000) :
    Calls Tryz.prog 73 #[s, .int .i64 l.length, .slice (some ⟨g2, 0, none⟩) 1 c2] w fun e w' => ∃ v', e = .returned v' ∧ w'.ownsRow base 23 4 v' (l ++ [x]).length (rcs (l ++ [x])) ∧ GrL s.ownBlock.toList w w' := by
  obtain ⟨i0, hi, hz0, hz1, hz2⟩ := info_parts info_rec
  have HS := Lib.hid hs
  have hxl : rcs (l ++ [x]) = rcs l ++ x.cells := by rw [rcs_append]; simp [rcs]
  have hn1 : (l ++ [x]).length = l.length + 1 := by simp
  rw [hxl, hn1]
  have one : ∀ v ∈ x.cells, v.oneCell' = true := fun v hv => rcs_one [x] v (by simpa [rcs] using hv)
  have hcx := (blk_cells hx).1
  have HCX := Lib.hid hcx
  have HONE := Lib.hid one
  have hxlen : x.cells.length = 1 * 4 := rfl
  have HXL := Lib.hid hxlen
  generalize x.cells = xc at *
  clear hx hcx one hxl hn1 hxlen
  have hsf : ∃ a cap, s = .slice a l.length cap ∧ l.length ≤ cap ∧ cap ≤ 9223372036854775807 := by
    rcases hs.2 with ⟨rfl, hz⟩ | ⟨g, cap, cur, rfl, _, _, h1, h2, _⟩
    · rw [hz]; exact ⟨none, 0, rfl, Nat.le_refl _, by omega⟩
    · exact ⟨_, cap, rfl, h1, by unfold maxLen at h2; omega⟩
  obtain ⟨a, cap, rfl, hcap, hcm⟩ := hsf
  clear hs
  have hl0 : (0 : Int) ≤ l.length := by omega
  have hc0 : (l.length : Int) ≤ cap := by omega
  by_cases hk : cap = l.length
  · subst hk
    go_enter Tryz.func73, Tryz.ntmps73
    go_wp2_with (at_builtin; refine wpList_append_own _ rfl _ _ 32 rfl base 23 i0 _ 4 40 Tryz.underlying32 hi hz0 hz1 hz2 rfl (by decide) _ _ _ rfl HS.out ⟨g2, 0, none⟩ 1 c2 xc rfl HXL.out ?c1 ?c2 ?c3 ?c4 ?c5 ?c6)
    case c1 =>
      intro j u hu
      rw [Addr.add_mid, Nat.zero_add, HCX.out j]
      simpa using hu
    case c2 => exact HONE.out
    case c3 => unfold maxLen; omega
    case c4 => omega
    case c5 => exact hb
    case c6 =>
      intro v' w1 hown hgrow _
      go_wp2
      go_ret
      exact ⟨v', rfl, hown, GrL.of_grown' hgrow⟩
  · have hk2 : (l.length : Int) < cap := by omega
    go_enter Tryz.func73, Tryz.ntmps73
    go_wp2_with (at_builtin; refine wpList_append_own _ rfl _ _ 32 rfl base 23 i0 _ 4 40 Tryz.underlying32 hi hz0 hz1 hz2 rfl (by decide) _ _ _ rfl HS.out ⟨g2, 0, none⟩ 1 c2 xc rfl HXL.out ?c1 ?c2 ?c3 ?c4 ?c5 ?c6)
    case c1 =>
      intro j u hu
      rw [Addr.add_mid, Nat.zero_add, HCX.out j]
      simpa using hu
    case c2 => exact HONE.out
    case c3 => unfold maxLen; omega
    case c4 => omega
    case c5 => exact hb
    case c6 =>
      intro v' w1 hown hgrow _
      go_wp2
      go_ret
      exact ⟨v', rfl, hown, GrL.of_grown' hgrow⟩
end
end Go.Proofs.YthmimjofdmnakaaGreatDoor
