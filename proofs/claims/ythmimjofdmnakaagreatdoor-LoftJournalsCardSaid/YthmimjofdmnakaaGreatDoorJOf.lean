/- strickleref09: of. -/
import Derived.Test.YthmimjofdmnakaaGreatDoorJSame
import Derived.Test.YthmimjofdmnakaaGreatDoorLDisk
import Derived.OwnWalk
namespace Go.Proofs.YthmimjofdmnakaaGreatDoor
open Go.RowKit Go.Shelf
/-- the records of a branch -/
def ofR (l : List Rc) (st : Int) : List Rc := l.filter fun r => decide (r.s = st)
theorem ofR_yes {l : List Rc} {st : Int} {i : Nat} (hi : i < l.length) (h : l[i].s = st) : ofR (l.take (i+1)) st = ofR (l.take i) st ++ [l[i]] := by
  unfold ofR
  rw [List.take_succ_eq_append_getElem hi, List.filter_append]
  simp [h]
theorem ofR_no {l : List Rc} {st : Int} {i : Nat} (hi : i < l.length) (h : ¬ l[i].s = st) : ofR (l.take (i+1)) st = ofR (l.take i) st := by
  unfold ofR
  rw [List.take_succ_eq_append_getElem hi, List.filter_append]
  simp [h]
theorem ofR_le (l : List Rc) (st : Int) : (ofR l st).length ≤ l.length := List.length_filter_le _ _
set_option maxRecDepth 100000 in
set_option maxHeartbeats 4000000 in
theorem of_any (v : Value) (l : List Rc) (st : Int) (w : World) (hv : RecsAt w v l) (hl : l.length ≤ 1000000) :
    Calls Tryz.prog 74 #[v, .int .i64 st] w fun e w' => ∃ v', e = .returned v' ∧ w'.ownsRow w.heap.size 23 4 v' (ofR l st).length (rcs (ofR l st)) ∧ Gr w w' := by
  obtain ⟨i0, hi, hz0, hz1, hz2⟩ := info_parts info_rec
  obtain ⟨a, cap, rfl, hcap, hcell⟩ := hv
  have HC := Lib.hid hcell
  clear hcell
  go_enter Tryz.func74, Tryz.ntmps74
  go_wp2
  go_loopw [5, 6] (fun o q wr => ∃ i : Nat, q = .int .i64 i ∧ i ≤ l.length ∧ Hid (wr.ownsRow w.heap.size 23 4 o (ofR (l.take i) st).length (rcs (ofR (l.take i) st))) ∧ Gr w wr) (fun _ q _ => l.length - (intOf q).toNat)
  case atStart => exact ⟨0, rfl, by omega, Lib.hid (by simpa [ofR, rcs] using World.ownsRow_nil _ _ _ _), Gr.refl _⟩
  case round =>
    obtain ⟨i, rfl, hil0, HO, gr⟩ := hrel
    by_cases hil : i < l.length
    · have hil' : (i : Int) < l.length := by omega
      obtain ⟨g, o, rfl, hgl, c0, c1, c2, c3⟩ := HC.out i hil
      have hz : g < wr.heap.size := Nat.lt_of_lt_of_le hgl gr.b.size
      rw [← gr.cells.1 g _ hgl] at c0 c1 c2 c3
      obtain ⟨a5, c5, rfl⟩ := own_slice HO.out
      by_cases hst : l[i].s = st
      · have hE := ofR_yes hil hst
        have hlen : (ofR (l.take i) st).length ≤ 1000000 := by
          have := ofR_le (l.take i) st
          simp only [List.length_take] at this
          omega
        have hxl : rcs (ofR (l.take i) st ++ [l[i]]) = rcs (ofR (l.take i) st) ++ l[i].cells := by rw [rcs_append]; simp [rcs]
        have hn1 : (ofR (l.take i) st ++ [l[i]]).length = (ofR (l.take i) st).length + 1 := by simp
        have HE : Hid (∀ (u : World) (s : Value), u.ownsRow w.heap.size 23 4 s ((ofR (l.take i) st).length + 1) (rcs (ofR (l.take i) st) ++ l[i].cells) → u.ownsRow w.heap.size 23 4 s (ofR (l.take (i+1)) st).length (rcs (ofR (l.take (i+1)) st))) := Lib.hid (fun u s h => by rw [hE, hn1, hxl]; exact h)
        have HONE : Hid (∀ v ∈ l[i].cells, v.oneCell' = true) := Lib.hid (fun v hv => rcs_one [l[i]] v (by simpa [rcs] using hv))
        have HX : Hid (l[i].cells = [.int .i64 l[i].s, .int .i64 l[i].k, .int .i64 l[i].d, .string l[i].t]) := Lib.hid rfl
        clear hE hxl hn1
        generalize (ofR (l.take i) st).length = n at *
        generalize rcs (ofR (l.take i) st) = R at *
        subst hst
        generalize l[i].cells = xc at *
        generalize l[i].s = xs at *
        generalize l[i].k = xk at *
        generalize l[i].d = xd at *
        generalize l[i].t = xt at *
        have hb0 : w.heap.size ≤ (wr.alloc (.cells #[.int .i64 xs, .int .i64 xk, .int .i64 xd, .string xt] 23)).heap.size := by rw [World.size_alloc]; have := gr.b.size; omega
        have HB := Lib.hid hb0
        have HOA := Lib.hid (ownsRow_g HO.out ((Gr.refl wr).alloc (.cells #[.int .i64 xs, .int .i64 xk, .int .i64 xd, .string xt] 23)))
        have HCX := Lib.hid (blk_cells (heap_alloc_self wr (.cells #[.int .i64 xs, .int .i64 xk, .int .i64 xd, .string xt] 23))).1
        clear hb0
        go_wp2_with (at_builtin; refine wpList_append_own _ rfl _ _ 32 rfl w.heap.size 23 i0 _ 4 40 Tryz.underlying32 hi hz0 hz1 hz2 rfl (by decide) _ _ _ rfl HOA.out ⟨wr.heap.size, 0, none⟩ 1 1 xc rfl (by rw [HX.out]; rfl) ?c1 ?c2 ?c3 ?c4 ?c5 ?c6)
        case c1 =>
          intro j u hu
          rw [Addr.add_mid, Nat.zero_add, HCX.out j]
          rw [HX.out] at hu
          simpa using hu
        case c2 => exact HONE.out
        case c3 => unfold maxLen; omega
        case c4 => omega
        case c5 => exact HB.out
        case c6 =>
          intro v' w1 hown hgrow _
          have G1 : Gr w w1 := GrL.gr (gr.alloc _) (GrL.of_grown' hgrow) (fun k hk => by
            have := (HOA.out.lt k (by simpa using hk)).1
            exact this)
          have HN := Lib.hid (HE.out _ _ hown)
          clear hown hgrow
          go_wp2
          exact ⟨⟨i + 1, by simp, by omega, HN, G1⟩, by simp [intOf]; omega⟩
      · have hE := ofR_no hil hst
        have HN : Hid (wr.ownsRow w.heap.size 23 4 (.slice a5 (ofR (l.take i) st).length c5) (ofR (l.take (i+1)) st).length (rcs (ofR (l.take (i+1)) st))) := Lib.hid (by rw [hE]; exact HO.out)
        have e1 : decide (l[i].s = st) = false := decide_eq_false hst
        clear hE
        generalize l[i].s = xs at *
        go_wp2
        exact ⟨⟨i + 1, by simp, by omega, HN, gr⟩, by simp [intOf]; omega⟩
    · have hil' : ¬ (i : Int) < l.length := by omega
      obtain rfl : i = l.length := by omega
      have HN := HO.out
      rw [List.take_length] at HN
      have HN := Lib.hid HN
      go_wp2
      go_ret
      exact ⟨_, rfl, HN.out, gr⟩
end Go.Proofs.YthmimjofdmnakaaGreatDoor
