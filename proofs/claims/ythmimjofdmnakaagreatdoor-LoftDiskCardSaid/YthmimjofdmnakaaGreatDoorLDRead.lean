/- loft/disk.go: Read. -/
import Derived.Test.YthmimjofdmnakaaGreatDoorLDAt
namespace Go.Proofs.YthmimjofdmnakaaGreatDoor
open Go.RowKit Go.Shelf
def ints (l : List UInt8) : List Int := l.map fun b => (b.toNat : Int)
theorem ints_map (l : List UInt8) : (ints l).map (Value.int .u8) = l.map byV := by unfold ints; rw [List.map_map]; rfl
theorem ints_len (l : List UInt8) : (ints l).length = l.length := by simp [ints]
theorem by_one (l : List UInt8) : ∀ u ∈ l.map byV, u.oneCell' = true := fun u hu => by
  obtain ⟨x, _, rfl⟩ := List.mem_map.1 hu
  rfl
theorem sec_range {w : World} {b m : Nat} {L : List (List UInt8)} {X : List Value} (h : w.heap[b]? = some (.cells (secs L ++ X).toArray 140 (0, 0))) (h64 : ∀ x ∈ L, x.length = 64) (hm : L.length = m) (k : Nat) (hk : k < m) : w.rangeAt b (k * 64) ((L.getD k []).map byV) :=
  rangeAt_of h _ _ fun j v hv => by
    have := secs_at h64 k (by omega) j v hv
    rw [List.getElem?_toArray, List.getElem?_append_left (List.getElem?_eq_some_iff.1 this).1]
    exact this
theorem secs_setX {l : List (List UInt8)} (h : ∀ x ∈ l, x.length = 64) (i : Nat) (b : List UInt8) (hi : i < l.length) (hb : b.length = 64) {X : List Value} : (secs l ++ X).take (i * 64) ++ b.map byV ++ (secs l ++ X).drop (i * 64 + 64) = secs (l.set i b) ++ X := by
  have hl := secs_len h
  rw [List.take_append_of_le_length (by omega), List.drop_append_of_le_length (by omega), ← secs_set h i b hi hb]
  simp
theorem getD_64 {L : List (List UInt8)} (h64 : ∀ x ∈ L, x.length = 64) {k : Nat} (hk : k < L.length) : (L.getD k []).length = 64 := by
  rw [List.getD_eq_getElem?_getD, List.getElem?_eq_getElem hk]
  exact h64 _ (List.getElem_mem hk)
theorem owns_le {w : World} {base base' : Nat} {e : TypeId} {size : Nat} {v : Value} {n : Nat} {xs : List Value} (hb : base' ≤ base) (h : w.ownsRow base e size v n xs) : w.ownsRow base' e size v n xs := by
  refine ⟨h.1, ?_⟩
  rcases h.2 with h | ⟨g, cap, cur, h1, h2, h3⟩
  · exact .inl h
  · exact .inr ⟨g, cap, cur, h1, Nat.le_trans hb h2, h3⟩
set_option maxRecDepth 100000 in
set_option maxHeartbeats 4000000 in
theorem dRead_any (p du nw m : Nat) (pv : Value) (S : Sp) (K i : Int) (w : World) (h : DAt w p du nw m pv S K) (ok : S.Ok m) (hm : m ≤ 1000000) :
    Calls Tryz.prog 30 #[.pointer (some ⟨p, 0, none⟩), .int .i64 i] w fun e w' => ∃ v, e = .returned (.tuple #[v, .int .i64 (S.read m i).1]) ∧ RowB w' w.heap.size v (ints (S.read m i).2) ∧ Gr w w' := by
  obtain ⟨k1, k2, ends, c, hd, hc⟩ := h.d
  have HUP := Lib.hid (fun w h => up_any p (.slice (some ⟨du, 0, none⟩) m k1) pv (.bool ends) (.int .i64 c) (some ⟨nw, 0, none⟩) m k2 S.down i w h hm)
  have e0 : upE S.down i m = upV S.down i m := rfl
  rw [e0] at HUP
  by_cases hup : upV S.down i m ≠ 0
  · have e1 : S.read m i = (upV S.down i m, []) := by unfold Sp.read; rw [if_pos hup]
    rw [e1]
    clear h hc ok e0 e1
    generalize upV S.down i m = U at *
    go_enter Tryz.func30, Tryz.ntmps30
    go_wp2_with fail
    refine (HUP.out _ hd).mono ?_
    rintro e w1 ⟨rfl, g1⟩
    go_wp2
    exact bodyPost_ret (v := .tuple #[.slice none 0 0, .int .i64 U]) (by simp [results, Tryz.results30, go_sem]) rfl ⟨_, rfl, World.ownsRow_nil _ _ _ _, g1⟩
  · replace hup : upV S.down i m = 0 := Classical.not_not.1 hup
    rw [hup] at HUP
    obtain ⟨hdn, hi0, hi1⟩ := upV_0 hup
    obtain ⟨k, rfl⟩ : ∃ k : Nat, i = k := ⟨i.toNat, by omega⟩
    have e1 : S.read m k = (0, S.now.getD k []) := by unfold Sp.read; rw [if_neg (by simp [hup])]; rfl
    rw [e1]
    have hk : k < m := by omega
    obtain ⟨hnl, hn64⟩ := Sp.now_ok ok
    obtain ⟨X0, hX0⟩ := h.n
    have hr := sec_range hX0 hn64 hnl k hk
    have hb64 := getD_64 hn64 (show k < S.now.length by omega)
    obtain ⟨B, hB⟩ : ∃ B, S.now.getD k [] = B := ⟨_, rfl⟩
    rw [hB] at hr hb64 ⊢
    have hkm : (k : Int) < m := hi1
    clear h hc ok e0 e1 hup hdn hi0 hi1 hnl hn64 hB hX0
    go_enter Tryz.func30, Tryz.ntmps30
    go_wp2_with fail
    refine (HUP.out _ hd).mono ?_
    rintro e w1 ⟨rfl, g1⟩
    have hd1 := g1.heap hd
    have hr1 := rangeAt_gr hr g1
    clear hr hd
    obtain ⟨cd, fd, zd⟩ := blk_cells hd1
    have cd1 := cd 1
    simp only [List.getElem?_toArray, List.getElem?_cons_zero, List.getElem?_cons_succ] at cd1
    clear cd fd
    go_upto_region 4 with (fail)
    apply wp_region_lit
    (refine wpList_plain rfl fun K hK => ?_; go_simp; refine hK _ _ ?_; clear hK K)
    (refine wpList_plain rfl fun K hK => ?_; go_simp; refine hK _ _ ?_; clear hK K)
    (refine wpList_plain rfl fun K hK => ?_; go_simp; refine hK _ _ ?_; clear hK K)
    (refine wpList_plain rfl fun K hK => ?_; go_simp; refine hK _ _ ?_; clear hK K)
    (refine wpList_plain rfl fun K hK => ?_; go_simp; refine hK _ _ ?_; clear hK K)
    (refine wpList_plain rfl fun K hK => ?_; go_simp; refine hK _ _ ?_; clear hK K)
    refine wpList_load_mid rfl _ _ rfl nw (k * 64) rfl (B.map byV) _ hr1 Tryz.underlying140 rfl (by rw [List.length_map, hb64]; kernel_rfl) ?_
    (refine wpList_plain rfl fun K hK => ?_; go_simp; refine hK _ _ ?_; clear hK K)
    generalize hX : Obj.cells _ 140 (0, 0) = X
    have hX2 : ∃ c : Array Value, X = .cells c 140 (0, 0) ∧ c.size = 64 := ⟨_, hX.symm, rfl⟩
    clear hX
    obtain ⟨c5, rfl, hc5⟩ := hX2
    have hs5 := heap_alloc_self w1 (.cells c5 140 (0, 0))
    refine wpList_store_row rfl _ _ _ rfl w1.heap.size (B.map byV).toArray rfl rfl _ c5 hs5 (by rw [List.size_toArray, List.length_map, hb64]; kernel_rfl) (by rw [hc5, List.size_toArray, List.length_map, hb64]) (all_oneCell_toArray (by_one B)) ?_
    have h5 := setRow_heap (w1.alloc (.cells c5 140 (0, 0))) w1.heap.size c5 (B.map byV).toArray _ _ hs5
    have gA : Gr w1 ((w1.alloc (.cells c5 140 (0, 0))).setRow w1.heap.size (B.map byV).toArray) := GrL.gr (Gr.refl w1) (l := []) ((GrL.of_gr ((Gr.refl w1).alloc (.cells c5 140 (0, 0)))).setRow w1.heap.size (B.map byV).toArray (Or.inl (Nat.le_refl _))) (by simp)
    clear hs5 hc5
    generalize (w1.alloc (.cells c5 140 (0, 0))).setRow w1.heap.size (B.map byV).toArray = W3 at *
    have G3 := g1.trans gA
    clear gA hr1 hd1 cd1 zd g1
    generalize w1.heap.size = b5 at *
    have hr5 : W3.rangeAt b5 0 ((ints B).map (Value.int .u8)) := by
      rw [ints_map]
      exact rangeAt_of h5 0 _ fun j v hv => by simpa using hv
    have CL := CloneC_any b5 0 64 (ints B) W3 hr5 (by rw [ints_len]; omega)
    rw [ints_len, hb64] at CL
    clear hr5 h5
    go_wp2_with fail
    refine CL.mono ?_
    rintro e w4 ⟨v', rfl, hrow, g4⟩
    go_wp2
    exact bodyPost_ret (v := .tuple #[v', .int .i64 0]) (by simp [results, Tryz.results30, go_sem]) rfl ⟨_, rfl, owns_le (by have := G3.b.size; exact this) hrow, G3.trans g4⟩
end Go.Proofs.YthmimjofdmnakaaGreatDoor
