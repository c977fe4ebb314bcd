/- strickleref09: the definition's disk: NewDisk. -/
import Derived.Test.YthmimjofdmnakaaGreatDoorLRCrash
namespace Go.Proofs.YthmimjofdmnakaaGreatDoor
open Go.RowKit Go.Shelf
abbrev zsec' : List UInt8 := List.replicate 64 0
/-- a new disk -/
def Sp.zero (n : Nat) : Sp := ⟨List.replicate n zsec', [], -1, false⟩
theorem Sp.zero_ok (n : Nat) : (Sp.zero n).Ok n := ⟨by simp [Sp.zero], fun x hx => by
  simp only [Sp.zero, List.mem_replicate] at hx
  rw [hx.2]; simp, fun x hx => by simp [Sp.zero] at hx, by simp [Sp.zero]⟩
set_option maxRecDepth 100000 in
set_option maxHeartbeats 4000000 in
theorem rNewDisk_yes (n : Nat) (w : World) (h1 : 64 ≤ n) (h2 : n ≤ 65536) :
    Calls Tryz.prog 28 #[.int .i64 n] w fun e w' => ∃ q dv, e = .returned (.tuple #[.pointer (some ⟨q, 0, none⟩), .int .i64 0]) ∧ Gr w w' ∧ RAt w' q dv (.slice none 0 0) (Sp.zero n) ∧ ∀ b ∈ rbs q dv (.slice none 0 0), w.heap.size ≤ b := by
  have h1' : ¬ (n : Int) < 64 := by omega
  have h2' : ¬ (65536 : Int) < n := by omega
  obtain ⟨i0, hi0, hz0, hz1, hz2⟩ := info_parts info_str'
  have PA := Lib.hid (fun w => padded_any [] w (by simp))
  have ez : padB [] = zsec' := rfl
  rw [ez] at PA
  change Hid (∀ w, Calls Tryz.prog 77 #[.string ⟨#[]⟩] w fun e w' => e = .returned (sb zsec') ∧ w' = w) at PA
  obtain ⟨Z, hZ⟩ : ∃ Z, sb zsec' = Z := ⟨_, rfl⟩
  have hZ1 : Z.oneCell' = true := by rw [← hZ]; rfl
  have hZc : ∃ s, Z = .string s := ⟨_, hZ.symm⟩
  have HZ := Lib.hid hZ
  rw [hZ] at PA
  have hd0 := heap_alloc_self w (.cells #[.slice none 0 0, .slice none 0 0, .int .i64 (-1), .bool false] 135)
  have g0 : Gr w (w.alloc (.cells #[.slice none 0 0, .slice none 0 0, .int .i64 (-1), .bool false] 135)) := (Gr.refl w).alloc _
  clear hZ ez
  go_enter Tryz.func28, Tryz.ntmps28
  go_wp2
  obtain ⟨q, hq⟩ : ∃ q, w.heap.size = q := ⟨_, rfl⟩
  have HQ := Lib.hid hq
  rw [hq] at hd0
  rw [hq]
  generalize w.alloc (.cells #[.slice none 0 0, .slice none 0 0, .int .i64 (-1), .bool false] 135) = W0 at *
  clear hq
  go_loopw [5] (fun p wr => ∃ (j : Nat) (dv : Value), p = .int .i64 j ∧ j ≤ n ∧ Gr w wr ∧ wr.heap[q]? = some (.cells #[dv, .slice none 0 0, .int .i64 (-1), .bool false] 135 (0, 0)) ∧ Hid (wr.ownsRow q 9 1 dv j (List.replicate j Z))) (fun p _ => n - (intOf p).toNat)
  case atStart => exact ⟨0, .slice none 0 0, rfl, by omega, g0, hd0, Lib.hid (World.ownsRow_nil _ _ _ _)⟩
  case round =>
    obtain ⟨j, dv, rfl, hj, gr, hdr, HU⟩ := hrel
    by_cases hjl : j < n
    · have hjl' : (j : Int) < n := by omega
      go_upto_region 7 with (fail)
      refine wp_region_stepsJL [10] (fun u => GrL dv.ownBlock.toList wr u ∧ u.heap[q]? = some (.cells #[dv, .slice none 0 0, .int .i64 (-1), .bool false] 135 (0, 0))) (fun u => u.ownsRow q 9 1 dv j (List.replicate j Z)) [7]
        (fun u u' h g => ⟨h.1.trans (GrL.of_gr g), g.heap h.2⟩) (fun u u' h g => ownsRow_g h g) ⟨GrL.of_gr (Gr.refl _), hdr⟩ HU.out (by kernel_rfl)
        [.val (.pointer (some ⟨q, 0, none⟩)), .val (.pointer (some ⟨q, 0, none⟩)), .val (.pointer (some ⟨q, 0, none⟩)), .val (.pointer (some ⟨q, 0, none⟩)), .val dv, .val Z,
         .sat (fun v u => ∃ g, v = .slice (some ⟨g, 0, none⟩) 1 1 ∧ u.heap[g]? = some (.cells #[Z] 9 (0, 0))),
         .turn (fun v u => u.ownsRow q 9 1 v (j + 1) (List.replicate j Z ++ [Z])) [6], .val (.pointer (some ⟨q, 0, none⟩)), .val (.pointer (some ⟨q, 0, none⟩)), .later] (by kernel_rfl) (by kernel_rfl) (fun V => by first | (simp only [finS, Step.isLater, Bool.false_eq_true, if_false, if_true, Act.put, Step.value, List.setIfInBounds_toArray, List.set_cons_zero, List.set_cons_succ]; rfl) | (simp only [finS, Step.isLater, Bool.false_eq_true, if_false, if_true, Act.put, Step.value, List.setIfInBounds_toArray, List.set_cons_zero, List.set_cons_succ, Nat.zero_add, Nat.reduceAdd]; rfl)) ?_ ?_
      · refine ⟨?_, ?_, ?_, ?_, ?_, ?_, ?_, ?_, ?_, ?_, ?_, trivial⟩
        · (first | exact trivial | (refine ⟨(by intro v u u1 h g; obtain ⟨b, rfl, h⟩ := h; exact ⟨b, rfl, g.heap h⟩), ?_⟩; intro V u hu hj hk; refine ⟨by kernel_rfl, ?_⟩; go_simp; exact ⟨⟨_, rfl, heap_alloc_self _ _⟩, (Gr.refl _).alloc _⟩) | (intro V u hu hj hk; refine ⟨by kernel_rfl, ?_⟩; obtain ⟨hc, hf, hz⟩ := blk_cells hu.2; go_simp; first | exact ⟨rfl, Gr.refl _⟩ | skip))
        · (first | exact trivial | (refine ⟨(by intro v u u1 h g; obtain ⟨b, rfl, h⟩ := h; exact ⟨b, rfl, g.heap h⟩), ?_⟩; intro V u hu hj hk; refine ⟨by kernel_rfl, ?_⟩; go_simp; exact ⟨⟨_, rfl, heap_alloc_self _ _⟩, (Gr.refl _).alloc _⟩) | (intro V u hu hj hk; refine ⟨by kernel_rfl, ?_⟩; obtain ⟨hc, hf, hz⟩ := blk_cells hu.2; go_simp; first | exact ⟨rfl, Gr.refl _⟩ | skip))
        · (first | exact trivial | (refine ⟨(by intro v u u1 h g; obtain ⟨b, rfl, h⟩ := h; exact ⟨b, rfl, g.heap h⟩), ?_⟩; intro V u hu hj hk; refine ⟨by kernel_rfl, ?_⟩; go_simp; exact ⟨⟨_, rfl, heap_alloc_self _ _⟩, (Gr.refl _).alloc _⟩) | (intro V u hu hj hk; refine ⟨by kernel_rfl, ?_⟩; obtain ⟨hc, hf, hz⟩ := blk_cells hu.2; go_simp; first | exact ⟨rfl, Gr.refl _⟩ | skip))
        · (first | exact trivial | (refine ⟨(by intro v u u1 h g; obtain ⟨b, rfl, h⟩ := h; exact ⟨b, rfl, g.heap h⟩), ?_⟩; intro V u hu hj hk; refine ⟨by kernel_rfl, ?_⟩; go_simp; exact ⟨⟨_, rfl, heap_alloc_self _ _⟩, (Gr.refl _).alloc _⟩) | (intro V u hu hj hk; refine ⟨by kernel_rfl, ?_⟩; obtain ⟨hc, hf, hz⟩ := blk_cells hu.2; go_simp; first | exact ⟨rfl, Gr.refl _⟩ | skip))
        · (first | exact trivial | (refine ⟨(by intro v u u1 h g; obtain ⟨b, rfl, h⟩ := h; exact ⟨b, rfl, g.heap h⟩), ?_⟩; intro V u hu hj hk; refine ⟨by kernel_rfl, ?_⟩; go_simp; exact ⟨⟨_, rfl, heap_alloc_self _ _⟩, (Gr.refl _).alloc _⟩) | (intro V u hu hj hk; refine ⟨by kernel_rfl, ?_⟩; obtain ⟨hc, hf, hz⟩ := blk_cells hu.2; go_simp; first | exact ⟨rfl, Gr.refl _⟩ | skip))
        · (first | exact trivial | (refine ⟨(by intro v u u1 h g; obtain ⟨b, rfl, h⟩ := h; exact ⟨b, rfl, g.heap h⟩), ?_⟩; intro V u hu hj hk; refine ⟨by kernel_rfl, ?_⟩; go_simp; exact ⟨⟨_, rfl, heap_alloc_self _ _⟩, (Gr.refl _).alloc _⟩) | (intro V u hu hj hk; refine ⟨by kernel_rfl, ?_⟩; obtain ⟨hc, hf, hz⟩ := blk_cells hu.2; go_simp; first | exact ⟨rfl, Gr.refl _⟩ | skip))
          exact (PA.out _).mono fun e w' ⟨h, e'⟩ => ⟨h, e' ▸ Gr.refl _⟩
        · obtain ⟨s, rfl⟩ := hZc
          (first | exact trivial | (refine ⟨(by intro v u u1 h g; obtain ⟨b, rfl, h⟩ := h; exact ⟨b, rfl, g.heap h⟩), ?_⟩; intro V u hu hj hk; refine ⟨by kernel_rfl, ?_⟩; go_simp; exact ⟨⟨_, rfl, heap_alloc_self _ _⟩, (Gr.refl _).alloc _⟩) | (intro V u hu hj hk; refine ⟨by kernel_rfl, ?_⟩; obtain ⟨hc, hf, hz⟩ := blk_cells hu.2; go_simp; first | exact ⟨rfl, Gr.refl _⟩ | skip))
        · refine ⟨fun v u u1 h g => ownsRow_g h g, fun V u hu hj hk => ⟨by kernel_rfl, turnJ (R := fun u => GrL dv.ownBlock.toList wr u ∧ u.heap[q]? = some (.cells #[dv, .slice none 0 0, .int .i64 (-1), .bool false] 135 (0, 0))) (J := fun u => u.ownsRow q 9 1 dv j (List.replicate j Z)) (dj := [7]) (k := 7) (drop := [6]) (V := V) (u := u) (by kernel_rfl) (by kernel_rfl) ?_⟩⟩
          obtain ⟨g, hv, hb⟩ := hk 6 _ rfl (by kernel_rfl)
          have hJ := hj (by kernel_rfl)
          refine cameS_append _ _ 84 rfl q 9 i0 _ 1 16 Tryz.underlying84 hi0 hz0 hz1 hz2 (by simp [Value.cells]) (by decide) dv j _ rfl hJ ⟨g, 0, none⟩ 1 1 [Z] hv rfl (fun j v hv => by
            rw [Addr.add_mid, (blk_cells hb).1]
            simpa using hv) (fun u hu => by
            simp only [List.mem_cons, List.not_mem_nil, or_false] at hu
            rw [hu]; exact hZ1) (by unfold maxLen; omega) (by omega) (Nat.le_of_lt (heap_lt hu.2)) (fun v' w' h1 h2 => ⟨h1, hu.1.trans (GrL.of_grownR h2), ?_⟩)
          exact (GrL.of_grownR h2).block q (heap_lt hu.2) (fun hq => by
            obtain ⟨c, hc⟩ := own_ty hJ q (by simpa using hq)
            exact ty_ne hc hu.2 (by decide) rfl) |>.trans hu.2
        · (first | exact trivial | (refine ⟨(by intro v u u1 h g; obtain ⟨b, rfl, h⟩ := h; exact ⟨b, rfl, g.heap h⟩), ?_⟩; intro V u hu hj hk; refine ⟨by kernel_rfl, ?_⟩; go_simp; exact ⟨⟨_, rfl, heap_alloc_self _ _⟩, (Gr.refl _).alloc _⟩) | (intro V u hu hj hk; refine ⟨by kernel_rfl, ?_⟩; obtain ⟨hc, hf, hz⟩ := blk_cells hu.2; go_simp; first | exact ⟨rfl, Gr.refl _⟩ | skip))
        · (first | exact trivial | (refine ⟨(by intro v u u1 h g; obtain ⟨b, rfl, h⟩ := h; exact ⟨b, rfl, g.heap h⟩), ?_⟩; intro V u hu hj hk; refine ⟨by kernel_rfl, ?_⟩; go_simp; exact ⟨⟨_, rfl, heap_alloc_self _ _⟩, (Gr.refl _).alloc _⟩) | (intro V u hu hj hk; refine ⟨by kernel_rfl, ?_⟩; obtain ⟨hc, hf, hz⟩ := blk_cells hu.2; go_simp; first | exact ⟨rfl, Gr.refl _⟩ | skip))
        · exact trivial
      intro V u hg hs
      have hv := hs 7 _ rfl
      obtain ⟨g2, hd2⟩ := hg
      have hbase := owns_base HU.out
      have G2 : Gr w u := GrL.gr gr g2 (fun i hi => by rw [HQ.out]; exact hbase i (by simpa using hi))
      obtain ⟨a', c', hv', -⟩ := owns_form hv
      rw [hv'] at hv
      rw [hv']
      have g3 : GrL [q] u (u.setCell ⟨q, 0, none⟩ (.slice a' (j + 1) c')) := (GrL.of_gr (Gr.refl _)).set _ _ (Or.inr (by simp))
      have hd3 := put_at hd2 0 (.slice a' (j + 1) c')
      have hv3 := ownsRow_gr hv g3 (fun i hi => by
        obtain ⟨c, hc⟩ := own_ty hv i hi
        simpa using ty_ne hc hd2 (by decide))
      have G3 : Gr w (u.setCell ⟨q, 0, none⟩ (.slice a' (j + 1) c')) := GrL.gr G2 g3 (fun i hi => by simp at hi; rw [HQ.out, hi]; exact Nat.le_refl _)
      rw [← List.replicate_succ'] at hv3
      have HV3 := Lib.hid hv3
      obtain ⟨cx, fx, zx⟩ := blk_cells hd2
      clear hv hv3 hs g3 G2 hbase g2
      refine ⟨⟨none, _, _, _, _, _⟩, rfl, rfl, ?_⟩
      go_simp
      refine Lones.fin ?_
      clear cx fx zx
      generalize u.setCell ⟨q, 0, none⟩ (.slice a' (j + 1) c') = W5 at *
      go_wp2_with fail
      exact ⟨⟨j+1, .slice a' (j + 1) c', by simp, by omega, G3, by simpa using hd3, HV3⟩, by simp [intOf]; omega⟩
    · have hjl' : ¬ (j : Int) < n := by omega
      obtain rfl : j = n := by omega
      go_wp2
      go_ret2
      have hU := HU.out
      refine ⟨q, rfl, gr, dv, ⟨hdr, ?_, rfl_nil _⟩, fun b hb => ?_⟩
      · have := owns_zero hU
        simp only [Sp.zero, List.length_replicate, List.map_replicate, HZ.out]
        exact this
      · simp only [rbs, List.mem_cons, List.mem_append, Option.mem_toList] at hb
        rw [HQ.out]
        rcases hb with rfl | hb | hb
        · exact Nat.le_refl _
        · exact owns_base hU b hb
        · cases hb
end Go.Proofs.YthmimjofdmnakaaGreatDoor
