/- loft/disk.go: Flush. -/
import Derived.Test.YthmimjofdmnakaaGreatDoorLDWrit2
namespace Go.Proofs.YthmimjofdmnakaaGreatDoor
open Go.RowKit Go.Shelf
theorem chg_len {x : Nat × List UInt8} (h : x.2.length = 64) : (chgV x).length = 65 := by simp [chgV, h]
theorem chg_one (x : Nat × List UInt8) : ∀ u ∈ chgV x, u.oneCell' = true := fun u hu => by
  rcases List.mem_cons.1 hu with rfl | hu
  · rfl
  · exact by_one _ u hu
theorem chg_range {w : World} {g n cap : Nat} {pend : List (Nat × List UInt8)} (h : w.ownsRow 0 143 65 (.slice (some ⟨g, 0, none⟩) n cap) n (pend.flatMap chgV)) (hn : pend.length = n) (h64 : ∀ x ∈ pend, x.2.length = 64) (j : Nat) (hj : j < pend.length) : w.rangeAt g (j * 65) (chgV pend[j]) := fun c v hv => by
  have hc : c < 65 := by
    have := (List.getElem?_eq_some_iff.1 hv).1
    rwa [chg_len (h64 _ (List.getElem_mem hj))] at this
  rw [World.ownsRow.cellAt h (j * 65 + c) (by subst hn; omega), flm_at pend (fun x hx => chg_len (h64 x hx)) j c hj hc]
  exact hv
set_option maxRecDepth 100000 in
set_option maxHeartbeats 8000000 in
theorem dFlush_in (p du nw m : Nat) (pv : Value) (S : Sp) (K : Int) (w : World) (h : DAt w p du nw m pv S K) (ok : S.Ok m) (hm : m ≤ 1000000) (hm0 : 0 < m) (hK : K ≤ 1000000) (hmx : S.left ≤ 9223372036854775807) (hn : S.pend.length ≤ 1000000) (hd0 : S.down = false) (hl0 : S.left ≠ 0) :
    Calls Tryz.prog 32 #[.pointer (some ⟨p, 0, none⟩)] w fun e w' => e = .returned (.int .i64 0) ∧ GrL (dbs p du nw pv) w w' ∧ DAt w' p du nw m (.slice none 0 0) { S.call with dur := S.now, pend := [] } (K + 1) := by
  have pu := h.pu
  have pn := h.pn
  have un := h.un
  have hpo := h.po
  have hN := Sp.now_ok ok
  obtain ⟨dur, pend, left, down⟩ := S
  dsimp only at *
  subst hd0
  have hml : dur.length = m := ok.n
  have hd64 : ∀ x ∈ dur, x.length = 64 := ok.s
  have hp64 : ∀ x ∈ pend, x.1 < m ∧ x.2.length = 64 := ok.p
  obtain ⟨k1, k2, ends, c, hd, hc⟩ := h.d
  have hu := h.u
  obtain ⟨X0, hn0⟩ := h.n
  have hq := h.q
  dsimp only [Sp.now] at hd hc hu hn0 hq hN
  have fq := owns_form hq
  obtain ⟨ap, cp, rfl, -, -, -⟩ := fq
  have hup : upE false 0 m = 0 := by unfold upE; rw [if_neg (by simp), if_pos (by omega)]
  have HUP := Lib.hid (fun w h => up_any p (.slice (some ⟨du, 0, none⟩) m k1) (.slice ap pend.length cp) (.bool ends) (.int .i64 c) (some ⟨nw, 0, none⟩) m k2 false 0 w h hm)
  rw [hup] at HUP
  have ec : (ends && decide (c = 0)) = false := by
    rcases hc with ⟨rfl, rfl, _⟩ | ⟨rfl, _⟩
    · simpa using hl0
    · rfl
  have hcb : -1000000 ≤ c ∧ c ≤ 9223372036854775807 := by
    rcases hc with ⟨_, rfl, h2⟩ | ⟨_, _, h3, h4⟩ <;> omega
  have PW := Lib.hid (fun w h => power_any p (.slice (some ⟨du, 0, none⟩) m k1) (.slice (some ⟨nw, 0, none⟩) m k2) (.slice ap pend.length cp) ends false c w h (by omega) (by omega))
  rw [ec] at PW
  simp only [Bool.false_eq_true, if_false, Bool.not_false] at PW
  obtain ⟨c', hc'⟩ : ∃ c', c - 1 = c' := ⟨_, rfl⟩
  rw [hc'] at PW
  have eC : (Sp.call ⟨dur, pend, left, false⟩) = ⟨dur, pend, if 0 < left then left - 1 else left, false⟩ := by unfold Sp.call; rw [if_neg hl0]
  have eN : Sp.now ⟨dur, pend, left, false⟩ = setAll dur pend := rfl
  rw [eC, eN]
  dsimp only
  have HCC : Hid (ends = true ∧ c' = (if 0 < left then left - 1 else left) ∧ 0 ≤ (if 0 < left then left - 1 else left) ∨ ends = false ∧ (if 0 < left then left - 1 else left) = -1 ∧ -(K + 1) ≤ c' ∧ c' ≤ 0) := Lib.hid (by
    rcases hc with ⟨h1, h2, h3⟩ | ⟨h1, h2, h3, h4⟩
    · left
      rw [if_pos (show 0 < left by omega)]
      exact ⟨h1, by omega, by omega⟩
    · right
      rw [if_neg (show ¬ 0 < left by omega)]
      exact ⟨h1, h2, by omega, by omega⟩)
  generalize (if 0 < left then left - 1 else left) = left' at *
  have HOK : Hid (∀ j, (setAll dur (pend.take j)).length = m ∧ ∀ x ∈ setAll dur (pend.take j), x.length = 64) := Lib.hid (fun j => ⟨(setAll_len _ _).trans hml, setAll_64 _ _ hd64 fun x hx => (hp64 x (List.mem_of_mem_take hx)).2⟩)
  have HP64 := Lib.hid hp64

  have HQ0 := Lib.hid hq
  have HN0 := Lib.hid hn0
  have HGO := Lib.hid (show ∀ g, ap = some ⟨g, 0, none⟩ → g ≠ p ∧ g ≠ du ∧ g ≠ nw from fun g hg => hpo g (by rw [hg]; rfl))
  have hpl := heap_lt hd
  have hul := heap_lt hu
  have hnl := heap_lt hn0
  clear h ok hN hup hc ec hc' eC eN hcb hmx hpo hd64 hp64 hml
  go_enter Tryz.func32, Tryz.ntmps32
  go_wp2_with fail
  refine (HUP.out _ hd).mono ?_
  rintro e w1 ⟨rfl, g1⟩
  go_wp2_with fail
  refine (PW.out w1 (g1.heap hd)).mono ?_
  rintro e w2 ⟨rfl, g2, hd2⟩
  have G2 : GrL (dbs p du nw (.slice ap pend.length cp)) w w2 := (GrL.of_gr g1).trans (g2.mono (by simp [dbs]))
  replace hu := (g2.block du (Nat.lt_of_lt_of_le hul g1.b.size) (by simp; omega)).trans (g1.heap hu)
  replace hn0 := (g2.block nw (Nat.lt_of_lt_of_le hnl g1.b.size) (by simp; omega)).trans (g1.heap hn0)
  replace hq := ownsRow_gr (ownsRow_g hq g1) g2 (fun i hi => by
    cases ap with
    | none => cases hi
    | some a =>
      obtain ⟨c9, hc9⟩ := own_ty (ownsRow_g hq g1) i hi
      have := ty_ne hc9 (g1.heap hd) (by decide)
      simpa using this)
  have hp2l := heap_lt hd2
  clear g1 g2 hd
  obtain ⟨cd, fd, zd⟩ := blk_cells hd2
  go_wp2_with fail
  clear cd fd zd
  go_loopw [19] (fun r wr => ∃ j : Nat, r = .int .i64 j ∧ j ≤ pend.length ∧ GrL [du] w2 wr ∧ Hid (wr.heap[du]? = some (.cells (secs (setAll dur (pend.take j))).toArray 140 (0, 0)))) (fun r _ => pend.length - (intOf r).toNat)
  case atStart => exact ⟨0, rfl, by omega, GrL.of_gr (Gr.refl _), Lib.hid hu⟩
  case round =>
    obtain ⟨j, rfl, hj, gr, HU⟩ := hrel
    have hdr : wr.heap[p]? = some _ := (gr.block p hp2l (by simp; omega)).trans hd2
    by_cases hjl : j < pend.length
    · have hjl' : (j : Int) < pend.length := by omega
      have hqr := ownsRow_gr hq gr (fun i hi => by
        cases ap with
        | none => cases hi
        | some a =>
          obtain ⟨c9, hc9⟩ := own_ty hq i hi
          have := ty_ne hc9 hu (by decide)
          simpa using this)
      obtain ⟨_, _, he, -, -, hf⟩ := owns_form hqr
      simp only [Value.slice.injEq, true_and] at he
      obtain ⟨rfl, rfl⟩ := he
      obtain ⟨g9, rfl, hg9l, -, -, -⟩ := hf j hjl
      have hr9 := chg_range hqr rfl (fun x hx => (HP64.out x hx).2) j hjl
      obtain ⟨hxm, hx64⟩ := HP64.out pend[j] (List.getElem_mem _)
      have HT := Lib.hid (show setAll dur (pend.take (j + 1)) = (setAll dur (pend.take j)).set pend[j].1 pend[j].2 by rw [List.take_succ_eq_append_getElem hjl, setAll_snoc])
      obtain ⟨x, hx⟩ : ∃ x, pend[j] = x := ⟨_, rfl⟩
      obtain ⟨xa, xb⟩ := x
      rw [hx] at hr9 hxm hx64 HT
      dsimp only at hxm hx64 HT
      have hxm' : (xa : Int) < m := by omega
      have hXl := chg_len (x := (xa, xb)) hx64
      obtain ⟨hsl, hs64⟩ := HOK.out j
      have HSS := Lib.hid (show ((secs (setAll dur (pend.take j))).take (xa * 64) ++ xb.map byV ++ (secs (setAll dur (pend.take j))).drop (xa * 64 + 64)).toArray = (secs (setAll dur (pend.take (j + 1)))).toArray by rw [secs_set hs64 xa xb (by rw [hsl]; exact hxm) hx64, HT.out])
      obtain ⟨C, hCd⟩ : ∃ C, (xb.map byV).toArray = C := ⟨_, rfl⟩
      have hCs : C.size = 64 := by rw [← hCd]; simp [hx64]
      have hC1 : C.all (·.oneCell') = true := by rw [← hCd]; exact all_oneCell_toArray (by_one _)
      have hCl : xb.map byV = C.toList := by rw [← hCd, List.toList_toArray]
      have HFIT := Lib.hid (show xa * 64 + C.toList.length ≤ (secs (setAll dur (pend.take j))).toArray.size by
        have e9 : C.toList.length = 64 := hCs
        rw [List.size_toArray, secs_len hs64, hsl, e9]
        omega)
      rw [hCl] at HSS
      clear hx hf hqr HT hsl hs64 hx64 hCd
      go_upto_region 8 with (fail)
      apply wp_region_lit
      (refine wpList_plain rfl fun K hK => ?_; go_simp; refine hK _ _ ?_; clear hK K)
      refine wpList_load_mid rfl _ _ rfl g9 (j * 65) rfl (chgV (xa, xb)) _ hr9 Tryz.underlying143 rfl (by rw [hXl]; kernel_rfl) ?_
      (refine wpList_plain rfl fun K hK => ?_; go_simp; refine hK _ _ ?_; clear hK K)
      generalize hX : Obj.cells _ 143 (0, 0) = X
      have hX2 : ∃ c : Array Value, X = .cells c 143 (0, 0) ∧ c.size = 65 := ⟨_, hX.symm, rfl⟩
      clear hX
      obtain ⟨c5, rfl, hc5⟩ := hX2
      have hs5 := heap_alloc_self wr (.cells c5 143 (0, 0))
      refine wpList_store_row rfl _ _ _ rfl wr.heap.size (chgV (xa, xb)).toArray rfl rfl _ c5 hs5 (by rw [List.size_toArray, hXl]; kernel_rfl) (by rw [hc5, List.size_toArray, hXl]) (all_oneCell_toArray (chg_one _)) ?_
      have h5 := setRow_heap (wr.alloc (.cells c5 143 (0, 0))) wr.heap.size c5 (chgV (xa, xb)).toArray _ _ hs5
      have gA : Gr wr ((wr.alloc (.cells c5 143 (0, 0))).setRow wr.heap.size (chgV (xa, xb)).toArray) := GrL.gr (Gr.refl wr) (l := []) ((GrL.of_gr ((Gr.refl wr).alloc (.cells c5 143 (0, 0)))).setRow wr.heap.size (chgV (xa, xb)).toArray (Or.inl (Nat.le_refl _))) (by simp)
      clear hs5 hc5 hr9
      generalize (wr.alloc (.cells c5 143 (0, 0))).setRow wr.heap.size (chgV (xa, xb)).toArray = W3 at *
      replace hdr := gA.heap hdr
      have hu3 := gA.heap HU.out
      replace gr := gr.trans (GrL.of_gr gA)
      clear gA HU
      generalize wr.heap.size = b5 at *
      go_upto_region 9 with (fail)
      obtain ⟨cd, fd, zd⟩ := blk_cells hdr
      have cd0 := cd 0
      simp only [List.getElem?_toArray, List.getElem?_cons_zero] at cd0
      clear cd fd
      obtain ⟨c5', f5, z5⟩ := blk_cells h5
      have c50 := c5' 0
      simp only [chgV, List.getElem?_toArray, List.getElem?_cons_zero] at c50
      clear c5' f5
      have hr5 : W3.rangeAt b5 1 C.toList := by
        rw [← hCl]
        refine rangeAt_of h5 1 _ fun i v hv => ?_
        rw [List.getElem?_toArray, Nat.add_comm 1 i]
        exact hv
      clear h5
      refine wp_region_stepsL [9] [.val (.pointer (some ⟨p, 0, none⟩)), .val (.pointer (some ⟨p, 0, none⟩)), .val (.pointer (some ⟨p, 0, none⟩)), .val (.slice (some ⟨du, 0, none⟩) m k1), .val (.pointer (some ⟨b5, 0, none⟩)), .val (.int .i64 xa), .val (.pointer (some ⟨b5, 1, none⟩)), .val (.agg C), .val (.pointer (some ⟨du, xa * 64, none⟩)), .later] (by kernel_rfl) (by kernel_rfl) (fun V => by first | (simp only [finS, Step.isLater, Bool.false_eq_true, if_false, if_true, Act.put, Step.value, List.setIfInBounds_toArray, List.set_cons_zero, List.set_cons_succ]; rfl) | (simp only [finS, Step.isLater, Bool.false_eq_true, if_false, if_true, Act.put, Step.value, List.setIfInBounds_toArray, List.set_cons_zero, List.set_cons_succ, Nat.zero_add, Nat.reduceAdd]; rfl)) ?_ ?_
      · refine ⟨?_, ?_, ?_, ?_, ?_, ?_, ?_, ?_, ?_, ?_, trivial⟩
        · (first | exact trivial | (refine ⟨(by intro v u u1 h g; obtain ⟨b, rfl, h⟩ := h; exact ⟨b, rfl, g.heap h⟩), ?_⟩; intro V u hu hk; refine ⟨by kernel_rfl, ?_⟩; go_simp; exact ⟨⟨_, rfl, heap_alloc_self _ _⟩, (Gr.refl _).alloc _⟩) | (refine ⟨(by intro v u u1 h g; first | exact ownsRow_g h g | exact st_and h g | exact h), ?_⟩; intro V u hu hk; refine ⟨by kernel_rfl, turn_owes (by kernel_rfl) ?_⟩; obtain ⟨hc, hf, hz⟩ := hu.cells; go_simp; skip) | (refine ⟨(by intro v u u1 h g; first | exact ownsRow_g h g | exact st_and h g | exact h), ?_⟩; intro V u hu hk; refine ⟨by kernel_rfl, ?_⟩; obtain ⟨hc, hf, hz⟩ := hu.cells; go_simp; skip) | (intro V u hu hk; refine ⟨by kernel_rfl, ?_⟩; obtain ⟨hc, hf, hz⟩ := hu.cells; go_simp; first | exact ⟨rfl, Gr.refl _⟩ | skip) | (intro V u hu hk; show _ = false; kernel_rfl))
        · (first | exact trivial | (refine ⟨(by intro v u u1 h g; obtain ⟨b, rfl, h⟩ := h; exact ⟨b, rfl, g.heap h⟩), ?_⟩; intro V u hu hk; refine ⟨by kernel_rfl, ?_⟩; go_simp; exact ⟨⟨_, rfl, heap_alloc_self _ _⟩, (Gr.refl _).alloc _⟩) | (refine ⟨(by intro v u u1 h g; first | exact ownsRow_g h g | exact st_and h g | exact h), ?_⟩; intro V u hu hk; refine ⟨by kernel_rfl, turn_owes (by kernel_rfl) ?_⟩; obtain ⟨hc, hf, hz⟩ := hu.cells; go_simp; skip) | (refine ⟨(by intro v u u1 h g; first | exact ownsRow_g h g | exact st_and h g | exact h), ?_⟩; intro V u hu hk; refine ⟨by kernel_rfl, ?_⟩; obtain ⟨hc, hf, hz⟩ := hu.cells; go_simp; skip) | (intro V u hu hk; refine ⟨by kernel_rfl, ?_⟩; obtain ⟨hc, hf, hz⟩ := hu.cells; go_simp; first | exact ⟨rfl, Gr.refl _⟩ | skip) | (intro V u hu hk; show _ = false; kernel_rfl))
        · (first | exact trivial | (refine ⟨(by intro v u u1 h g; obtain ⟨b, rfl, h⟩ := h; exact ⟨b, rfl, g.heap h⟩), ?_⟩; intro V u hu hk; refine ⟨by kernel_rfl, ?_⟩; go_simp; exact ⟨⟨_, rfl, heap_alloc_self _ _⟩, (Gr.refl _).alloc _⟩) | (refine ⟨(by intro v u u1 h g; first | exact ownsRow_g h g | exact st_and h g | exact h), ?_⟩; intro V u hu hk; refine ⟨by kernel_rfl, turn_owes (by kernel_rfl) ?_⟩; obtain ⟨hc, hf, hz⟩ := hu.cells; go_simp; skip) | (refine ⟨(by intro v u u1 h g; first | exact ownsRow_g h g | exact st_and h g | exact h), ?_⟩; intro V u hu hk; refine ⟨by kernel_rfl, ?_⟩; obtain ⟨hc, hf, hz⟩ := hu.cells; go_simp; skip) | (intro V u hu hk; refine ⟨by kernel_rfl, ?_⟩; obtain ⟨hc, hf, hz⟩ := hu.cells; go_simp; first | exact ⟨rfl, Gr.refl _⟩ | skip) | (intro V u hu hk; show _ = false; kernel_rfl))
        · (first | exact trivial | (refine ⟨(by intro v u u1 h g; obtain ⟨b, rfl, h⟩ := h; exact ⟨b, rfl, g.heap h⟩), ?_⟩; intro V u hu hk; refine ⟨by kernel_rfl, ?_⟩; go_simp; exact ⟨⟨_, rfl, heap_alloc_self _ _⟩, (Gr.refl _).alloc _⟩) | (refine ⟨(by intro v u u1 h g; first | exact ownsRow_g h g | exact st_and h g | exact h), ?_⟩; intro V u hu hk; refine ⟨by kernel_rfl, turn_owes (by kernel_rfl) ?_⟩; obtain ⟨hc, hf, hz⟩ := hu.cells; go_simp; skip) | (refine ⟨(by intro v u u1 h g; first | exact ownsRow_g h g | exact st_and h g | exact h), ?_⟩; intro V u hu hk; refine ⟨by kernel_rfl, ?_⟩; obtain ⟨hc, hf, hz⟩ := hu.cells; go_simp; skip) | (intro V u hu hk; refine ⟨by kernel_rfl, ?_⟩; obtain ⟨hc, hf, hz⟩ := hu.cells; go_simp; first | exact ⟨rfl, Gr.refl _⟩ | skip) | (intro V u hu hk; show _ = false; kernel_rfl))
        · (first | exact trivial | (refine ⟨(by intro v u u1 h g; obtain ⟨b, rfl, h⟩ := h; exact ⟨b, rfl, g.heap h⟩), ?_⟩; intro V u hu hk; refine ⟨by kernel_rfl, ?_⟩; go_simp; exact ⟨⟨_, rfl, heap_alloc_self _ _⟩, (Gr.refl _).alloc _⟩) | (refine ⟨(by intro v u u1 h g; first | exact ownsRow_g h g | exact st_and h g | exact h), ?_⟩; intro V u hu hk; refine ⟨by kernel_rfl, turn_owes (by kernel_rfl) ?_⟩; obtain ⟨hc, hf, hz⟩ := hu.cells; go_simp; skip) | (refine ⟨(by intro v u u1 h g; first | exact ownsRow_g h g | exact st_and h g | exact h), ?_⟩; intro V u hu hk; refine ⟨by kernel_rfl, ?_⟩; obtain ⟨hc, hf, hz⟩ := hu.cells; go_simp; skip) | (intro V u hu hk; refine ⟨by kernel_rfl, ?_⟩; obtain ⟨hc, hf, hz⟩ := hu.cells; go_simp; first | exact ⟨rfl, Gr.refl _⟩ | skip) | (intro V u hu hk; show _ = false; kernel_rfl))
        · (first | exact trivial | (refine ⟨(by intro v u u1 h g; obtain ⟨b, rfl, h⟩ := h; exact ⟨b, rfl, g.heap h⟩), ?_⟩; intro V u hu hk; refine ⟨by kernel_rfl, ?_⟩; go_simp; exact ⟨⟨_, rfl, heap_alloc_self _ _⟩, (Gr.refl _).alloc _⟩) | (refine ⟨(by intro v u u1 h g; first | exact ownsRow_g h g | exact st_and h g | exact h), ?_⟩; intro V u hu hk; refine ⟨by kernel_rfl, turn_owes (by kernel_rfl) ?_⟩; obtain ⟨hc, hf, hz⟩ := hu.cells; go_simp; skip) | (refine ⟨(by intro v u u1 h g; first | exact ownsRow_g h g | exact st_and h g | exact h), ?_⟩; intro V u hu hk; refine ⟨by kernel_rfl, ?_⟩; obtain ⟨hc, hf, hz⟩ := hu.cells; go_simp; skip) | (intro V u hu hk; refine ⟨by kernel_rfl, ?_⟩; obtain ⟨hc, hf, hz⟩ := hu.cells; go_simp; first | exact ⟨rfl, Gr.refl _⟩ | skip) | (intro V u hu hk; show _ = false; kernel_rfl))
        · (first | exact trivial | (refine ⟨(by intro v u u1 h g; obtain ⟨b, rfl, h⟩ := h; exact ⟨b, rfl, g.heap h⟩), ?_⟩; intro V u hu hk; refine ⟨by kernel_rfl, ?_⟩; go_simp; exact ⟨⟨_, rfl, heap_alloc_self _ _⟩, (Gr.refl _).alloc _⟩) | (refine ⟨(by intro v u u1 h g; first | exact ownsRow_g h g | exact st_and h g | exact h), ?_⟩; intro V u hu hk; refine ⟨by kernel_rfl, turn_owes (by kernel_rfl) ?_⟩; obtain ⟨hc, hf, hz⟩ := hu.cells; go_simp; skip) | (refine ⟨(by intro v u u1 h g; first | exact ownsRow_g h g | exact st_and h g | exact h), ?_⟩; intro V u hu hk; refine ⟨by kernel_rfl, ?_⟩; obtain ⟨hc, hf, hz⟩ := hu.cells; go_simp; skip) | (intro V u hu hk; refine ⟨by kernel_rfl, ?_⟩; obtain ⟨hc, hf, hz⟩ := hu.cells; go_simp; first | exact ⟨rfl, Gr.refl _⟩ | skip) | (intro V u hu hk; show _ = false; kernel_rfl))
        · exact owes_load _ _ rfl (fun V => by kernel_rfl) b5 1 (fun V => by kernel_rfl) C _ Tryz.underlying140 rfl (by rw [hCs]; kernel_rfl) hr5
        · (first | exact trivial | (refine ⟨(by intro v u u1 h g; obtain ⟨b, rfl, h⟩ := h; exact ⟨b, rfl, g.heap h⟩), ?_⟩; intro V u hu hk; refine ⟨by kernel_rfl, ?_⟩; go_simp; exact ⟨⟨_, rfl, heap_alloc_self _ _⟩, (Gr.refl _).alloc _⟩) | (refine ⟨(by intro v u u1 h g; first | exact ownsRow_g h g | exact st_and h g | exact h), ?_⟩; intro V u hu hk; refine ⟨by kernel_rfl, turn_owes (by kernel_rfl) ?_⟩; obtain ⟨hc, hf, hz⟩ := hu.cells; go_simp; skip) | (refine ⟨(by intro v u u1 h g; first | exact ownsRow_g h g | exact st_and h g | exact h), ?_⟩; intro V u hu hk; refine ⟨by kernel_rfl, ?_⟩; obtain ⟨hc, hf, hz⟩ := hu.cells; go_simp; skip) | (intro V u hu hk; refine ⟨by kernel_rfl, ?_⟩; obtain ⟨hc, hf, hz⟩ := hu.cells; go_simp; first | exact ⟨rfl, Gr.refl _⟩ | skip) | (intro V u hu hk; show _ = false; kernel_rfl))
        · exact trivial
      intro V u hg hs
      clear hs cd0 c50 hr5
      replace hu3 := hg.heap hu3
      have hst := run_store_at u du (xa * 64) C (there_of hu3 (xa * 64) C.size HFIT.out) hC1
      have gW : GrL [du] u (u.setCells du (xa * 64) C.toList) := GrL.setCells du _ _ u (GrL.of_gr (Gr.refl _)) (Or.inr (by simp))
      have hu' := heap_setCells du _ C.toList (xa * 64) u _ hu3 HFIT.out
      rw [show C.toList.length = 64 from hCs, List.toList_toArray, HSS.out] at hu'
      have G5 := (gr.trans (GrL.of_gr hg)).trans gW
      have HU' := Lib.hid hu'
      clear gW hu' hu3 hg gr hdr
      refine ⟨⟨none, _, _, _, _, _⟩, rfl, rfl, ?_⟩
      generalize u.setCells du (xa * 64) C.toList = W5 at *
      go_simp
      refine Lones.fin ?_
      clear hst
      go_wp2_with fail
      exact ⟨⟨j+1, by simp, by omega, G5, HU'⟩, by simp [intOf]; omega⟩
    · have hjl' : ¬ (j : Int) < pend.length := by omega
      obtain rfl : j = pend.length := by omega
      have hu9 := HU.out
      rw [List.take_length] at hu9
      have hn9 := (gr.block nw (heap_lt hn0) (by simp; omega)).trans hn0
      have hd9 := put_at hdr 2 (.slice none 0 0)
      have gW : GrL [p] wr (wr.setCell ⟨p, 2, none⟩ (.slice none 0 0)) := (GrL.of_gr (Gr.refl _)).set _ _ (Or.inr (by simp))
      have G9 := (G2.trans (gr.mono (m := dbs p du nw (.slice ap pend.length cp)) (by simp [dbs]))).trans (gW.mono (m := dbs p du nw (.slice ap pend.length cp)) (by simp [dbs]))
      have HD9 := Lib.hid hd9
      have HU9 := Lib.hid ((gW.block du (heap_lt hu9) (by simp; omega)).trans hu9)
      have HN9 := Lib.hid ((gW.block nw (heap_lt hn9) (by simp; omega)).trans hn9)
      obtain ⟨cx, fx, zx⟩ := blk_cells hdr
      clear hu9 hn9 hd9 gW HU gr
      go_wp2
      go_ret
      exact ⟨rfl, G9, ⟨k1, k2, ends, c', by simpa using HD9.out, HCC.out⟩, HU9.out, ⟨X0, HN9.out⟩, World.ownsRow_nil _ _ _ _, un⟩
set_option maxRecDepth 100000 in
set_option maxHeartbeats 4000000 in
theorem dFlush_any (p du nw m : Nat) (pv : Value) (S : Sp) (K : Int) (w : World) (h : DAt w p du nw m pv S K) (ok : S.Ok m) (hm : m ≤ 1000000) (hm0 : 0 < m) (hK : K ≤ 1000000) (hmx : S.left ≤ 9223372036854775807) (hn : S.pend.length ≤ 1000000) :
    Calls Tryz.prog 32 #[.pointer (some ⟨p, 0, none⟩)] w fun e w' => e = .returned (.int .i64 S.flush.1) ∧ GrL (dbs p du nw pv) w w' ∧ ∃ pv', DAt w' p du nw m pv' S.flush.2 (K + 1) ∧ ∀ x, pv'.ownBlock = some x → pv.ownBlock = some x := by
  obtain ⟨k1, k2, ends, c, hd, hc⟩ := h.d
  have HUP := Lib.hid (fun w h => up_any p (.slice (some ⟨du, 0, none⟩) m k1) pv (.bool ends) (.int .i64 c) (some ⟨nw, 0, none⟩) m k2 S.down 0 w h hm)
  have HH := Lib.hid (h.mono (show K ≤ K + 1 by omega))
  by_cases hdn : S.down = true
  · have e1 : S.flush = (90, S) := by unfold Sp.flush; rw [if_pos hdn]
    have e2 : upE S.down 0 m = 90 := by unfold upE; rw [if_pos hdn]
    rw [e2] at HUP
    rw [e1]
    clear h hc ok e1 e2 hmx
    go_enter Tryz.func32, Tryz.ntmps32
    go_wp2_with fail
    refine (HUP.out _ hd).mono ?_
    rintro e w1 ⟨rfl, g1⟩
    go_wp2
    go_ret
    exact ⟨rfl, GrL.of_gr g1, pv, HH.out.gr g1, fun _ h => h⟩
  have hdn' : S.down = false := by simpa using hdn
  have e2 : upE S.down 0 m = 0 := by unfold upE; rw [if_neg hdn, if_pos ⟨by omega, by omega⟩]
  rw [e2] at HUP
  by_cases hl0 : S.left = 0
  · have e1 : S.flush = (90, S.call) := by unfold Sp.flush; rw [if_neg hdn, if_pos hl0]
    have ec : ends = true ∧ c = 0 := by
      rcases hc with ⟨h1, h2, _⟩ | ⟨_, h2, _⟩
      · exact ⟨h1, by omega⟩
      · omega
    obtain ⟨rfl, rfl⟩ := ec
    rw [e1]
    have HL := Lib.hid hl0
    rw [hdn'] at hd
    have PW := Lib.hid (fun w h => power_any p (.slice (some ⟨du, 0, none⟩) m k1) (.slice (some ⟨nw, 0, none⟩) m k2) pv true false 0 w h (by omega) (by omega))
    simp only [decide_true, Bool.and_self, if_true, Bool.not_true] at PW
    have HD := Lib.hid hd
    rw [hdn'] at HUP
    clear h hc ok e1 e2 hmx hl0
    go_enter Tryz.func32, Tryz.ntmps32
    go_wp2_with fail
    refine (HUP.out _ hd).mono ?_
    rintro e w1 ⟨rfl, g1⟩
    go_wp2_with fail
    refine (PW.out w1 (g1.heap HD.out)).mono ?_
    rintro e w2 ⟨rfl, g2, hd2⟩
    go_wp2
    go_ret
    exact ⟨rfl, (GrL.of_gr g1).trans (g2.mono (by simp [dbs])), pv, DAt.fails (HH.out.gr g1) g2 HL.out hd2 rfl, fun _ h => h⟩
  · have e1 : S.flush = (0, { S.call with dur := S.now, pend := [] }) := by unfold Sp.flush; rw [if_neg hdn, if_neg hl0]
    rw [e1]
    exact (dFlush_in p du nw m pv S K w h ok hm hm0 hK hmx hn hdn' hl0).mono fun e w' ⟨h1, h2, h3⟩ => ⟨h1, h2, _, h3, fun _ h => by cases h⟩
end Go.Proofs.YthmimjofdmnakaaGreatDoor
