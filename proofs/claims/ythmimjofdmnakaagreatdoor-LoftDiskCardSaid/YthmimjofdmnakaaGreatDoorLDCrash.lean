/- loft/disk.go: Crash. -/
import Derived.Test.YthmimjofdmnakaaGreatDoorLDFlush
namespace Go.Proofs.YthmimjofdmnakaaGreatDoor
open Go.RowKit Go.Shelf
theorem sec_rangeL {w : World} {b m : Nat} {L : List (List UInt8)} (h : w.heap[b]? = some (.cells (secs L).toArray 140 (0, 0))) (h64 : ∀ x ∈ L, x.length = 64) (hm : L.length = m) (k : Nat) (hk : k < m) : w.rangeAt b (k * 64) ((L.getD k []).map byV) :=
  sec_range (X := []) (by simpa using h) h64 hm k hk
theorem info_sec : (Tryz.prog.info? 140).map (fun i => (i.zero, i.size, i.bytes)) = some (some (.agg (Array.replicate 64 (.int .u8 0))), 64, 64) := by kernel_rfl
theorem secs_one (L : List (List UInt8)) : ∀ u ∈ secs L, u.oneCell' = true := fun u hu => by
  obtain ⟨x, _, hx⟩ := List.mem_flatMap.1 hu
  exact by_one x u hx
theorem CloneS_any (g n cap : Nat) (L : List (List UInt8)) (w : World) (hg : w.heap[g]? = some (.cells (secs L).toArray 140 (0, 0))) (h64 : ∀ x ∈ L, x.length = 64) (hl : L.length = n) (hn : n ≤ 1000000) :
    Calls Tryz.prog 86 #[.slice (some ⟨g, 0, none⟩) n cap] w fun e w' => ∃ g' k2 X, e = .returned (.slice (some ⟨g', 0, none⟩) n k2) ∧ w.heap.size ≤ g' ∧ w'.heap[g']? = some (.cells (secs L ++ X).toArray 140 (0, 0)) ∧ Gr w w' := by
  obtain ⟨i0, hi, hz0, hz1, hz2⟩ := info_parts info_sec
  refine (AnyE.slices_Clone Tryz.cloneSec i0 _ 64 64 hi hz0 hz1 hz2 (by simp [Value.cells]) (by omega) Tryz.sizeOf140 g 0 n cap (secs L) w (by rw [secs_len h64, hl]) (by unfold maxLen; omega) (by omega) (fun j u hu => by rw [(blk_cells hg).1, List.getElem?_toArray, Nat.zero_add]; exact hu) (secs_one L)).mono ?_
  rintro e w' ⟨v', rfl, h1, hne, h2⟩
  rcases h1.2 with ⟨h3, _⟩ | ⟨g', cap', cur, rfl, hb, hg', _, _, hsz, htk⟩
  · exact absurd h3 hne
  · refine ⟨g', cap', cur.toList.drop (n * 64), rfl, hb, ?_, Gr.of_below h2⟩
    rw [hg', ← htk, List.take_append_drop, Array.toArray_toList]
    rfl
set_option maxRecDepth 100000 in
set_option maxHeartbeats 32000000 in
theorem dCrash_any (p du nw m : Nat) (pv : Value) (S : Sp) (K : Int) (kv : Value) (ks : List Int) (w : World) (h : DAt w p du nw m pv S K) (ok : S.Ok m) (hm : m ≤ 1000000) (hn : S.pend.length ≤ 1000000) (hKA : KeepAt w kv ks (dbs p du nw pv)) (hkl : ks.length ≤ 1000000) (hK0 : 0 ≤ K) :
    Calls Tryz.prog 34 #[.pointer (some ⟨p, 0, none⟩), kv] w fun e w' => ∃ nw', e = .returned (.tuple #[]) ∧ GrL (dbs p du nw pv) w w' ∧ DAt w' p du nw' m (.slice none 0 0) (S.crash ks) K ∧ w.heap.size ≤ nw' := by
  have pu := h.pu
  have pn := h.pn
  have un := h.un
  have hpo := h.po
  obtain ⟨dur, pend, left, down⟩ := S
  dsimp only at *
  have hp64 : ∀ x ∈ pend, x.1 < m ∧ x.2.length = 64 := ok.p
  obtain ⟨k1, k2, ends, c, hd, -⟩ := h.d
  have hu := h.u
  have hq := h.q
  dsimp only at hd hu hq
  have fq := owns_form hq
  obtain ⟨ap, cp, rfl, -, -, -⟩ := fq
  obtain ⟨ka, kc, rfl, hKs⟩ := hKA.s
  have HKS := Lib.hid hKs
  have HOK : Hid (∀ j, (crashF ks 0 dur (pend.take j)).length = m ∧ ∀ x ∈ crashF ks 0 dur (pend.take j), x.length = 64) := Lib.hid (fun (j : Nat) => crashF_ok ks m (pend.take j) 0 dur ok.n ok.s (fun x hx => ok.p x (List.mem_of_mem_take hx)))
  have HSN := Lib.hid (fun (j : Nat) (hj : j < pend.length) => show crashF ks 0 dur (pend.take (j + 1)) = (crashF ks 0 dur (pend.take j)).set pend[j].1 (pend[j].2.take (keepN ks j) ++ ((crashF ks 0 dur (pend.take j)).getD pend[j].1 []).drop (keepN ks j)) by
    rw [List.take_succ_eq_append_getElem hj, crashF_snoc, List.length_take, Nat.zero_add, Nat.min_eq_left (by omega)])
  have HP64 := Lib.hid hp64
  have hpl := heap_lt hd
  have hul := heap_lt hu
  have hdl : du ∈ dbs p du nw (.slice ap pend.length cp) := by simp [dbs]
  have HDL := Lib.hid hdl
  clear h ok hp64 hKs hKA hpo hdl
  obtain ⟨cd, fd, zd⟩ := blk_cells hd
  go_enter Tryz.func34, Tryz.ntmps34
  go_wp2_with fail
  clear cd fd zd
  go_loopw [15] (fun r wr => ∃ j : Nat, r = .int .i64 j ∧ j ≤ pend.length ∧ GrL [du] w wr ∧ Hid (wr.heap[du]? = some (.cells (secs (crashF ks 0 dur (pend.take j))).toArray 140 (0, 0)))) (fun r _ => pend.length - (intOf r).toNat)
  case atStart => exact ⟨0, rfl, by omega, GrL.of_gr (Gr.refl _), Lib.hid hu⟩
  case round =>
    obtain ⟨j, rfl, hj, gr, HU⟩ := hrel
    have hdr : wr.heap[p]? = some _ := (gr.block p hpl (by simp; omega)).trans hd
    by_cases hjl : j < pend.length
    · have hjl' : (j : Int) < pend.length := by omega
      have hqr := ownsRow_gr hq gr (fun i hi => by
        obtain ⟨c9, hc9⟩ := own_ty hq i hi
        have := ty_ne hc9 hu (by decide)
        simpa using this)
      obtain ⟨_, _, he, -, -, hf⟩ := owns_form hqr
      simp only [Value.slice.injEq, true_and] at he
      obtain ⟨rfl, rfl⟩ := he
      obtain ⟨g9, rfl, hg9l, -, -, -⟩ := hf j hjl
      have hr9 := chg_range hqr rfl (fun x hx => (HP64.out x hx).2) j hjl
      obtain ⟨hxm, hx64⟩ := HP64.out pend[j] (List.getElem_mem _)
      have HT := Lib.hid (HSN.out j hjl)
      obtain ⟨x, hx⟩ : ∃ x, pend[j] = x := ⟨_, rfl⟩
      obtain ⟨xa, xb⟩ := x
      rw [hx] at hr9 hxm hx64 HT
      dsimp only at hxm hx64 HT
      have hxm' : (xa : Int) < m := by omega
      have hXl := chg_len (x := (xa, xb)) hx64
      have Hx64 := Lib.hid hx64
      have HS64 := Lib.hid (HOK.out j)
      obtain ⟨st, hst⟩ : ∃ st, crashF ks 0 dur (pend.take j) = st := ⟨_, rfl⟩
      rw [hst] at HS64 HT HU
      have hcur : (st.getD xa []).length = 64 := getD_64 HS64.out.2 (by rw [HS64.out.1]; exact hxm)
      obtain ⟨kk, hkk⟩ : ∃ kk, keepN ks j = kk := ⟨_, rfl⟩
      have hk64 : kk ≤ 64 := by rw [← hkk]; exact keepN_le ks j
      rw [hkk] at HT
      obtain ⟨D, hDd⟩ : ∃ D, ((st.getD xa []).map byV).toArray = D := ⟨_, rfl⟩
      have hDs : D.size = 64 := by rw [← hDd]; simp only [List.size_toArray, List.length_map]; exact hcur
      have hD1 : D.all (·.oneCell') = true := by rw [← hDd]; exact all_oneCell_toArray (by_one _)
      have hDl : Hid ((st.getD xa []).map byV = D.toList) := Lib.hid (by rw [← hDd, List.toList_toArray])
      have hmx : (xb.take kk ++ (st.getD xa []).drop kk).length = 64 := by rw [List.length_append, List.length_take, List.length_drop, hx64, hcur]; omega
      obtain ⟨M, hMd⟩ : ∃ M, ((xb.take kk ++ (st.getD xa []).drop kk).map byV).toArray = M := ⟨_, rfl⟩
      have hMs : M.size = 64 := by rw [← hMd]; simp only [List.size_toArray, List.length_map]; exact hmx
      have hM1 : M.all (·.oneCell') = true := by rw [← hMd]; exact all_oneCell_toArray (by_one _)
      have hMl : (xb.take kk ++ (st.getD xa []).drop kk).map byV = M.toList := by rw [← hMd, List.toList_toArray]
      have HMX : Hid ((D.toList.take 0 ++ (xb.take kk).map byV ++ D.toList.drop (0 + ((xb.take kk).map byV).length)).toArray = M) := Lib.hid (by
        rw [← hMd, ← hDl.out, List.length_map, List.length_take, hx64, Nat.min_eq_left hk64, List.take_zero, List.nil_append, Nat.zero_add, List.map_append, List.map_drop])
      have HSS := Lib.hid (show ((secs st).take (xa * 64) ++ M.toList ++ (secs st).drop (xa * 64 + 64)).toArray = (secs (crashF ks 0 dur (pend.take (j + 1)))).toArray by
        rw [← hMl, secs_set HS64.out.2 xa _ (by rw [HS64.out.1]; exact hxm) hmx, HT.out])
      have HFIT := Lib.hid (show xa * 64 + M.toList.length ≤ (secs st).toArray.size by
        rw [List.size_toArray, secs_len HS64.out.2, HS64.out.1, show M.toList.length = 64 from hMs]
        omega)
      have HKK := Lib.hid hkk
      clear hx hf hqr HT hx64 hDd hMd hMl hmx hcur hst hkk
      go_upto_region 3 with (fail)
      apply wp_region_lit
      (refine wpList_plain rfl fun K hK => ?_; go_simp; refine hK _ _ ?_; clear hK K)
      (refine wpList_plain rfl fun K hK => ?_; go_simp; refine hK _ _ ?_; clear hK K)
      refine wpList_load_mid rfl _ _ rfl g9 (j * 65) rfl (chgV (xa, xb)) _ hr9 Tryz.underlying143 rfl (by rw [hXl]; kernel_rfl) ?_
      (refine wpList_plain rfl fun K hK => ?_; go_simp; refine hK _ _ ?_; clear hK K)
      (refine wpList_plain rfl fun K hK => ?_; go_simp; refine hK _ _ ?_; clear hK K)
      generalize hX : Obj.cells _ 143 (0, 0) = X
      have hX2 : ∃ c : Array Value, X = .cells c 143 (0, 0) ∧ c.size = 65 := ⟨_, hX.symm, rfl⟩
      clear hX
      obtain ⟨c5, rfl, hc5⟩ := hX2
      have hs5 := heap_alloc_self wr (.cells c5 143 (0, 0))
      refine wpList_store_row rfl _ _ _ rfl wr.heap.size (chgV (xa, xb)).toArray rfl rfl _ c5 hs5 (by rw [List.size_toArray, hXl]; kernel_rfl) (by rw [hc5, List.size_toArray, hXl]) (all_oneCell_toArray (chg_one _)) ?_
      have h5 := setRow_heap (wr.alloc (.cells c5 143 (0, 0))) wr.heap.size c5 (chgV (xa, xb)).toArray _ _ hs5
      have gA : Gr wr ((wr.alloc (.cells c5 143 (0, 0))).setRow wr.heap.size (chgV (xa, xb)).toArray) := GrL.gr (Gr.refl wr) (l := []) ((GrL.of_gr ((Gr.refl wr).alloc (.cells c5 143 (0, 0)))).setRow wr.heap.size (chgV (xa, xb)).toArray (Or.inl (Nat.le_refl _))) (by simp)
      clear hs5 hc5 hr9
      generalize (wr.alloc (.cells c5 143 (0, 0))).setRow wr.heap.size (chgV (xa, xb)).toArray = W3 at *
      replace hdr := gA.heap hdr
      have hu3 := gA.heap HU.out
      replace gr := gr.trans (GrL.of_gr gA)
      clear gA HU
      generalize wr.heap.size = b5 at *
      by_cases hjk : j < ks.length
      · have hjk' : (j : Int) < ks.length := by omega
        obtain ⟨kg, ko, rfl, hkn, hkgl, hkc⟩ := HKS.out j hjk
        have hkc' : W3.cell? ⟨kg, ko + j, none⟩ = some (.int .i64 ks[j]) := ((gr.at (Nat.le_refl _)).1 kg (ko + j) hkgl (fun hi => hkn (by simp at hi; rw [hi]; exact HDL.out))).trans hkc
        obtain ⟨z, hz⟩ : ∃ z, ks[j] = z := ⟨_, rfl⟩
        rw [hz] at hkc'
        have hkz : keepN ks j = (min (max z 0) 64).toNat := by unfold keepN; rw [List.getElem?_eq_getElem hjk, hz]
        rw [HKK.out] at hkz
        have hmk : min (max z 0) 64 = (kk : Int) := by omega
        have hk64' : (kk : Int) ≤ 64 := by omega
        clear hz hkc HKK hkz
        go_upto_region 7 with (fail)
        obtain ⟨cd, fd, zd⟩ := blk_cells hdr
        have cd0 := cd 0
        simp only [List.getElem?_toArray, List.getElem?_cons_zero] at cd0
        clear cd fd
        obtain ⟨c5', f5, z5⟩ := blk_cells h5
        have c50 := c5' 0
        simp only [chgV, List.getElem?_toArray, List.getElem?_cons_zero] at c50
        clear c5' f5
        refine wp_region_stepsL [9] [.val (.pointer (some ⟨p, 0, none⟩)), .val (.pointer (some ⟨p, 0, none⟩)), .val (.pointer (some ⟨p, 0, none⟩)), .val (.slice (some ⟨du, 0, none⟩) m k1), .val (.pointer (some ⟨b5, 0, none⟩)), .val (.int .i64 xa), .val (.pointer (some ⟨du, xa * 64, none⟩)), .val (.agg D), .sat (fun v u => ∃ b C, v = .pointer (some ⟨b, 0, none⟩) ∧ W3.heap.size ≤ b ∧ C.size = 64 ∧ u.heap[b]? = some (.cells C 140 (0, 0))), .later] (by kernel_rfl) (by kernel_rfl) (fun V => by first | (simp only [finS, Step.isLater, Bool.false_eq_true, if_false, if_true, Act.put, Step.value, List.setIfInBounds_toArray, List.set_cons_zero, List.set_cons_succ]; rfl) | (simp only [finS, Step.isLater, Bool.false_eq_true, if_false, if_true, Act.put, Step.value, List.setIfInBounds_toArray, List.set_cons_zero, List.set_cons_succ, Nat.zero_add, Nat.reduceAdd]; rfl)) ?_ ?_
        · refine ⟨?_, ?_, ?_, ?_, ?_, ?_, ?_, ?_, ?_, ?_, trivial⟩
          · (first | exact trivial | (refine ⟨(by intro v u u1 h g; obtain ⟨b, rfl, h⟩ := h; exact ⟨b, rfl, g.heap h⟩), ?_⟩; intro V u hu hk; refine ⟨by kernel_rfl, ?_⟩; go_simp; exact ⟨⟨_, rfl, heap_alloc_self _ _⟩, (Gr.refl _).alloc _⟩) | (refine ⟨(by intro v u u1 h g; first | exact ownsRow_g h g | exact st_and h g | exact h), ?_⟩; intro V u hu hk; refine ⟨by kernel_rfl, turn_owes (by kernel_rfl) ?_⟩; obtain ⟨hc, hf, hz⟩ := hu.cells; go_simp; skip) | (refine ⟨(by intro v u u1 h g; first | exact ownsRow_g h g | exact st_and h g | exact h), ?_⟩; intro V u hu hk; refine ⟨by kernel_rfl, ?_⟩; obtain ⟨hc, hf, hz⟩ := hu.cells; go_simp; skip) | (intro V u hu hk; refine ⟨by kernel_rfl, ?_⟩; obtain ⟨hc, hf, hz⟩ := hu.cells; go_simp; first | exact ⟨rfl, Gr.refl _⟩ | skip) | (intro V u hu hk; show _ = false; kernel_rfl))
          · (first | exact trivial | (refine ⟨(by intro v u u1 h g; obtain ⟨b, rfl, h⟩ := h; exact ⟨b, rfl, g.heap h⟩), ?_⟩; intro V u hu hk; refine ⟨by kernel_rfl, ?_⟩; go_simp; exact ⟨⟨_, rfl, heap_alloc_self _ _⟩, (Gr.refl _).alloc _⟩) | (refine ⟨(by intro v u u1 h g; first | exact ownsRow_g h g | exact st_and h g | exact h), ?_⟩; intro V u hu hk; refine ⟨by kernel_rfl, turn_owes (by kernel_rfl) ?_⟩; obtain ⟨hc, hf, hz⟩ := hu.cells; go_simp; skip) | (refine ⟨(by intro v u u1 h g; first | exact ownsRow_g h g | exact st_and h g | exact h), ?_⟩; intro V u hu hk; refine ⟨by kernel_rfl, ?_⟩; obtain ⟨hc, hf, hz⟩ := hu.cells; go_simp; skip) | (intro V u hu hk; refine ⟨by kernel_rfl, ?_⟩; obtain ⟨hc, hf, hz⟩ := hu.cells; go_simp; first | exact ⟨rfl, Gr.refl _⟩ | skip) | (intro V u hu hk; show _ = false; kernel_rfl))
          · (first | exact trivial | (refine ⟨(by intro v u u1 h g; obtain ⟨b, rfl, h⟩ := h; exact ⟨b, rfl, g.heap h⟩), ?_⟩; intro V u hu hk; refine ⟨by kernel_rfl, ?_⟩; go_simp; exact ⟨⟨_, rfl, heap_alloc_self _ _⟩, (Gr.refl _).alloc _⟩) | (refine ⟨(by intro v u u1 h g; first | exact ownsRow_g h g | exact st_and h g | exact h), ?_⟩; intro V u hu hk; refine ⟨by kernel_rfl, turn_owes (by kernel_rfl) ?_⟩; obtain ⟨hc, hf, hz⟩ := hu.cells; go_simp; skip) | (refine ⟨(by intro v u u1 h g; first | exact ownsRow_g h g | exact st_and h g | exact h), ?_⟩; intro V u hu hk; refine ⟨by kernel_rfl, ?_⟩; obtain ⟨hc, hf, hz⟩ := hu.cells; go_simp; skip) | (intro V u hu hk; refine ⟨by kernel_rfl, ?_⟩; obtain ⟨hc, hf, hz⟩ := hu.cells; go_simp; first | exact ⟨rfl, Gr.refl _⟩ | skip) | (intro V u hu hk; show _ = false; kernel_rfl))
          · (first | exact trivial | (refine ⟨(by intro v u u1 h g; obtain ⟨b, rfl, h⟩ := h; exact ⟨b, rfl, g.heap h⟩), ?_⟩; intro V u hu hk; refine ⟨by kernel_rfl, ?_⟩; go_simp; exact ⟨⟨_, rfl, heap_alloc_self _ _⟩, (Gr.refl _).alloc _⟩) | (refine ⟨(by intro v u u1 h g; first | exact ownsRow_g h g | exact st_and h g | exact h), ?_⟩; intro V u hu hk; refine ⟨by kernel_rfl, turn_owes (by kernel_rfl) ?_⟩; obtain ⟨hc, hf, hz⟩ := hu.cells; go_simp; skip) | (refine ⟨(by intro v u u1 h g; first | exact ownsRow_g h g | exact st_and h g | exact h), ?_⟩; intro V u hu hk; refine ⟨by kernel_rfl, ?_⟩; obtain ⟨hc, hf, hz⟩ := hu.cells; go_simp; skip) | (intro V u hu hk; refine ⟨by kernel_rfl, ?_⟩; obtain ⟨hc, hf, hz⟩ := hu.cells; go_simp; first | exact ⟨rfl, Gr.refl _⟩ | skip) | (intro V u hu hk; show _ = false; kernel_rfl))
          · (first | exact trivial | (refine ⟨(by intro v u u1 h g; obtain ⟨b, rfl, h⟩ := h; exact ⟨b, rfl, g.heap h⟩), ?_⟩; intro V u hu hk; refine ⟨by kernel_rfl, ?_⟩; go_simp; exact ⟨⟨_, rfl, heap_alloc_self _ _⟩, (Gr.refl _).alloc _⟩) | (refine ⟨(by intro v u u1 h g; first | exact ownsRow_g h g | exact st_and h g | exact h), ?_⟩; intro V u hu hk; refine ⟨by kernel_rfl, turn_owes (by kernel_rfl) ?_⟩; obtain ⟨hc, hf, hz⟩ := hu.cells; go_simp; skip) | (refine ⟨(by intro v u u1 h g; first | exact ownsRow_g h g | exact st_and h g | exact h), ?_⟩; intro V u hu hk; refine ⟨by kernel_rfl, ?_⟩; obtain ⟨hc, hf, hz⟩ := hu.cells; go_simp; skip) | (intro V u hu hk; refine ⟨by kernel_rfl, ?_⟩; obtain ⟨hc, hf, hz⟩ := hu.cells; go_simp; first | exact ⟨rfl, Gr.refl _⟩ | skip) | (intro V u hu hk; show _ = false; kernel_rfl))
          · (first | exact trivial | (refine ⟨(by intro v u u1 h g; obtain ⟨b, rfl, h⟩ := h; exact ⟨b, rfl, g.heap h⟩), ?_⟩; intro V u hu hk; refine ⟨by kernel_rfl, ?_⟩; go_simp; exact ⟨⟨_, rfl, heap_alloc_self _ _⟩, (Gr.refl _).alloc _⟩) | (refine ⟨(by intro v u u1 h g; first | exact ownsRow_g h g | exact st_and h g | exact h), ?_⟩; intro V u hu hk; refine ⟨by kernel_rfl, turn_owes (by kernel_rfl) ?_⟩; obtain ⟨hc, hf, hz⟩ := hu.cells; go_simp; skip) | (refine ⟨(by intro v u u1 h g; first | exact ownsRow_g h g | exact st_and h g | exact h), ?_⟩; intro V u hu hk; refine ⟨by kernel_rfl, ?_⟩; obtain ⟨hc, hf, hz⟩ := hu.cells; go_simp; skip) | (intro V u hu hk; refine ⟨by kernel_rfl, ?_⟩; obtain ⟨hc, hf, hz⟩ := hu.cells; go_simp; first | exact ⟨rfl, Gr.refl _⟩ | skip) | (intro V u hu hk; show _ = false; kernel_rfl))
          · (first | exact trivial | (refine ⟨(by intro v u u1 h g; obtain ⟨b, rfl, h⟩ := h; exact ⟨b, rfl, g.heap h⟩), ?_⟩; intro V u hu hk; refine ⟨by kernel_rfl, ?_⟩; go_simp; exact ⟨⟨_, rfl, heap_alloc_self _ _⟩, (Gr.refl _).alloc _⟩) | (refine ⟨(by intro v u u1 h g; first | exact ownsRow_g h g | exact st_and h g | exact h), ?_⟩; intro V u hu hk; refine ⟨by kernel_rfl, turn_owes (by kernel_rfl) ?_⟩; obtain ⟨hc, hf, hz⟩ := hu.cells; go_simp; skip) | (refine ⟨(by intro v u u1 h g; first | exact ownsRow_g h g | exact st_and h g | exact h), ?_⟩; intro V u hu hk; refine ⟨by kernel_rfl, ?_⟩; obtain ⟨hc, hf, hz⟩ := hu.cells; go_simp; skip) | (intro V u hu hk; refine ⟨by kernel_rfl, ?_⟩; obtain ⟨hc, hf, hz⟩ := hu.cells; go_simp; first | exact ⟨rfl, Gr.refl _⟩ | skip) | (intro V u hu hk; show _ = false; kernel_rfl))
          · exact owes_load _ _ rfl (fun V => by kernel_rfl) du (xa * 64) (fun V => by kernel_rfl) D _ Tryz.underlying140 rfl (by rw [hDs]; kernel_rfl) (by rw [← hDl.out]; exact sec_rangeL hu3 HS64.out.2 HS64.out.1 xa hxm)
          · refine ⟨fun v u u1 h g => by obtain ⟨b, C, h1, h2, h3, h4⟩ := h; exact ⟨b, C, h1, h2, h3, g.heap h4⟩, ?_⟩
            intro V u hu hk
            refine ⟨by kernel_rfl, ?_⟩
            have := hu.b.size
            go_simp
            exact ⟨⟨_, rfl, by omega, _, rfl, heap_alloc_self _ _⟩, (Gr.refl _).alloc _⟩
          · exact trivial
        intro V u hg hs
        obtain ⟨b7, C7, hv7, hb7, hC7, h7⟩ := hs 8 _ rfl
        clear hs cd0 c50
        have h5l := heap_lt h5
        have hst := run_store_at u b7 0 D (there_of h7 0 D.size (by omega)) hD1
        have gW : GrL [b7] u (u.setCells b7 0 D.toList) := GrL.setCells b7 _ 0 u (GrL.of_gr (Gr.refl _)) (Or.inr (by simp))
        have h7' := heap_setCells b7 _ D.toList 0 u _ h7 (by rw [show D.toList.length = 64 from hDs]; omega)
        rw [show D.toList.length = 64 from hDs, List.take_zero, List.nil_append, List.drop_eq_nil_of_le (by rw [show C7.toList.length = 64 from hC7]; exact Nat.le_refl _), List.append_nil, Array.toArray_toList] at h7'
        have gG : Gr W3 (u.setCells b7 0 D.toList) := GrL.gr hg gW (fun i hi => by simp at hi; omega)
        have hdr4 := gG.heap hdr
        have hu4 := gG.heap hu3
        have h54 := gG.heap h5
        have gr4 := gr.trans (GrL.of_gr gG)
        have hb75 : b5 ≠ b7 := by omega
        have hwr4 : du ≠ b7 := by have := heap_lt hu3; omega
        have hpb7 : p ≠ b7 := by have := heap_lt hdr; omega
        have hb7w : w.heap.size ≤ b7 := by have := gr.size; omega
        refine ⟨⟨none, _, _, _, _, _⟩, rfl, rfl, ?_⟩
        rw [hv7]
        generalize u.setCells b7 0 D.toList = W4 at *
        go_simp
        refine Lones.fin ?_
        clear hst gW h7 hv7 hb7 gG hg hdr hu3 h5 h5l gr
        go_upto_region 8 with (fail)
        have hr54 : ∀ (j : Nat) (v : Value), ((xb.take kk).map byV)[j]? = some v → W4.cell? ((⟨b5, 1, none⟩ : Addr).add j) = some v := fun j v hv => by
          rw [Addr.add_mid, (blk_cells h54).1, List.getElem?_toArray, Nat.add_comm 1 j]
          show (xb.map byV)[j]? = some v
          rw [List.map_take, List.getElem?_take] at hv
          split at hv
          · exact hv
          · cases hv
        refine wp_region_stepsL [5] [.val (.int .i64 kk), .val (.slice (some ⟨b7, 0, none⟩) kk 64), .val (.pointer (some ⟨b5, 1, none⟩)), .val (.int .i64 kk), .val (.slice (some ⟨b5, 1, none⟩) kk 64), .later] (by kernel_rfl) (by kernel_rfl) (fun V => by first | (simp only [finS, Step.isLater, Bool.false_eq_true, if_false, if_true, Act.put, Step.value, List.setIfInBounds_toArray, List.set_cons_zero, List.set_cons_succ]; rfl) | (simp only [finS, Step.isLater, Bool.false_eq_true, if_false, if_true, Act.put, Step.value, List.setIfInBounds_toArray, List.set_cons_zero, List.set_cons_succ, Nat.zero_add, Nat.reduceAdd]; rfl)) ?_ ?_
        · refine ⟨?_, ?_, ?_, ?_, ?_, ?_, trivial⟩ <;> (first | exact trivial | (refine ⟨(by intro v u u1 h g; obtain ⟨b, rfl, h⟩ := h; exact ⟨b, rfl, g.heap h⟩), ?_⟩; intro V u hu hk; refine ⟨by kernel_rfl, ?_⟩; go_simp; exact ⟨⟨_, rfl, heap_alloc_self _ _⟩, (Gr.refl _).alloc _⟩) | (refine ⟨(by intro v u u1 h g; first | exact ownsRow_g h g | exact st_and h g | exact h), ?_⟩; intro V u hu hk; refine ⟨by kernel_rfl, turn_owes (by kernel_rfl) ?_⟩; obtain ⟨hc, hf, hz⟩ := hu.cells; go_simp; skip) | (refine ⟨(by intro v u u1 h g; first | exact ownsRow_g h g | exact st_and h g | exact h), ?_⟩; intro V u hu hk; refine ⟨by kernel_rfl, ?_⟩; obtain ⟨hc, hf, hz⟩ := hu.cells; go_simp; skip) | (intro V u hu hk; refine ⟨by kernel_rfl, ?_⟩; obtain ⟨hc, hf, hz⟩ := hu.cells; go_simp; first | exact ⟨rfl, Gr.refl _⟩ | skip) | (intro V u hu hk; show _ = false; kernel_rfl))
          all_goals (first | exact ⟨rfl, Gr.refl _⟩ | (rw [if_pos ⟨by omega, by omega⟩]; exact ⟨rfl, Gr.refl _⟩))
        intro V5 u5 hg5 hs5
        clear hs5
        replace h7' := hg5.heap h7'
        replace hdr4 := hg5.heap hdr4
        replace hu4 := hg5.heap hu4
        replace h54 := hg5.heap h54
        replace gr4 := gr4.trans (GrL.of_gr hg5)
        have hcr := run_copy_row (P := Tryz.prog) u5 57 57 3 5 b7 0 kk 64 ⟨b5, 1, none⟩ kk 64 D 140 ((xb.take kk).map byV) Tryz.underlying57 (by kernel_rfl) h7' (by rw [List.length_map, List.length_take, Hx64.out]; exact (Nat.min_eq_left hk64).trans (Nat.min_self _).symm)
          (fun j v hv => by
            have := hr54 j v hv
            rw [Addr.add_mid] at this ⊢
            exact (hg5.cells.1 b5 _ (World.block_lt_of_cell? _ _ this)).trans this) (by rw [List.length_map, List.length_take, hDs]; omega) (by_one _)
        have h8 := setRow_heap u5 b7 D (D.toList.take 0 ++ (xb.take kk).map byV ++ D.toList.drop (0 + ((xb.take kk).map byV).length)).toArray _ _ h7'
        rw [HMX.out] at hcr h8
        have gW := (GrL.of_gr (Gr.refl u5)).setRow (l := [b7]) b7 M (Or.inr (by simp))
        generalize u5.setRow b7 M = W6 at *
        have hdr6 := (gW.block p (heap_lt hdr4) (by simpa using hpb7)).trans hdr4
        have hu6 := (gW.block du (heap_lt hu4) (by simpa using hwr4)).trans hu4
        have h56 := (gW.block b5 (heap_lt h54) (by simpa using hb75)).trans h54
        have gr6 : GrL [du] w W6 := ⟨gW.os.trans gr4.os, gW.tape.trans gr4.tape, gW.output.trans gr4.output, Nat.le_trans gr4.size gW.size, fun k hk hm => (gW.block k (Nat.lt_of_lt_of_le hk gr4.size) (by simp; omega)).trans (gr4.block k hk hm), trivial⟩
        refine ⟨⟨some 43, _, _, _, _, _⟩, rfl, rfl, ?_⟩
        go_simp
        refine Lones.fin ?_
        clear hcr gW h7' hdr4 hu4 h54 gr4 hg5 hr54
        go_upto_region 9 with (fail)
        obtain ⟨cd, fd, zd⟩ := blk_cells hdr6
        have cd0 := cd 0
        simp only [List.getElem?_toArray, List.getElem?_cons_zero] at cd0
        clear cd fd
        obtain ⟨c5', f5, z5⟩ := blk_cells h56
        have c50 := c5' 0
        simp only [chgV, List.getElem?_toArray, List.getElem?_cons_zero] at c50
        clear c5' f5
        have hr8 : W6.rangeAt b7 0 M.toList := rangeAt_of h8 0 _ (fun j v hv => by simpa using hv)
        refine wp_region_stepsL [8] [.val (.pointer (some ⟨p, 0, none⟩)), .val (.pointer (some ⟨p, 0, none⟩)), .val (.pointer (some ⟨p, 0, none⟩)), .val (.slice (some ⟨du, 0, none⟩) m k1), .val (.pointer (some ⟨b5, 0, none⟩)), .val (.int .i64 xa), .val (.agg M), .val (.pointer (some ⟨du, xa * 64, none⟩)), .later] (by kernel_rfl) (by kernel_rfl) (fun V => by first | (simp only [finS, Step.isLater, Bool.false_eq_true, if_false, if_true, Act.put, Step.value, List.setIfInBounds_toArray, List.set_cons_zero, List.set_cons_succ]; rfl) | (simp only [finS, Step.isLater, Bool.false_eq_true, if_false, if_true, Act.put, Step.value, List.setIfInBounds_toArray, List.set_cons_zero, List.set_cons_succ, Nat.zero_add, Nat.reduceAdd]; rfl)) ?_ ?_
        · refine ⟨?_, ?_, ?_, ?_, ?_, ?_, ?_, ?_, ?_, trivial⟩
          · (first | exact trivial | (refine ⟨(by intro v u u1 h g; obtain ⟨b, rfl, h⟩ := h; exact ⟨b, rfl, g.heap h⟩), ?_⟩; intro V u hu hk; refine ⟨by kernel_rfl, ?_⟩; go_simp; exact ⟨⟨_, rfl, heap_alloc_self _ _⟩, (Gr.refl _).alloc _⟩) | (refine ⟨(by intro v u u1 h g; first | exact ownsRow_g h g | exact st_and h g | exact h), ?_⟩; intro V u hu hk; refine ⟨by kernel_rfl, turn_owes (by kernel_rfl) ?_⟩; obtain ⟨hc, hf, hz⟩ := hu.cells; go_simp; skip) | (refine ⟨(by intro v u u1 h g; first | exact ownsRow_g h g | exact st_and h g | exact h), ?_⟩; intro V u hu hk; refine ⟨by kernel_rfl, ?_⟩; obtain ⟨hc, hf, hz⟩ := hu.cells; go_simp; skip) | (intro V u hu hk; refine ⟨by kernel_rfl, ?_⟩; obtain ⟨hc, hf, hz⟩ := hu.cells; go_simp; first | exact ⟨rfl, Gr.refl _⟩ | skip) | (intro V u hu hk; show _ = false; kernel_rfl))
          · (first | exact trivial | (refine ⟨(by intro v u u1 h g; obtain ⟨b, rfl, h⟩ := h; exact ⟨b, rfl, g.heap h⟩), ?_⟩; intro V u hu hk; refine ⟨by kernel_rfl, ?_⟩; go_simp; exact ⟨⟨_, rfl, heap_alloc_self _ _⟩, (Gr.refl _).alloc _⟩) | (refine ⟨(by intro v u u1 h g; first | exact ownsRow_g h g | exact st_and h g | exact h), ?_⟩; intro V u hu hk; refine ⟨by kernel_rfl, turn_owes (by kernel_rfl) ?_⟩; obtain ⟨hc, hf, hz⟩ := hu.cells; go_simp; skip) | (refine ⟨(by intro v u u1 h g; first | exact ownsRow_g h g | exact st_and h g | exact h), ?_⟩; intro V u hu hk; refine ⟨by kernel_rfl, ?_⟩; obtain ⟨hc, hf, hz⟩ := hu.cells; go_simp; skip) | (intro V u hu hk; refine ⟨by kernel_rfl, ?_⟩; obtain ⟨hc, hf, hz⟩ := hu.cells; go_simp; first | exact ⟨rfl, Gr.refl _⟩ | skip) | (intro V u hu hk; show _ = false; kernel_rfl))
          · (first | exact trivial | (refine ⟨(by intro v u u1 h g; obtain ⟨b, rfl, h⟩ := h; exact ⟨b, rfl, g.heap h⟩), ?_⟩; intro V u hu hk; refine ⟨by kernel_rfl, ?_⟩; go_simp; exact ⟨⟨_, rfl, heap_alloc_self _ _⟩, (Gr.refl _).alloc _⟩) | (refine ⟨(by intro v u u1 h g; first | exact ownsRow_g h g | exact st_and h g | exact h), ?_⟩; intro V u hu hk; refine ⟨by kernel_rfl, turn_owes (by kernel_rfl) ?_⟩; obtain ⟨hc, hf, hz⟩ := hu.cells; go_simp; skip) | (refine ⟨(by intro v u u1 h g; first | exact ownsRow_g h g | exact st_and h g | exact h), ?_⟩; intro V u hu hk; refine ⟨by kernel_rfl, ?_⟩; obtain ⟨hc, hf, hz⟩ := hu.cells; go_simp; skip) | (intro V u hu hk; refine ⟨by kernel_rfl, ?_⟩; obtain ⟨hc, hf, hz⟩ := hu.cells; go_simp; first | exact ⟨rfl, Gr.refl _⟩ | skip) | (intro V u hu hk; show _ = false; kernel_rfl))
          · (first | exact trivial | (refine ⟨(by intro v u u1 h g; obtain ⟨b, rfl, h⟩ := h; exact ⟨b, rfl, g.heap h⟩), ?_⟩; intro V u hu hk; refine ⟨by kernel_rfl, ?_⟩; go_simp; exact ⟨⟨_, rfl, heap_alloc_self _ _⟩, (Gr.refl _).alloc _⟩) | (refine ⟨(by intro v u u1 h g; first | exact ownsRow_g h g | exact st_and h g | exact h), ?_⟩; intro V u hu hk; refine ⟨by kernel_rfl, turn_owes (by kernel_rfl) ?_⟩; obtain ⟨hc, hf, hz⟩ := hu.cells; go_simp; skip) | (refine ⟨(by intro v u u1 h g; first | exact ownsRow_g h g | exact st_and h g | exact h), ?_⟩; intro V u hu hk; refine ⟨by kernel_rfl, ?_⟩; obtain ⟨hc, hf, hz⟩ := hu.cells; go_simp; skip) | (intro V u hu hk; refine ⟨by kernel_rfl, ?_⟩; obtain ⟨hc, hf, hz⟩ := hu.cells; go_simp; first | exact ⟨rfl, Gr.refl _⟩ | skip) | (intro V u hu hk; show _ = false; kernel_rfl))
          · (first | exact trivial | (refine ⟨(by intro v u u1 h g; obtain ⟨b, rfl, h⟩ := h; exact ⟨b, rfl, g.heap h⟩), ?_⟩; intro V u hu hk; refine ⟨by kernel_rfl, ?_⟩; go_simp; exact ⟨⟨_, rfl, heap_alloc_self _ _⟩, (Gr.refl _).alloc _⟩) | (refine ⟨(by intro v u u1 h g; first | exact ownsRow_g h g | exact st_and h g | exact h), ?_⟩; intro V u hu hk; refine ⟨by kernel_rfl, turn_owes (by kernel_rfl) ?_⟩; obtain ⟨hc, hf, hz⟩ := hu.cells; go_simp; skip) | (refine ⟨(by intro v u u1 h g; first | exact ownsRow_g h g | exact st_and h g | exact h), ?_⟩; intro V u hu hk; refine ⟨by kernel_rfl, ?_⟩; obtain ⟨hc, hf, hz⟩ := hu.cells; go_simp; skip) | (intro V u hu hk; refine ⟨by kernel_rfl, ?_⟩; obtain ⟨hc, hf, hz⟩ := hu.cells; go_simp; first | exact ⟨rfl, Gr.refl _⟩ | skip) | (intro V u hu hk; show _ = false; kernel_rfl))
          · (first | exact trivial | (refine ⟨(by intro v u u1 h g; obtain ⟨b, rfl, h⟩ := h; exact ⟨b, rfl, g.heap h⟩), ?_⟩; intro V u hu hk; refine ⟨by kernel_rfl, ?_⟩; go_simp; exact ⟨⟨_, rfl, heap_alloc_self _ _⟩, (Gr.refl _).alloc _⟩) | (refine ⟨(by intro v u u1 h g; first | exact ownsRow_g h g | exact st_and h g | exact h), ?_⟩; intro V u hu hk; refine ⟨by kernel_rfl, turn_owes (by kernel_rfl) ?_⟩; obtain ⟨hc, hf, hz⟩ := hu.cells; go_simp; skip) | (refine ⟨(by intro v u u1 h g; first | exact ownsRow_g h g | exact st_and h g | exact h), ?_⟩; intro V u hu hk; refine ⟨by kernel_rfl, ?_⟩; obtain ⟨hc, hf, hz⟩ := hu.cells; go_simp; skip) | (intro V u hu hk; refine ⟨by kernel_rfl, ?_⟩; obtain ⟨hc, hf, hz⟩ := hu.cells; go_simp; first | exact ⟨rfl, Gr.refl _⟩ | skip) | (intro V u hu hk; show _ = false; kernel_rfl))
          · exact owes_load _ _ rfl (fun V => by kernel_rfl) b7 0 (fun V => by kernel_rfl) M _ Tryz.underlying140 rfl (by rw [hMs]; kernel_rfl) hr8
          · (first | exact trivial | (refine ⟨(by intro v u u1 h g; obtain ⟨b, rfl, h⟩ := h; exact ⟨b, rfl, g.heap h⟩), ?_⟩; intro V u hu hk; refine ⟨by kernel_rfl, ?_⟩; go_simp; exact ⟨⟨_, rfl, heap_alloc_self _ _⟩, (Gr.refl _).alloc _⟩) | (refine ⟨(by intro v u u1 h g; first | exact ownsRow_g h g | exact st_and h g | exact h), ?_⟩; intro V u hu hk; refine ⟨by kernel_rfl, turn_owes (by kernel_rfl) ?_⟩; obtain ⟨hc, hf, hz⟩ := hu.cells; go_simp; skip) | (refine ⟨(by intro v u u1 h g; first | exact ownsRow_g h g | exact st_and h g | exact h), ?_⟩; intro V u hu hk; refine ⟨by kernel_rfl, ?_⟩; obtain ⟨hc, hf, hz⟩ := hu.cells; go_simp; skip) | (intro V u hu hk; refine ⟨by kernel_rfl, ?_⟩; obtain ⟨hc, hf, hz⟩ := hu.cells; go_simp; first | exact ⟨rfl, Gr.refl _⟩ | skip) | (intro V u hu hk; show _ = false; kernel_rfl))
          · exact trivial
        intro V7 u7 hg7 hs7
        clear hs7 cd0 c50 hr8
        replace hu6 := hg7.heap hu6
        have hst := run_store_at u7 du (xa * 64) M (there_of hu6 (xa * 64) M.size HFIT.out) hM1
        have gW : GrL [du] u7 (u7.setCells du (xa * 64) M.toList) := GrL.setCells du _ _ u7 (GrL.of_gr (Gr.refl _)) (Or.inr (by simp))
        have hu' := heap_setCells du _ M.toList (xa * 64) u7 _ hu6 HFIT.out
        rw [show M.toList.length = 64 from hMs, List.toList_toArray, HSS.out] at hu'
        have G5 := (gr6.trans (GrL.of_gr hg7)).trans gW
        have HU' := Lib.hid hu'
        clear gW hu' hu6 hg7 gr6 hdr6 h56 h8
        refine ⟨⟨none, _, _, _, _, _⟩, rfl, rfl, ?_⟩
        generalize u7.setCells du (xa * 64) M.toList = W8 at *
        go_simp
        refine Lones.fin ?_
        clear hst
        go_wp2_with fail
        exact ⟨⟨j+1, by simp, by omega, G5, HU'⟩, by simp [intOf]; omega⟩
      · have hjk' : ¬ (j : Int) < ks.length := by omega
        obtain rfl : kk = 0 := by
          have := HKK.out
          unfold keepN at this
          rw [List.getElem?_eq_none (by omega)] at this
          exact this.symm
        clear HKK
        go_upto_region 7 with (fail)
        obtain ⟨cd, fd, zd⟩ := blk_cells hdr
        have cd0 := cd 0
        simp only [List.getElem?_toArray, List.getElem?_cons_zero] at cd0
        clear cd fd
        obtain ⟨c5', f5, z5⟩ := blk_cells h5
        have c50 := c5' 0
        simp only [chgV, List.getElem?_toArray, List.getElem?_cons_zero] at c50
        clear c5' f5
        refine wp_region_stepsL [9] [.val (.pointer (some ⟨p, 0, none⟩)), .val (.pointer (some ⟨p, 0, none⟩)), .val (.pointer (some ⟨p, 0, none⟩)), .val (.slice (some ⟨du, 0, none⟩) m k1), .val (.pointer (some ⟨b5, 0, none⟩)), .val (.int .i64 xa), .val (.pointer (some ⟨du, xa * 64, none⟩)), .val (.agg D), .sat (fun v u => ∃ b C, v = .pointer (some ⟨b, 0, none⟩) ∧ W3.heap.size ≤ b ∧ C.size = 64 ∧ u.heap[b]? = some (.cells C 140 (0, 0))), .later] (by kernel_rfl) (by kernel_rfl) (fun V => by first | (simp only [finS, Step.isLater, Bool.false_eq_true, if_false, if_true, Act.put, Step.value, List.setIfInBounds_toArray, List.set_cons_zero, List.set_cons_succ]; rfl) | (simp only [finS, Step.isLater, Bool.false_eq_true, if_false, if_true, Act.put, Step.value, List.setIfInBounds_toArray, List.set_cons_zero, List.set_cons_succ, Nat.zero_add, Nat.reduceAdd]; rfl)) ?_ ?_
        · refine ⟨?_, ?_, ?_, ?_, ?_, ?_, ?_, ?_, ?_, ?_, trivial⟩
          · (first | exact trivial | (refine ⟨(by intro v u u1 h g; obtain ⟨b, rfl, h⟩ := h; exact ⟨b, rfl, g.heap h⟩), ?_⟩; intro V u hu hk; refine ⟨by kernel_rfl, ?_⟩; go_simp; exact ⟨⟨_, rfl, heap_alloc_self _ _⟩, (Gr.refl _).alloc _⟩) | (refine ⟨(by intro v u u1 h g; first | exact ownsRow_g h g | exact st_and h g | exact h), ?_⟩; intro V u hu hk; refine ⟨by kernel_rfl, turn_owes (by kernel_rfl) ?_⟩; obtain ⟨hc, hf, hz⟩ := hu.cells; go_simp; skip) | (refine ⟨(by intro v u u1 h g; first | exact ownsRow_g h g | exact st_and h g | exact h), ?_⟩; intro V u hu hk; refine ⟨by kernel_rfl, ?_⟩; obtain ⟨hc, hf, hz⟩ := hu.cells; go_simp; skip) | (intro V u hu hk; refine ⟨by kernel_rfl, ?_⟩; obtain ⟨hc, hf, hz⟩ := hu.cells; go_simp; first | exact ⟨rfl, Gr.refl _⟩ | skip) | (intro V u hu hk; show _ = false; kernel_rfl))
          · (first | exact trivial | (refine ⟨(by intro v u u1 h g; obtain ⟨b, rfl, h⟩ := h; exact ⟨b, rfl, g.heap h⟩), ?_⟩; intro V u hu hk; refine ⟨by kernel_rfl, ?_⟩; go_simp; exact ⟨⟨_, rfl, heap_alloc_self _ _⟩, (Gr.refl _).alloc _⟩) | (refine ⟨(by intro v u u1 h g; first | exact ownsRow_g h g | exact st_and h g | exact h), ?_⟩; intro V u hu hk; refine ⟨by kernel_rfl, turn_owes (by kernel_rfl) ?_⟩; obtain ⟨hc, hf, hz⟩ := hu.cells; go_simp; skip) | (refine ⟨(by intro v u u1 h g; first | exact ownsRow_g h g | exact st_and h g | exact h), ?_⟩; intro V u hu hk; refine ⟨by kernel_rfl, ?_⟩; obtain ⟨hc, hf, hz⟩ := hu.cells; go_simp; skip) | (intro V u hu hk; refine ⟨by kernel_rfl, ?_⟩; obtain ⟨hc, hf, hz⟩ := hu.cells; go_simp; first | exact ⟨rfl, Gr.refl _⟩ | skip) | (intro V u hu hk; show _ = false; kernel_rfl))
          · (first | exact trivial | (refine ⟨(by intro v u u1 h g; obtain ⟨b, rfl, h⟩ := h; exact ⟨b, rfl, g.heap h⟩), ?_⟩; intro V u hu hk; refine ⟨by kernel_rfl, ?_⟩; go_simp; exact ⟨⟨_, rfl, heap_alloc_self _ _⟩, (Gr.refl _).alloc _⟩) | (refine ⟨(by intro v u u1 h g; first | exact ownsRow_g h g | exact st_and h g | exact h), ?_⟩; intro V u hu hk; refine ⟨by kernel_rfl, turn_owes (by kernel_rfl) ?_⟩; obtain ⟨hc, hf, hz⟩ := hu.cells; go_simp; skip) | (refine ⟨(by intro v u u1 h g; first | exact ownsRow_g h g | exact st_and h g | exact h), ?_⟩; intro V u hu hk; refine ⟨by kernel_rfl, ?_⟩; obtain ⟨hc, hf, hz⟩ := hu.cells; go_simp; skip) | (intro V u hu hk; refine ⟨by kernel_rfl, ?_⟩; obtain ⟨hc, hf, hz⟩ := hu.cells; go_simp; first | exact ⟨rfl, Gr.refl _⟩ | skip) | (intro V u hu hk; show _ = false; kernel_rfl))
          · (first | exact trivial | (refine ⟨(by intro v u u1 h g; obtain ⟨b, rfl, h⟩ := h; exact ⟨b, rfl, g.heap h⟩), ?_⟩; intro V u hu hk; refine ⟨by kernel_rfl, ?_⟩; go_simp; exact ⟨⟨_, rfl, heap_alloc_self _ _⟩, (Gr.refl _).alloc _⟩) | (refine ⟨(by intro v u u1 h g; first | exact ownsRow_g h g | exact st_and h g | exact h), ?_⟩; intro V u hu hk; refine ⟨by kernel_rfl, turn_owes (by kernel_rfl) ?_⟩; obtain ⟨hc, hf, hz⟩ := hu.cells; go_simp; skip) | (refine ⟨(by intro v u u1 h g; first | exact ownsRow_g h g | exact st_and h g | exact h), ?_⟩; intro V u hu hk; refine ⟨by kernel_rfl, ?_⟩; obtain ⟨hc, hf, hz⟩ := hu.cells; go_simp; skip) | (intro V u hu hk; refine ⟨by kernel_rfl, ?_⟩; obtain ⟨hc, hf, hz⟩ := hu.cells; go_simp; first | exact ⟨rfl, Gr.refl _⟩ | skip) | (intro V u hu hk; show _ = false; kernel_rfl))
          · (first | exact trivial | (refine ⟨(by intro v u u1 h g; obtain ⟨b, rfl, h⟩ := h; exact ⟨b, rfl, g.heap h⟩), ?_⟩; intro V u hu hk; refine ⟨by kernel_rfl, ?_⟩; go_simp; exact ⟨⟨_, rfl, heap_alloc_self _ _⟩, (Gr.refl _).alloc _⟩) | (refine ⟨(by intro v u u1 h g; first | exact ownsRow_g h g | exact st_and h g | exact h), ?_⟩; intro V u hu hk; refine ⟨by kernel_rfl, turn_owes (by kernel_rfl) ?_⟩; obtain ⟨hc, hf, hz⟩ := hu.cells; go_simp; skip) | (refine ⟨(by intro v u u1 h g; first | exact ownsRow_g h g | exact st_and h g | exact h), ?_⟩; intro V u hu hk; refine ⟨by kernel_rfl, ?_⟩; obtain ⟨hc, hf, hz⟩ := hu.cells; go_simp; skip) | (intro V u hu hk; refine ⟨by kernel_rfl, ?_⟩; obtain ⟨hc, hf, hz⟩ := hu.cells; go_simp; first | exact ⟨rfl, Gr.refl _⟩ | skip) | (intro V u hu hk; show _ = false; kernel_rfl))
          · (first | exact trivial | (refine ⟨(by intro v u u1 h g; obtain ⟨b, rfl, h⟩ := h; exact ⟨b, rfl, g.heap h⟩), ?_⟩; intro V u hu hk; refine ⟨by kernel_rfl, ?_⟩; go_simp; exact ⟨⟨_, rfl, heap_alloc_self _ _⟩, (Gr.refl _).alloc _⟩) | (refine ⟨(by intro v u u1 h g; first | exact ownsRow_g h g | exact st_and h g | exact h), ?_⟩; intro V u hu hk; refine ⟨by kernel_rfl, turn_owes (by kernel_rfl) ?_⟩; obtain ⟨hc, hf, hz⟩ := hu.cells; go_simp; skip) | (refine ⟨(by intro v u u1 h g; first | exact ownsRow_g h g | exact st_and h g | exact h), ?_⟩; intro V u hu hk; refine ⟨by kernel_rfl, ?_⟩; obtain ⟨hc, hf, hz⟩ := hu.cells; go_simp; skip) | (intro V u hu hk; refine ⟨by kernel_rfl, ?_⟩; obtain ⟨hc, hf, hz⟩ := hu.cells; go_simp; first | exact ⟨rfl, Gr.refl _⟩ | skip) | (intro V u hu hk; show _ = false; kernel_rfl))
          · (first | exact trivial | (refine ⟨(by intro v u u1 h g; obtain ⟨b, rfl, h⟩ := h; exact ⟨b, rfl, g.heap h⟩), ?_⟩; intro V u hu hk; refine ⟨by kernel_rfl, ?_⟩; go_simp; exact ⟨⟨_, rfl, heap_alloc_self _ _⟩, (Gr.refl _).alloc _⟩) | (refine ⟨(by intro v u u1 h g; first | exact ownsRow_g h g | exact st_and h g | exact h), ?_⟩; intro V u hu hk; refine ⟨by kernel_rfl, turn_owes (by kernel_rfl) ?_⟩; obtain ⟨hc, hf, hz⟩ := hu.cells; go_simp; skip) | (refine ⟨(by intro v u u1 h g; first | exact ownsRow_g h g | exact st_and h g | exact h), ?_⟩; intro V u hu hk; refine ⟨by kernel_rfl, ?_⟩; obtain ⟨hc, hf, hz⟩ := hu.cells; go_simp; skip) | (intro V u hu hk; refine ⟨by kernel_rfl, ?_⟩; obtain ⟨hc, hf, hz⟩ := hu.cells; go_simp; first | exact ⟨rfl, Gr.refl _⟩ | skip) | (intro V u hu hk; show _ = false; kernel_rfl))
          · exact owes_load _ _ rfl (fun V => by kernel_rfl) du (xa * 64) (fun V => by kernel_rfl) D _ Tryz.underlying140 rfl (by rw [hDs]; kernel_rfl) (by rw [← hDl.out]; exact sec_rangeL hu3 HS64.out.2 HS64.out.1 xa hxm)
          · refine ⟨fun v u u1 h g => by obtain ⟨b, C, h1, h2, h3, h4⟩ := h; exact ⟨b, C, h1, h2, h3, g.heap h4⟩, ?_⟩
            intro V u hu hk
            refine ⟨by kernel_rfl, ?_⟩
            have := hu.b.size
            go_simp
            exact ⟨⟨_, rfl, by omega, _, rfl, heap_alloc_self _ _⟩, (Gr.refl _).alloc _⟩
          · exact trivial
        intro V u hg hs
        obtain ⟨b7, C7, hv7, hb7, hC7, h7⟩ := hs 8 _ rfl
        clear hs cd0 c50
        have h5l := heap_lt h5
        have hst := run_store_at u b7 0 D (there_of h7 0 D.size (by omega)) hD1
        have gW : GrL [b7] u (u.setCells b7 0 D.toList) := GrL.setCells b7 _ 0 u (GrL.of_gr (Gr.refl _)) (Or.inr (by simp))
        have h7' := heap_setCells b7 _ D.toList 0 u _ h7 (by rw [show D.toList.length = 64 from hDs]; omega)
        rw [show D.toList.length = 64 from hDs, List.take_zero, List.nil_append, List.drop_eq_nil_of_le (by rw [show C7.toList.length = 64 from hC7]; exact Nat.le_refl _), List.append_nil, Array.toArray_toList] at h7'
        have gG : Gr W3 (u.setCells b7 0 D.toList) := GrL.gr hg gW (fun i hi => by simp at hi; omega)
        have hdr4 := gG.heap hdr
        have hu4 := gG.heap hu3
        have h54 := gG.heap h5
        have gr4 := gr.trans (GrL.of_gr gG)
        have hb75 : b5 ≠ b7 := by omega
        have hwr4 : du ≠ b7 := by have := heap_lt hu3; omega
        have hpb7 : p ≠ b7 := by have := heap_lt hdr; omega
        have hb7w : w.heap.size ≤ b7 := by have := gr.size; omega
        refine ⟨⟨none, _, _, _, _, _⟩, rfl, rfl, ?_⟩
        rw [hv7]
        generalize u.setCells b7 0 D.toList = W4 at *
        go_simp
        refine Lones.fin ?_
        clear hst gW h7 hv7 hb7 gG hg hdr hu3 h5 h5l gr
        go_upto_region 8 with (fail)
        have hr54 : ∀ (j : Nat) (v : Value), ((xb.take 0).map byV)[j]? = some v → W4.cell? ((⟨b5, 1, none⟩ : Addr).add j) = some v := fun j v hv => by
          rw [Addr.add_mid, (blk_cells h54).1, List.getElem?_toArray, Nat.add_comm 1 j]
          show (xb.map byV)[j]? = some v
          rw [List.map_take, List.getElem?_take] at hv
          split at hv
          · exact hv
          · cases hv
        refine wp_region_stepsL [5] [.val (.int .i64 0), .val (.slice (some ⟨b7, 0, none⟩) 0 64), .val (.pointer (some ⟨b5, 1, none⟩)), .val (.int .i64 0), .val (.slice (some ⟨b5, 1, none⟩) 0 64), .later] (by kernel_rfl) (by kernel_rfl) (fun V => by first | (simp only [finS, Step.isLater, Bool.false_eq_true, if_false, if_true, Act.put, Step.value, List.setIfInBounds_toArray, List.set_cons_zero, List.set_cons_succ]; rfl) | (simp only [finS, Step.isLater, Bool.false_eq_true, if_false, if_true, Act.put, Step.value, List.setIfInBounds_toArray, List.set_cons_zero, List.set_cons_succ, Nat.zero_add, Nat.reduceAdd]; rfl)) ?_ ?_
        · refine ⟨?_, ?_, ?_, ?_, ?_, ?_, trivial⟩ <;> (first | exact trivial | (refine ⟨(by intro v u u1 h g; obtain ⟨b, rfl, h⟩ := h; exact ⟨b, rfl, g.heap h⟩), ?_⟩; intro V u hu hk; refine ⟨by kernel_rfl, ?_⟩; go_simp; exact ⟨⟨_, rfl, heap_alloc_self _ _⟩, (Gr.refl _).alloc _⟩) | (refine ⟨(by intro v u u1 h g; first | exact ownsRow_g h g | exact st_and h g | exact h), ?_⟩; intro V u hu hk; refine ⟨by kernel_rfl, turn_owes (by kernel_rfl) ?_⟩; obtain ⟨hc, hf, hz⟩ := hu.cells; go_simp; skip) | (refine ⟨(by intro v u u1 h g; first | exact ownsRow_g h g | exact st_and h g | exact h), ?_⟩; intro V u hu hk; refine ⟨by kernel_rfl, ?_⟩; obtain ⟨hc, hf, hz⟩ := hu.cells; go_simp; skip) | (intro V u hu hk; refine ⟨by kernel_rfl, ?_⟩; obtain ⟨hc, hf, hz⟩ := hu.cells; go_simp; first | exact ⟨rfl, Gr.refl _⟩ | skip) | (intro V u hu hk; show _ = false; kernel_rfl))
          all_goals (first | exact ⟨rfl, Gr.refl _⟩ | (rw [if_pos ⟨by omega, by omega⟩]; exact ⟨rfl, Gr.refl _⟩))
        intro V5 u5 hg5 hs5
        clear hs5
        replace h7' := hg5.heap h7'
        replace hdr4 := hg5.heap hdr4
        replace hu4 := hg5.heap hu4
        replace h54 := hg5.heap h54
        replace gr4 := gr4.trans (GrL.of_gr hg5)
        have hcr := run_copy_row (P := Tryz.prog) u5 57 57 3 5 b7 0 0 64 ⟨b5, 1, none⟩ 0 64 D 140 ((xb.take 0).map byV) Tryz.underlying57 (by kernel_rfl) h7' (by rw [List.length_map, List.length_take, Hx64.out]; exact (Nat.min_eq_left hk64).trans (Nat.min_self _).symm)
          (fun j v hv => by
            have := hr54 j v hv
            rw [Addr.add_mid] at this ⊢
            exact (hg5.cells.1 b5 _ (World.block_lt_of_cell? _ _ this)).trans this) (by rw [List.length_map, List.length_take, hDs]; omega) (by_one _)
        have h8 := setRow_heap u5 b7 D (D.toList.take 0 ++ (xb.take 0).map byV ++ D.toList.drop (0 + ((xb.take 0).map byV).length)).toArray _ _ h7'
        rw [HMX.out] at hcr h8
        have gW := (GrL.of_gr (Gr.refl u5)).setRow (l := [b7]) b7 M (Or.inr (by simp))
        generalize u5.setRow b7 M = W6 at *
        have hdr6 := (gW.block p (heap_lt hdr4) (by simpa using hpb7)).trans hdr4
        have hu6 := (gW.block du (heap_lt hu4) (by simpa using hwr4)).trans hu4
        have h56 := (gW.block b5 (heap_lt h54) (by simpa using hb75)).trans h54
        have gr6 : GrL [du] w W6 := ⟨gW.os.trans gr4.os, gW.tape.trans gr4.tape, gW.output.trans gr4.output, Nat.le_trans gr4.size gW.size, fun k hk hm => (gW.block k (Nat.lt_of_lt_of_le hk gr4.size) (by simp; omega)).trans (gr4.block k hk hm), trivial⟩
        refine ⟨⟨some 43, _, _, _, _, _⟩, rfl, rfl, ?_⟩
        go_simp
        refine Lones.fin ?_
        clear hcr gW h7' hdr4 hu4 h54 gr4 hg5 hr54
        go_upto_region 9 with (fail)
        obtain ⟨cd, fd, zd⟩ := blk_cells hdr6
        have cd0 := cd 0
        simp only [List.getElem?_toArray, List.getElem?_cons_zero] at cd0
        clear cd fd
        obtain ⟨c5', f5, z5⟩ := blk_cells h56
        have c50 := c5' 0
        simp only [chgV, List.getElem?_toArray, List.getElem?_cons_zero] at c50
        clear c5' f5
        have hr8 : W6.rangeAt b7 0 M.toList := rangeAt_of h8 0 _ (fun j v hv => by simpa using hv)
        refine wp_region_stepsL [8] [.val (.pointer (some ⟨p, 0, none⟩)), .val (.pointer (some ⟨p, 0, none⟩)), .val (.pointer (some ⟨p, 0, none⟩)), .val (.slice (some ⟨du, 0, none⟩) m k1), .val (.pointer (some ⟨b5, 0, none⟩)), .val (.int .i64 xa), .val (.agg M), .val (.pointer (some ⟨du, xa * 64, none⟩)), .later] (by kernel_rfl) (by kernel_rfl) (fun V => by first | (simp only [finS, Step.isLater, Bool.false_eq_true, if_false, if_true, Act.put, Step.value, List.setIfInBounds_toArray, List.set_cons_zero, List.set_cons_succ]; rfl) | (simp only [finS, Step.isLater, Bool.false_eq_true, if_false, if_true, Act.put, Step.value, List.setIfInBounds_toArray, List.set_cons_zero, List.set_cons_succ, Nat.zero_add, Nat.reduceAdd]; rfl)) ?_ ?_
        · refine ⟨?_, ?_, ?_, ?_, ?_, ?_, ?_, ?_, ?_, trivial⟩
          · (first | exact trivial | (refine ⟨(by intro v u u1 h g; obtain ⟨b, rfl, h⟩ := h; exact ⟨b, rfl, g.heap h⟩), ?_⟩; intro V u hu hk; refine ⟨by kernel_rfl, ?_⟩; go_simp; exact ⟨⟨_, rfl, heap_alloc_self _ _⟩, (Gr.refl _).alloc _⟩) | (refine ⟨(by intro v u u1 h g; first | exact ownsRow_g h g | exact st_and h g | exact h), ?_⟩; intro V u hu hk; refine ⟨by kernel_rfl, turn_owes (by kernel_rfl) ?_⟩; obtain ⟨hc, hf, hz⟩ := hu.cells; go_simp; skip) | (refine ⟨(by intro v u u1 h g; first | exact ownsRow_g h g | exact st_and h g | exact h), ?_⟩; intro V u hu hk; refine ⟨by kernel_rfl, ?_⟩; obtain ⟨hc, hf, hz⟩ := hu.cells; go_simp; skip) | (intro V u hu hk; refine ⟨by kernel_rfl, ?_⟩; obtain ⟨hc, hf, hz⟩ := hu.cells; go_simp; first | exact ⟨rfl, Gr.refl _⟩ | skip) | (intro V u hu hk; show _ = false; kernel_rfl))
          · (first | exact trivial | (refine ⟨(by intro v u u1 h g; obtain ⟨b, rfl, h⟩ := h; exact ⟨b, rfl, g.heap h⟩), ?_⟩; intro V u hu hk; refine ⟨by kernel_rfl, ?_⟩; go_simp; exact ⟨⟨_, rfl, heap_alloc_self _ _⟩, (Gr.refl _).alloc _⟩) | (refine ⟨(by intro v u u1 h g; first | exact ownsRow_g h g | exact st_and h g | exact h), ?_⟩; intro V u hu hk; refine ⟨by kernel_rfl, turn_owes (by kernel_rfl) ?_⟩; obtain ⟨hc, hf, hz⟩ := hu.cells; go_simp; skip) | (refine ⟨(by intro v u u1 h g; first | exact ownsRow_g h g | exact st_and h g | exact h), ?_⟩; intro V u hu hk; refine ⟨by kernel_rfl, ?_⟩; obtain ⟨hc, hf, hz⟩ := hu.cells; go_simp; skip) | (intro V u hu hk; refine ⟨by kernel_rfl, ?_⟩; obtain ⟨hc, hf, hz⟩ := hu.cells; go_simp; first | exact ⟨rfl, Gr.refl _⟩ | skip) | (intro V u hu hk; show _ = false; kernel_rfl))
          · (first | exact trivial | (refine ⟨(by intro v u u1 h g; obtain ⟨b, rfl, h⟩ := h; exact ⟨b, rfl, g.heap h⟩), ?_⟩; intro V u hu hk; refine ⟨by kernel_rfl, ?_⟩; go_simp; exact ⟨⟨_, rfl, heap_alloc_self _ _⟩, (Gr.refl _).alloc _⟩) | (refine ⟨(by intro v u u1 h g; first | exact ownsRow_g h g | exact st_and h g | exact h), ?_⟩; intro V u hu hk; refine ⟨by kernel_rfl, turn_owes (by kernel_rfl) ?_⟩; obtain ⟨hc, hf, hz⟩ := hu.cells; go_simp; skip) | (refine ⟨(by intro v u u1 h g; first | exact ownsRow_g h g | exact st_and h g | exact h), ?_⟩; intro V u hu hk; refine ⟨by kernel_rfl, ?_⟩; obtain ⟨hc, hf, hz⟩ := hu.cells; go_simp; skip) | (intro V u hu hk; refine ⟨by kernel_rfl, ?_⟩; obtain ⟨hc, hf, hz⟩ := hu.cells; go_simp; first | exact ⟨rfl, Gr.refl _⟩ | skip) | (intro V u hu hk; show _ = false; kernel_rfl))
          · (first | exact trivial | (refine ⟨(by intro v u u1 h g; obtain ⟨b, rfl, h⟩ := h; exact ⟨b, rfl, g.heap h⟩), ?_⟩; intro V u hu hk; refine ⟨by kernel_rfl, ?_⟩; go_simp; exact ⟨⟨_, rfl, heap_alloc_self _ _⟩, (Gr.refl _).alloc _⟩) | (refine ⟨(by intro v u u1 h g; first | exact ownsRow_g h g | exact st_and h g | exact h), ?_⟩; intro V u hu hk; refine ⟨by kernel_rfl, turn_owes (by kernel_rfl) ?_⟩; obtain ⟨hc, hf, hz⟩ := hu.cells; go_simp; skip) | (refine ⟨(by intro v u u1 h g; first | exact ownsRow_g h g | exact st_and h g | exact h), ?_⟩; intro V u hu hk; refine ⟨by kernel_rfl, ?_⟩; obtain ⟨hc, hf, hz⟩ := hu.cells; go_simp; skip) | (intro V u hu hk; refine ⟨by kernel_rfl, ?_⟩; obtain ⟨hc, hf, hz⟩ := hu.cells; go_simp; first | exact ⟨rfl, Gr.refl _⟩ | skip) | (intro V u hu hk; show _ = false; kernel_rfl))
          · (first | exact trivial | (refine ⟨(by intro v u u1 h g; obtain ⟨b, rfl, h⟩ := h; exact ⟨b, rfl, g.heap h⟩), ?_⟩; intro V u hu hk; refine ⟨by kernel_rfl, ?_⟩; go_simp; exact ⟨⟨_, rfl, heap_alloc_self _ _⟩, (Gr.refl _).alloc _⟩) | (refine ⟨(by intro v u u1 h g; first | exact ownsRow_g h g | exact st_and h g | exact h), ?_⟩; intro V u hu hk; refine ⟨by kernel_rfl, turn_owes (by kernel_rfl) ?_⟩; obtain ⟨hc, hf, hz⟩ := hu.cells; go_simp; skip) | (refine ⟨(by intro v u u1 h g; first | exact ownsRow_g h g | exact st_and h g | exact h), ?_⟩; intro V u hu hk; refine ⟨by kernel_rfl, ?_⟩; obtain ⟨hc, hf, hz⟩ := hu.cells; go_simp; skip) | (intro V u hu hk; refine ⟨by kernel_rfl, ?_⟩; obtain ⟨hc, hf, hz⟩ := hu.cells; go_simp; first | exact ⟨rfl, Gr.refl _⟩ | skip) | (intro V u hu hk; show _ = false; kernel_rfl))
          · (first | exact trivial | (refine ⟨(by intro v u u1 h g; obtain ⟨b, rfl, h⟩ := h; exact ⟨b, rfl, g.heap h⟩), ?_⟩; intro V u hu hk; refine ⟨by kernel_rfl, ?_⟩; go_simp; exact ⟨⟨_, rfl, heap_alloc_self _ _⟩, (Gr.refl _).alloc _⟩) | (refine ⟨(by intro v u u1 h g; first | exact ownsRow_g h g | exact st_and h g | exact h), ?_⟩; intro V u hu hk; refine ⟨by kernel_rfl, turn_owes (by kernel_rfl) ?_⟩; obtain ⟨hc, hf, hz⟩ := hu.cells; go_simp; skip) | (refine ⟨(by intro v u u1 h g; first | exact ownsRow_g h g | exact st_and h g | exact h), ?_⟩; intro V u hu hk; refine ⟨by kernel_rfl, ?_⟩; obtain ⟨hc, hf, hz⟩ := hu.cells; go_simp; skip) | (intro V u hu hk; refine ⟨by kernel_rfl, ?_⟩; obtain ⟨hc, hf, hz⟩ := hu.cells; go_simp; first | exact ⟨rfl, Gr.refl _⟩ | skip) | (intro V u hu hk; show _ = false; kernel_rfl))
          · exact owes_load _ _ rfl (fun V => by kernel_rfl) b7 0 (fun V => by kernel_rfl) M _ Tryz.underlying140 rfl (by rw [hMs]; kernel_rfl) hr8
          · (first | exact trivial | (refine ⟨(by intro v u u1 h g; obtain ⟨b, rfl, h⟩ := h; exact ⟨b, rfl, g.heap h⟩), ?_⟩; intro V u hu hk; refine ⟨by kernel_rfl, ?_⟩; go_simp; exact ⟨⟨_, rfl, heap_alloc_self _ _⟩, (Gr.refl _).alloc _⟩) | (refine ⟨(by intro v u u1 h g; first | exact ownsRow_g h g | exact st_and h g | exact h), ?_⟩; intro V u hu hk; refine ⟨by kernel_rfl, turn_owes (by kernel_rfl) ?_⟩; obtain ⟨hc, hf, hz⟩ := hu.cells; go_simp; skip) | (refine ⟨(by intro v u u1 h g; first | exact ownsRow_g h g | exact st_and h g | exact h), ?_⟩; intro V u hu hk; refine ⟨by kernel_rfl, ?_⟩; obtain ⟨hc, hf, hz⟩ := hu.cells; go_simp; skip) | (intro V u hu hk; refine ⟨by kernel_rfl, ?_⟩; obtain ⟨hc, hf, hz⟩ := hu.cells; go_simp; first | exact ⟨rfl, Gr.refl _⟩ | skip) | (intro V u hu hk; show _ = false; kernel_rfl))
          · exact trivial
        intro V7 u7 hg7 hs7
        clear hs7 cd0 c50 hr8
        replace hu6 := hg7.heap hu6
        have hst := run_store_at u7 du (xa * 64) M (there_of hu6 (xa * 64) M.size HFIT.out) hM1
        have gW : GrL [du] u7 (u7.setCells du (xa * 64) M.toList) := GrL.setCells du _ _ u7 (GrL.of_gr (Gr.refl _)) (Or.inr (by simp))
        have hu' := heap_setCells du _ M.toList (xa * 64) u7 _ hu6 HFIT.out
        rw [show M.toList.length = 64 from hMs, List.toList_toArray, HSS.out] at hu'
        have G5 := (gr6.trans (GrL.of_gr hg7)).trans gW
        have HU' := Lib.hid hu'
        clear gW hu' hu6 hg7 gr6 hdr6 h56 h8
        refine ⟨⟨none, _, _, _, _, _⟩, rfl, rfl, ?_⟩
        generalize u7.setCells du (xa * 64) M.toList = W8 at *
        go_simp
        refine Lones.fin ?_
        clear hst
        go_wp2_with fail
        exact ⟨⟨j+1, by simp, by omega, G5, HU'⟩, by simp [intOf]; omega⟩
    · have hjl' : ¬ (j : Int) < pend.length := by omega
      obtain rfl : j = pend.length := by omega
      have hu9 := HU.out
      obtain ⟨hl9, h649⟩ := HOK.out pend.length
      rw [List.take_length] at hu9 hl9 h649
      have CL := Lib.hid (fun w' (hg : w'.heap[du]? = _) => CloneS_any du m k1 (crashF ks 0 dur pend) w' hg h649 hl9 hm)
      obtain ⟨cd, fd, zd⟩ := blk_cells hdr
      clear HU
      go_wp2_with fail
      refine (CL.out wr hu9).mono ?_
      rintro e w9 ⟨g', k2', X, rfl, hg', hn', g9⟩
      have hd9 := g9.heap hdr
      have hu10 := g9.heap hu9
      have G9 := (gr.mono (m := dbs p du nw (.slice ap pend.length cp)) (by simp [dbs])).trans (GrL.of_gr g9)
      have hg'w : w.heap.size ≤ g' := by have := gr.size; omega
      have hpg' : p ≠ g' := by omega
      have hdg' : du ≠ g' := by omega
      clear cd fd zd hdr hu9 gr g9 CL
      obtain ⟨cd, fd, zd⟩ := blk_cells hd9
      have hw1 := put_at (put_at (put_at (put_at (put_at hd9 2 (.slice none 0 0)) 1 (.slice (some ⟨g', 0, none⟩) m k2')) 3 (.bool false)) 4 (.bool false)) 5 (.int .i64 0)
      have gW : GrL [p] w9 (((((w9.setCell ⟨p, 2, none⟩ (.slice none 0 0)).setCell ⟨p, 1, none⟩ (.slice (some ⟨g', 0, none⟩) m k2')).setCell ⟨p, 3, none⟩ (.bool false)).setCell ⟨p, 4, none⟩ (.bool false)).setCell ⟨p, 5, none⟩ (.int .i64 0)) := (((((GrL.of_gr (Gr.refl _)).set _ _ (Or.inr (by simp))).set _ _ (Or.inr (by simp))).set _ _ (Or.inr (by simp))).set _ _ (Or.inr (by simp))).set _ _ (Or.inr (by simp))
      have HW := Lib.hid hw1
      have HU9 := Lib.hid ((gW.block du (heap_lt hu10) (by simp; omega)).trans hu10)
      have HN9 := Lib.hid ((gW.block g' (heap_lt hn') (by simp; omega)).trans hn')
      have HG := Lib.hid (G9.trans (gW.mono (m := dbs p du nw (.slice ap pend.length cp)) (by simp [dbs])))
      clear hw1 gW hu10 hn' G9
      go_wp2
      go_end0
      refine ⟨g', rfl, HG.out, ⟨⟨k1, k2', false, 0, by simpa [Sp.crash] using HW.out, .inr ⟨rfl, rfl, by omega, Int.le_refl _⟩⟩, HU9.out, ⟨X, HN9.out⟩, World.ownsRow_nil _ _ _ _, hdg'⟩, hg'w⟩
end Go.Proofs.YthmimjofdmnakaaGreatDoor
