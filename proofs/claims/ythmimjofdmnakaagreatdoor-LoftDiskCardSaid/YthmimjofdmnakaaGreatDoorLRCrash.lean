/- strickleref09: the definition's disk: Crash. -/
import Derived.Test.YthmimjofdmnakaaGreatDoorLRFlush
import Derived.Laws.Small
namespace Go.Proofs.YthmimjofdmnakaaGreatDoor
open Go.RowKit Go.Shelf
theorem crashF_snoc (keep : List Int) : ∀ (l : List (Nat × List UInt8)) (i : Nat) (d : List (List UInt8)) (x : Nat × List UInt8),
    crashF keep i d (l ++ [x]) = (crashF keep i d l).set x.1 (x.2.take (keepN keep (i + l.length)) ++ ((crashF keep i d l).getD x.1 []).drop (keepN keep (i + l.length)))
  | [], i, d, x => rfl
  | y :: l, i, d, x => by
    show crashF keep (i + 1) _ (l ++ [x]) = _
    rw [crashF_snoc keep l (i + 1)]
    have : i + 1 + l.length = i + (y :: l).length := by simp; omega
    rw [this]
    rfl
theorem keepN_le (keep : List Int) (j : Nat) : keepN keep j ≤ 64 := by unfold keepN; split <;> omega
theorem mix_str (a b : List UInt8) (k : Nat) (hb : b.length = 64) : (⟨a.toArray⟩ : ByteArray).extract 0 k ++ (⟨b.toArray⟩ : ByteArray).extract k 64 = ⟨(a.take k ++ b.drop k).toArray⟩ := by
  apply ByteArray.ext
  simp
  rw [List.take_of_length_le (by simp [hb])]
/-- a slice of numbers among the arguments, in blocks that are not these -/
structure KeepAt (w : World) (v : Value) (ks : List Int) (no : List Nat) : Prop where
  s : ∃ a cap, v = .slice a ks.length cap ∧ ∀ j (hj : j < ks.length), ∃ g o, a = some ⟨g, o, none⟩ ∧ g ∉ no ∧ g < w.heap.size ∧ w.cell? ⟨g, o + j, none⟩ = some (.int .i64 ks[j])
set_option maxRecDepth 100000 in
set_option maxHeartbeats 16000000 in
theorem rCrash_any (q : Nat) (dv pv : Value) (S : Sp) (m : Nat) (kv : Value) (ks : List Int) (w : World) (h : RAt w q dv pv S) (ok : S.Ok m) (hm : m ≤ 1000000) (hm0 : 0 < m) (hn : S.pend.length ≤ 1000000) (hK : KeepAt w kv ks (rbs q dv pv)) (hkl : ks.length ≤ 1000000) :
    Calls Tryz.prog 82 #[.pointer (some ⟨q, 0, none⟩), kv] w fun e w' => e = .returned (.tuple #[]) ∧ GrL (rbs q dv pv) w w' ∧ RAt w' q dv (.slice none 0 0) (S.crash ks) := by
  have a1 := h.du
  have a2 := h.pu
  have a3 := h.dp
  obtain ⟨dur, pend, left, down⟩ := S
  obtain ⟨hd, hu, hp⟩ := h
  dsimp only at *
  have hml : dur.length = m := ok.n
  obtain ⟨ad, cd, rfl, -, -, hU⟩ := owns_form hu
  obtain ⟨gd, rfl, -⟩ := hU 0 (by omega)
  have fp := owns_form hp
  obtain ⟨ap, cp, rfl, -, -, -⟩ := fp
  rw [hml] at hd hu a1 a3 hK ⊢
  obtain ⟨ka, kc, rfl, hKs⟩ := hK.s
  have HKS := Lib.hid hKs
  have hgq : gd ≠ q := a1 gd rfl
  have hgp : ∀ g, ap = some ⟨g, 0, none⟩ → gd ≠ g := fun g hg => a3 gd rfl g (by rw [hg]; rfl)
  have HB := Lib.hid (show ∀ i, i ∈ [gd] → i ∈ rbs q (.slice (some ⟨gd, 0, none⟩) m cd) (.slice ap pend.length cp) from fun i hi => by
    simp only [List.mem_singleton] at hi
    subst hi
    simp [rbs, Value.ownBlock])
  have HPM := Lib.hid ok.p
  have HGP := Lib.hid hgp
  have HSN := Lib.hid (fun (j : Nat) (hj : j < pend.length) => show crashF ks 0 dur (pend.take (j + 1)) = (crashF ks 0 dur (pend.take j)).set pend[j].1 (pend[j].2.take (keepN ks j) ++ ((crashF ks 0 dur (pend.take j)).getD pend[j].1 []).drop (keepN ks j)) by
    rw [List.take_succ_eq_append_getElem hj, crashF_snoc, List.length_take, Nat.zero_add, Nat.min_eq_left (by omega)])
  have HOK := Lib.hid (fun (j : Nat) => crashF_ok ks m (pend.take j) 0 dur ok.n ok.s (fun x hx => ok.p x (List.mem_of_mem_take hx)))
  have eN : crashF ks 0 dur pend = crashF ks 0 dur (pend.take pend.length) := by rw [List.take_length]
  have HEN := Lib.hid eN
  have hql := heap_lt hd
  obtain ⟨cx, fx, zx⟩ := blk_cells hd
  have HU0 := Lib.hid hu
  have HP0 := Lib.hid hp
  clear eN ok hU hgp a1 a2 a3 hKs hK hu hp
  go_enter Tryz.func82, Tryz.ntmps82
  go_wp2_with fail
  go_loopw [4] (fun p wr => ∃ j : Nat, p = .int .i64 j ∧ j ≤ pend.length ∧ GrL [gd] w wr ∧ Hid (wr.ownsRow 0 9 1 (.slice (some ⟨gd, 0, none⟩) m cd) m ((crashF ks 0 dur (pend.take j)).map sb))) (fun p _ => pend.length - (intOf p).toNat)
  case atStart => exact ⟨0, rfl, by omega, GrL.of_gr (Gr.refl _), Lib.hid HU0.out⟩
  case round =>
    obtain ⟨j, rfl, hj, gr, HU⟩ := hrel
    have hdr : wr.heap[q]? = some _ := (gr.block q hql (by simpa using Ne.symm hgq)).trans hd
    clear cx fx zx
    obtain ⟨cx, fx, zx⟩ := blk_cells hdr
    by_cases hjl : j < pend.length
    · have hjl' : (j : Int) < pend.length := by omega
      have hpr := ownsRow_gr HP0.out gr (fun i hi => by
        cases ap with
        | none => cases hi
        | some a =>
          obtain ⟨_, _, he, -, -, hf⟩ := owns_form HP0.out
          obtain ⟨g, hg, -⟩ := hf j hjl
          simp only [Value.slice.injEq] at he
          rw [← he.1] at hg
          have := HGP.out g hg
          obtain rfl := Option.some.inj hg
          obtain rfl := Option.some.inj hi
          simpa using Ne.symm this)
      obtain ⟨_, _, he, -, -, hf⟩ := owns_form hpr
      simp only [Value.slice.injEq, true_and] at he
      obtain ⟨rfl, rfl⟩ := he
      obtain ⟨gp, rfl, hpl, -, hPc, -⟩ := hf j hjl
      have hp0 := hPc (j * 2) (by omega)
      have hp1' := hPc (j * 2 + 1) (by omega)
      obtain ⟨q0, q1⟩ := flat2 put_len pend j hjl
      rw [q0] at hp0
      rw [q1] at hp1'
      obtain ⟨hxm, hx64⟩ := HPM.out pend[j] (List.getElem_mem _)
      have HT := Lib.hid (HSN.out j hjl)
      obtain ⟨x, hx⟩ : ∃ x, pend[j] = x := ⟨_, rfl⟩
      obtain ⟨xa, xb⟩ := x
      rw [hx] at hp0 hp1' hxm HT hx64
      simp only [putV, List.getElem?_cons_zero, List.getElem?_cons_succ] at hp0 hp1'
      dsimp only at hxm HT hx64
      have hxm' : (xa : Int) < m := by omega
      have HO := HOK.out j
      obtain ⟨st, hst⟩ : ∃ st, crashF ks 0 dur (pend.take j) = st := ⟨_, rfl⟩
      rw [hst] at HO HT HU
      have HL := Lib.hid HO.1
      have hcur : (st.getD xa []).length = 64 := HO.2 _ (by rw [List.getD_eq_getElem?_getD, List.getElem?_eq_getElem (by rw [HO.1]; exact hxm)]; exact List.getElem_mem _)
      have hX0 : (st.map sb)[xa]? = some (sb (st.getD xa [])) := by
        rw [List.getElem?_map, List.getD_eq_getElem?_getD, List.getElem?_eq_getElem (by rw [HO.1]; exact hxm)]; rfl
      obtain ⟨cur, hcu⟩ : ∃ cur, st.getD xa [] = cur := ⟨_, rfl⟩
      rw [hcu] at hcur hX0 HT
      obtain ⟨kk, hkk⟩ : ∃ kk, keepN ks j = kk := ⟨_, rfl⟩
      have hk64 : kk ≤ 64 := by rw [← hkk]; exact keepN_le ks j
      rw [hkk] at HT
      have hms := mix_str xb cur kk hcur
      obtain ⟨X, hX⟩ : ∃ X : ByteArray, (⟨xb.toArray⟩ : ByteArray) = X := ⟨_, rfl⟩
      obtain ⟨C, hC⟩ : ∃ C : ByteArray, (⟨cur.toArray⟩ : ByteArray) = C := ⟨_, rfl⟩
      have hXs : X.size = 64 := by rw [← hX]; exact hx64
      have hCs : C.size = 64 := by rw [← hC]; exact hcur
      change wr.cell? ⟨gp, j * 2 + 1, none⟩ = some (.string ⟨xb.toArray⟩) at hp1'
      change (st.map sb)[xa]? = some (.string ⟨cur.toArray⟩) at hX0
      rw [hX] at hms hp1'
      rw [hC] at hms hX0
      have HST : Hid ((st.map sb).set xa (.string (X.extract 0 kk ++ C.extract kk 64)) = (crashF ks 0 dur (pend.take (j + 1))).map sb) := Lib.hid (by rw [HT.out, List.map_set, hms])
      have HX0 := Lib.hid hX0
      have e1 : (X.extract 0 kk).size = kk := by rw [ByteArray.size_extract]; omega
      have e2 : (C.extract kk 64).size = 64 - kk := by rw [ByteArray.size_extract]; omega
      have l1 : ¬ 9223372036854775807 < (X.extract 0 kk).size + (C.extract kk 64).size := by omega
      have l2 : ¬ 9223372036854775807 < kk + (64 - kk) := by omega
      clear hx q0 q1 hPc hf hpr hst HO hcu hX hC hms hX0 hx64 hcur HT
      have HKK := Lib.hid hkk
      clear hkk
      by_cases hjk : j < ks.length
      · have hjk' : (j : Int) < ks.length := by omega
        obtain ⟨kg, ko, rfl, hkn, hkgl, hkc⟩ := HKS.out j hjk
        have hkc' : wr.cell? ⟨kg, ko + j, none⟩ = some (.int .i64 ks[j]) := ((gr.at (Nat.le_refl _)).1 kg (ko + j) hkgl (fun hi => hkn (HB.out kg hi))).trans hkc
        obtain ⟨z, hz⟩ : ∃ z, ks[j] = z := ⟨_, rfl⟩
        rw [hz] at hkc'
        have hkz : keepN ks j = (min (max z 0) 64).toNat := by unfold keepN; rw [List.getElem?_eq_getElem hjk, hz]
        rw [HKK.out] at hkz
        clear hz hkc HKK
        have hmk : min (max z 0) 64 = (kk : Int) := by omega
        have hk64' : (kk : Int) ≤ 64 := by omega
        clear hkz
        go_upto_region 6 with (fail)
        have pa6 := heap_alloc_self wr (.cells #[.int .i64 xa, .string X] 237)
        have hdr6 := ((Gr.refl wr).alloc (.cells #[.int .i64 xa, .string X] 237)).heap hdr
        have hU6 := ownsRow_g HU.out ((Gr.refl wr).alloc (.cells #[.int .i64 xa, .string X] 237))
        have gr6 := gr.alloc (.cells #[.int .i64 xa, .string X] 237)
        go_upto_region 7 with (fail)
        obtain ⟨p6, hp6⟩ : ∃ p6, wr.heap.size = p6 := ⟨_, rfl⟩
        rw [hp6] at pa6
        rw [hp6]
        generalize wr.alloc (.cells #[.int .i64 xa, .string X] 237) = W6 at *
        clear hp6 cx fx zx hdr
        obtain ⟨cx, fx, zx⟩ := blk_cells hdr6
        obtain ⟨c6, f6, z6⟩ := blk_cells pa6
        have hgl6 : gd < W6.heap.size := by
          obtain ⟨c, hc⟩ := own_ty hU6 gd rfl
          exact heap_lt hc
        have cg6 := (World.ownsRow.cellAt hU6 xa (by omega)).trans HX0.out
        refine wp_region_stepsL [22] [.val (.pointer (some ⟨q, 0, none⟩)), .val (.pointer (some ⟨q, 0, none⟩)), .val (.pointer (some ⟨q, 0, none⟩)), .val (.slice (some ⟨gd, 0, none⟩) m cd), .val (.pointer (some ⟨p6, 0, none⟩)), .val (.int .i64 xa), .val (.pointer (some ⟨p6, 1, none⟩)), .val (.string X), .val (.int .i64 kk), .val (.string (X.extract 0 kk)),
          .val (.pointer (some ⟨q, 0, none⟩)), .val (.pointer (some ⟨q, 0, none⟩)), .val (.pointer (some ⟨q, 0, none⟩)), .val (.slice (some ⟨gd, 0, none⟩) m cd), .val (.pointer (some ⟨p6, 0, none⟩)), .val (.int .i64 xa), .val (.pointer (some ⟨gd, xa, none⟩)), .val (.string C), .val (.int .i64 kk), .val (.string (C.extract kk 64)), .val (.string (X.extract 0 kk ++ C.extract kk 64)), .val (.pointer (some ⟨gd, xa, none⟩)), .later] (by kernel_rfl) (by kernel_rfl) (fun V => by first | (simp only [finS, Step.isLater, Bool.false_eq_true, if_false, if_true, Act.put, Step.value, List.setIfInBounds_toArray, List.set_cons_zero, List.set_cons_succ]; rfl) | (simp only [finS, Step.isLater, Bool.false_eq_true, if_false, if_true, Act.put, Step.value, List.setIfInBounds_toArray, List.set_cons_zero, List.set_cons_succ, Nat.zero_add, Nat.reduceAdd]; rfl)) ?_ ?_
        · refine ⟨?_, ?_, ?_, ?_, ?_, ?_, ?_, ?_, ?_, ?_, ?_, ?_, ?_, ?_, ?_, ?_, ?_, ?_, ?_, ?_, ?_, ?_, ?_, trivial⟩ <;> (first | exact trivial | (refine ⟨(by intro v u u1 h g; obtain ⟨b, rfl, h⟩ := h; exact ⟨b, rfl, g.heap h⟩), ?_⟩; intro V u hu hk; refine ⟨by kernel_rfl, ?_⟩; go_simp; exact ⟨⟨_, rfl, heap_alloc_self _ _⟩, (Gr.refl _).alloc _⟩) | (refine ⟨(by intro v u u1 h g; first | exact ownsRow_g h g | exact st_and h g | exact h), ?_⟩; intro V u hu hk; refine ⟨by kernel_rfl, turn_owes (by kernel_rfl) ?_⟩; obtain ⟨hc, hf, hz⟩ := hu.cells; go_simp; skip) | (refine ⟨(by intro v u u1 h g; first | exact ownsRow_g h g | exact st_and h g | exact h), ?_⟩; intro V u hu hk; refine ⟨by kernel_rfl, ?_⟩; obtain ⟨hc, hf, hz⟩ := hu.cells; go_simp; skip) | (intro V u hu hk; refine ⟨by kernel_rfl, ?_⟩; obtain ⟨hc, hf, hz⟩ := hu.cells; go_simp; first | exact ⟨rfl, Gr.refl _⟩ | skip) | (intro V u hu hk; show _ = false; kernel_rfl))
          all_goals (first | exact ⟨rfl, Gr.refl _⟩ | (rw [if_pos ⟨by omega, by omega⟩]; exact ⟨rfl, Gr.refl _⟩))
        intro V u hg hs
        clear hs cg6
        have hU := ownsRow_g hU6 hg
        have hUl : st.length = m := HL.out
        have cg : u.cell? ⟨gd, xa, none⟩ = some (.string C) := (World.ownsRow.cellAt hU xa (by omega)).trans HX0.out
        have fg : u.frozen? ⟨gd, xa, none⟩ = false := World.ownsRow.frozenAt hU xa
        have hU2 := (World.ownsRow.stored hU xa (.string (X.extract 0 kk ++ C.extract kk 64))).1
        rw [HST.out] at hU2
        have gW : GrL [gd] u (u.setCell ⟨gd, xa, none⟩ (.string (X.extract 0 kk ++ C.extract kk 64))) := (GrL.of_gr (Gr.refl _)).set _ _ (Or.inr (by simp))
        have G2 := (gr6.trans (GrL.of_gr hg)).trans gW
        have HU2 := Lib.hid hU2
        clear hU hU2 HU hUl hU6
        refine ⟨⟨none, _, _, _, _, _⟩, rfl, rfl, ?_⟩
        go_simp
        refine Lones.fin ?_
        clear cg fg gW
        generalize u.setCell ⟨gd, xa, none⟩ (.string (X.extract 0 kk ++ C.extract kk 64)) = W5 at *
        go_wp2_with fail
        exact ⟨⟨j+1, by simp, by omega, G2, HU2⟩, by simp [intOf]; omega⟩
      · have hjk' : ¬ (j : Int) < ks.length := by omega
        obtain rfl : kk = 0 := by
          have := HKK.out
          unfold keepN at this
          rw [List.getElem?_eq_none (by omega)] at this
          exact this.symm
        clear HKK
        have ez : X.extract 0 0 ++ C.extract 0 64 = C.extract 0 64 := by simp
        rw [ez] at HST
        clear ez
        go_upto_region 6 with (fail)
        have pa6 := heap_alloc_self wr (.cells #[.int .i64 xa, .string X] 237)
        have hdr6 := ((Gr.refl wr).alloc (.cells #[.int .i64 xa, .string X] 237)).heap hdr
        have hU6 := ownsRow_g HU.out ((Gr.refl wr).alloc (.cells #[.int .i64 xa, .string X] 237))
        have gr6 := gr.alloc (.cells #[.int .i64 xa, .string X] 237)
        go_upto_region 7 with (fail)
        obtain ⟨p6, hp6⟩ : ∃ p6, wr.heap.size = p6 := ⟨_, rfl⟩
        rw [hp6] at pa6
        rw [hp6]
        generalize wr.alloc (.cells #[.int .i64 xa, .string X] 237) = W6 at *
        clear hp6 cx fx zx hdr
        obtain ⟨cx, fx, zx⟩ := blk_cells hdr6
        obtain ⟨c6, f6, z6⟩ := blk_cells pa6
        have hgl6 : gd < W6.heap.size := by
          obtain ⟨c, hc⟩ := own_ty hU6 gd rfl
          exact heap_lt hc
        have cg6 := (World.ownsRow.cellAt hU6 xa (by omega)).trans HX0.out
        refine wp_region_stepsL [22] [.val (.pointer (some ⟨q, 0, none⟩)), .val (.pointer (some ⟨q, 0, none⟩)), .val (.pointer (some ⟨q, 0, none⟩)), .val (.slice (some ⟨gd, 0, none⟩) m cd), .val (.pointer (some ⟨p6, 0, none⟩)), .val (.int .i64 xa), .val (.pointer (some ⟨p6, 1, none⟩)), .val (.string X), .val (.int .i64 0), .val (.string (X.extract 0 0)),
          .val (.pointer (some ⟨q, 0, none⟩)), .val (.pointer (some ⟨q, 0, none⟩)), .val (.pointer (some ⟨q, 0, none⟩)), .val (.slice (some ⟨gd, 0, none⟩) m cd), .val (.pointer (some ⟨p6, 0, none⟩)), .val (.int .i64 xa), .val (.pointer (some ⟨gd, xa, none⟩)), .val (.string C), .val (.int .i64 0), .val (.string (C.extract 0 64)), .val (.string (X.extract 0 0 ++ C.extract 0 64)), .val (.pointer (some ⟨gd, xa, none⟩)), .later] (by kernel_rfl) (by kernel_rfl) (fun V => by first | (simp only [finS, Step.isLater, Bool.false_eq_true, if_false, if_true, Act.put, Step.value, List.setIfInBounds_toArray, List.set_cons_zero, List.set_cons_succ]; rfl) | (simp only [finS, Step.isLater, Bool.false_eq_true, if_false, if_true, Act.put, Step.value, List.setIfInBounds_toArray, List.set_cons_zero, List.set_cons_succ, Nat.zero_add, Nat.reduceAdd]; rfl)) ?_ ?_
        · refine ⟨?_, ?_, ?_, ?_, ?_, ?_, ?_, ?_, ?_, ?_, ?_, ?_, ?_, ?_, ?_, ?_, ?_, ?_, ?_, ?_, ?_, ?_, ?_, trivial⟩ <;> (first | exact trivial | (refine ⟨(by intro v u u1 h g; obtain ⟨b, rfl, h⟩ := h; exact ⟨b, rfl, g.heap h⟩), ?_⟩; intro V u hu hk; refine ⟨by kernel_rfl, ?_⟩; go_simp; exact ⟨⟨_, rfl, heap_alloc_self _ _⟩, (Gr.refl _).alloc _⟩) | (refine ⟨(by intro v u u1 h g; first | exact ownsRow_g h g | exact st_and h g | exact h), ?_⟩; intro V u hu hk; refine ⟨by kernel_rfl, turn_owes (by kernel_rfl) ?_⟩; obtain ⟨hc, hf, hz⟩ := hu.cells; go_simp; skip) | (refine ⟨(by intro v u u1 h g; first | exact ownsRow_g h g | exact st_and h g | exact h), ?_⟩; intro V u hu hk; refine ⟨by kernel_rfl, ?_⟩; obtain ⟨hc, hf, hz⟩ := hu.cells; go_simp; skip) | (intro V u hu hk; refine ⟨by kernel_rfl, ?_⟩; obtain ⟨hc, hf, hz⟩ := hu.cells; go_simp; first | exact ⟨rfl, Gr.refl _⟩ | skip) | (intro V u hu hk; show _ = false; kernel_rfl))
          all_goals (first | exact ⟨rfl, Gr.refl _⟩ | (rw [if_pos ⟨by omega, by omega⟩]; exact ⟨rfl, Gr.refl _⟩))
        intro V u hg hs
        clear hs cg6
        have hU := ownsRow_g hU6 hg
        have hUl : st.length = m := HL.out
        have cg : u.cell? ⟨gd, xa, none⟩ = some (.string C) := (World.ownsRow.cellAt hU xa (by omega)).trans HX0.out
        have fg : u.frozen? ⟨gd, xa, none⟩ = false := World.ownsRow.frozenAt hU xa
        have hU2 := (World.ownsRow.stored hU xa (.string (C.extract 0 64))).1
        rw [HST.out] at hU2
        have gW : GrL [gd] u (u.setCell ⟨gd, xa, none⟩ (.string (C.extract 0 64))) := (GrL.of_gr (Gr.refl _)).set _ _ (Or.inr (by simp))
        have G2 := (gr6.trans (GrL.of_gr hg)).trans gW
        have HU2 := Lib.hid hU2
        clear hU hU2 HU hUl hU6
        refine ⟨⟨none, _, _, _, _, _⟩, rfl, rfl, ?_⟩
        go_simp
        refine Lones.fin ?_
        clear cg fg gW
        generalize u.setCell ⟨gd, xa, none⟩ (.string (C.extract 0 64)) = W5 at *
        go_wp2_with fail
        exact ⟨⟨j+1, by simp, by omega, G2, HU2⟩, by simp [intOf]; omega⟩
    · have hjl' : ¬ (j : Int) < pend.length := by omega
      obtain rfl : j = pend.length := by omega
      have hw1 := put_at (put_at (put_at hdr 1 (.slice none 0 0)) 2 (.int .i64 (-1))) 3 (.bool false)
      have gW : GrL [q] wr (((wr.setCell ⟨q, 1, none⟩ (.slice none 0 0)).setCell ⟨q, 2, none⟩ (.int .i64 (-1))).setCell ⟨q, 3, none⟩ (.bool false)) := (((GrL.of_gr (Gr.refl _)).set _ _ (Or.inr (by simp))).set _ _ (Or.inr (by simp))).set _ _ (Or.inr (by simp))
      have hU9 := ownsRow_gr HU.out gW (fun i hi => by
        obtain rfl := Option.some.inj hi
        simpa using hgq)
      have G9 := (gr.mono HB.out).trans (gW.mono (m := rbs q (.slice (some ⟨gd, 0, none⟩) m cd) (.slice ap pend.length cp)) (by simp [rbs]))
      have HU9 := Lib.hid hU9
      have HW := Lib.hid hw1
      have hcl := (crashF_ok ks m pend 0 dur)
      have HL9 := Lib.hid (HOK.out pend.length).1
      clear hU9 HU gW hw1 hcl
      go_wp2
      go_end0
      refine ⟨rfl, G9, ?_, ?_, rfl_nil _⟩
      · have := HW.out
        simpa [Sp.crash] using this
      · have h1 := HU9.out
        have h2 := HL9.out
        rw [List.take_length] at h1 h2
        show World.ownsRow _ 0 9 1 _ (crashF ks 0 dur pend).length _
        rw [h2]
        exact h1
end Go.Proofs.YthmimjofdmnakaaGreatDoor
