/- strickleref01: Read. -/
import Derived.Test.YtconhikflghkdaaGreatDoorReads
namespace Go.Proofs.YtconhikflghkdaaGreatDoor
open Go.RowKit Go.Shelf
/-- the state of the reading loop behind i bytes -/
def rdT (l : List UInt8) (i : Nat) : Int × Bool × Int × Int := (l.take i).foldl rdS (1, false, 0, 0)
structure RdB (st : Int × Bool × Int × Int) : Prop where
  s : st.1 = 1 ∨ st.1 = -1
  x1 : 0 ≤ st.2.2.1
  x2 : st.2.2.1 ≤ 10000000000
  y1 : 0 ≤ st.2.2.2
  y2 : st.2.2.2 ≤ 10000000000
theorem RdB.step {st : Int × Bool × Int × Int} (h : RdB st) (c : UInt8) : RdB (rdS st c) := by
  obtain ⟨s, x1, x2, y1, y2⟩ := h
  refine ⟨?_, ?_, ?_, ?_, ?_⟩
  · simp only [rdS]; split <;> omega
  · simp only [rdS]; split <;> omega
  · simp only [rdS]; split <;> omega
  · simp only [rdS]; split <;> omega
  · simp only [rdS]; split <;> omega
theorem rdB_all (l : List UInt8) : ∀ st, RdB st → RdB (l.foldl rdS st) := by
  induction l with
  | nil => intro st h; exact h
  | cons c l ih => intro st h; exact ih _ (h.step c)
theorem rdT_bd (l : List UInt8) (i : Nat) : RdB (rdT l i) := rdB_all _ _ ⟨.inl rfl, by decide, by decide, by decide, by decide⟩
theorem rdT_succ {l : List UInt8} {i : Nat} (h : i < l.length) : rdT l (i+1) = rdS (rdT l i) l[i] := by
  unfold rdT
  rw [List.take_succ_eq_append_getElem h, List.foldl_append]
  rfl
theorem rWrite_any (a b : Int) (w : World) : Calls Tryz.prog 6 #[fr a b] w fun e w' => e = .returned (.tuple #[.string ⟨(wT a b).toArray⟩, .int .i64 (Rm.err (Rm.okF a b) 1)]) ∧ Gr w w' := by
  cases ho : Rm.okF a b
  · rw [show wT a b = [] by simp [wT, ho], Rm.err_false rfl]
    exact rWrite_no a b w ho
  · rw [show wT a b = wrT a b by simp [wT, ho], Rm.err_true rfl]
    exact rWrite_yes a b w ho
set_option maxRecDepth 100000 in
set_option maxHeartbeats 4000000 in
theorem rRead_core (s : ByteArray) (w : World) (l : List UInt8) (hl : s.data.toList = l) (hs : l.length ≤ 1000) (N D E : Int) (t : List UInt8) (hN : qN l = N) (hD : qD l = D)
    (tw : TW w) (WR : Hid (∀ w, TW w → Calls Tryz.prog 6 #[fr N D] w fun e w' => e = .returned (.tuple #[.string ⟨t.toArray⟩, .int .i64 E]) ∧ Gr w w')) :
    Calls Tryz.prog 8 #[.string s] w fun e w' => e = .returned (.tuple #[fr (if E = 0 ∧ t = l then N else 0) (if E = 0 ∧ t = l then D else 0), .int .i64 (if E = 0 ∧ t = l then 0 else 4)]) ∧ Gr w w' := by
  have HTW := Lib.hid (fun w' (g : Gr w w') => tw.gr g)
  have hsz : s.size = l.length := by rw [← hl]; rfl
  obtain ⟨Q1, hQ1⟩ : ∃ q, (if E = 0 ∧ t = l then N else 0) = q := ⟨_, rfl⟩
  obtain ⟨Q2, hQ2⟩ : ∃ q, (if E = 0 ∧ t = l then D else 0) = q := ⟨_, rfl⟩
  obtain ⟨Q3, hQ3⟩ : ∃ q : Int, (if E = 0 ∧ t = l then 0 else 4) = q := ⟨_, rfl⟩
  rw [hQ1, hQ2, hQ3]
  have HQ := Lib.hid (And.intro hQ1 (And.intro hQ2 hQ3))
  have hN := Lib.hid hN
  have hD := Lib.hid hD
  have HS := Lib.hid hl
  have HX := Lib.hid (fun (i : Nat) (_ : i < l.length) => show s[i]'(by omega) = l[i] by subst hl; rfl)
  clear tw hQ1 hQ2 hQ3 hl
  go_enter Tryz.func8, Tryz.ntmps8
  go_wp2
  have gW : Gr w ((w.alloc (.cells #[.int .i64 0, .int .i64 0] 23)).alloc (.cells #[.int .i64 0, .int .i64 0] 60)) := ((Gr.refl w).alloc _).alloc _
  have bo := Gr.heap ((Gr.refl _).alloc (.cells #[.int .i64 0, .int .i64 0] 60)) (heap_alloc_self w (.cells #[.int .i64 0, .int .i64 0] 23))
  have bp := heap_alloc_self (w.alloc (.cells #[.int .i64 0, .int .i64 0] 23)) (.cells #[.int .i64 0, .int .i64 0] 60)
  rw [World.size_alloc] at bp
  generalize hW : (w.alloc (.cells #[.int .i64 0, .int .i64 0] 23)).alloc (.cells #[.int .i64 0, .int .i64 0] 60) = W at *
  clear hW
  go_loopw [4, 6, 7] (fun p q r wr => ∃ i : Nat, r = .int .i64 i ∧ i ≤ l.length ∧ (l.length ≤ 20 ∨ i = 0) ∧ p = .int .i64 (rdT l i).1 ∧ q = .int .i64 (if (rdT l i).2.1 then 1 else 0) ∧ wr.heap[w.heap.size]? = some (.cells #[.int .i64 0, .int .i64 0] 23 (0, 0)) ∧ wr.heap[w.heap.size + 1]? = some (.cells #[.int .i64 (rdT l i).2.2.1, .int .i64 (rdT l i).2.2.2] 60 (0, 0)) ∧ Gr w wr) (fun _ _ r _ => l.length - (intOf r).toNat)
  case atStart => exact ⟨0, rfl, by omega, .inr rfl, rfl, rfl, bo, bp, gW⟩
  case round =>
    obtain ⟨i, rfl, hi, h20, rfl, rfl, ro, rp, gr⟩ := hrel
    have RB := rdT_bd l i
    obtain ⟨sg, fl, x, y, hst⟩ : ∃ a b c d, rdT l i = (a, b, c, d) := ⟨_, _, _, _, rfl⟩
    rw [hst] at rp RB ⊢
    obtain ⟨r1, r2, r3, r4, r5⟩ := RB
    dsimp only at r1 r2 r3 r4 r5 rp ⊢
    obtain ⟨cx, fx, zx⟩ := blk_cells rp
    by_cases hil : i < l.length ∧ l.length ≤ 20
    · obtain ⟨hil, hl20⟩ := hil
      have ST := rdT_succ hil
      rw [hst] at ST
      have hx := HX.out i hil
      obtain ⟨k, hk⟩ : ∃ k, l[i].toNat = k := ⟨_, rfl⟩
      have hc : (s[i]'(by omega)).toNat = k := by rw [hx]; exact hk
      have hk2 : k < 256 := by rw [← hk]; exact UInt8.toNat_lt _
      generalize l[i] = c at hk hx ST
      have RP := Lib.hid rp
      have RP := Lib.hid rp
      have RP := Lib.hid rp
      have RP := Lib.hid rp
      clear hx hst bo bp gW rp
      have his : i < s.size := by omega
      have hl20' : (l.length : Int) ≤ 20 := by omega
      by_cases k45 : k = 45
      · have ST' : rdT l (i+1) = (-1, fl, x, y) := by rw [ST]; simp [rdS, hk, k45]
        clear ST hk
        have k45' : (k : Int) = 45 := by omega
        go_wp2_with fail
        exact ⟨⟨i+1, by simp, by omega, .inl hl20, by rw [ST'], by rw [ST'], ro, by rw [ST']; exact RP.out, gr⟩, by simp [intOf]; omega⟩
      · by_cases k47 : k = 47
        · have ST' : rdT l (i+1) = (sg, true, x, y) := by rw [ST]; simp [rdS, hk, k47]
          clear ST hk
          have k47' : (k : Int) = 47 := by omega
          go_wp2_with fail
          exact ⟨⟨i+1, by simp, by omega, .inl hl20, by rw [ST'], by rw [ST']; rfl, ro, by rw [ST']; exact RP.out, gr⟩, by simp [intOf]; omega⟩
        · by_cases kd : 48 ≤ k ∧ k ≤ 57
          · obtain ⟨kd1, kd2⟩ := kd
            have n45 : ¬ (k : Int) = 45 := by omega
            have n47 : ¬ (k : Int) = 47 := by omega
            have d1 : (48 : Int) ≤ k := by omega
            have d2 : (k : Int) ≤ 57 := by omega
            have k1 : IntKind.i64.wrap (k : Int) = k := IntWalk.i64_in _ (by omega)
            cases fl
            · have ST' : rdT l (i+1) = (sg, false, min (10*x + (k - 48)) 10000000000, y) := by rw [ST]; simp [rdS, hk, k45, k47, kd1, kd2]
              clear ST hk
              rw [show 10*x + ((k : Int) - 48) = 10*x + k - 48 by omega] at ST'
              have w1 : IntKind.i64.wrap (10*x) = 10*x := IntWalk.i64_in _ (by omega)
              have w2 : IntKind.i64.wrap (10*x + k) = 10*x + k := IntWalk.i64_in _ (by omega)
              have w3 : IntKind.i64.wrap (10*x + k - 48) = 10*x + k - 48 := IntWalk.i64_in _ (by omega)
              go_wp2_with fail
              refine wp_region_plan1 13 [.val (.int .i64 0), .val (.int .i64 0), .val (.pointer (some ⟨w.heap.size + 1, 0, none⟩)), .val (.int .i64 x), .val (.int .i64 (10*x)), .val (.string s), .val (.int .i64 i), .val (.int .u8 k), .val (.int .i64 k), .val (.int .i64 (10*x + k)), .val (.int .i64 (10*x + k - 48)), .val (.int .i64 (min (10*x + k - 48) 10000000000)), .val (.pointer (some ⟨w.heap.size + 1, 0, none⟩)), .later] (by kernel_rfl) (by kernel_rfl) (fun G => by first | (simp only [finAct, Act.put, Plan.value, List.setIfInBounds_toArray, List.set_cons_zero, List.set_cons_succ]; rfl) | (simp only [finAct, Act.put, Plan.value, List.setIfInBounds_toArray, List.set_cons_zero, List.set_cons_succ, Nat.zero_add, Nat.reduceAdd]; rfl)) ?_ ?_
              · refine ⟨?_, ?_, ?_, ?_, ?_, ?_, ?_, ?_, ?_, ?_, ?_, ?_, ?_, ?_, trivial⟩ <;> (first | exact trivial | (intro G; first | (refine ⟨by kernel_rfl, fun u hu => ?_⟩; obtain ⟨hc, hf, hz⟩ := hu.cells; go_simp; first | exact ⟨rfl, Gr.refl _⟩ | skip) | (refine ⟨by kernel_rfl, fun u T z hu hG hj hb => ?_⟩; cases hj; obtain ⟨hbc, hbf, hbz⟩ := blk_cells hb; first | (refine ⟨_, ?_, ((GrL.of_gr (Gr.refl _)).set _ _ (Or.inr (by simp))).set _ _ (Or.inr (by simp)), put_two hb⟩; go_simp; done) | (refine ⟨_, ?_, (GrL.of_gr (Gr.refl _)).set _ _ (Or.inr (by simp)), put_one hb⟩; go_simp; done)) | (refine ⟨by kernel_rfl, fun u => ?_⟩; go_simp; done) | (show _ = false; kernel_rfl)))
              · intro G u hg hb hd
                clear hb hd
                have p1 := cell_put (i := 0) (.int .i64 (min (10*x + k - 48) 10000000000)) (hg.heap RP.out)
                have o1 : (u.setCell ⟨w.heap.size + 1, 0, none⟩ (.int .i64 (min (10*x + k - 48) 10000000000))).heap[w.heap.size]? = some (.cells #[.int .i64 0, .int .i64 0] 23 (0, 0)) := by
                  rw [Below.heap_setCell _ ⟨w.heap.size + 1, 0, none⟩ _ _ (by show w.heap.size ≠ w.heap.size + 1; omega)]; exact hg.heap ro
                have g1 : Gr w (u.setCell ⟨w.heap.size + 1, 0, none⟩ (.int .i64 (min (10*x + k - 48) 10000000000))) := (gr.trans hg).set _ _ (by show w.heap.size ≤ w.heap.size + 1; omega)
                simp only [List.setIfInBounds_toArray, List.set_cons_zero] at p1
                obtain ⟨oc, of, oz⟩ := blk_cells (hg.heap RP.out)
                refine ⟨⟨none, _, _, _, _, _⟩, rfl, rfl, ?_⟩
                go_simp
                go_wp2
                exact ⟨⟨i+1, by simp, by omega, .inl hl20, by rw [ST'], by rw [ST']; rfl, o1, by rw [ST']; exact p1, g1⟩, by simp [intOf]; omega⟩
            · have ST' : rdT l (i+1) = (sg, true, x, min (10*y + (k - 48)) 10000000000) := by rw [ST]; simp [rdS, hk, k45, k47, kd1, kd2]
              clear ST hk
              rw [show 10*y + ((k : Int) - 48) = 10*y + k - 48 by omega] at ST'
              have w1 : IntKind.i64.wrap (10*y) = 10*y := IntWalk.i64_in _ (by omega)
              have w2 : IntKind.i64.wrap (10*y + k) = 10*y + k := IntWalk.i64_in _ (by omega)
              have w3 : IntKind.i64.wrap (10*y + k - 48) = 10*y + k - 48 := IntWalk.i64_in _ (by omega)
              go_wp2_with fail
              refine wp_region_plan1 13 [.val (.int .i64 1), .val (.int .i64 1), .val (.pointer (some ⟨w.heap.size + 1, 1, none⟩)), .val (.int .i64 y), .val (.int .i64 (10*y)), .val (.string s), .val (.int .i64 i), .val (.int .u8 k), .val (.int .i64 k), .val (.int .i64 (10*y + k)), .val (.int .i64 (10*y + k - 48)), .val (.int .i64 (min (10*y + k - 48) 10000000000)), .val (.pointer (some ⟨w.heap.size + 1, 1, none⟩)), .later] (by kernel_rfl) (by kernel_rfl) (fun G => by first | (simp only [finAct, Act.put, Plan.value, List.setIfInBounds_toArray, List.set_cons_zero, List.set_cons_succ]; rfl) | (simp only [finAct, Act.put, Plan.value, List.setIfInBounds_toArray, List.set_cons_zero, List.set_cons_succ, Nat.zero_add, Nat.reduceAdd]; rfl)) ?_ ?_
              · refine ⟨?_, ?_, ?_, ?_, ?_, ?_, ?_, ?_, ?_, ?_, ?_, ?_, ?_, ?_, trivial⟩ <;> (first | exact trivial | (intro G; first | (refine ⟨by kernel_rfl, fun u hu => ?_⟩; obtain ⟨hc, hf, hz⟩ := hu.cells; go_simp; first | exact ⟨rfl, Gr.refl _⟩ | skip) | (refine ⟨by kernel_rfl, fun u T z hu hG hj hb => ?_⟩; cases hj; obtain ⟨hbc, hbf, hbz⟩ := blk_cells hb; first | (refine ⟨_, ?_, ((GrL.of_gr (Gr.refl _)).set _ _ (Or.inr (by simp))).set _ _ (Or.inr (by simp)), put_two hb⟩; go_simp; done) | (refine ⟨_, ?_, (GrL.of_gr (Gr.refl _)).set _ _ (Or.inr (by simp)), put_one hb⟩; go_simp; done)) | (refine ⟨by kernel_rfl, fun u => ?_⟩; go_simp; done) | (show _ = false; kernel_rfl)))
              · intro G u hg hb hd
                clear hb hd
                have p1 := cell_put (i := 1) (.int .i64 (min (10*y + k - 48) 10000000000)) (hg.heap RP.out)
                have o1 : (u.setCell ⟨w.heap.size + 1, 1, none⟩ (.int .i64 (min (10*y + k - 48) 10000000000))).heap[w.heap.size]? = some (.cells #[.int .i64 0, .int .i64 0] 23 (0, 0)) := by
                  rw [Below.heap_setCell _ ⟨w.heap.size + 1, 1, none⟩ _ _ (by show w.heap.size ≠ w.heap.size + 1; omega)]; exact hg.heap ro
                have g1 : Gr w (u.setCell ⟨w.heap.size + 1, 1, none⟩ (.int .i64 (min (10*y + k - 48) 10000000000))) := (gr.trans hg).set _ _ (by show w.heap.size ≤ w.heap.size + 1; omega)
                simp only [List.setIfInBounds_toArray, List.set_cons_zero, List.set_cons_succ] at p1
                obtain ⟨oc, of, oz⟩ := blk_cells (hg.heap RP.out)
                refine ⟨⟨none, _, _, _, _, _⟩, rfl, rfl, ?_⟩
                go_simp
                go_wp2
                exact ⟨⟨i+1, by simp, by omega, .inl hl20, by rw [ST'], by rw [ST']; rfl, o1, by rw [ST']; exact p1, g1⟩, by simp [intOf]; omega⟩
          · have ST' : rdT l (i+1) = (sg, fl, x, y) := by rw [ST]; simp [rdS, hk, k45, k47, kd]
            clear ST hk
            have n45 : ¬ (k : Int) = 45 := by omega
            have n47 : ¬ (k : Int) = 47 := by omega
            by_cases d1 : (48 : Int) ≤ k
            · have d2 : ¬ (k : Int) ≤ 57 := by omega
              go_wp2_with fail
              exact ⟨⟨i+1, by simp, by omega, .inl hl20, by rw [ST'], by rw [ST'], ro, by rw [ST']; exact RP.out, gr⟩, by simp [intOf]; omega⟩
            · go_wp2_with fail
              exact ⟨⟨i+1, by simp, by omega, .inl hl20, by rw [ST'], by rw [ST'], ro, by rw [ST']; exact RP.out, gr⟩, by simp [intOf]; omega⟩
    · obtain ⟨hq, hq2⟩ : ∃ _ : qS l = (sg, fl, x, y), True := ⟨by
        unfold qS
        by_cases h20' : l.length ≤ 20
        · obtain rfl : i = l.length := by omega
          rw [if_pos h20', ← hst]; unfold rdT rdF; rw [List.take_length]
        · obtain rfl : i = 0 := by omega
          rw [if_neg h20', ← hst]; rfl, trivial⟩
      have wn : IntKind.i64.wrap (sg * x) = N := by
        rw [← hN.out]; unfold qN; rw [hq]
        rcases r1 with h | h <;> rw [h] <;> exact IntWalk.i64_in _ (by omega)
      have ed : D = if fl then y else 1 := by rw [← hD.out]; unfold qD; rw [hq]
      have RP := Lib.hid rp
      clear hq hq2 hst r1 r2 r3 r4 r5 HX hN hD bo bp gW
      rcases (show (¬ i < s.size ∧ ¬ (i : Int) < l.length) ∨ (i = 0 ∧ 0 < l.length ∧ ¬ l.length ≤ 20 ∧ ¬ (l.length : Int) ≤ 20) by omega) with ⟨q1, q2⟩ | ⟨rfl, q1, q2, q3⟩
      all_goals
        cases fl
        · obtain rfl : D = 1 := by simpa using ed
          clear ed
          go_wp2_with fail
          have bx1 := heap_alloc_self wr (.cells #[.int .i64 N, .int .i64 1] 23)
          have bo1 := ((Gr.refl _).alloc (.cells #[.int .i64 N, .int .i64 1] 23)).heap ro
          have g1 := gr.alloc (.cells #[.int .i64 N, .int .i64 1] 23)
          refine (WR.out _ (HTW.out _ g1)).mono ?_
          rintro e w2 ⟨rfl, hg2⟩
          have bx2 := hg2.heap bx1
          have bo2 := hg2.heap bo1
          have g2 := g1.trans hg2
          clear bo1 bx1 g1 hg2 WR cx fx zx ro
          obtain ⟨cx, fx, zx⟩ := blk_cells bx2
          obtain ⟨co, fo, zo⟩ := blk_cells bo2
          have eqs : s.toList = l := (ByteArray.toList_eq s).trans HS.out
          by_cases hE : E = 0
          · subst hE
            by_cases hT : t = l
            · have hc : (t == s.toList) = true := by rw [eqs]; exact beq_iff_eq.2 hT
              have hq : Q1 = N ∧ Q2 = 1 ∧ Q3 = 0 := by obtain ⟨a1, a2, a3⟩ := HQ.out; simp [hT] at a1 a2 a3; exact ⟨a1.symm, a2.symm, a3.symm⟩
              clear hT eqs
              go_wp2
              rw [hq.1, hq.2.1, hq.2.2]
              exact bodyPost_ret (v := .tuple #[fr N 1, .int .i64 0]) (by simp [results, Tryz.results8, go_sem, co]) rfl ⟨rfl, (by repeat (first | exact Gr.refl _ | assumption | refine Gr.alloc ?_ _ | refine Gr.drew ?_ | refine Gr.drewN ?_ _ | refine Gr.set ?_ _ _ (by first | (simp; done) | (simp; omega)) | refine Gr.trans ?_ (by assumption)))⟩
            · have hc : (t == s.toList) = false := by rw [eqs]; exact beq_eq_false_iff_ne.2 hT
              have hq : Q1 = 0 ∧ Q2 = 0 ∧ Q3 = 4 := by obtain ⟨a1, a2, a3⟩ := HQ.out; simp [hT] at a1 a2 a3; exact ⟨a1.symm, a2.symm, a3.symm⟩
              clear hT eqs
              go_wp2
              rw [hq.1, hq.2.1, hq.2.2]
              exact bodyPost_ret (v := .tuple #[fr 0 0, .int .i64 4]) (by simp [results, Tryz.results8, go_sem, co]) rfl ⟨rfl, (by repeat (first | exact Gr.refl _ | assumption | refine Gr.alloc ?_ _ | refine Gr.drew ?_ | refine Gr.drewN ?_ _ | refine Gr.set ?_ _ _ (by first | (simp; done) | (simp; omega)) | refine Gr.trans ?_ (by assumption)))⟩
          · have hq : Q1 = 0 ∧ Q2 = 0 ∧ Q3 = 4 := by obtain ⟨a1, a2, a3⟩ := HQ.out; simp [hE] at a1 a2 a3; exact ⟨a1.symm, a2.symm, a3.symm⟩
            have hE' : (E == 0) = false := beq_eq_false_iff_ne.2 hE
            go_wp2
            rw [hq.1, hq.2.1, hq.2.2]
            exact bodyPost_ret (v := .tuple #[fr 0 0, .int .i64 4]) (by simp [results, Tryz.results8, go_sem, co]) rfl ⟨rfl, (by repeat (first | exact Gr.refl _ | assumption | refine Gr.alloc ?_ _ | refine Gr.drew ?_ | refine Gr.drewN ?_ _ | refine Gr.set ?_ _ _ (by first | (simp; done) | (simp; omega)) | refine Gr.trans ?_ (by assumption)))⟩
        · obtain rfl : D = y := by simpa using ed
          clear ed
          go_wp2_with fail
          have bx1 := heap_alloc_self wr (.cells #[.int .i64 N, .int .i64 D] 23)
          have bo1 := ((Gr.refl _).alloc (.cells #[.int .i64 N, .int .i64 D] 23)).heap ro
          have g1 := gr.alloc (.cells #[.int .i64 N, .int .i64 D] 23)
          refine (WR.out _ (HTW.out _ g1)).mono ?_
          rintro e w2 ⟨rfl, hg2⟩
          have bx2 := hg2.heap bx1
          have bo2 := hg2.heap bo1
          have g2 := g1.trans hg2
          clear bo1 bx1 g1 hg2 WR cx fx zx ro
          obtain ⟨cx, fx, zx⟩ := blk_cells bx2
          obtain ⟨co, fo, zo⟩ := blk_cells bo2
          have eqs : s.toList = l := (ByteArray.toList_eq s).trans HS.out
          by_cases hE : E = 0
          · subst hE
            by_cases hT : t = l
            · have hc : (t == s.toList) = true := by rw [eqs]; exact beq_iff_eq.2 hT
              have hq : Q1 = N ∧ Q2 = D ∧ Q3 = 0 := by obtain ⟨a1, a2, a3⟩ := HQ.out; simp [hT] at a1 a2 a3; exact ⟨a1.symm, a2.symm, a3.symm⟩
              clear hT eqs
              go_wp2
              rw [hq.1, hq.2.1, hq.2.2]
              exact bodyPost_ret (v := .tuple #[fr N D, .int .i64 0]) (by simp [results, Tryz.results8, go_sem, co]) rfl ⟨rfl, (by repeat (first | exact Gr.refl _ | assumption | refine Gr.alloc ?_ _ | refine Gr.drew ?_ | refine Gr.drewN ?_ _ | refine Gr.set ?_ _ _ (by first | (simp; done) | (simp; omega)) | refine Gr.trans ?_ (by assumption)))⟩
            · have hc : (t == s.toList) = false := by rw [eqs]; exact beq_eq_false_iff_ne.2 hT
              have hq : Q1 = 0 ∧ Q2 = 0 ∧ Q3 = 4 := by obtain ⟨a1, a2, a3⟩ := HQ.out; simp [hT] at a1 a2 a3; exact ⟨a1.symm, a2.symm, a3.symm⟩
              clear hT eqs
              go_wp2
              rw [hq.1, hq.2.1, hq.2.2]
              exact bodyPost_ret (v := .tuple #[fr 0 0, .int .i64 4]) (by simp [results, Tryz.results8, go_sem, co]) rfl ⟨rfl, (by repeat (first | exact Gr.refl _ | assumption | refine Gr.alloc ?_ _ | refine Gr.drew ?_ | refine Gr.drewN ?_ _ | refine Gr.set ?_ _ _ (by first | (simp; done) | (simp; omega)) | refine Gr.trans ?_ (by assumption)))⟩
          · have hq : Q1 = 0 ∧ Q2 = 0 ∧ Q3 = 4 := by obtain ⟨a1, a2, a3⟩ := HQ.out; simp [hE] at a1 a2 a3; exact ⟨a1.symm, a2.symm, a3.symm⟩
            have hE' : (E == 0) = false := beq_eq_false_iff_ne.2 hE
            go_wp2
            rw [hq.1, hq.2.1, hq.2.2]
            exact bodyPost_ret (v := .tuple #[fr 0 0, .int .i64 4]) (by simp [results, Tryz.results8, go_sem, co]) rfl ⟨rfl, (by repeat (first | exact Gr.refl _ | assumption | refine Gr.alloc ?_ _ | refine Gr.drew ?_ | refine Gr.drewN ?_ _ | refine Gr.set ?_ _ _ (by first | (simp; done) | (simp; omega)) | refine Gr.trans ?_ (by assumption)))⟩
theorem dec_len : ∀ (k u : Nat), u < 10^(k+1) → (Lib.decDigits u).length ≤ k+1
  | 0, u, h => by
    rw [Lib.decDigits, dif_pos (by omega)]
    simp
  | k+1, u, h => by
    rw [Lib.decDigits]
    split
    · simp
    · have := dec_len k (u/10) (by rw [Nat.pow_succ] at h; omega)
      simp
      omega
theorem wrT_len {a b : Int} (h : Rm.okF a b = true) : (wrT a b).length ≤ 20 := by
  obtain ⟨x1, x2, x3, x4, x5⟩ := Rm.okF_iff.1 h
  have p := dec_len 9 a.natAbs (by omega)
  have q := dec_len 6 b.natAbs (by omega)
  have ha : (Lib.itoa a).length ≤ 11 := by
    unfold Lib.itoa
    split
    · simp; omega
    · rw [show a.toNat = a.natAbs by omega]; omega
  have hb : (Lib.itoa b).length ≤ 7 := by
    unfold Lib.itoa
    rw [if_neg (by omega), show b.toNat = b.natAbs by omega]
    exact q
  unfold wrT
  split
  · simp; omega
  · omega
theorem rRead_any (s : ByteArray) (w : World) (hs : s.size ≤ 1000) (tw : TW w) :
    Calls Tryz.prog 8 #[.string s] w fun e w' => e = .returned (.tuple #[fr (rdN s.data.toList) (rdD s.data.toList), .int .i64 (rdE s.data.toList)]) ∧ Gr w w' := by
  have hl : s.data.toList.length ≤ 1000 := by simpa using hs
  obtain ⟨l, e⟩ : ∃ l, s.data.toList = l := ⟨_, rfl⟩
  rw [e] at hl ⊢
  have R := rRead_core s w l e hl (qN l) (qD l) (Rm.err (Rm.okF (qN l) (qD l)) 1) (wT (qN l) (qD l)) rfl rfl tw (Lib.hid (fun w _ => rWrite_any _ _ w))
  have e1 : (Rm.err (Rm.okF (qN l) (qD l)) 1 = 0 ∧ wT (qN l) (qD l) = l) ↔ (Rm.okF (qN l) (qD l) = true ∧ wrT (qN l) (qD l) = l) := by
    unfold wT
    cases Rm.okF (qN l) (qD l)
    · simp [Rm.err_false]
    · simp [Rm.err_true]
  simp only [e1] at R
  by_cases hq : Rm.okF (qN l) (qD l) = true ∧ wrT (qN l) (qD l) = l
  · have hp : pN l = qN l ∧ pD l = qD l := by
      obtain ⟨x1, x2, x3, x4, x5⟩ := Rm.okF_iff.1 hq.1
      have := p_wrT (a := qN l) (b := qD l) (by omega) (by omega) (by omega) (by omega)
      rw [hq.2] at this
      exact this
    have ho : rdOk l = true := by unfold rdOk; rw [hp.1, hp.2]; simp [hq]
    simp only [hq, and_self, if_true] at R
    unfold rdN rdD rdE
    simp only [ho, if_true, hp.1, hp.2]
    exact R
  · have ho : rdOk l = false := by
      cases ho : rdOk l
      · rfl
      · exfalso
        apply hq
        unfold rdOk at ho
        obtain ⟨o1, o2⟩ := Bool.and_eq_true_iff.1 ho
        have o2 := of_decide_eq_true o2
        obtain ⟨x1, x2, x3, x4, x5⟩ := Rm.okF_iff.1 o1
        have := q_wrT (a := pN l) (b := pD l) (by omega) (by omega) (by omega) (by omega) (wrT_len o1)
        rw [o2] at this
        rw [this.1, this.2]
        exact ⟨o1, o2⟩
    simp only [hq, if_false] at R
    unfold rdN rdD rdE
    simp only [ho, Bool.false_eq_true, if_false]
    exact R
end Go.Proofs.YtconhikflghkdaaGreatDoor
