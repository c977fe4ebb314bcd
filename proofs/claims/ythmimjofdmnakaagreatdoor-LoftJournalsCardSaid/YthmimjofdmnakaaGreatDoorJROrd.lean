/- strickleref09: Order. -/
import Derived.Test.YthmimjofdmnakaaGreatDoorJApp
import Derived.Test.YthmimjofdmnakaaGreatDoorStepsK
namespace Go.Proofs.YthmimjofdmnakaaGreatDoor
open Go.RowKit Go.Shelf Go.Lib
set_option maxRecDepth 100000 in
set_option maxHeartbeats 2000000 in
theorem OrdA_bad (n : Int) (v : Value) (w : World) (hc : (decide (n = 3) || decide (n = 5)) = false) :
    Calls Tryz.prog 18 #[.int .i64 n, v] w fun e w' => e = .returned (.tuple #[.slice none 0 0, .int .i64 1]) ∧ Gr w w' := by
  have CH := Lib.hid (CheckR_no n v w hc)
  clear hc
  go_enter Tryz.func18, Tryz.ntmps18
  go_wp2_with fail
  refine CH.out.mono ?_
  rintro e w1 ⟨rfl, hg1⟩
  go_wp2
  go_ret2
  exact ⟨rfl, hg1⟩
set_option maxRecDepth 100000 in
set_option maxHeartbeats 2000000 in
theorem rOrd_no (n : Int) (v : Value) (i0 e0 : Int) (w : World) (h0 : e0 ≠ 0)
    (hc : ∀ u, Gr w u → Calls Tryz.prog 17 #[.int .i64 n, v] u fun e w' => e = .returned (.tuple #[.int .i64 i0, .int .i64 e0]) ∧ Gr u w') :
    Calls Tryz.prog 19 #[.int .i64 n, v] w fun e w' => e = .returned (.tuple #[.slice none 0 0, .int .i64 e0]) ∧ Gr w w' := by
  have CH := Lib.hid hc
  have h1 : (e0 == 0) = false := by simpa using h0
  have h2 : decide (e0 = 0) = false := by simpa using h0
  clear hc
  go_enter Tryz.func19, Tryz.ntmps19
  go_wp2_with fail
  refine (CH.out _ (Gr.refl w)).mono ?_
  rintro e w1 ⟨rfl, hg1⟩
  go_wp2
  go_ret2
  exact ⟨rfl, hg1⟩
theorem tw_take {α : Type} (P : α → Bool) : ∀ (m : List α) (k : Nat), k ≤ m.length → (∀ j (hj : j < m.length), j < k → P m[j] = true) → (∀ h : k < m.length, P m[k] = false) → m.takeWhile P = m.take k ∧ m.dropWhile P = m.drop k
  | [], k, _, _, _ => by simp
  | a :: m, 0, _, _, h => by
    have h0 := h (by simp)
    simp only [List.getElem_cons_zero] at h0
    simp [h0]
  | a :: m, k + 1, hk, h1, h2 => by
    have h0 := h1 0 (by simp) (by omega)
    simp only [List.getElem_cons_zero] at h0
    obtain ⟨e1, e2⟩ := tw_take P m k (by simpa using hk) (fun j hj hjk => h1 (j+1) (by simpa using hj) (by omega)) (fun h => h2 (by simpa using h))
    simp [h0, e1, e2]
theorem insO_at {m : List Rc} {x : Rc} {k : Nat} (hk : k ≤ m.length) (h1 : ∀ j (hj : j < m.length), j < k → befR m[j] x = true) (h2 : ∀ h : k < m.length, befR m[k] x = false) : insO m x = m.take k ++ [x] ++ m.drop k := by
  obtain ⟨e1, e2⟩ := tw_take (fun a => befR a x) m k hk h1 h2
  unfold insO
  rw [e1, e2]
theorem ordO_step {l : List Rc} {i : Nat} (hi : i < l.length) : ordO (l.take (i+1)) = insO (ordO (l.take i)) l[i] := by
  unfold ordO
  rw [List.take_succ_eq_append_getElem hi, List.foldl_append]
  rfl
theorem insO_len (l : List Rc) (x : Rc) : (insO l x).length = l.length + 1 := by
  have := (insO_perm l x).length_eq
  simpa using this
set_option maxRecDepth 100000 in
set_option maxHeartbeats 16000000 in
theorem rOrd_yes (n : Int) (v : Value) (l : List Rc) (w : World) (hv : RecsAt w v l) (hl : l.length ≤ 1000)
    (hc : ∀ u, Gr w u → Calls Tryz.prog 17 #[.int .i64 n, v] u fun e w' => e = .returned (.tuple #[.int .i64 0, .int .i64 0]) ∧ Gr u w') :
    Calls Tryz.prog 19 #[.int .i64 n, v] w fun e w' => ∃ v', e = .returned (.tuple #[v', .int .i64 0]) ∧ w'.ownsRow w.heap.size 23 4 v' (ordO l).length (rcs (ordO l)) ∧ Gr w w' := by
  have CH := Lib.hid hc
  obtain ⟨al, cl, rfl, hcl, hcell⟩ := hv
  have HC := Lib.hid hcell
  have BF := Lib.hid (fun a b w => before_any a b w)
  clear hc hcell
  go_enter Tryz.func19, Tryz.ntmps19
  go_wp2_with fail
  refine (CH.out _ (Gr.refl w)).mono ?_
  rintro e w1 ⟨rfl, hg1⟩
  clear CH
  go_wp2
  go_loopw [8, 9, 10] (fun o q _ wr => ∃ i : Nat, q = .int .i64 i ∧ i ≤ l.length ∧ Hid (wr.ownsRow w.heap.size 23 4 o (ordO (l.take i)).length (rcs (ordO (l.take i)))) ∧ Gr w wr) (fun _ q _ _ => l.length - (intOf q).toNat)
  case atStart => exact ⟨0, rfl, by omega, Lib.hid (World.ownsRow_nil _ _ _ _), hg1⟩
  case round =>
    obtain ⟨i, rfl, hi, HO, gr⟩ := hrel
    by_cases hil : i < l.length
    · have hil' : (i : Int) < l.length := by omega
      have hi0 : (0 : Int) ≤ i := by omega
      obtain ⟨g, o, rfl, hgl, c0, c1, c2, c3⟩ := HC.out i hil
      have HST := Lib.hid (ordO_step hil)
      have hml : (ordO (l.take i)).length ≤ 1000 := by
        have : ∀ (l acc : List Rc), (l.foldl insO acc).length = acc.length + l.length := fun l => by
          induction l with
          | nil => intro acc; rfl
          | cons a l ih => intro acc; rw [List.foldl_cons, ih, insO_len, List.length_cons]; omega
        unfold ordO
        rw [this, List.length_take]
        simp
        omega
      obtain ⟨m, hm⟩ : ∃ m, ordO (l.take i) = m := ⟨_, rfl⟩
      rw [hm] at HO HST hml
      clear hm
      generalize l[i] = x at *
      obtain ⟨ao, co, rfl⟩ := own_slice HO.out
      have HCO := Lib.hid (recs_of_own HO.out).cells.2
      go_wp2
      go_loopw [10] (fun q wr2 => ∃ k : Nat, q = .int .i64 k ∧ k ≤ m.length ∧ Hid (∀ j (hj : j < m.length), j < k → befR m[j] x = true) ∧ Gr wr wr2) (fun q _ => m.length - (intOf q).toNat)
      case atStart => exact ⟨0, rfl, by omega, Lib.hid (fun j _ h => absurd h (Nat.not_lt_zero _)), Gr.refl _⟩
      case round =>
        obtain ⟨k, rfl, hk, HB, gi⟩ := hrel
        rw [← (gr.trans gi).cells.1 g _ hgl] at c0 c1 c2 c3
        have hzg : g < wr.heap.size := Nat.lt_of_lt_of_le hgl (gr.trans gi).b.size
        by_cases hkm : k < m.length
        · have hkm' : (k : Int) < m.length := by omega
          have hk0 : (0 : Int) ≤ k := by omega
          obtain ⟨gx, om, rfl, hgm, d0, d1, d2, d3⟩ := HCO.out k hkm
          rw [← gi.cells.1 gx _ hgm] at d0 d1 d2 d3
          have hzm : gx < wr.heap.size := Nat.lt_of_lt_of_le hgm gi.b.size
          obtain ⟨bq, hbq⟩ : ∃ b, befR m[k] x = b := ⟨_, rfl⟩
          have BFK := Lib.hid (fun w => BF.out m[k] x w)
          rw [hbq] at BFK
          cases bq
          · have HE : Hid (∀ h : k < m.length, befR m[k] x = false) := Lib.hid (fun _ => hbq)
            clear hbq
            generalize m[k] = y at *
            go_wp2_with fail
            refine wp_region_steps [.val (.int .i64 k), .val (.slice (some ⟨gx, om, none⟩) m.length co), .val (.int .i64 m.length), .val (.bool true), .val (.bool true), .val (.slice (some ⟨gx, om, none⟩) m.length co), .val (.int .i64 k), .val (.pointer (some ⟨gx, om + k * 4, none⟩)), .val y.v, .val (.slice (some ⟨g, o, none⟩) l.length cl), .val (.int .i64 i), .val (.pointer (some ⟨g, o + i * 4, none⟩)), .val x.v, .val (.bool false), .val (.bool false)] (by kernel_rfl) (by kernel_rfl) (fun V => by first | (simp only [finS, Step.isLater, Bool.false_eq_true, if_false, Act.put, Step.value, List.setIfInBounds_toArray, List.set_cons_zero, List.set_cons_succ]; rfl) | (simp only [finS, Step.isLater, Bool.false_eq_true, if_false, if_true, Act.put, Step.value, List.setIfInBounds_toArray, List.set_cons_zero, List.set_cons_succ, Nat.zero_add, Nat.reduceAdd]; rfl)) ?_ ?_
            · refine ⟨?_, ?_, ?_, ?_, ?_, ?_, ?_, ?_, ?_, ?_, ?_, ?_, ?_, ?_, ?_, trivial⟩ <;> (first | exact trivial | (refine ⟨(by intro v u u1 h g; obtain ⟨b, rfl, h⟩ := h; exact ⟨b, rfl, g.heap h⟩), ?_⟩; intro V u hu hk; refine ⟨by kernel_rfl, ?_⟩; go_simp; exact ⟨⟨_, rfl, heap_alloc_self _ _⟩, (Gr.refl _).alloc _⟩) | (refine ⟨(by intro v u u1 h g; first | exact ownsRow_g h g | exact st_and h g | exact h), ?_⟩; intro V u hu hk; refine ⟨by kernel_rfl, turn_owes (by kernel_rfl) ?_⟩; obtain ⟨hc, hf, hz⟩ := hu.cells; go_simp; skip) | (refine ⟨(by intro v u u1 h g; first | exact ownsRow_g h g | exact st_and h g | exact h), ?_⟩; intro V u hu hk; refine ⟨by kernel_rfl, ?_⟩; obtain ⟨hc, hf, hz⟩ := hu.cells; go_simp; skip) | (intro V u hu hk; refine ⟨by kernel_rfl, ?_⟩; obtain ⟨hc, hf, hz⟩ := hu.cells; go_simp; first | exact ⟨rfl, Gr.refl _⟩ | skip) | (intro V u hu hk; show _ = false; kernel_rfl))
              exact BFK.out _
            · intro V UU hg hsx
              have GU := (gr.trans gi).trans hg
              have HOU := Lib.hid (ownsRow_g HO.out (gi.trans hg))
              rw [← hg.cells.1 g _ hzg] at c0 c1 c2 c3
              have hzg2 : g < UU.heap.size := Nat.lt_of_lt_of_le hzg hg.b.size
              clear d0 d1 d2 d3 hzm hgm HCO HO BFK BF hzg hg gi gr hsx
              go_simp
              go_wp2_with fail
              have HINS : Hid (insO m x = m.take k ++ [x] ++ m.drop k) := Lib.hid (insO_at hk HB.out HE.out)
              have HRU := recs_of_own HOU.out
              rcases HOU.out.2 with ⟨hv, hmz⟩ | ⟨gm, co', cur, hv, hbm, hgm2, hcap, hmax, hsz, htk⟩
              · injection hv with ha _ hcc
                cases ha
              · injection hv with ha _ hcc
                injection ha with ha
                injection ha with ha1 ha2
                obtain rfl : gm = gx := ha1.symm
                subst ha2; subst hcc
                have hcm : co ≤ 9223372036854775807 := by unfold maxLen at hmax; omega
                have HS1 := Lib.hid (RecsAt.takeS HRU k hk)
                have hkc : k ≤ co := by omega
                have hkz : (0 : Int) ≤ k := by omega
                have hk3 : (k : Int) ≤ m.length := by omega
                have hk4 : (k : Int) ≤ co := by omega
                clear hbm hgm2 hsz htk hmax
                by_cases hck : co = k
                · obtain rfl : k = co := hck.symm
                  have hmk : m.length = k := by omega
                  have HSV : Hid (RecsAt UU (.slice (some ⟨gm, 0, none⟩) (m.length - k) 0) (m.drop k)) := Lib.hid (by
                    rw [List.drop_eq_nil_of_le (by omega), hmk, Nat.sub_self]
                    exact RecsAt.nil _ _ _)
                  clear HRU
                  obtain ⟨q1, hq1⟩ : ∃ q, UU.heap.size = q := ⟨_, rfl⟩
                  have HQ := Lib.hid (fun u2 (h : Gr UU u2) => show q1 ≤ u2.heap.size by rw [← hq1]; exact h.b.size)
                  have HQ1 := Lib.hid hq1
                  clear hq1
                  refine wp_region_stepsKL [15] (fun u2 => Gr UU u2) (fun _ => True) [10, 14] (fun u2 u3 h g => h.trans g) (fun _ _ _ _ => trivial) (Gr.refl _) trivial (by kernel_rfl)
                    [.sat (fun v u2 => ∃ b, v = .slice (some ⟨b, 0, none⟩) 0 0 ∧ (q1 ≤ b ∧ u2.heap[b]? = some (.cells #[] 23 (0, 0)))), .val (.slice (some ⟨gm, 0, none⟩) m.length k), .val (.int .i64 k), .val (.slice (some ⟨gm, 0, none⟩) k k), .sat (fun v u2 => u2.ownsRow q1 23 4 v (m.take k).length (rcs (m.take k))),
                     .val (.slice (some ⟨g, o, none⟩) l.length cl), .val (.int .i64 i), .val (.pointer (some ⟨g, o + i * 4, none⟩)), .val x.v, .sat (fun v u2 => ∃ b, v = .slice (some ⟨b, 0, none⟩) 1 1 ∧ u2.heap[b]? = some (.cells #[.int .i64 x.s, .int .i64 x.k, .int .i64 x.d, .string x.t] 23 (0, 0))),
                     .turn (fun v u2 => u2.ownsRow q1 23 4 v (m.take k ++ [x]).length (rcs (m.take k ++ [x]))) [0, 4, 9], .val (.slice (some ⟨gm, 0, none⟩) m.length k), .val (.int .i64 k), .val (.slice (some ⟨gm, 0, none⟩) (m.length - k) 0), .turn (fun v u2 => u2.ownsRow q1 23 4 v (m.take k ++ [x] ++ m.drop k).length (rcs (m.take k ++ [x] ++ m.drop k))) [0, 4, 9, 10], .later] (by kernel_rfl) (by kernel_rfl) (fun V => by first | (simp only [finS, Step.isLater, Bool.false_eq_true, if_false, if_true, Act.put, Step.value, List.setIfInBounds_toArray, List.set_cons_zero, List.set_cons_succ]; rfl) | (simp only [finS, Step.isLater, Bool.false_eq_true, if_false, if_true, Act.put, Step.value, List.setIfInBounds_toArray, List.set_cons_zero, List.set_cons_succ, Nat.zero_add, Nat.reduceAdd]; rfl)) ?_ ?_
                  · refine ⟨?_, ?_, ?_, ?_, ?_, ?_, ?_, ?_, ?_, ?_, ?_, ?_, ?_, ?_, ?_, ?_, trivial⟩
                    · refine ⟨fun v u2 u3 h g => ?_, fun V u2 hu hj hk => ⟨by kernel_rfl, ?_⟩⟩
                      · obtain ⟨b, h1, h2, h3⟩ := h
                        exact ⟨b, h1, h2, g.heap h3⟩
                      · have hq := HQ.out _ hu
                        go_simp
                        exact ⟨⟨_, rfl, hq, heap_alloc_self _ _⟩, (Gr.refl _).alloc _⟩
                    · (intro V u2 hu hj hk; refine ⟨by kernel_rfl, ?_⟩; obtain ⟨hc, hf, hz⟩ := hu.cells; go_simp; first | exact ⟨rfl, Gr.refl _⟩ | skip)
                    · (intro V u2 hu hj hk; refine ⟨by kernel_rfl, ?_⟩; obtain ⟨hc, hf, hz⟩ := hu.cells; go_simp; first | exact ⟨rfl, Gr.refl _⟩ | skip)
                    · (intro V u2 hu hj hk; refine ⟨by kernel_rfl, ?_⟩; obtain ⟨hc, hf, hz⟩ := hu.cells; go_simp; first | exact ⟨rfl, Gr.refl _⟩ | skip)
                    · refine ⟨fun v u2 u3 h g => ownsRow_g h g, fun V u2 hu hj hk => ⟨by kernel_rfl, ?_⟩⟩
                      obtain ⟨b, hv, hb1, hb2⟩ := hk 0 (fun v u2 => ∃ b, v = .slice (some ⟨b, 0, none⟩) 0 0 ∧ (q1 ≤ b ∧ u2.heap[b]? = some (.cells #[] 23 (0, 0)))) (by kernel_rfl) (by kernel_rfl)
                      obtain ⟨v', u3, hr, h1, h2⟩ := append_fresh u2 q1 32 b hb1 hb2 _ _ (HS1.out.gr hu) (by rw [List.length_take]; omega) (HQ.out _ hu)
                      exact cameS_append_run _ _ 32 32 rfl _ _ hv rfl hr ⟨h1, h2⟩
                    · (intro V u2 hu hj hk; refine ⟨by kernel_rfl, ?_⟩; obtain ⟨hc, hf, hz⟩ := hu.cells; go_simp; first | exact ⟨rfl, Gr.refl _⟩ | skip)
                    · (intro V u2 hu hj hk; refine ⟨by kernel_rfl, ?_⟩; obtain ⟨hc, hf, hz⟩ := hu.cells; go_simp; first | exact ⟨rfl, Gr.refl _⟩ | skip)
                    · (intro V u2 hu hj hk; refine ⟨by kernel_rfl, ?_⟩; obtain ⟨hc, hf, hz⟩ := hu.cells; go_simp; first | exact ⟨rfl, Gr.refl _⟩ | skip)
                    · (intro V u2 hu hj hk; refine ⟨by kernel_rfl, ?_⟩; obtain ⟨hc, hf, hz⟩ := hu.cells; go_simp; first | exact ⟨rfl, Gr.refl _⟩ | skip)
                    · refine ⟨fun v u2 u3 h g => ?_, fun V u2 hu hj hk => ⟨by kernel_rfl, ?_⟩⟩
                      · obtain ⟨b, h1, h3⟩ := h
                        exact ⟨b, h1, g.heap h3⟩
                      · go_simp
                        exact ⟨⟨_, rfl, heap_alloc_self _ _⟩, (Gr.refl _).alloc _⟩
                    · refine ⟨fun v u2 u3 h g => ownsRow_g h g, fun V u2 hu hj hk => ⟨by kernel_rfl, ?_⟩⟩
                      refine turnK (R := fun u2 => Gr UU u2) (J := fun _ => True) (dj := [10, 14]) (k := 10) (drop := [0, 4, 9]) (V := V) (u := u2) (by kernel_rfl) (by kernel_rfl) ?_
                      have h4 := hk 4 (fun v u2 => u2.ownsRow q1 23 4 v (m.take k).length (rcs (m.take k))) (by kernel_rfl) (by kernel_rfl)
                      obtain ⟨b, hv, hb⟩ := hk 9 (fun v u2 => ∃ b, v = .slice (some ⟨b, 0, none⟩) 1 1 ∧ u2.heap[b]? = some (.cells #[.int .i64 x.s, .int .i64 x.k, .int .i64 x.d, .string x.t] 23 (0, 0))) (by kernel_rfl) (by kernel_rfl)
                      obtain ⟨v', u3, hr, h1, h2⟩ := append_recs u2 q1 32 (V 4) (m.take k) h4 _ [x] (recs_one u2 b x hb) (by rw [List.length_take, List.length_singleton]; omega) (HQ.out _ hu)
                      exact cameS_append_run _ _ 32 32 rfl _ _ rfl hv hr ⟨h1, GrL.gr hu h2 (fun i hi => by rw [HQ1.out]; exact (h4.lt i (by simpa using hi)).1)⟩
                    · (intro V u2 hu hj hk; refine ⟨by kernel_rfl, ?_⟩; obtain ⟨hc, hf, hz⟩ := hu.cells; go_simp; first | exact ⟨rfl, Gr.refl _⟩ | skip)
                    · (intro V u2 hu hj hk; refine ⟨by kernel_rfl, ?_⟩; obtain ⟨hc, hf, hz⟩ := hu.cells; go_simp; first | exact ⟨rfl, Gr.refl _⟩ | skip)
                    · (intro V u2 hu hj hk; refine ⟨by kernel_rfl, ?_⟩; obtain ⟨hc, hf, hz⟩ := hu.cells; go_simp; first | exact ⟨rfl, Gr.refl _⟩ | skip)
                    · refine ⟨fun v u2 u3 h g => ownsRow_g h g, fun V u2 hu hj hk => ⟨by kernel_rfl, ?_⟩⟩
                      refine turnK (R := fun u2 => Gr UU u2) (J := fun _ => True) (dj := [10, 14]) (k := 14) (drop := [0, 4, 9, 10]) (V := V) (u := u2) (by kernel_rfl) (by kernel_rfl) ?_
                      have h4 := hk 10 (fun v u2 => u2.ownsRow q1 23 4 v (m.take k ++ [x]).length (rcs (m.take k ++ [x]))) (by kernel_rfl) (by kernel_rfl)
                      obtain ⟨v', u3, hr, h1, h2⟩ := append_recs u2 q1 32 (V 10) (m.take k ++ [x]) h4 _ (m.drop k) (HSV.out.gr hu) (by simp only [List.length_append, List.length_take, List.length_drop, List.length_singleton]; omega) (HQ.out _ hu)
                      exact cameS_append_run _ _ 32 32 rfl _ _ rfl rfl hr ⟨h1, GrL.gr hu h2 (fun i hi => by rw [HQ1.out]; exact (h4.lt i (by simpa using hi)).1)⟩
                    · exact trivial
                  · intro V u2 hg2 hs2
                    have h15 := hs2 14 _ rfl
                    rw [← HINS.out] at h15
                    have HN := Lib.hid (World.ownsRow.mono (base' := w.heap.size) h15 (by rw [← HQ1.out]; exact GU.b.size))
                    have G2 := GU.trans hg2
                    clear h15 hs2 hg2
                    refine ⟨⟨some 8, _, _, _, _, _⟩, rfl, rfl, ?_⟩
                    generalize V 14 = v15 at *
                    go_simp
                    refine Lones.fin ?_
                    go_simp
                    go_wp2
                    refine ⟨⟨i + 1, by simp, by omega, Lib.hid (by rw [HST.out]; exact HN.out), G2⟩, by simp [intOf]; omega⟩
                · have HSV : Hid (RecsAt UU (.slice (some ⟨gm, k * 4, none⟩) (m.length - k) (co - k)) (m.drop k)) := Lib.hid (by
                    have := RecsAt.dropS HRU k _ rfl hk
                    rwa [Nat.zero_add] at this)
                  clear HRU
                  obtain ⟨q1, hq1⟩ : ∃ q, UU.heap.size = q := ⟨_, rfl⟩
                  have HQ := Lib.hid (fun u2 (h : Gr UU u2) => show q1 ≤ u2.heap.size by rw [← hq1]; exact h.b.size)
                  have HQ1 := Lib.hid hq1
                  clear hq1
                  refine wp_region_stepsKL [15] (fun u2 => Gr UU u2) (fun _ => True) [10, 14] (fun u2 u3 h g => h.trans g) (fun _ _ _ _ => trivial) (Gr.refl _) trivial (by kernel_rfl)
                    [.sat (fun v u2 => ∃ b, v = .slice (some ⟨b, 0, none⟩) 0 0 ∧ (q1 ≤ b ∧ u2.heap[b]? = some (.cells #[] 23 (0, 0)))), .val (.slice (some ⟨gm, 0, none⟩) m.length co), .val (.int .i64 k), .val (.slice (some ⟨gm, 0, none⟩) k co), .sat (fun v u2 => u2.ownsRow q1 23 4 v (m.take k).length (rcs (m.take k))),
                     .val (.slice (some ⟨g, o, none⟩) l.length cl), .val (.int .i64 i), .val (.pointer (some ⟨g, o + i * 4, none⟩)), .val x.v, .sat (fun v u2 => ∃ b, v = .slice (some ⟨b, 0, none⟩) 1 1 ∧ u2.heap[b]? = some (.cells #[.int .i64 x.s, .int .i64 x.k, .int .i64 x.d, .string x.t] 23 (0, 0))),
                     .turn (fun v u2 => u2.ownsRow q1 23 4 v (m.take k ++ [x]).length (rcs (m.take k ++ [x]))) [0, 4, 9], .val (.slice (some ⟨gm, 0, none⟩) m.length co), .val (.int .i64 k), .val (.slice (some ⟨gm, k * 4, none⟩) (m.length - k) (co - k)), .turn (fun v u2 => u2.ownsRow q1 23 4 v (m.take k ++ [x] ++ m.drop k).length (rcs (m.take k ++ [x] ++ m.drop k))) [0, 4, 9, 10], .later] (by kernel_rfl) (by kernel_rfl) (fun V => by first | (simp only [finS, Step.isLater, Bool.false_eq_true, if_false, if_true, Act.put, Step.value, List.setIfInBounds_toArray, List.set_cons_zero, List.set_cons_succ]; rfl) | (simp only [finS, Step.isLater, Bool.false_eq_true, if_false, if_true, Act.put, Step.value, List.setIfInBounds_toArray, List.set_cons_zero, List.set_cons_succ, Nat.zero_add, Nat.reduceAdd]; rfl)) ?_ ?_
                  · refine ⟨?_, ?_, ?_, ?_, ?_, ?_, ?_, ?_, ?_, ?_, ?_, ?_, ?_, ?_, ?_, ?_, trivial⟩
                    · refine ⟨fun v u2 u3 h g => ?_, fun V u2 hu hj hk => ⟨by kernel_rfl, ?_⟩⟩
                      · obtain ⟨b, h1, h2, h3⟩ := h
                        exact ⟨b, h1, h2, g.heap h3⟩
                      · have hq := HQ.out _ hu
                        go_simp
                        exact ⟨⟨_, rfl, hq, heap_alloc_self _ _⟩, (Gr.refl _).alloc _⟩
                    · (intro V u2 hu hj hk; refine ⟨by kernel_rfl, ?_⟩; obtain ⟨hc, hf, hz⟩ := hu.cells; go_simp; first | exact ⟨rfl, Gr.refl _⟩ | skip)
                    · (intro V u2 hu hj hk; refine ⟨by kernel_rfl, ?_⟩; obtain ⟨hc, hf, hz⟩ := hu.cells; go_simp; first | exact ⟨rfl, Gr.refl _⟩ | skip)
                    · (intro V u2 hu hj hk; refine ⟨by kernel_rfl, ?_⟩; obtain ⟨hc, hf, hz⟩ := hu.cells; go_simp; first | exact ⟨rfl, Gr.refl _⟩ | skip)
                    · refine ⟨fun v u2 u3 h g => ownsRow_g h g, fun V u2 hu hj hk => ⟨by kernel_rfl, ?_⟩⟩
                      obtain ⟨b, hv, hb1, hb2⟩ := hk 0 (fun v u2 => ∃ b, v = .slice (some ⟨b, 0, none⟩) 0 0 ∧ (q1 ≤ b ∧ u2.heap[b]? = some (.cells #[] 23 (0, 0)))) (by kernel_rfl) (by kernel_rfl)
                      obtain ⟨v', u3, hr, h1, h2⟩ := append_fresh u2 q1 32 b hb1 hb2 _ _ (HS1.out.gr hu) (by rw [List.length_take]; omega) (HQ.out _ hu)
                      exact cameS_append_run _ _ 32 32 rfl _ _ hv rfl hr ⟨h1, h2⟩
                    · (intro V u2 hu hj hk; refine ⟨by kernel_rfl, ?_⟩; obtain ⟨hc, hf, hz⟩ := hu.cells; go_simp; first | exact ⟨rfl, Gr.refl _⟩ | skip)
                    · (intro V u2 hu hj hk; refine ⟨by kernel_rfl, ?_⟩; obtain ⟨hc, hf, hz⟩ := hu.cells; go_simp; first | exact ⟨rfl, Gr.refl _⟩ | skip)
                    · (intro V u2 hu hj hk; refine ⟨by kernel_rfl, ?_⟩; obtain ⟨hc, hf, hz⟩ := hu.cells; go_simp; first | exact ⟨rfl, Gr.refl _⟩ | skip)
                    · (intro V u2 hu hj hk; refine ⟨by kernel_rfl, ?_⟩; obtain ⟨hc, hf, hz⟩ := hu.cells; go_simp; first | exact ⟨rfl, Gr.refl _⟩ | skip)
                    · refine ⟨fun v u2 u3 h g => ?_, fun V u2 hu hj hk => ⟨by kernel_rfl, ?_⟩⟩
                      · obtain ⟨b, h1, h3⟩ := h
                        exact ⟨b, h1, g.heap h3⟩
                      · go_simp
                        exact ⟨⟨_, rfl, heap_alloc_self _ _⟩, (Gr.refl _).alloc _⟩
                    · refine ⟨fun v u2 u3 h g => ownsRow_g h g, fun V u2 hu hj hk => ⟨by kernel_rfl, ?_⟩⟩
                      refine turnK (R := fun u2 => Gr UU u2) (J := fun _ => True) (dj := [10, 14]) (k := 10) (drop := [0, 4, 9]) (V := V) (u := u2) (by kernel_rfl) (by kernel_rfl) ?_
                      have h4 := hk 4 (fun v u2 => u2.ownsRow q1 23 4 v (m.take k).length (rcs (m.take k))) (by kernel_rfl) (by kernel_rfl)
                      obtain ⟨b, hv, hb⟩ := hk 9 (fun v u2 => ∃ b, v = .slice (some ⟨b, 0, none⟩) 1 1 ∧ u2.heap[b]? = some (.cells #[.int .i64 x.s, .int .i64 x.k, .int .i64 x.d, .string x.t] 23 (0, 0))) (by kernel_rfl) (by kernel_rfl)
                      obtain ⟨v', u3, hr, h1, h2⟩ := append_recs u2 q1 32 (V 4) (m.take k) h4 _ [x] (recs_one u2 b x hb) (by rw [List.length_take, List.length_singleton]; omega) (HQ.out _ hu)
                      exact cameS_append_run _ _ 32 32 rfl _ _ rfl hv hr ⟨h1, GrL.gr hu h2 (fun i hi => by rw [HQ1.out]; exact (h4.lt i (by simpa using hi)).1)⟩
                    · (intro V u2 hu hj hk; refine ⟨by kernel_rfl, ?_⟩; obtain ⟨hc, hf, hz⟩ := hu.cells; go_simp; first | exact ⟨rfl, Gr.refl _⟩ | skip)
                    · (intro V u2 hu hj hk; refine ⟨by kernel_rfl, ?_⟩; obtain ⟨hc, hf, hz⟩ := hu.cells; go_simp; first | exact ⟨rfl, Gr.refl _⟩ | skip)
                    · (intro V u2 hu hj hk; refine ⟨by kernel_rfl, ?_⟩; obtain ⟨hc, hf, hz⟩ := hu.cells; go_simp; first | exact ⟨rfl, Gr.refl _⟩ | skip)
                    · refine ⟨fun v u2 u3 h g => ownsRow_g h g, fun V u2 hu hj hk => ⟨by kernel_rfl, ?_⟩⟩
                      refine turnK (R := fun u2 => Gr UU u2) (J := fun _ => True) (dj := [10, 14]) (k := 14) (drop := [0, 4, 9, 10]) (V := V) (u := u2) (by kernel_rfl) (by kernel_rfl) ?_
                      have h4 := hk 10 (fun v u2 => u2.ownsRow q1 23 4 v (m.take k ++ [x]).length (rcs (m.take k ++ [x]))) (by kernel_rfl) (by kernel_rfl)
                      obtain ⟨v', u3, hr, h1, h2⟩ := append_recs u2 q1 32 (V 10) (m.take k ++ [x]) h4 _ (m.drop k) (HSV.out.gr hu) (by simp only [List.length_append, List.length_take, List.length_drop, List.length_singleton]; omega) (HQ.out _ hu)
                      exact cameS_append_run _ _ 32 32 rfl _ _ rfl rfl hr ⟨h1, GrL.gr hu h2 (fun i hi => by rw [HQ1.out]; exact (h4.lt i (by simpa using hi)).1)⟩
                    · exact trivial
                  · intro V u2 hg2 hs2
                    have h15 := hs2 14 _ rfl
                    rw [← HINS.out] at h15
                    have HN := Lib.hid (World.ownsRow.mono (base' := w.heap.size) h15 (by rw [← HQ1.out]; exact GU.b.size))
                    have G2 := GU.trans hg2
                    clear h15 hs2 hg2
                    refine ⟨⟨some 8, _, _, _, _, _⟩, rfl, rfl, ?_⟩
                    generalize V 14 = v15 at *
                    go_simp
                    refine Lones.fin ?_
                    go_simp
                    go_wp2
                    refine ⟨⟨i + 1, by simp, by omega, Lib.hid (by rw [HST.out]; exact HN.out), G2⟩, by simp [intOf]; omega⟩
          · have HB2 : Hid (∀ j (hj : j < m.length), j < k + 1 → befR m[j] x = true) := Lib.hid (fun j hj h => by
              rcases Nat.lt_or_ge j k with h2 | h2
              · exact HB.out j hj h2
              · obtain rfl : j = k := by omega
                exact hbq)
            clear hbq HB
            generalize m[k] = y at *
            go_wp2_with fail
            refine wp_region_steps [.val (.int .i64 k), .val (.slice (some ⟨gx, om, none⟩) m.length co), .val (.int .i64 m.length), .val (.bool true), .val (.bool true), .val (.slice (some ⟨gx, om, none⟩) m.length co), .val (.int .i64 k), .val (.pointer (some ⟨gx, om + k * 4, none⟩)), .val y.v, .val (.slice (some ⟨g, o, none⟩) l.length cl), .val (.int .i64 i), .val (.pointer (some ⟨g, o + i * 4, none⟩)), .val x.v, .val (.bool true), .val (.bool true)] (by kernel_rfl) (by kernel_rfl) (fun V => by first | (simp only [finS, Step.isLater, Bool.false_eq_true, if_false, Act.put, Step.value, List.setIfInBounds_toArray, List.set_cons_zero, List.set_cons_succ]; rfl) | (simp only [finS, Step.isLater, Bool.false_eq_true, if_false, if_true, Act.put, Step.value, List.setIfInBounds_toArray, List.set_cons_zero, List.set_cons_succ, Nat.zero_add, Nat.reduceAdd]; rfl)) ?_ ?_
            · refine ⟨?_, ?_, ?_, ?_, ?_, ?_, ?_, ?_, ?_, ?_, ?_, ?_, ?_, ?_, ?_, trivial⟩ <;> (first | exact trivial | (refine ⟨(by intro v u u1 h g; obtain ⟨b, rfl, h⟩ := h; exact ⟨b, rfl, g.heap h⟩), ?_⟩; intro V u hu hk; refine ⟨by kernel_rfl, ?_⟩; go_simp; exact ⟨⟨_, rfl, heap_alloc_self _ _⟩, (Gr.refl _).alloc _⟩) | (refine ⟨(by intro v u u1 h g; first | exact ownsRow_g h g | exact st_and h g | exact h), ?_⟩; intro V u hu hk; refine ⟨by kernel_rfl, turn_owes (by kernel_rfl) ?_⟩; obtain ⟨hc, hf, hz⟩ := hu.cells; go_simp; skip) | (refine ⟨(by intro v u u1 h g; first | exact ownsRow_g h g | exact st_and h g | exact h), ?_⟩; intro V u hu hk; refine ⟨by kernel_rfl, ?_⟩; obtain ⟨hc, hf, hz⟩ := hu.cells; go_simp; skip) | (intro V u hu hk; refine ⟨by kernel_rfl, ?_⟩; obtain ⟨hc, hf, hz⟩ := hu.cells; go_simp; first | exact ⟨rfl, Gr.refl _⟩ | skip) | (intro V u hu hk; show _ = false; kernel_rfl))
              exact BFK.out _
            · intro V u hg hsx
              have gu := gi.trans hg
              clear HCO HO BFK BF
              go_simp
              go_wp2
              refine ⟨?_, by simp [intOf]; omega⟩
              (repeat apply Exists.intro)
              exact ⟨(show Value.int .i64 ((k : Int) + 1) = .int .i64 ((k + 1 : Nat) : Int) by simp), by omega, HB2, gu⟩
        · have hkm' : ¬ (k : Int) < m.length := by omega
          have HE : Hid (∀ h : k < m.length, befR m[k] x = false) := Lib.hid (fun h => absurd h hkm)
          go_wp2_with fail
          refine wp_region_steps [.val (.int .i64 k), .val (.slice ao m.length co), .val (.int .i64 m.length), .val (.bool false), .val (.bool false), .off, .off, .off, .off, .off, .off, .off, .off, .off, .val (.bool false)] (by kernel_rfl) (by kernel_rfl) (fun V => by first | (simp only [finS, Step.isLater, Bool.false_eq_true, if_false, Act.put, Step.value, List.setIfInBounds_toArray, List.set_cons_zero, List.set_cons_succ]; rfl) | (simp only [finS, Step.isLater, Bool.false_eq_true, if_false, if_true, Act.put, Step.value, List.setIfInBounds_toArray, List.set_cons_zero, List.set_cons_succ, Nat.zero_add, Nat.reduceAdd]; rfl)) ?_ ?_
          · refine ⟨?_, ?_, ?_, ?_, ?_, ?_, ?_, ?_, ?_, ?_, ?_, ?_, ?_, ?_, ?_, trivial⟩ <;> (first | exact trivial | (refine ⟨(by intro v u u1 h g; obtain ⟨b, rfl, h⟩ := h; exact ⟨b, rfl, g.heap h⟩), ?_⟩; intro V u hu hk; refine ⟨by kernel_rfl, ?_⟩; go_simp; exact ⟨⟨_, rfl, heap_alloc_self _ _⟩, (Gr.refl _).alloc _⟩) | (refine ⟨(by intro v u u1 h g; first | exact ownsRow_g h g | exact st_and h g | exact h), ?_⟩; intro V u hu hk; refine ⟨by kernel_rfl, turn_owes (by kernel_rfl) ?_⟩; obtain ⟨hc, hf, hz⟩ := hu.cells; go_simp; skip) | (refine ⟨(by intro v u u1 h g; first | exact ownsRow_g h g | exact st_and h g | exact h), ?_⟩; intro V u hu hk; refine ⟨by kernel_rfl, ?_⟩; obtain ⟨hc, hf, hz⟩ := hu.cells; go_simp; skip) | (intro V u hu hk; refine ⟨by kernel_rfl, ?_⟩; obtain ⟨hc, hf, hz⟩ := hu.cells; go_simp; first | exact ⟨rfl, Gr.refl _⟩ | skip) | (intro V u hu hk; show _ = false; kernel_rfl))
          · intro V UU hg hsx
            have GU := (gr.trans gi).trans hg
            have HOU := Lib.hid (ownsRow_g HO.out (gi.trans hg))
            rw [← hg.cells.1 g _ hzg] at c0 c1 c2 c3
            have hzg2 : g < UU.heap.size := Nat.lt_of_lt_of_le hzg hg.b.size
            clear HCO HO BF hzg hg gi gr hsx
            go_simp
            go_wp2_with fail
            have HINS : Hid (insO m x = m.take k ++ [x] ++ m.drop k) := Lib.hid (insO_at hk HB.out HE.out)
            have HRU := recs_of_own HOU.out
            rcases HOU.out.2 with ⟨hv, hmz⟩ | ⟨gm, co', cur, hv, hbm, hgm2, hcap, hmax, hsz, htk⟩
            · injection hv with ha _ hcc
              subst ha; subst hcc
              obtain rfl := List.eq_nil_of_length_eq_zero hmz
              obtain rfl : k = 0 := Nat.le_zero.1 hk
              have HS1 : Hid (RecsAt UU (.slice none 0 0) (([] : List Rc).take 0)) := Lib.hid (RecsAt.nil _ _ _)
              have HSV : Hid (RecsAt UU (.slice none 0 0) (([] : List Rc).drop 0)) := Lib.hid (RecsAt.nil _ _ _)
              clear HRU hmz
              obtain ⟨q1, hq1⟩ : ∃ q, UU.heap.size = q := ⟨_, rfl⟩
              have HQ := Lib.hid (fun u2 (h : Gr UU u2) => show q1 ≤ u2.heap.size by rw [← hq1]; exact h.b.size)
              have HQ1 := Lib.hid hq1
              clear hq1
              refine wp_region_stepsKL [15] (fun u2 => Gr UU u2) (fun _ => True) [10, 14] (fun u2 u3 h g => h.trans g) (fun _ _ _ _ => trivial) (Gr.refl _) trivial (by kernel_rfl)
                [.sat (fun v u2 => ∃ b, v = .slice (some ⟨b, 0, none⟩) 0 0 ∧ (q1 ≤ b ∧ u2.heap[b]? = some (.cells #[] 23 (0, 0)))), .val (.slice none 0 0), .val (.int .i64 0), .val (.slice none 0 0), .sat (fun v u2 => u2.ownsRow q1 23 4 v (([] : List Rc).take 0).length (rcs (([] : List Rc).take 0))),
                 .val (.slice (some ⟨g, o, none⟩) l.length cl), .val (.int .i64 i), .val (.pointer (some ⟨g, o + i * 4, none⟩)), .val x.v, .sat (fun v u2 => ∃ b, v = .slice (some ⟨b, 0, none⟩) 1 1 ∧ u2.heap[b]? = some (.cells #[.int .i64 x.s, .int .i64 x.k, .int .i64 x.d, .string x.t] 23 (0, 0))),
                 .turn (fun v u2 => u2.ownsRow q1 23 4 v (([] : List Rc).take 0 ++ [x]).length (rcs (([] : List Rc).take 0 ++ [x]))) [0, 4, 9], .val (.slice none 0 0), .val (.int .i64 0), .val (.slice none 0 0), .turn (fun v u2 => u2.ownsRow q1 23 4 v (([] : List Rc).take 0 ++ [x] ++ ([] : List Rc).drop 0).length (rcs (([] : List Rc).take 0 ++ [x] ++ ([] : List Rc).drop 0))) [0, 4, 9, 10], .later] (by kernel_rfl) (by kernel_rfl) (fun V => by first | (simp only [finS, Step.isLater, Bool.false_eq_true, if_false, if_true, Act.put, Step.value, List.setIfInBounds_toArray, List.set_cons_zero, List.set_cons_succ]; rfl) | (simp only [finS, Step.isLater, Bool.false_eq_true, if_false, if_true, Act.put, Step.value, List.setIfInBounds_toArray, List.set_cons_zero, List.set_cons_succ, Nat.zero_add, Nat.reduceAdd]; rfl)) ?_ ?_
              · refine ⟨?_, ?_, ?_, ?_, ?_, ?_, ?_, ?_, ?_, ?_, ?_, ?_, ?_, ?_, ?_, ?_, trivial⟩
                · refine ⟨fun v u2 u3 h g => ?_, fun V u2 hu hj hk => ⟨by kernel_rfl, ?_⟩⟩
                  · obtain ⟨b, h1, h2, h3⟩ := h
                    exact ⟨b, h1, h2, g.heap h3⟩
                  · have hq := HQ.out _ hu
                    go_simp
                    exact ⟨⟨_, rfl, hq, heap_alloc_self _ _⟩, (Gr.refl _).alloc _⟩
                · (intro V u2 hu hj hk; refine ⟨by kernel_rfl, ?_⟩; obtain ⟨hc, hf, hz⟩ := hu.cells; go_simp; first | exact ⟨rfl, Gr.refl _⟩ | skip)
                · (intro V u2 hu hj hk; refine ⟨by kernel_rfl, ?_⟩; obtain ⟨hc, hf, hz⟩ := hu.cells; go_simp; first | exact ⟨rfl, Gr.refl _⟩ | skip)
                · (intro V u2 hu hj hk; refine ⟨by kernel_rfl, ?_⟩; obtain ⟨hc, hf, hz⟩ := hu.cells; go_simp; first | exact ⟨rfl, Gr.refl _⟩ | skip)
                · refine ⟨fun v u2 u3 h g => ownsRow_g h g, fun V u2 hu hj hk => ⟨by kernel_rfl, ?_⟩⟩
                  obtain ⟨b, hv, hb1, hb2⟩ := hk 0 (fun v u2 => ∃ b, v = .slice (some ⟨b, 0, none⟩) 0 0 ∧ (q1 ≤ b ∧ u2.heap[b]? = some (.cells #[] 23 (0, 0)))) (by kernel_rfl) (by kernel_rfl)
                  obtain ⟨v', u3, hr, h1, h2⟩ := append_fresh u2 q1 32 b hb1 hb2 _ _ (HS1.out.gr hu) (by rw [List.length_take]; omega) (HQ.out _ hu)
                  exact cameS_append_run _ _ 32 32 rfl _ _ hv rfl hr ⟨h1, h2⟩
                · (intro V u2 hu hj hk; refine ⟨by kernel_rfl, ?_⟩; obtain ⟨hc, hf, hz⟩ := hu.cells; go_simp; first | exact ⟨rfl, Gr.refl _⟩ | skip)
                · (intro V u2 hu hj hk; refine ⟨by kernel_rfl, ?_⟩; obtain ⟨hc, hf, hz⟩ := hu.cells; go_simp; first | exact ⟨rfl, Gr.refl _⟩ | skip)
                · (intro V u2 hu hj hk; refine ⟨by kernel_rfl, ?_⟩; obtain ⟨hc, hf, hz⟩ := hu.cells; go_simp; first | exact ⟨rfl, Gr.refl _⟩ | skip)
                · (intro V u2 hu hj hk; refine ⟨by kernel_rfl, ?_⟩; obtain ⟨hc, hf, hz⟩ := hu.cells; go_simp; first | exact ⟨rfl, Gr.refl _⟩ | skip)
                · refine ⟨fun v u2 u3 h g => ?_, fun V u2 hu hj hk => ⟨by kernel_rfl, ?_⟩⟩
                  · obtain ⟨b, h1, h3⟩ := h
                    exact ⟨b, h1, g.heap h3⟩
                  · go_simp
                    exact ⟨⟨_, rfl, heap_alloc_self _ _⟩, (Gr.refl _).alloc _⟩
                · refine ⟨fun v u2 u3 h g => ownsRow_g h g, fun V u2 hu hj hk => ⟨by kernel_rfl, ?_⟩⟩
                  refine turnK (R := fun u2 => Gr UU u2) (J := fun _ => True) (dj := [10, 14]) (k := 10) (drop := [0, 4, 9]) (V := V) (u := u2) (by kernel_rfl) (by kernel_rfl) ?_
                  have h4 := hk 4 (fun v u2 => u2.ownsRow q1 23 4 v (([] : List Rc).take 0).length (rcs (([] : List Rc).take 0))) (by kernel_rfl) (by kernel_rfl)
                  obtain ⟨b, hv, hb⟩ := hk 9 (fun v u2 => ∃ b, v = .slice (some ⟨b, 0, none⟩) 1 1 ∧ u2.heap[b]? = some (.cells #[.int .i64 x.s, .int .i64 x.k, .int .i64 x.d, .string x.t] 23 (0, 0))) (by kernel_rfl) (by kernel_rfl)
                  obtain ⟨v', u3, hr, h1, h2⟩ := append_recs u2 q1 32 (V 4) (([] : List Rc).take 0) h4 _ [x] (recs_one u2 b x hb) (by rw [List.length_take, List.length_singleton]; omega) (HQ.out _ hu)
                  exact cameS_append_run _ _ 32 32 rfl _ _ rfl hv hr ⟨h1, GrL.gr hu h2 (fun i hi => by rw [HQ1.out]; exact (h4.lt i (by simpa using hi)).1)⟩
                · (intro V u2 hu hj hk; refine ⟨by kernel_rfl, ?_⟩; obtain ⟨hc, hf, hz⟩ := hu.cells; go_simp; first | exact ⟨rfl, Gr.refl _⟩ | skip)
                · (intro V u2 hu hj hk; refine ⟨by kernel_rfl, ?_⟩; obtain ⟨hc, hf, hz⟩ := hu.cells; go_simp; first | exact ⟨rfl, Gr.refl _⟩ | skip)
                · (intro V u2 hu hj hk; refine ⟨by kernel_rfl, ?_⟩; obtain ⟨hc, hf, hz⟩ := hu.cells; go_simp; first | exact ⟨rfl, Gr.refl _⟩ | skip)
                · refine ⟨fun v u2 u3 h g => ownsRow_g h g, fun V u2 hu hj hk => ⟨by kernel_rfl, ?_⟩⟩
                  refine turnK (R := fun u2 => Gr UU u2) (J := fun _ => True) (dj := [10, 14]) (k := 14) (drop := [0, 4, 9, 10]) (V := V) (u := u2) (by kernel_rfl) (by kernel_rfl) ?_
                  have h4 := hk 10 (fun v u2 => u2.ownsRow q1 23 4 v (([] : List Rc).take 0 ++ [x]).length (rcs (([] : List Rc).take 0 ++ [x]))) (by kernel_rfl) (by kernel_rfl)
                  obtain ⟨v', u3, hr, h1, h2⟩ := append_recs u2 q1 32 (V 10) (([] : List Rc).take 0 ++ [x]) h4 _ (([] : List Rc).drop 0) (HSV.out.gr hu) (by simp only [List.length_append, List.length_take, List.length_drop, List.length_singleton]; omega) (HQ.out _ hu)
                  exact cameS_append_run _ _ 32 32 rfl _ _ rfl rfl hr ⟨h1, GrL.gr hu h2 (fun i hi => by rw [HQ1.out]; exact (h4.lt i (by simpa using hi)).1)⟩
                · exact trivial
              · intro V u2 hg2 hs2
                have h15 := hs2 14 _ rfl
                rw [← HINS.out] at h15
                have HN := Lib.hid (World.ownsRow.mono (base' := w.heap.size) h15 (by rw [← HQ1.out]; exact GU.b.size))
                have G2 := GU.trans hg2
                clear h15 hs2 hg2
                refine ⟨⟨some 8, _, _, _, _, _⟩, rfl, rfl, ?_⟩
                generalize V 14 = v15 at *
                go_simp
                refine Lones.fin ?_
                go_simp
                go_wp2
                refine ⟨⟨i + 1, by simp, by omega, Lib.hid (by rw [HST.out]; exact HN.out), G2⟩, by simp [intOf]; omega⟩
            · injection hv with ha _ hcc
              subst ha; subst hcc
              have hcm : co ≤ 9223372036854775807 := by unfold maxLen at hmax; omega
              have HS1 := Lib.hid (RecsAt.takeS HRU k hk)
              have hkc : k ≤ co := by omega
              have hkz : (0 : Int) ≤ k := by omega
              have hk3 : (k : Int) ≤ m.length := by omega
              have hk4 : (k : Int) ≤ co := by omega
              clear hbm hgm2 hsz htk hmax
              by_cases hck : co = k
              · obtain rfl : k = co := hck.symm
                have hmk : m.length = k := by omega
                have HSV : Hid (RecsAt UU (.slice (some ⟨gm, 0, none⟩) (m.length - k) 0) (m.drop k)) := Lib.hid (by
                  rw [List.drop_eq_nil_of_le (by omega), hmk, Nat.sub_self]
                  exact RecsAt.nil _ _ _)
                clear HRU
                obtain ⟨q1, hq1⟩ : ∃ q, UU.heap.size = q := ⟨_, rfl⟩
                have HQ := Lib.hid (fun u2 (h : Gr UU u2) => show q1 ≤ u2.heap.size by rw [← hq1]; exact h.b.size)
                have HQ1 := Lib.hid hq1
                clear hq1
                refine wp_region_stepsKL [15] (fun u2 => Gr UU u2) (fun _ => True) [10, 14] (fun u2 u3 h g => h.trans g) (fun _ _ _ _ => trivial) (Gr.refl _) trivial (by kernel_rfl)
                  [.sat (fun v u2 => ∃ b, v = .slice (some ⟨b, 0, none⟩) 0 0 ∧ (q1 ≤ b ∧ u2.heap[b]? = some (.cells #[] 23 (0, 0)))), .val (.slice (some ⟨gm, 0, none⟩) m.length k), .val (.int .i64 k), .val (.slice (some ⟨gm, 0, none⟩) k k), .sat (fun v u2 => u2.ownsRow q1 23 4 v (m.take k).length (rcs (m.take k))),
                   .val (.slice (some ⟨g, o, none⟩) l.length cl), .val (.int .i64 i), .val (.pointer (some ⟨g, o + i * 4, none⟩)), .val x.v, .sat (fun v u2 => ∃ b, v = .slice (some ⟨b, 0, none⟩) 1 1 ∧ u2.heap[b]? = some (.cells #[.int .i64 x.s, .int .i64 x.k, .int .i64 x.d, .string x.t] 23 (0, 0))),
                   .turn (fun v u2 => u2.ownsRow q1 23 4 v (m.take k ++ [x]).length (rcs (m.take k ++ [x]))) [0, 4, 9], .val (.slice (some ⟨gm, 0, none⟩) m.length k), .val (.int .i64 k), .val (.slice (some ⟨gm, 0, none⟩) (m.length - k) 0), .turn (fun v u2 => u2.ownsRow q1 23 4 v (m.take k ++ [x] ++ m.drop k).length (rcs (m.take k ++ [x] ++ m.drop k))) [0, 4, 9, 10], .later] (by kernel_rfl) (by kernel_rfl) (fun V => by first | (simp only [finS, Step.isLater, Bool.false_eq_true, if_false, if_true, Act.put, Step.value, List.setIfInBounds_toArray, List.set_cons_zero, List.set_cons_succ]; rfl) | (simp only [finS, Step.isLater, Bool.false_eq_true, if_false, if_true, Act.put, Step.value, List.setIfInBounds_toArray, List.set_cons_zero, List.set_cons_succ, Nat.zero_add, Nat.reduceAdd]; rfl)) ?_ ?_
                · refine ⟨?_, ?_, ?_, ?_, ?_, ?_, ?_, ?_, ?_, ?_, ?_, ?_, ?_, ?_, ?_, ?_, trivial⟩
                  · refine ⟨fun v u2 u3 h g => ?_, fun V u2 hu hj hk => ⟨by kernel_rfl, ?_⟩⟩
                    · obtain ⟨b, h1, h2, h3⟩ := h
                      exact ⟨b, h1, h2, g.heap h3⟩
                    · have hq := HQ.out _ hu
                      go_simp
                      exact ⟨⟨_, rfl, hq, heap_alloc_self _ _⟩, (Gr.refl _).alloc _⟩
                  · (intro V u2 hu hj hk; refine ⟨by kernel_rfl, ?_⟩; obtain ⟨hc, hf, hz⟩ := hu.cells; go_simp; first | exact ⟨rfl, Gr.refl _⟩ | skip)
                  · (intro V u2 hu hj hk; refine ⟨by kernel_rfl, ?_⟩; obtain ⟨hc, hf, hz⟩ := hu.cells; go_simp; first | exact ⟨rfl, Gr.refl _⟩ | skip)
                  · (intro V u2 hu hj hk; refine ⟨by kernel_rfl, ?_⟩; obtain ⟨hc, hf, hz⟩ := hu.cells; go_simp; first | exact ⟨rfl, Gr.refl _⟩ | skip)
                  · refine ⟨fun v u2 u3 h g => ownsRow_g h g, fun V u2 hu hj hk => ⟨by kernel_rfl, ?_⟩⟩
                    obtain ⟨b, hv, hb1, hb2⟩ := hk 0 (fun v u2 => ∃ b, v = .slice (some ⟨b, 0, none⟩) 0 0 ∧ (q1 ≤ b ∧ u2.heap[b]? = some (.cells #[] 23 (0, 0)))) (by kernel_rfl) (by kernel_rfl)
                    obtain ⟨v', u3, hr, h1, h2⟩ := append_fresh u2 q1 32 b hb1 hb2 _ _ (HS1.out.gr hu) (by rw [List.length_take]; omega) (HQ.out _ hu)
                    exact cameS_append_run _ _ 32 32 rfl _ _ hv rfl hr ⟨h1, h2⟩
                  · (intro V u2 hu hj hk; refine ⟨by kernel_rfl, ?_⟩; obtain ⟨hc, hf, hz⟩ := hu.cells; go_simp; first | exact ⟨rfl, Gr.refl _⟩ | skip)
                  · (intro V u2 hu hj hk; refine ⟨by kernel_rfl, ?_⟩; obtain ⟨hc, hf, hz⟩ := hu.cells; go_simp; first | exact ⟨rfl, Gr.refl _⟩ | skip)
                  · (intro V u2 hu hj hk; refine ⟨by kernel_rfl, ?_⟩; obtain ⟨hc, hf, hz⟩ := hu.cells; go_simp; first | exact ⟨rfl, Gr.refl _⟩ | skip)
                  · (intro V u2 hu hj hk; refine ⟨by kernel_rfl, ?_⟩; obtain ⟨hc, hf, hz⟩ := hu.cells; go_simp; first | exact ⟨rfl, Gr.refl _⟩ | skip)
                  · refine ⟨fun v u2 u3 h g => ?_, fun V u2 hu hj hk => ⟨by kernel_rfl, ?_⟩⟩
                    · obtain ⟨b, h1, h3⟩ := h
                      exact ⟨b, h1, g.heap h3⟩
                    · go_simp
                      exact ⟨⟨_, rfl, heap_alloc_self _ _⟩, (Gr.refl _).alloc _⟩
                  · refine ⟨fun v u2 u3 h g => ownsRow_g h g, fun V u2 hu hj hk => ⟨by kernel_rfl, ?_⟩⟩
                    refine turnK (R := fun u2 => Gr UU u2) (J := fun _ => True) (dj := [10, 14]) (k := 10) (drop := [0, 4, 9]) (V := V) (u := u2) (by kernel_rfl) (by kernel_rfl) ?_
                    have h4 := hk 4 (fun v u2 => u2.ownsRow q1 23 4 v (m.take k).length (rcs (m.take k))) (by kernel_rfl) (by kernel_rfl)
                    obtain ⟨b, hv, hb⟩ := hk 9 (fun v u2 => ∃ b, v = .slice (some ⟨b, 0, none⟩) 1 1 ∧ u2.heap[b]? = some (.cells #[.int .i64 x.s, .int .i64 x.k, .int .i64 x.d, .string x.t] 23 (0, 0))) (by kernel_rfl) (by kernel_rfl)
                    obtain ⟨v', u3, hr, h1, h2⟩ := append_recs u2 q1 32 (V 4) (m.take k) h4 _ [x] (recs_one u2 b x hb) (by rw [List.length_take, List.length_singleton]; omega) (HQ.out _ hu)
                    exact cameS_append_run _ _ 32 32 rfl _ _ rfl hv hr ⟨h1, GrL.gr hu h2 (fun i hi => by rw [HQ1.out]; exact (h4.lt i (by simpa using hi)).1)⟩
                  · (intro V u2 hu hj hk; refine ⟨by kernel_rfl, ?_⟩; obtain ⟨hc, hf, hz⟩ := hu.cells; go_simp; first | exact ⟨rfl, Gr.refl _⟩ | skip)
                  · (intro V u2 hu hj hk; refine ⟨by kernel_rfl, ?_⟩; obtain ⟨hc, hf, hz⟩ := hu.cells; go_simp; first | exact ⟨rfl, Gr.refl _⟩ | skip)
                  · (intro V u2 hu hj hk; refine ⟨by kernel_rfl, ?_⟩; obtain ⟨hc, hf, hz⟩ := hu.cells; go_simp; first | exact ⟨rfl, Gr.refl _⟩ | skip)
                  · refine ⟨fun v u2 u3 h g => ownsRow_g h g, fun V u2 hu hj hk => ⟨by kernel_rfl, ?_⟩⟩
                    refine turnK (R := fun u2 => Gr UU u2) (J := fun _ => True) (dj := [10, 14]) (k := 14) (drop := [0, 4, 9, 10]) (V := V) (u := u2) (by kernel_rfl) (by kernel_rfl) ?_
                    have h4 := hk 10 (fun v u2 => u2.ownsRow q1 23 4 v (m.take k ++ [x]).length (rcs (m.take k ++ [x]))) (by kernel_rfl) (by kernel_rfl)
                    obtain ⟨v', u3, hr, h1, h2⟩ := append_recs u2 q1 32 (V 10) (m.take k ++ [x]) h4 _ (m.drop k) (HSV.out.gr hu) (by simp only [List.length_append, List.length_take, List.length_drop, List.length_singleton]; omega) (HQ.out _ hu)
                    exact cameS_append_run _ _ 32 32 rfl _ _ rfl rfl hr ⟨h1, GrL.gr hu h2 (fun i hi => by rw [HQ1.out]; exact (h4.lt i (by simpa using hi)).1)⟩
                  · exact trivial
                · intro V u2 hg2 hs2
                  have h15 := hs2 14 _ rfl
                  rw [← HINS.out] at h15
                  have HN := Lib.hid (World.ownsRow.mono (base' := w.heap.size) h15 (by rw [← HQ1.out]; exact GU.b.size))
                  have G2 := GU.trans hg2
                  clear h15 hs2 hg2
                  refine ⟨⟨some 8, _, _, _, _, _⟩, rfl, rfl, ?_⟩
                  generalize V 14 = v15 at *
                  go_simp
                  refine Lones.fin ?_
                  go_simp
                  go_wp2
                  refine ⟨⟨i + 1, by simp, by omega, Lib.hid (by rw [HST.out]; exact HN.out), G2⟩, by simp [intOf]; omega⟩
              · have HSV : Hid (RecsAt UU (.slice (some ⟨gm, k * 4, none⟩) (m.length - k) (co - k)) (m.drop k)) := Lib.hid (by
                  have := RecsAt.dropS HRU k _ rfl hk
                  rwa [Nat.zero_add] at this)
                clear HRU
                obtain ⟨q1, hq1⟩ : ∃ q, UU.heap.size = q := ⟨_, rfl⟩
                have HQ := Lib.hid (fun u2 (h : Gr UU u2) => show q1 ≤ u2.heap.size by rw [← hq1]; exact h.b.size)
                have HQ1 := Lib.hid hq1
                clear hq1
                refine wp_region_stepsKL [15] (fun u2 => Gr UU u2) (fun _ => True) [10, 14] (fun u2 u3 h g => h.trans g) (fun _ _ _ _ => trivial) (Gr.refl _) trivial (by kernel_rfl)
                  [.sat (fun v u2 => ∃ b, v = .slice (some ⟨b, 0, none⟩) 0 0 ∧ (q1 ≤ b ∧ u2.heap[b]? = some (.cells #[] 23 (0, 0)))), .val (.slice (some ⟨gm, 0, none⟩) m.length co), .val (.int .i64 k), .val (.slice (some ⟨gm, 0, none⟩) k co), .sat (fun v u2 => u2.ownsRow q1 23 4 v (m.take k).length (rcs (m.take k))),
                   .val (.slice (some ⟨g, o, none⟩) l.length cl), .val (.int .i64 i), .val (.pointer (some ⟨g, o + i * 4, none⟩)), .val x.v, .sat (fun v u2 => ∃ b, v = .slice (some ⟨b, 0, none⟩) 1 1 ∧ u2.heap[b]? = some (.cells #[.int .i64 x.s, .int .i64 x.k, .int .i64 x.d, .string x.t] 23 (0, 0))),
                   .turn (fun v u2 => u2.ownsRow q1 23 4 v (m.take k ++ [x]).length (rcs (m.take k ++ [x]))) [0, 4, 9], .val (.slice (some ⟨gm, 0, none⟩) m.length co), .val (.int .i64 k), .val (.slice (some ⟨gm, k * 4, none⟩) (m.length - k) (co - k)), .turn (fun v u2 => u2.ownsRow q1 23 4 v (m.take k ++ [x] ++ m.drop k).length (rcs (m.take k ++ [x] ++ m.drop k))) [0, 4, 9, 10], .later] (by kernel_rfl) (by kernel_rfl) (fun V => by first | (simp only [finS, Step.isLater, Bool.false_eq_true, if_false, if_true, Act.put, Step.value, List.setIfInBounds_toArray, List.set_cons_zero, List.set_cons_succ]; rfl) | (simp only [finS, Step.isLater, Bool.false_eq_true, if_false, if_true, Act.put, Step.value, List.setIfInBounds_toArray, List.set_cons_zero, List.set_cons_succ, Nat.zero_add, Nat.reduceAdd]; rfl)) ?_ ?_
                · refine ⟨?_, ?_, ?_, ?_, ?_, ?_, ?_, ?_, ?_, ?_, ?_, ?_, ?_, ?_, ?_, ?_, trivial⟩
                  · refine ⟨fun v u2 u3 h g => ?_, fun V u2 hu hj hk => ⟨by kernel_rfl, ?_⟩⟩
                    · obtain ⟨b, h1, h2, h3⟩ := h
                      exact ⟨b, h1, h2, g.heap h3⟩
                    · have hq := HQ.out _ hu
                      go_simp
                      exact ⟨⟨_, rfl, hq, heap_alloc_self _ _⟩, (Gr.refl _).alloc _⟩
                  · (intro V u2 hu hj hk; refine ⟨by kernel_rfl, ?_⟩; obtain ⟨hc, hf, hz⟩ := hu.cells; go_simp; first | exact ⟨rfl, Gr.refl _⟩ | skip)
                  · (intro V u2 hu hj hk; refine ⟨by kernel_rfl, ?_⟩; obtain ⟨hc, hf, hz⟩ := hu.cells; go_simp; first | exact ⟨rfl, Gr.refl _⟩ | skip)
                  · (intro V u2 hu hj hk; refine ⟨by kernel_rfl, ?_⟩; obtain ⟨hc, hf, hz⟩ := hu.cells; go_simp; first | exact ⟨rfl, Gr.refl _⟩ | skip)
                  · refine ⟨fun v u2 u3 h g => ownsRow_g h g, fun V u2 hu hj hk => ⟨by kernel_rfl, ?_⟩⟩
                    obtain ⟨b, hv, hb1, hb2⟩ := hk 0 (fun v u2 => ∃ b, v = .slice (some ⟨b, 0, none⟩) 0 0 ∧ (q1 ≤ b ∧ u2.heap[b]? = some (.cells #[] 23 (0, 0)))) (by kernel_rfl) (by kernel_rfl)
                    obtain ⟨v', u3, hr, h1, h2⟩ := append_fresh u2 q1 32 b hb1 hb2 _ _ (HS1.out.gr hu) (by rw [List.length_take]; omega) (HQ.out _ hu)
                    exact cameS_append_run _ _ 32 32 rfl _ _ hv rfl hr ⟨h1, h2⟩
                  · (intro V u2 hu hj hk; refine ⟨by kernel_rfl, ?_⟩; obtain ⟨hc, hf, hz⟩ := hu.cells; go_simp; first | exact ⟨rfl, Gr.refl _⟩ | skip)
                  · (intro V u2 hu hj hk; refine ⟨by kernel_rfl, ?_⟩; obtain ⟨hc, hf, hz⟩ := hu.cells; go_simp; first | exact ⟨rfl, Gr.refl _⟩ | skip)
                  · (intro V u2 hu hj hk; refine ⟨by kernel_rfl, ?_⟩; obtain ⟨hc, hf, hz⟩ := hu.cells; go_simp; first | exact ⟨rfl, Gr.refl _⟩ | skip)
                  · (intro V u2 hu hj hk; refine ⟨by kernel_rfl, ?_⟩; obtain ⟨hc, hf, hz⟩ := hu.cells; go_simp; first | exact ⟨rfl, Gr.refl _⟩ | skip)
                  · refine ⟨fun v u2 u3 h g => ?_, fun V u2 hu hj hk => ⟨by kernel_rfl, ?_⟩⟩
                    · obtain ⟨b, h1, h3⟩ := h
                      exact ⟨b, h1, g.heap h3⟩
                    · go_simp
                      exact ⟨⟨_, rfl, heap_alloc_self _ _⟩, (Gr.refl _).alloc _⟩
                  · refine ⟨fun v u2 u3 h g => ownsRow_g h g, fun V u2 hu hj hk => ⟨by kernel_rfl, ?_⟩⟩
                    refine turnK (R := fun u2 => Gr UU u2) (J := fun _ => True) (dj := [10, 14]) (k := 10) (drop := [0, 4, 9]) (V := V) (u := u2) (by kernel_rfl) (by kernel_rfl) ?_
                    have h4 := hk 4 (fun v u2 => u2.ownsRow q1 23 4 v (m.take k).length (rcs (m.take k))) (by kernel_rfl) (by kernel_rfl)
                    obtain ⟨b, hv, hb⟩ := hk 9 (fun v u2 => ∃ b, v = .slice (some ⟨b, 0, none⟩) 1 1 ∧ u2.heap[b]? = some (.cells #[.int .i64 x.s, .int .i64 x.k, .int .i64 x.d, .string x.t] 23 (0, 0))) (by kernel_rfl) (by kernel_rfl)
                    obtain ⟨v', u3, hr, h1, h2⟩ := append_recs u2 q1 32 (V 4) (m.take k) h4 _ [x] (recs_one u2 b x hb) (by rw [List.length_take, List.length_singleton]; omega) (HQ.out _ hu)
                    exact cameS_append_run _ _ 32 32 rfl _ _ rfl hv hr ⟨h1, GrL.gr hu h2 (fun i hi => by rw [HQ1.out]; exact (h4.lt i (by simpa using hi)).1)⟩
                  · (intro V u2 hu hj hk; refine ⟨by kernel_rfl, ?_⟩; obtain ⟨hc, hf, hz⟩ := hu.cells; go_simp; first | exact ⟨rfl, Gr.refl _⟩ | skip)
                  · (intro V u2 hu hj hk; refine ⟨by kernel_rfl, ?_⟩; obtain ⟨hc, hf, hz⟩ := hu.cells; go_simp; first | exact ⟨rfl, Gr.refl _⟩ | skip)
                  · (intro V u2 hu hj hk; refine ⟨by kernel_rfl, ?_⟩; obtain ⟨hc, hf, hz⟩ := hu.cells; go_simp; first | exact ⟨rfl, Gr.refl _⟩ | skip)
                  · refine ⟨fun v u2 u3 h g => ownsRow_g h g, fun V u2 hu hj hk => ⟨by kernel_rfl, ?_⟩⟩
                    refine turnK (R := fun u2 => Gr UU u2) (J := fun _ => True) (dj := [10, 14]) (k := 14) (drop := [0, 4, 9, 10]) (V := V) (u := u2) (by kernel_rfl) (by kernel_rfl) ?_
                    have h4 := hk 10 (fun v u2 => u2.ownsRow q1 23 4 v (m.take k ++ [x]).length (rcs (m.take k ++ [x]))) (by kernel_rfl) (by kernel_rfl)
                    obtain ⟨v', u3, hr, h1, h2⟩ := append_recs u2 q1 32 (V 10) (m.take k ++ [x]) h4 _ (m.drop k) (HSV.out.gr hu) (by simp only [List.length_append, List.length_take, List.length_drop, List.length_singleton]; omega) (HQ.out _ hu)
                    exact cameS_append_run _ _ 32 32 rfl _ _ rfl rfl hr ⟨h1, GrL.gr hu h2 (fun i hi => by rw [HQ1.out]; exact (h4.lt i (by simpa using hi)).1)⟩
                  · exact trivial
                · intro V u2 hg2 hs2
                  have h15 := hs2 14 _ rfl
                  rw [← HINS.out] at h15
                  have HN := Lib.hid (World.ownsRow.mono (base' := w.heap.size) h15 (by rw [← HQ1.out]; exact GU.b.size))
                  have G2 := GU.trans hg2
                  clear h15 hs2 hg2
                  refine ⟨⟨some 8, _, _, _, _, _⟩, rfl, rfl, ?_⟩
                  generalize V 14 = v15 at *
                  go_simp
                  refine Lones.fin ?_
                  go_simp
                  go_wp2
                  refine ⟨⟨i + 1, by simp, by omega, Lib.hid (by rw [HST.out]; exact HN.out), G2⟩, by simp [intOf]; omega⟩
    · have hil' : ¬ (i : Int) < l.length := by omega
      obtain rfl : i = l.length := by omega
      rw [List.take_length] at HO
      go_wp2
      go_ret2
      exact ⟨_, rfl, HO.out, gr⟩
end Go.Proofs.YthmimjofdmnakaaGreatDoor
