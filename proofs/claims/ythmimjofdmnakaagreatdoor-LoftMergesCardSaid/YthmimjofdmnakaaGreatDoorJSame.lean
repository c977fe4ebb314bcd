/- Records compared; strickleref09: Few, Same. -/
import Derived.Test.YthmimjofdmnakaaGreatDoorLOrder
namespace Go.Proofs.YthmimjofdmnakaaGreatDoor
open Go.RowKit Go.Shelf
theorem bytes_eq {a b : ByteArray} (h : a.toList = b.toList) : a = b := by
  rw [ByteArray.toList_eq, ByteArray.toList_eq] at h
  obtain ⟨⟨x⟩⟩ := a
  obtain ⟨⟨y⟩⟩ := b
  simp at h
  rw [h]
theorem rc_eq (a b : Rc) : (decide (a = b)) = (decide (a.s = b.s) && (decide (a.k = b.k) && (decide (a.d = b.d) && decide (a.t = b.t)))) := by
  obtain ⟨s, k, d, t⟩ := a
  obtain ⟨s2, k2, d2, t2⟩ := b
  simp [Rc.mk.injEq]
theorem came_neq (x y : Rc) (b : Bool) (u : World) (h : b = !decide (x = y)) :
    Came Tryz.prog (.bool b) (Gr u) (if x.s = y.s then if x.k = y.k then if x.d = y.d then if x.t.toList = y.t.toList then Result.ok (Next.value (.bool false)) u else Result.ok (Next.value (.bool true)) u else Result.ok (Next.value (.bool true)) u else Result.ok (Next.value (.bool true)) u else Result.ok (Next.value (.bool true)) u) := by
  subst h
  rw [rc_eq]
  have h5 : x.t.toList = y.t.toList → x.t = y.t := bytes_eq
  by_cases h1 : x.s = y.s
  · by_cases h2 : x.k = y.k
    · by_cases h3 : x.d = y.d
      · by_cases h4 : x.t = y.t
        · rw [if_pos h1, if_pos h2, if_pos h3, if_pos (by rw [h4]), decide_eq_true h1, decide_eq_true h2, decide_eq_true h3, decide_eq_true h4]; exact ⟨rfl, Gr.refl _⟩
        · rw [if_pos h1, if_pos h2, if_pos h3, if_neg (fun h => h4 (h5 h)), decide_eq_true h1, decide_eq_true h2, decide_eq_true h3, decide_eq_false h4]; exact ⟨rfl, Gr.refl _⟩
      · rw [if_pos h1, if_pos h2, if_neg h3, decide_eq_true h1, decide_eq_true h2, decide_eq_false h3]; exact ⟨rfl, Gr.refl _⟩
    · rw [if_pos h1, if_neg h2, decide_eq_true h1, decide_eq_false h2]; exact ⟨rfl, Gr.refl _⟩
  · rw [if_neg h1, decide_eq_false h1]; exact ⟨rfl, Gr.refl _⟩
def fewB (l : List Rc) (m : Nat) : Bool := decide (l.length ≤ m) && l.all fun x => decide (x.t.size ≤ 300)
theorem fewB_no {l : List Rc} {m i : Nat} (hi : i < l.length) (h : ¬ l[i].t.size ≤ 300) : fewB l m = false := by
  unfold fewB
  have : (l.all fun x => decide (x.t.size ≤ 300)) = false := by
    cases e : l.all fun x => decide (x.t.size ≤ 300) with
    | false => rfl
    | true => exact absurd (of_decide_eq_true (List.all_eq_true.1 e _ (List.getElem_mem hi))) h
  rw [this, Bool.and_false]
theorem fewB_yes {l : List Rc} {m : Nat} (h : l.length ≤ m) (k : ∀ j (hj : j < l.length), l[j].t.size ≤ 300) : fewB l m = true := by
  unfold fewB
  rw [decide_eq_true h, Bool.true_and, List.all_eq_true]
  intro x hx
  obtain ⟨j, hj, rfl⟩ := List.mem_iff_getElem.1 hx
  exact decide_eq_true (k j hj)
theorem fewB_is {l : List Rc} {m : Nat} (h : fewB l m = true) : l.length ≤ m ∧ ∀ x ∈ l, x.t.size ≤ 300 := by
  unfold fewB at h
  rw [Bool.and_eq_true, List.all_eq_true] at h
  exact ⟨of_decide_eq_true h.1, fun x hx => of_decide_eq_true (h.2 x hx)⟩
set_option maxRecDepth 100000 in
set_option maxHeartbeats 2000000 in
theorem Few_any (v : Value) (l : List Rc) (m : Nat) (w : World) (hv : RecsAt w v l) (hm : m ≤ 1000) :
    Calls Tryz.prog 15 #[v, .int .i64 m] w fun e w' => e = .returned (.bool (fewB l m)) ∧ w' = w := by
  obtain ⟨a, cap, rfl, hcap, hcell⟩ := hv
  by_cases hlm : l.length ≤ m
  · have HC := Lib.hid hcell
    have h1 : ¬ (m : Int) < l.length := by omega
    obtain ⟨q, hq⟩ : ∃ q, fewB l m = q := ⟨_, rfl⟩
    have HQ := Lib.hid hq
    rw [hq]
    clear hcell hq
    go_enter Tryz.func15, Tryz.ntmps15
    go_wp2
    go_loopw [5] (fun r wr => ∃ i : Nat, r = .int .i64 i ∧ i ≤ l.length ∧ Hid (∀ j (hj : j < l.length), j < i → l[j].t.size ≤ 300) ∧ wr = w) (fun r _ => l.length - (intOf r).toNat)
    case atStart => exact ⟨0, rfl, by omega, Lib.hid (fun j hj h => absurd h (Nat.not_lt_zero _)), rfl⟩
    case round =>
      obtain ⟨i, rfl, hi, HS, rfl⟩ := hrel
      by_cases hil : i < l.length
      · have hil' : (i : Int) < l.length := by omega
        obtain ⟨g, o, rfl, hgl, -, -, -, c3⟩ := HC.out i hil
        have HN := Lib.hid (fun h => fewB_no (m := m) hil h)
        by_cases hs : l[i].t.size ≤ 300
        · have hs' : ¬ (300 : Int) < l[i].t.size := by omega
          have HI : Hid (∀ j (hj : j < l.length), j < i + 1 → l[j].t.size ≤ 300) := Lib.hid (fun j hj hji => by
            rcases Nat.lt_or_ge j i with h | h
            · exact HS.out j hj h
            · obtain rfl : j = i := by omega
              exact hs)
          generalize l[i].t = t at *
          go_wp2
          exact ⟨⟨i + 1, by simp, by omega, HI, trivial⟩, by simp [intOf]; omega⟩
        · have hs' : (300 : Int) < l[i].t.size := by omega
          have hE := HN.out hs
          generalize l[i].t = t at *
          go_wp2
          go_ret
          exact ⟨ret_bool (hE.symm.trans HQ.out), rfl⟩
      · have hil' : ¬ (i : Int) < l.length := by omega
        obtain rfl : i = l.length := by omega
        go_wp2
        go_ret
        exact ⟨ret_bool ((fewB_yes hlm (fun j hj => HS.out j hj hj)).symm.trans HQ.out), rfl⟩
  · have hE : fewB l m = false := by unfold fewB; rw [decide_eq_false hlm, Bool.false_and]
    rw [hE]
    have h1 : (m : Int) < l.length := by omega
    clear hcell hE
    go_enter Tryz.func15, Tryz.ntmps15
    go_wp2
    go_ret
    exact ⟨rfl, rfl⟩
set_option maxRecDepth 100000 in
set_option maxHeartbeats 4000000 in
theorem Same_any (v v2 : Value) (l m : List Rc) (w : World) (hv : RecsAt w v l) (hv2 : RecsAt w v2 m) (hl : l.length ≤ 1000000) (_ : m.length ≤ 1000000) :
    Calls Tryz.prog 24 #[v, v2] w fun e w' => e = .returned (.bool (decide (l = m))) ∧ Gr w w' := by
  obtain ⟨a, cap, rfl, hcap, hcell⟩ := hv
  obtain ⟨a2, cap2, rfl, hcap2, hcell2⟩ := hv2
  by_cases hlm : l.length = m.length
  · have HC := Lib.hid hcell
    have HC2 := Lib.hid hcell2
    obtain ⟨k, hk⟩ : ∃ k, l.length = k := ⟨_, rfl⟩
    have hk2 : m.length = k := by omega
    rw [hk, hk2]
    have HK := Lib.hid hk
    have HK2 := Lib.hid hk2
    have HLM := Lib.hid hlm
    obtain ⟨q, hq⟩ : ∃ q, decide (l = m) = q := ⟨_, rfl⟩
    have HQ := Lib.hid hq
    rw [hq]
    clear hcell hcell2 hq hlm
    rw [hk] at hl
    clear hk hk2 hcap hcap2
    go_enter Tryz.func24, Tryz.ntmps24
    go_wp2
    go_loopw [5] (fun r wr => ∃ i : Nat, r = .int .i64 i ∧ i ≤ k ∧ Hid (∀ j (hj : j < l.length) (hj2 : j < m.length), j < i → l[j] = m[j]) ∧ Gr w wr) (fun r _ => k - (intOf r).toNat)
    case atStart => exact ⟨0, rfl, by omega, Lib.hid (fun j hj _ h => absurd h (Nat.not_lt_zero _)), Gr.refl _⟩
    case round =>
      obtain ⟨i, rfl, hi, HS, gr⟩ := hrel
      by_cases hik : i < k
      · have hil' : (i : Int) < k := by omega
        have hil : i < l.length := by rw [HK.out]; exact hik
        have him : i < m.length := by rw [HK2.out]; exact hik
        obtain ⟨g, o, rfl, hgl, c0, c1, c2, c3⟩ := HC.out i hil
        obtain ⟨g2, o2, rfl, hgl2, d0, d1, d2, d3⟩ := HC2.out i him
        rw [← gr.cells.1 g _ hgl] at c0 c1 c2 c3
        rw [← gr.cells.1 g2 _ hgl2] at d0 d1 d2 d3
        have hz : g < wr.heap.size := Nat.lt_of_lt_of_le hgl gr.b.size
        have hz2 : g2 < wr.heap.size := Nat.lt_of_lt_of_le hgl2 gr.b.size
        obtain ⟨bq, hbq⟩ : ∃ b, (!decide (l[i] = m[i])) = b := ⟨_, rfl⟩
        have NE := Lib.hid hbq.symm
        by_cases hs : l[i] = m[i]
        · have HI : Hid (∀ j (hj : j < l.length) (hj2 : j < m.length), j < i + 1 → l[j] = m[j]) := Lib.hid (fun j hj hj2 hji => by
            rcases Nat.lt_or_ge j i with h | h
            · exact HS.out j hj hj2 h
            · obtain rfl : j = i := by omega
              exact hs)
          obtain rfl : false = bq := by rw [← hbq, decide_eq_true hs]; rfl
          generalize l[i] = x at *
          generalize m[i] = y at *
          clear hs hbq hil him
          go_wp2_with fail
          refine wp_region_steps [.val (.slice (some ⟨g, o, none⟩) k cap), .val (.int .i64 i), .val (.pointer (some ⟨g, o + i * 4, none⟩)), .val x.v, .val (.slice (some ⟨g2, o2, none⟩) k cap2), .val (.int .i64 i), .val (.pointer (some ⟨g2, o2 + i * 4, none⟩)), .val y.v, .val (.bool false)] (by kernel_rfl) (by kernel_rfl) (fun V => by first | (simp only [finS, Step.isLater, Bool.false_eq_true, if_false, Act.put, Step.value, List.setIfInBounds_toArray, List.set_cons_zero, List.set_cons_succ]; rfl) | (simp only [finS, Step.isLater, Bool.false_eq_true, if_false, if_true, Act.put, Step.value, List.setIfInBounds_toArray, List.set_cons_zero, List.set_cons_succ, Nat.zero_add, Nat.reduceAdd]; rfl)) ?_ ?_
          · refine ⟨?_, ?_, ?_, ?_, ?_, ?_, ?_, ?_, ?_, trivial⟩ <;> (first | exact trivial | (refine ⟨(by intro v u u1 h g; obtain ⟨b, rfl, h⟩ := h; exact ⟨b, rfl, g.heap h⟩), ?_⟩; intro V u hu hk; refine ⟨by kernel_rfl, ?_⟩; go_simp; exact ⟨⟨_, rfl, heap_alloc_self _ _⟩, (Gr.refl _).alloc _⟩) | (refine ⟨(by intro v u u1 h g; first | exact ownsRow_g h g | exact st_and h g | exact h), ?_⟩; intro V u hu hk; refine ⟨by kernel_rfl, turn_owes (by kernel_rfl) ?_⟩; obtain ⟨hc, hf, hz⟩ := hu.cells; go_simp; skip) | (refine ⟨(by intro v u u1 h g; first | exact ownsRow_g h g | exact st_and h g | exact h), ?_⟩; intro V u hu hk; refine ⟨by kernel_rfl, ?_⟩; obtain ⟨hc, hf, hz⟩ := hu.cells; go_simp; skip) | (intro V u hu hk; refine ⟨by kernel_rfl, ?_⟩; obtain ⟨hc, hf, hz⟩ := hu.cells; go_simp; first | exact ⟨rfl, Gr.refl _⟩ | skip) | (intro V u hu hk; show _ = false; kernel_rfl))
            exact came_neq x y _ _ NE.out
          · intro V u hg hsx
            have gu := gr.trans hg
            go_simp
            go_wp2
            refine ⟨?_, by simp [intOf]; omega⟩
            (repeat apply Exists.intro)
            exact ⟨(show Value.int .i64 ((i : Int) + 1) = .int .i64 ((i + 1 : Nat) : Int) by simp), by omega, HI, gu⟩
        · have hE : decide (l = m) = false := decide_eq_false (fun h => hs (by subst h; rfl))
          have HE := Lib.hid (hE.symm.trans HQ.out)
          obtain rfl : true = bq := by rw [← hbq, decide_eq_false hs]; rfl
          generalize l[i] = x at *
          generalize m[i] = y at *
          clear hs hbq hE hil him
          go_wp2_with fail
          refine wp_region_steps [.val (.slice (some ⟨g, o, none⟩) k cap), .val (.int .i64 i), .val (.pointer (some ⟨g, o + i * 4, none⟩)), .val x.v, .val (.slice (some ⟨g2, o2, none⟩) k cap2), .val (.int .i64 i), .val (.pointer (some ⟨g2, o2 + i * 4, none⟩)), .val y.v, .val (.bool true)] (by kernel_rfl) (by kernel_rfl) (fun V => by first | (simp only [finS, Step.isLater, Bool.false_eq_true, if_false, Act.put, Step.value, List.setIfInBounds_toArray, List.set_cons_zero, List.set_cons_succ]; rfl) | (simp only [finS, Step.isLater, Bool.false_eq_true, if_false, if_true, Act.put, Step.value, List.setIfInBounds_toArray, List.set_cons_zero, List.set_cons_succ, Nat.zero_add, Nat.reduceAdd]; rfl)) ?_ ?_
          · refine ⟨?_, ?_, ?_, ?_, ?_, ?_, ?_, ?_, ?_, trivial⟩ <;> (first | exact trivial | (refine ⟨(by intro v u u1 h g; obtain ⟨b, rfl, h⟩ := h; exact ⟨b, rfl, g.heap h⟩), ?_⟩; intro V u hu hk; refine ⟨by kernel_rfl, ?_⟩; go_simp; exact ⟨⟨_, rfl, heap_alloc_self _ _⟩, (Gr.refl _).alloc _⟩) | (refine ⟨(by intro v u u1 h g; first | exact ownsRow_g h g | exact st_and h g | exact h), ?_⟩; intro V u hu hk; refine ⟨by kernel_rfl, turn_owes (by kernel_rfl) ?_⟩; obtain ⟨hc, hf, hz⟩ := hu.cells; go_simp; skip) | (refine ⟨(by intro v u u1 h g; first | exact ownsRow_g h g | exact st_and h g | exact h), ?_⟩; intro V u hu hk; refine ⟨by kernel_rfl, ?_⟩; obtain ⟨hc, hf, hz⟩ := hu.cells; go_simp; skip) | (intro V u hu hk; refine ⟨by kernel_rfl, ?_⟩; obtain ⟨hc, hf, hz⟩ := hu.cells; go_simp; first | exact ⟨rfl, Gr.refl _⟩ | skip) | (intro V u hu hk; show _ = false; kernel_rfl))
            exact came_neq x y _ _ NE.out
          · intro V u hg hsx
            have gu := gr.trans hg
            go_simp
            go_wp2
            go_ret
            exact ⟨ret_bool HE.out, gu⟩
      · have hil' : ¬ (i : Int) < k := by omega
        obtain rfl : i = k := by omega
        go_wp2
        go_ret
        refine ⟨ret_bool (Eq.trans (decide_eq_true ?_).symm HQ.out), gr⟩
        exact List.ext_getElem HLM.out (fun j h1 h2 => HS.out j h1 h2 (by rw [HK.out] at h1; exact h1))
  · have hE : decide (l = m) = false := decide_eq_false (fun h => hlm (by rw [h]))
    rw [hE]
    have h1 : ¬ (l.length : Int) = m.length := by omega
    have h2 : ((l.length : Int) == m.length) = false := by simpa using h1
    clear hcell hcell2 hE
    go_enter Tryz.func24, Tryz.ntmps24
    go_wp2
    go_ret
    exact ⟨rfl, Gr.refl _⟩
end Go.Proofs.YthmimjofdmnakaaGreatDoor
