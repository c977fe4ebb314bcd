/- The walk of LoftMerges. -/
import Derived.Test.YthmimjofdmnakaaGreatDoorJIs
import Derived.Test.YthmimjofdmnakaaGreatDoorJHave
import Derived.Test.YthmimjofdmnakaaGreatDoorSumOk
namespace Go.Proofs.YthmimjofdmnakaaGreatDoor
open Go.RowKit Go.Shelf
theorem mR_of {n : Int} {a b : List Rc} (hm : mny n = true) (ha : AllOk n a) (hb : AllOk n b) : mR n a b = (match mrgK a b with | none => (96, []) | some m => (0, m)) := by
  unfold mR
  rw [cR_of hm ha, cR_of hm hb]
  rfl
theorem mR_ok {n : Int} {a b : List Rc} (h : (mR n a b).1 = 0) : mny n = true ∧ AllOk n a ∧ AllOk n b ∧ mrgK a b = some (mR n a b).2 := by
  unfold mR at h ⊢
  by_cases h1 : (cR n a).2 = 0
  · rw [if_pos h1] at h ⊢
    by_cases h2 : (cR n b).2 = 0
    · rw [if_pos h2] at h ⊢
      refine ⟨(cR_ok h1).1, (cR_ok h1).2.2, (cR_ok h2).2.2, ?_⟩
      cases hm : mrgK a b with
      | none => rw [hm] at h; cases h
      | some m => rfl
    · rw [if_neg h2] at h; exact absurd h h2
  · rw [if_neg h1] at h; exact absurd h h1
theorem mR_bad {n : Int} {a b : List Rc} (h : (mR n a b).1 ≠ 0) : (mR n a b).2 = [] := by
  unfold mR at h ⊢
  by_cases h1 : (cR n a).2 = 0
  · rw [if_pos h1] at h ⊢
    by_cases h2 : (cR n b).2 = 0
    · rw [if_pos h2] at h ⊢
      cases hm : mrgK a b with
      | none => rfl
      | some m => rw [hm] at h; exact absurd rfl h
    · rw [if_neg h2]
  · rw [if_neg h1]
theorem mR_zero {n : Int} {a b : List Rc} (h : (mR n a b).1 = 0) : mR n b a = mR n a b := by
  obtain ⟨hm, ha, hb, _⟩ := mR_ok h
  rw [mR_of hm hb ha, mR_of hm ha hb, mrg_comm hb ha]
theorem mR_swap (n : Int) (a b : List Rc) : (mR n b a).2 = (mR n a b).2 ∧ ((mR n b a).1 = 0 ↔ (mR n a b).1 = 0) := by
  by_cases h1 : (mR n a b).1 = 0
  · rw [mR_zero h1]; exact ⟨rfl, Iff.rfl⟩
  · by_cases h2 : (mR n b a).1 = 0
    · rw [mR_zero h2]; exact ⟨rfl, Iff.rfl⟩
    · exact ⟨by rw [mR_bad h1, mR_bad h2], iff_of_false h2 h1⟩
theorem mR_again {n : Int} {a b : List Rc} (h : (mR n a b).1 = 0) : mR n (mR n a b).2 b = (0, (mR n a b).2) ∧ AllOk n (mR n a b).2 := by
  obtain ⟨hm, ha, hb, hk⟩ := mR_ok h
  rcases mrg_cases ha hb with ⟨h1, _⟩ | ⟨m, h1, h2, _⟩
  · rw [h1] at hk; cases hk
  · rw [h1] at hk
    injection hk with hk
    rw [← hk]
    refine ⟨?_, h2⟩
    rw [mR_of hm h2 hb, mrg_again ha hb h1]
theorem mR_assoc {n : Int} {a b c : List Rc} (h : (mR n a b).1 = 0) (h' : (mR n b c).1 = 0) : mR n (mR n a b).2 c = mR n a (mR n b c).2 := by
  obtain ⟨hm, ha, hb, hk⟩ := mR_ok h
  obtain ⟨-, -, hc, hk'⟩ := mR_ok h'
  have h1 := (mR_again h).2
  have h2 : AllOk n (mR n b c).2 := (mR_again h').2
  rw [mR_of hm h1 hc, mR_of hm ha h2, mrg_assoc ha hb hc hk hk']
theorem mR_text {n : Int} {a b : List Rc} {k : Nat} (ta : ∀ x ∈ a, x.t.size ≤ k) (tb : ∀ x ∈ b, x.t.size ≤ k) : ∀ x ∈ (mR n a b).2, x.t.size ≤ k := by
  by_cases h : (mR n a b).1 = 0
  · obtain ⟨hm, ha, hb, hk⟩ := mR_ok h
    exact mrg_text ha hb hk ta tb
  · rw [mR_bad h]
    intro x hx; cases hx
theorem mR_adds {n : Int} {a b : List Rc} (h : (mR n a b).1 = 0) : sR n b (hav (cnN a 0) (cnN a 1) (cnN a 2) (cnN a 3) (cnN a 4)) = (0, lackR (hav (cnN a 0) (cnN a 1) (cnN a 2) (cnN a 3) (cnN a 4)) b) ∧ (lackR (hav (cnN a 0) (cnN a 1) (cnN a 2) (cnN a 3) (cnN a 4)) b).length + a.length = (mR n a b).2.length ∧ ∀ j (hj : j < a.length), 0 ≤ a[j].s ∧ a[j].s ≤ 4 := by
  obtain ⟨hm, ha, hb, hk⟩ := mR_ok h
  have h5 := mny_le hm
  refine ⟨?_, ?_, fun j hj => ?_⟩
  · unfold sR
    rw [cR_of hm hb]
    rfl
  · refine mrg_added ha hb hk _ h5.2 (fun s hs => ?_)
    match s, hs with
    | 0, _ => rfl
    | 1, _ => rfl
    | 2, _ => rfl
    | 3, _ => rfl
    | 4, _ => rfl
  · have := allok_s ha a[j] (List.getElem_mem hj)
    omega
theorem own_nil_len {w : World} {base : Nat} {v : Value} {T : TypeId} {xs : List Value} {m : Nat} (h : w.ownsRow base T 4 v m xs) : ∃ a c, v = .slice a m c ∧ m ≤ c ∧ c ≤ 9223372036854775807 := by
  rcases h.2 with ⟨rfl, hz⟩ | ⟨g, cap, cur, rfl, _, _, h1, h2, _⟩
  · rw [hz]; exact ⟨none, 0, rfl, Nat.le_refl _, by omega⟩
  · exact ⟨_, cap, rfl, h1, by unfold maxLen at h2; omega⟩
set_option maxRecDepth 100000 in
set_option maxHeartbeats 16000000 in
theorem LoftMerges_any (n : Int) (va vb vc : Value) (a b c : List Rc) (w : World) (ha : RecsAt w va a) (hb : RecsAt w vb b) (hc : RecsAt w vc c) (ht : RX.Tables w) :
    Calls Tryz.prog 5 #[.int .i64 n, va, vb, vc] w fun e w' => e = .returned (.bool true) ∧ Gr w w' := by
  have LE := Lib.hid (fun w' (g : Gr w w') => lent_g w' (ht.gr g))
  have FA := Lib.hid (fun u (g : Gr w u) => Few_any va a 30 u (ha.gr g) (by omega))
  have FB := Lib.hid (fun u (g : Gr w u) => Few_any vb b 30 u (hb.gr g) (by omega))
  have FC := Lib.hid (fun u (g : Gr w u) => Few_any vc c 30 u (hc.gr g) (by omega))
  clear ht
  cases hfa : fewB a 30 with
  | false =>
    rw [hfa] at FA
    clear ha hb hc hfa
    go_enter Tryz.func5, Tryz.ntmps5
    go_wp2_with fail
    refine (FA.out _ (Gr.refl w)).mono ?_
    rintro e w1 ⟨rfl, hw⟩
    obtain rfl : w = w1 := hw.symm
    go_wp2_with fail
    refine (LE.out _ (Gr.refl _)).mono ?_
    rintro e w1 ⟨rfl, g1⟩
    go_wp2
    go_ret
    exact ⟨rfl, g1⟩
  | true =>
  rw [hfa] at FA
  cases hfb : fewB b 30 with
  | false =>
    rw [hfb] at FB
    clear ha hb hc hfa hfb
    go_enter Tryz.func5, Tryz.ntmps5
    go_wp2_with fail
    refine (FA.out _ (Gr.refl w)).mono ?_
    rintro e w1 ⟨rfl, hw⟩
    obtain rfl : w = w1 := hw.symm
    go_wp2_with fail
    refine (FB.out _ (Gr.refl _)).mono ?_
    rintro e w1 ⟨rfl, hw⟩
    obtain rfl : w = w1 := hw.symm
    go_wp2_with fail
    refine (LE.out _ (Gr.refl _)).mono ?_
    rintro e w1 ⟨rfl, g1⟩
    go_wp2
    go_ret
    exact ⟨rfl, g1⟩
  | true =>
  rw [hfb] at FB
  cases hfc : fewB c 30 with
  | false =>
    rw [hfc] at FC
    clear ha hb hc hfa hfb hfc
    go_enter Tryz.func5, Tryz.ntmps5
    go_wp2_with fail
    refine (FA.out _ (Gr.refl w)).mono ?_
    rintro e w1 ⟨rfl, hw⟩
    obtain rfl : w = w1 := hw.symm
    go_wp2_with fail
    refine (FB.out _ (Gr.refl _)).mono ?_
    rintro e w1 ⟨rfl, hw⟩
    obtain rfl : w = w1 := hw.symm
    go_wp2_with fail
    refine (FC.out _ (Gr.refl _)).mono ?_
    rintro e w1 ⟨rfl, hw⟩
    obtain rfl : w = w1 := hw.symm
    go_wp2_with fail
    refine (LE.out _ (Gr.refl _)).mono ?_
    rintro e w1 ⟨rfl, g1⟩
    go_wp2
    go_ret
    exact ⟨rfl, g1⟩
  | true =>
  rw [hfc] at FC
  obtain ⟨la, ta⟩ := fewB_is hfa
  obtain ⟨lb, tb⟩ := fewB_is hfb
  obtain ⟨lc, tc⟩ := fewB_is hfc
  have ta' : ∀ x ∈ a, x.t.size ≤ 1000 := fun x hx => by have := ta x hx; omega
  have tb' : ∀ x ∈ b, x.t.size ≤ 1000 := fun x hx => by have := tb x hx; omega
  have tc' : ∀ x ∈ c, x.t.size ≤ 1000 := fun x hx => by have := tc x hx; omega
  have lab := mR_len n a b
  have lbc := mR_len n b c
  have tab := mR_text (n := n) ta' tb'
  have tbc := mR_text (n := n) tb' tc'
  have K1 := Lib.hid (fun u (g : Gr w u) => Mrg_is n va vb a b u (ha.gr g) (hb.gr g) (by omega) (by omega) ta' tb')
  have K2 := Lib.hid (fun u (g : Gr w u) => Mrg_is n vb va b a u (hb.gr g) (ha.gr g) (by omega) (by omega) tb' ta')
  have K3 := Lib.hid (fun u (g : Gr w u) => Mrg_is n vb vc b c u (hb.gr g) (hc.gr g) (by omega) (by omega) tb' tc')
  have K4 := Lib.hid (fun u (g : Gr w u) v (hv : RecsAt u v (mR n a b).2) => Mrg_is n v vb (mR n a b).2 b u hv (hb.gr g) (by omega) (by omega) tab tb')
  have K5 := Lib.hid (fun u (g : Gr w u) (hs : ∀ j (hj : j < a.length), 0 ≤ a[j].s ∧ a[j].s ≤ 4) => HaveOf_any va a u (ha.gr g) (by omega) hs)
  have K6 := Lib.hid (fun u (g : Gr w u) => Mis_is n vb b (cnN a 0) (cnN a 1) (cnN a 2) (cnN a 3) (cnN a 4) u (hb.gr g) (by omega) tb')
  have K7 := Lib.hid (fun u (g : Gr w u) v (hv : RecsAt u v (mR n a b).2) => Mrg_is n v vc (mR n a b).2 c u hv (hc.gr g) (by omega) (by omega) tab tc')
  have K8 := Lib.hid (fun u (g : Gr w u) v (hv : RecsAt u v (mR n b c).2) => Mrg_is n va v a (mR n b c).2 u (ha.gr g) hv (by omega) (by omega) ta' tbc)
  have HSW := mR_swap n a b
  rw [show mR n b a = ((mR n b a).1, (mR n b a).2) from rfl, HSW.1] at K2
  have HX := Lib.hid (mR_len n (mR n a b).2 c)
  have P1 := Lib.hid (fun h => mR_bad (n := n) (a := a) (b := b) h)
  have P2 := Lib.hid (fun h => mR_again (n := n) (a := a) (b := b) h)
  have P3 := Lib.hid (fun h => mR_adds (n := n) (a := a) (b := b) h)
  have P4 := Lib.hid (fun h h' => mR_assoc (n := n) (a := a) (b := b) (c := c) h h')
  have HSW2 := Lib.hid HSW.2
  obtain ⟨aa, ca, rfl, -, -⟩ := ha
  obtain ⟨ab, cb, rfl, -, -⟩ := hb
  obtain ⟨ac, cc, rfl, -, -⟩ := hc
  obtain ⟨e2, he2⟩ : ∃ e, (mR n b a).1 = e := ⟨_, rfl⟩
  rw [he2] at K2 HSW2
  clear hfa hfb hfc ta tb tc ta' tb' tc' tab tbc HSW he2
  generalize hAB : mR n a b = AB at *
  generalize hBC : mR n b c = BC at *
  obtain ⟨e1, AL⟩ := AB
  obtain ⟨e3, BL⟩ := BC
  dsimp only at *
  have lA : AL.length ≤ 60 := by omega
  have lB : BL.length ≤ 60 := by omega
  clear hAB hBC lab lbc
  go_enter Tryz.func5, Tryz.ntmps5
  go_wp2_with fail
  refine (FA.out _ (Gr.refl w)).mono ?_
  rintro e w1 ⟨rfl, hw⟩
  obtain rfl : w = w1 := hw.symm
  go_wp2_with fail
  refine (FB.out _ (Gr.refl _)).mono ?_
  rintro e w1 ⟨rfl, hw⟩
  obtain rfl : w = w1 := hw.symm
  go_wp2_with fail
  refine (FC.out _ (Gr.refl _)).mono ?_
  rintro e w1 ⟨rfl, hw⟩
  obtain rfl : w = w1 := hw.symm
  clear FA FB FC
  go_wp2_with fail
  refine (K1.out _ (Gr.refl _)).mono ?_
  rintro e w1 ⟨v1, rfl, h1, g1⟩
  obtain ⟨x1, y1, rfl, q1, q2⟩ := own_nil_len h1
  have R1 := Lib.hid (recs_of_own h1)
  clear h1 K1
  go_wp2_with fail
  refine (K2.out _ g1).mono ?_
  rintro e w2 ⟨v2, rfl, h1, hg⟩
  have R1 := Lib.hid (R1.out.gr hg)
  have R2 := Lib.hid (recs_of_own h1)
  have g2 := g1.trans hg
  clear h1 hg K2 g1
  go_wp2_with fail
  refine (K3.out _ g2).mono ?_
  rintro e w3 ⟨v3, rfl, h1, hg⟩
  have R1 := Lib.hid (R1.out.gr hg)
  have R2 := Lib.hid (R2.out.gr hg)
  have R3 := Lib.hid (recs_of_own h1)
  have g3 := g2.trans hg
  clear h1 hg K3 g2
  have SA := Lib.hid (Same_yes _ _ AL w3 R1.out R2.out (by omega))
  go_wp2_with fail
  refine SA.out.mono ?_
  rintro e w4 ⟨rfl, hg⟩
  have R1 := Lib.hid (R1.out.gr hg)
  have R3 := Lib.hid (R3.out.gr hg)
  have g4 := g3.trans hg
  clear hg SA g3 R2
  by_cases h0 : e1 = 0
  · have h2 : e2 = 0 := HSW2.out.2 h0
    subst h0; subst h2
    have P2 := P2.out rfl
    obtain ⟨P3, P3b, P3c⟩ := P3.out rfl
    rw [P2.1] at K4
    rw [P3] at K6
    have P3c := Lib.hid P3c
    obtain ⟨LL, hLL⟩ : ∃ L, lackR (hav (cnN a 0) (cnN a 1) (cnN a 2) (cnN a 3) (cnN a 4)) b = L := ⟨_, rfl⟩
    rw [hLL] at K6 P3b
    have hlen : (LL.length : Int) + a.length = AL.length := by omega
    have hwr : IntKind.i64.wrap ((AL.length : Nat) : Int) = AL.length := IntWalk.i64_in _ (by omega)
    clear P2 P3 hLL P1
    go_wp2_with fail
    refine (K4.out _ g4 _ R1.out).mono ?_
    rintro e w5 ⟨v5, rfl, h1, hg⟩
    have R1 := Lib.hid (R1.out.gr hg)
    have R3 := Lib.hid (R3.out.gr hg)
    have R5 := Lib.hid (recs_of_own h1)
    have g5 := g4.trans hg
    clear h1 hg K4 g4
    have SA := Lib.hid (Same_yes _ _ AL w5 R5.out R1.out (by omega))
    go_wp2_with fail
    refine SA.out.mono ?_
    rintro e w6 ⟨rfl, hg⟩
    have R1 := Lib.hid (R1.out.gr hg)
    have R3 := Lib.hid (R3.out.gr hg)
    have g6 := g5.trans hg
    clear hg SA g5 R5
    go_wp2_with fail
    refine (K5.out _ g6 P3c.out).mono ?_
    rintro e w7 ⟨rfl, hg⟩
    have R1 := Lib.hid (R1.out.gr hg)
    have R3 := Lib.hid (R3.out.gr hg)
    have g7 := g6.trans hg
    clear hg K5 g6 P3c
    go_wp2_with fail
    refine (K6.out _ g7).mono ?_
    rintro e w8 ⟨v8, rfl, h1, hg⟩
    obtain ⟨x8, y8, rfl, q3, q4⟩ := own_nil_len h1
    have R1 := Lib.hid (R1.out.gr hg)
    have R3 := Lib.hid (R3.out.gr hg)
    have g8 := g7.trans hg
    clear h1 hg K6 g7
    by_cases h3 : e3 = 0
    · subst h3
      have P4 := P4.out (by trivial) (by trivial)
      rw [← P4] at K8
      obtain ⟨X, hX⟩ : ∃ X, mR n AL c = X := ⟨_, rfl⟩
      rw [hX] at K7 K8 HX
      have lX : X.2.length ≤ 1000 := by have := HX.out; omega
      clear hX P4 HX
      go_wp2_with fail
      refine (K7.out _ g8 _ R1.out).mono ?_
      rintro e w9 ⟨v9, rfl, h1, hg⟩
      have R3 := Lib.hid (R3.out.gr hg)
      have R9 := Lib.hid (recs_of_own h1)
      have g9 := g8.trans hg
      clear h1 hg K7 g8 R1
      go_wp2_with fail
      refine (K8.out _ g9 _ R3.out).mono ?_
      rintro e w10 ⟨v10, rfl, h1, hg⟩
      have R9 := Lib.hid (R9.out.gr hg)
      have R10 := Lib.hid (recs_of_own h1)
      have g10 := g9.trans hg
      clear h1 hg K8 g9 R3
      go_wp2_with fail
      refine (LE.out _ g10).mono ?_
      rintro e w11 ⟨rfl, hg⟩
      have SA := Lib.hid (Same_yes _ _ X.2 w11 (R9.out.gr hg) (R10.out.gr hg) lX)
      have g11 := g10.trans hg
      clear hg LE g10 R9 R10
      go_wp2_with fail
      refine SA.out.mono ?_
      rintro e w12 ⟨rfl, hg⟩
      have G := g11.trans hg
      go_wp2
      go_ret
      exact ⟨rfl, G⟩
    · have h3b : (e3 == 0) = false := by simpa using h3
      go_wp2_with fail
      refine (LE.out _ g8).mono ?_
      rintro e w11 ⟨rfl, hg⟩
      have G := g8.trans hg
      go_wp2
      go_ret
      exact ⟨rfl, G⟩
  · have h2 : ¬ e2 = 0 := fun h => h0 (HSW2.out.1 h)
    have h0b : (e1 == 0) = false := by simpa using h0
    have h2b : (e2 == 0) = false := by simpa using h2
    have hnil : AL = [] := P1.out h0
    subst hnil
    go_wp2_with fail
    refine (LE.out _ g4).mono ?_
    rintro e w11 ⟨rfl, hg⟩
    have G := g4.trans hg
    go_wp2
    go_ret
    exact ⟨rfl, G⟩
end Go.Proofs.YthmimjofdmnakaaGreatDoor
