/- Sizes of what Order, Merge and Missing return; Same at one journal. -/
import Derived.Test.YthmimjofdmnakaaGreatDoorJJour
import Derived.Test.YthmimjofdmnakaaGreatDoorSumOk
namespace Go.Proofs.YthmimjofdmnakaaGreatDoor
section
open Go.RowKit Go.Shelf
theorem ordO_len (l : List Rc) : (ordO l).length = l.length := by
  have : ∀ (l acc : List Rc), (l.foldl insO acc).length = acc.length + l.length := fun l => by
    induction l with
    | nil => intro acc; rfl
    | cons a l ih => intro acc; rw [List.foldl_cons, ih, insO_len, List.length_cons]; omega
  unfold ordO
  rw [this]
  simp
theorem oR_len (n : Int) (l : List Rc) : (oR n l).2.length ≤ l.length := by
  unfold oR
  split
  · exact Nat.le_of_eq (ordO_len l)
  · exact Nat.zero_le _
theorem sR_len (n : Int) (l : List Rc) (f : Nat → Int) : (sR n l f).2.length ≤ l.length := by
  unfold sR
  split
  · exact lackR_le f l
  · exact Nat.zero_le _
theorem mR_len (n : Int) (a b : List Rc) : (mR n a b).2.length ≤ a.length + b.length := by
  unfold mR
  split
  · split
    · cases h : mrgK a b with
      | none => exact Nat.zero_le _
      | some m => exact mrg_len h
    · exact Nat.zero_le _
  · exact Nat.zero_le _
theorem Same_yes (v v2 : Value) (l : List Rc) (w : World) (hv : RecsAt w v l) (hv2 : RecsAt w v2 l) (hl : l.length ≤ 1000) :
    Calls Tryz.prog 24 #[v, v2] w fun e w' => e = .returned (.bool true) ∧ Gr w w' := by
  have := Same_any v v2 l l w hv hv2 (by omega) (by omega)
  rw [decide_eq_true (rfl : l = l)] at this
  exact this
end
section
open Go.RowKit Go.Shelf
set_option maxRecDepth 100000 in
set_option maxHeartbeats 16000000 in
theorem LoftJournals_any (n : Int) (va vb : Value) (a b : List Rc) (a0 a1 a2 a3 a4 : Int) (w : World) (ha : RecsAt w va a) (hb : RecsAt w vb b) (ht : RX.Tables w) :
    Calls Tryz.prog 4 #[.int .i64 n, va, vb, havV a0 a1 a2 a3 a4] w fun e w' => e = .returned (.bool true) ∧ Gr w w' := by
  have LE := Lib.hid (fun w' (g : Gr w w') => lent_g w' (ht.gr g))
  have FA := Lib.hid (fun u (g : Gr w u) => Few_any va a 40 u (ha.gr g) (by omega))
  have FB := Lib.hid (fun u (g : Gr w u) => Few_any vb b 40 u (hb.gr g) (by omega))
  have bx := heap_alloc_self w (.cells #[.int .i64 a0, .int .i64 a1, .int .i64 a2, .int .i64 a3, .int .i64 a4] 35)
  have g0 : Gr w (w.alloc (.cells #[.int .i64 a0, .int .i64 a1, .int .i64 a2, .int .i64 a3, .int .i64 a4] 35)) := (Gr.refl w).alloc _
  clear ht
  cases hfa : fewB a 40 with
  | false =>
    rw [hfa] at FA
    clear ha hb hfa bx
    go_enter Tryz.func4, Tryz.ntmps4
    go_wp2_with fail
    refine (FA.out _ g0).mono ?_
    rintro e w1 ⟨rfl, rfl⟩
    go_wp2_with fail
    refine (LE.out _ g0).mono ?_
    rintro e w1 ⟨rfl, g1⟩
    have G := g0.trans g1
    go_wp2
    go_ret
    exact ⟨rfl, G⟩
  | true =>
  cases hfb : fewB b 40 with
  | false =>
    rw [hfa] at FA
    rw [hfb] at FB
    clear ha hb hfa hfb bx
    go_enter Tryz.func4, Tryz.ntmps4
    go_wp2_with fail
    refine (FA.out _ g0).mono ?_
    rintro e w1 ⟨rfl, rfl⟩
    go_wp2_with fail
    refine (FB.out _ g0).mono ?_
    rintro e w1 ⟨rfl, rfl⟩
    go_wp2_with fail
    refine (LE.out _ g0).mono ?_
    rintro e w1 ⟨rfl, g1⟩
    have G := g0.trans g1
    go_wp2
    go_ret
    exact ⟨rfl, G⟩
  | true =>
  rw [hfa] at FA
  rw [hfb] at FB
  obtain ⟨la, ta⟩ := fewB_is hfa
  obtain ⟨lb, tb⟩ := fewB_is hfb
  have la' : a.length ≤ 1000 := by omega
  have lb' : b.length ≤ 1000 := by omega
  have ta' : ∀ x ∈ a, x.t.size ≤ 1000 := fun x hx => by have := ta x hx; omega
  have tb' : ∀ x ∈ b, x.t.size ≤ 1000 := fun x hx => by have := tb x hx; omega
  have C1 := Lib.hid (fun u (g : Gr w u) => Chk_is n va a u (ha.gr g) la' ta')
  have C2 := Lib.hid (fun u (g : Gr w u) => rChk_is n va a u (ha.gr g) la' ta')
  have O1 := Lib.hid (fun u (g : Gr w u) => Ord_is n va a u (ha.gr g) la' ta')
  have O2 := Lib.hid (fun u (g : Gr w u) => rOrd_is n va a u (ha.gr g) la' ta')
  have M1 := Lib.hid (fun u (g : Gr w u) => Mrg_is n va vb a b u (ha.gr g) (hb.gr g) la' lb' ta' tb')
  have M2 := Lib.hid (fun u (g : Gr w u) => rMrg_is n va vb a b u (ha.gr g) (hb.gr g) la' lb' ta' tb')
  have S1 := Lib.hid (fun u (g : Gr w u) => Mis_is n va a a0 a1 a2 a3 a4 u (ha.gr g) la' ta')
  have S2 := Lib.hid (fun u (g : Gr w u) => rMis_is n va a a0 a1 a2 a3 a4 u (ha.gr g) la' ta')
  have LO := oR_len n a
  have LM := mR_len n a b
  have LS := sR_len n a (hav a0 a1 a2 a3 a4)
  obtain ⟨ci, hci⟩ : ∃ c, (cR n a).1 = c := ⟨_, rfl⟩
  obtain ⟨ce, hce⟩ : ∃ c, (cR n a).2 = c := ⟨_, rfl⟩
  simp only [hci, hce] at C1 C2
  generalize oR n a = oo at *
  generalize mR n a b = mm at *
  generalize sR n a (hav a0 a1 a2 a3 a4) = ss at *
  have LO' : oo.2.length ≤ 1000 := by omega
  have LM' : mm.2.length ≤ 1000 := by omega
  have LS' : ss.2.length ≤ 1000 := by omega
  clear ha hb hfa hfb hci hce la lb ta tb ta' tb' LO LM LS
  go_enter Tryz.func4, Tryz.ntmps4
  go_wp2_with fail
  refine (FA.out _ g0).mono ?_
  rintro e w1 ⟨rfl, rfl⟩
  go_wp2_with fail
  refine (FB.out _ g0).mono ?_
  rintro e w1 ⟨rfl, rfl⟩
  clear FA FB
  go_wp2_with fail
  refine (C1.out _ g0).mono ?_
  rintro e w1 ⟨rfl, hg⟩
  have b1 := hg.heap bx
  have g1 := g0.trans hg
  clear hg bx C1
  go_wp2_with fail
  refine (C2.out _ g1).mono ?_
  rintro e w2 ⟨rfl, hg⟩
  have b2 := hg.heap b1
  have g2 := g1.trans hg
  clear hg b1 C2
  go_wp2_with fail
  refine (O1.out _ g2).mono ?_
  rintro e w3 ⟨v1, rfl, h1, hg⟩
  have R1 := Lib.hid (recs_of_own h1)
  have b3 := hg.heap b2
  have g3 := g2.trans hg
  clear hg b2 O1 h1
  go_wp2_with fail
  refine (O2.out _ g3).mono ?_
  rintro e w4 ⟨v2, rfl, h1, hg⟩
  have R1 := Lib.hid (R1.out.gr hg)
  have R2 := Lib.hid (recs_of_own h1)
  have b4 := hg.heap b3
  have g4 := g3.trans hg
  clear hg b3 O2 h1
  go_wp2_with fail
  refine (M1.out _ g4).mono ?_
  rintro e w5 ⟨v3, rfl, h1, hg⟩
  have R1 := Lib.hid (R1.out.gr hg)
  have R2 := Lib.hid (R2.out.gr hg)
  have R3 := Lib.hid (recs_of_own h1)
  have b5 := hg.heap b4
  have g5 := g4.trans hg
  clear hg b4 M1 h1
  go_wp2_with fail
  refine (M2.out _ g5).mono ?_
  rintro e w6 ⟨v4, rfl, h1, hg⟩
  have R1 := Lib.hid (R1.out.gr hg)
  have R2 := Lib.hid (R2.out.gr hg)
  have R3 := Lib.hid (R3.out.gr hg)
  have R4 := Lib.hid (recs_of_own h1)
  have b6 := hg.heap b5
  have g6 := g5.trans hg
  clear hg b5 M2 h1
  obtain ⟨p, hp⟩ : ∃ p, w.heap.size = p := ⟨_, rfl⟩
  rw [hp] at b6
  simp only [hp]
  clear hp
  obtain ⟨cx, fx, zx⟩ := blk_cells b6
  go_wp2_with fail
  refine (S1.out _ g6).mono ?_
  rintro e w7 ⟨v5, rfl, h1, hg⟩
  have R1 := Lib.hid (R1.out.gr hg)
  have R2 := Lib.hid (R2.out.gr hg)
  have R3 := Lib.hid (R3.out.gr hg)
  have R4 := Lib.hid (R4.out.gr hg)
  have R5 := Lib.hid (recs_of_own h1)
  have b7 := hg.heap b6
  have g7 := g6.trans hg
  clear hg b6 S1 h1 cx fx zx
  obtain ⟨cx, fx, zx⟩ := blk_cells b7
  go_wp2_with fail
  refine (S2.out _ g7).mono ?_
  rintro e w8 ⟨v6, rfl, h1, hg⟩
  have R1 := Lib.hid (R1.out.gr hg)
  have R2 := Lib.hid (R2.out.gr hg)
  have R3 := Lib.hid (R3.out.gr hg)
  have R4 := Lib.hid (R4.out.gr hg)
  have R5 := Lib.hid (R5.out.gr hg)
  have R6 := Lib.hid (recs_of_own h1)
  have g8 := g7.trans hg
  clear hg b7 S2 h1 cx fx zx
  go_wp2_with fail
  refine (LE.out _ g8).mono ?_
  rintro e w9 ⟨rfl, hg⟩
  have SA := Lib.hid (fun u (g : Gr w9 u) => Same_yes v1 v2 oo.2 u ((R1.out.gr hg).gr g) ((R2.out.gr hg).gr g) LO')
  have SB := Lib.hid (fun u (g : Gr w9 u) => Same_yes v3 v4 mm.2 u ((R3.out.gr hg).gr g) ((R4.out.gr hg).gr g) LM')
  have SC := Lib.hid (fun u (g : Gr w9 u) => Same_yes v5 v6 ss.2 u ((R5.out.gr hg).gr g) ((R6.out.gr hg).gr g) LS')
  have g9 := g8.trans hg
  clear hg R1 R2 R3 R4 R5 R6 LE
  go_wp2_with fail
  refine (SA.out _ (Gr.refl _)).mono ?_
  rintro e w10 ⟨rfl, h10⟩
  go_wp2_with fail
  refine (SB.out _ h10).mono ?_
  rintro e w11 ⟨rfl, hg⟩
  have h11 := h10.trans hg
  clear hg
  go_wp2_with fail
  refine (SC.out _ h11).mono ?_
  rintro e w12 ⟨rfl, hg⟩
  have G := g9.trans (h11.trans hg)
  clear hg
  go_wp2
  go_ret
  exact ⟨rfl, G⟩
end
end Go.Proofs.YthmimjofdmnakaaGreatDoor
