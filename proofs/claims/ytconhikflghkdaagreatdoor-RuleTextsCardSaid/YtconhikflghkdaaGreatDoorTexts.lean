/- rule/frac.go: Write, Read; strickleref01: Write, Read. -/
import Derived.Test.YtconhikflghkdaaGreatDoorWrite
import Derived.Test.YtconhikflghkdaaGreatDoorDigits
import Derived.Test.YtconhikflghkdaaGreatDoorRef
namespace Go.Proofs.YtconhikflghkdaaGreatDoor
open Go.RowKit Go.Shelf
theorem p_wrT {a b : Int} (a1 : -1000000000 ≤ a) (a2 : a ≤ 1000000000) (b1 : 1 ≤ b) (b2 : b ≤ 1000000) : pN (wrT a b) = a ∧ pD (wrT a b) = b := by
  unfold pN pD wrT
  split
  · rw [cut_at (itoa_no a)]
    simp only [if_true]
    exact ⟨atoiV_itoa a a1 a2, atoiV_itoa b (by omega) (by omega)⟩
  · rw [cut_no (itoa_no a)]
    exact ⟨atoiV_itoa a a1 a2, by simp; omega⟩
theorem q_wrT {a b : Int} (a1 : -1000000000 ≤ a) (a2 : a ≤ 1000000000) (b1 : 1 ≤ b) (b2 : b ≤ 1000000) (hl : (wrT a b).length ≤ 20) : qN (wrT a b) = a ∧ qD (wrT a b) = b := by
  unfold qN qD qS
  rw [if_pos hl]
  unfold rdF wrT
  split
  · rw [List.foldl_append, rd_itoa a a1 a2, List.foldl_cons]
    have e : ∀ g x : Int, rdS (g, false, x, 0) 47 = (g, true, x, 0) := fun g x => by simp [rdS]
    have eb : Lib.itoa b = Lib.decDigits b.toNat := by unfold Lib.itoa; rw [if_neg (by omega)]
    rw [e, eb, rd_dec1 _ _ _ _ (Nat.le_refl _) (by omega)]
    simp only
    constructor
    · split <;> omega
    · simp; omega
  · rw [rd_itoa a a1 a2]
    simp only
    constructor
    · split <;> omega
    · simp; omega
/-- what the library's variables hold -/
structure TW (w : World) : Prop where
  t : Tab w
  s : ∃ tp p, w.cell? ⟨1, 0, none⟩ = some (.iface tp p)
  r : ∃ tp p, w.cell? ⟨2, 0, none⟩ = some (.iface tp p)
  m : ∃ m, w.cell? ⟨0, 0, none⟩ = some (.int .i64 m)
theorem TW.gr {w w' : World} (h : TW w) (g : Gr w w') : TW w' := by
  obtain ⟨tp, p, h1⟩ := h.s
  obtain ⟨tp', p', h2⟩ := h.r
  obtain ⟨m, h3⟩ := h.m
  exact ⟨h.t.gr g, ⟨tp, p, (g.cells.1 _ _ (World.block_lt_of_cell? _ _ h1)).trans h1⟩, ⟨tp', p', (g.cells.1 _ _ (World.block_lt_of_cell? _ _ h2)).trans h2⟩, m, (g.cells.1 _ _ (World.block_lt_of_cell? _ _ h3)).trans h3⟩
theorem Atoi_any (s : ByteArray) (w : World) (hs : s.size ≤ 1000) (h : TW w) :
    Calls Tryz.prog 27 #[.string s] w fun e w' => (∃ ev, e = .returned (.tuple #[.int .i64 (atoiV s.data.toList), ev])) ∧ Gr w w' := by
  unfold atoiV
  rcases ha : Lib.atoiAll s.data.toList with v | _ | _
  · refine (Tryz.strconv_Atoi_ok s (by omega) v ha w).mono ?_
    rintro e w' ⟨rfl, rfl | ⟨t, rfl⟩⟩
    · exact ⟨⟨_, rfl⟩, Gr.refl _⟩
    · exact ⟨⟨_, rfl⟩, Gr.of_below (Lib.bytesWorld_below _ _ _)⟩
  · obtain ⟨tp, p, h1⟩ := h.s
    refine (Tryz.strconv_Atoi_syntax s (by omega) ha _ w h1 (.inr ⟨_, _, rfl⟩)).mono ?_
    rintro e w' ⟨N, rfl, _, _, b⟩
    exact ⟨⟨_, rfl⟩, Gr.of_below b⟩
  · obtain ⟨tp, p, h1⟩ := h.r
    refine (Tryz.strconv_Atoi_range s (by omega) ha _ w h1 (.inr ⟨_, _, rfl⟩)).mono ?_
    rintro e w' ⟨N, rfl, _, _, b⟩
    exact ⟨⟨_, rfl⟩, Gr.of_below b⟩
theorem Cut_any (s : ByteArray) (w : World) (hs : s.size ≤ 1000) (h : TW w) :
    Calls Tryz.prog 26 #[.string s, .string ⟨#[47]⟩] w fun e w' => e = .returned (.tuple #[.string ⟨(Lib.cut s.data.toList [47]).1.toArray⟩, .string ⟨(Lib.cut s.data.toList [47]).2.1.toArray⟩, .bool (Lib.cut s.data.toList [47]).2.2]) ∧ Gr w w' := by
  obtain ⟨m, hm⟩ := h.m
  refine (Tryz.strings_Cut s ⟨#[47]⟩ m w (by omega) hm).mono ?_
  rintro e w' ⟨rfl, n, rfl⟩
  exact ⟨rfl, (Gr.refl _).drewN n⟩
theorem cut_len (l : List UInt8) : (Lib.cut l [47]).1.length ≤ l.length ∧ (Lib.cut l [47]).2.1.length ≤ l.length := by
  unfold Lib.cut
  split <;> simp
  omega
set_option maxRecDepth 100000 in
set_option maxHeartbeats 1000000 in
theorem Write_no (a b : Int) (w : World) (h : Rm.okF a b = false) : Calls Tryz.prog 5 #[fr a b] w fun e w' => e = .returned (.tuple #[.string ⟨#[]⟩, .int .i64 1]) ∧ Gr w w' := by
  have hE := Lib.hid (Rm.err_false (e := 1) h)
  clear h
  go_enter Tryz.func5, Tryz.ntmps5
  go_wp2_with fail
  refine (checked_one _ _ a b _ (by simp [go_sem]) (by simp [go_sem])).mono ?_
  rintro e w1 ⟨rfl, hg1⟩
  rw [hE.out]
  go_wp2
  exact bodyPost_ret (v := .tuple #[.string ⟨#[]⟩, .int .i64 1]) (by simp [results, Tryz.results5, go_sem]) rfl ⟨rfl, (by repeat (first | exact Gr.refl _ | assumption | refine Gr.alloc ?_ _ | refine Gr.drew ?_ | refine Gr.drewN ?_ _ | refine Gr.set ?_ _ _ (by first | (simp; done) | (simp; omega)) | refine Gr.trans ?_ (by assumption)))⟩
/-- what Write returns -/
def wT (a b : Int) : List UInt8 := if Rm.okF a b then wrT a b else []
theorem Write_any (a b : Int) (w : World) (h : TW w) : Calls Tryz.prog 5 #[fr a b] w fun e w' => e = .returned (.tuple #[.string ⟨(wT a b).toArray⟩, .int .i64 (Rm.err (Rm.okF a b) 1)]) ∧ Gr w w' := by
  cases ho : Rm.okF a b
  · rw [show wT a b = [] by simp [wT, ho], Rm.err_false rfl]
    exact Write_no a b w ho
  · rw [show wT a b = wrT a b by simp [wT, ho], Rm.err_true rfl]
    exact Write_yes a b w ho h.t
set_option maxRecDepth 100000 in
set_option maxHeartbeats 1000000 in
theorem rWrite_no (a b : Int) (w : World) (h : Rm.okF a b = false) : Calls Tryz.prog 6 #[fr a b] w fun e w' => e = .returned (.tuple #[.string ⟨#[]⟩, .int .i64 1]) ∧ Gr w w' := by
  have hE := Lib.hid (Rm.err_false (e := 1) h)
  clear h
  go_enter Tryz.func6, Tryz.ntmps6
  go_wp2_with fail
  refine (rCheckFrac_any a b _).mono ?_
  rintro e w1 ⟨rfl, hg1⟩
  rw [hE.out]
  go_wp2
  exact bodyPost_ret (v := .tuple #[.string ⟨#[]⟩, .int .i64 1]) (by simp [results, Tryz.results6, go_sem]) rfl ⟨rfl, (by repeat (first | exact Gr.refl _ | assumption | refine Gr.alloc ?_ _ | refine Gr.drew ?_ | refine Gr.drewN ?_ _ | refine Gr.set ?_ _ _ (by first | (simp; done) | (simp; omega)) | refine Gr.trans ?_ (by assumption)))⟩
set_option maxRecDepth 100000 in
set_option maxHeartbeats 2000000 in
theorem rWrite_yes (a b : Int) (w : World) (h : Rm.okF a b = true) : Calls Tryz.prog 6 #[fr a b] w fun e w' => e = .returned (.tuple #[.string ⟨(wrT a b).toArray⟩, .int .i64 0]) ∧ Gr w w' := by
  obtain ⟨x1, x2, x3, x4, x5⟩ := Rm.okF_iff.1 h
  have hE := Lib.hid (Rm.err_true (e := 1) h)
  obtain ⟨m, hm⟩ : ∃ m : Nat, a.natAbs = m := ⟨_, rfl⟩
  obtain ⟨k, rfl⟩ : ∃ k : Nat, b = k := ⟨b.toNat, by omega⟩
  have DA := Lib.hid (fun w => digits_any m w (by omega))
  have DB := Lib.hid (fun w => digits_any k w (by omega))
  have SZ := Lib.hid (fun w => rsize_any a w (by omega) (by omega))
  rw [hm] at SZ
  have ew : wrT a k = (if a < 0 then 45 :: Lib.decDigits m else Lib.decDigits m) ++ (if 1 < k then 47 :: Lib.decDigits k else []) := by
    have e1 : Lib.itoa a = if a < 0 then 45 :: Lib.decDigits m else Lib.decDigits m := by
      unfold Lib.itoa
      rw [hm]
      split
      · rfl
      · rw [show a.toNat = m by omega]
    have e2 : Lib.itoa k = Lib.decDigits k := Lib.itoa_nonneg k
    unfold wrT
    rw [e1, e2]
    by_cases hk : 1 < k
    · rw [if_pos (by omega), if_pos hk]
    · rw [if_neg (by omega), if_neg hk, List.append_nil]
  have la := Lib.itoa_length_le (m : Int) (by omega) (by omega)
  have lb := Lib.itoa_length_le (k : Int) (by omega) (by omega)
  rw [Lib.itoa_nonneg] at la lb
  rw [ew]
  generalize Lib.decDigits m = A at *
  generalize Lib.decDigits k = B at *
  obtain ⟨T, hT⟩ : ∃ T, (if a < 0 then 45 :: A else A) ++ (if 1 < k then 47 :: B else []) = T := ⟨_, rfl⟩
  rw [hT]
  have HT := Lib.hid hT
  clear h x5 ew hm hT
  have bx := heap_alloc_self w (.cells #[.int .i64 a, .int .i64 k] 23)
  go_enter Tryz.func6, Tryz.ntmps6
  go_wp2_with fail
  refine (rCheckFrac_any a k _).mono ?_
  rintro e w1 ⟨rfl, hg1⟩
  rw [hE.out]
  have bx1 := hg1.heap bx
  have g1 : Gr w w1 := (by repeat (first | exact Gr.refl _ | assumption | refine Gr.alloc ?_ _ | refine Gr.drew ?_ | refine Gr.drewN ?_ _ | refine Gr.set ?_ _ _ (by first | (simp; done) | (simp; omega)) | refine Gr.trans ?_ (by assumption)))
  clear bx hg1
  obtain ⟨cx, fx, zx⟩ := blk_cells bx1
  go_wp2_with fail
  refine (SZ.out _).mono ?_
  rintro e w2 ⟨rfl, rfl⟩
  go_wp2_with fail
  refine (DA.out _).mono ?_
  rintro e w3 ⟨rfl, hg3⟩
  have bx3 := hg3.heap bx1
  have g3 := g1.trans hg3
  clear cx fx zx bx1 g1 hg3
  obtain ⟨cx, fx, zx⟩ := blk_cells bx3
  have l0 : ¬ 9223372036854775807 < 1 + A.length := by omega
  have l1 : ¬ 9223372036854775807 < A.length + 1 := by omega
  have l2 : ¬ 9223372036854775807 < A.length + 1 + B.length := by omega
  have l3 : ¬ 9223372036854775807 < A.length + 1 + 1 + B.length := by omega
  have l4 : ¬ 9223372036854775807 < 1 + A.length + 1 := by omega
  have l5 : ¬ 9223372036854775807 < 1 + A.length + 1 + B.length := by omega
  by_cases ha : a < 0
  · by_cases hk : 1 < k
    · have hk' : (1 : Int) < k := by omega
      go_wp2_with fail
      refine (DB.out _).mono ?_
      rintro e w4 ⟨rfl, hg4⟩
      go_wp2
      exact bodyPost_ret (v := .tuple #[.string ⟨T.toArray⟩, .int .i64 0]) (by simp [results, Tryz.results6, go_sem]; rw [← HT.out, if_pos (show a < 0 by omega), if_pos (show 1 < k by omega)]; first | (apply ByteArray.ext; simp; done) | simp) rfl ⟨rfl, (by repeat (first | exact Gr.refl _ | assumption | refine Gr.alloc ?_ _ | refine Gr.drew ?_ | refine Gr.drewN ?_ _ | refine Gr.set ?_ _ _ (by first | (simp; done) | (simp; omega)) | refine Gr.trans ?_ (by assumption)))⟩
    · have hk' : ¬ (1 : Int) < k := by omega
      go_wp2
      exact bodyPost_ret (v := .tuple #[.string ⟨T.toArray⟩, .int .i64 0]) (by simp [results, Tryz.results6, go_sem]; rw [← HT.out, if_pos (show a < 0 by omega), if_neg (show ¬ 1 < k by omega)]; first | (apply ByteArray.ext; simp; done) | simp) rfl ⟨rfl, (by repeat (first | exact Gr.refl _ | assumption | refine Gr.alloc ?_ _ | refine Gr.drew ?_ | refine Gr.drewN ?_ _ | refine Gr.set ?_ _ _ (by first | (simp; done) | (simp; omega)) | refine Gr.trans ?_ (by assumption)))⟩
  · by_cases hk : 1 < k
    · have hk' : (1 : Int) < k := by omega
      go_wp2_with fail
      refine (DB.out _).mono ?_
      rintro e w4 ⟨rfl, hg4⟩
      go_wp2
      exact bodyPost_ret (v := .tuple #[.string ⟨T.toArray⟩, .int .i64 0]) (by simp [results, Tryz.results6, go_sem]; rw [← HT.out, if_neg (show ¬ a < 0 by omega), if_pos (show 1 < k by omega)]; first | (apply ByteArray.ext; simp; done) | simp) rfl ⟨rfl, (by repeat (first | exact Gr.refl _ | assumption | refine Gr.alloc ?_ _ | refine Gr.drew ?_ | refine Gr.drewN ?_ _ | refine Gr.set ?_ _ _ (by first | (simp; done) | (simp; omega)) | refine Gr.trans ?_ (by assumption)))⟩
    · have hk' : ¬ (1 : Int) < k := by omega
      go_wp2
      exact bodyPost_ret (v := .tuple #[.string ⟨T.toArray⟩, .int .i64 0]) (by simp [results, Tryz.results6, go_sem]; rw [← HT.out, if_neg (show ¬ a < 0 by omega), if_neg (show ¬ 1 < k by omega)]; first | (apply ByteArray.ext; simp; done) | simp) rfl ⟨rfl, (by repeat (first | exact Gr.refl _ | assumption | refine Gr.alloc ?_ _ | refine Gr.drew ?_ | refine Gr.drewN ?_ _ | refine Gr.set ?_ _ _ (by first | (simp; done) | (simp; omega)) | refine Gr.trans ?_ (by assumption)))⟩
end Go.Proofs.YtconhikflghkdaaGreatDoor
