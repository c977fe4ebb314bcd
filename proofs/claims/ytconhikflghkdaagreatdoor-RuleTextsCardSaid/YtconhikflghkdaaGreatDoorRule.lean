/- rule/shrink.go: right, CheckRule. -/
import Derived.Test.YtconhikflghkdaaGreatDoorNear2
namespace Go.Proofs.YtconhikflghkdaaGreatDoor
open Go.RowKit Go.Shelf
/-- a rule as a value -/
abbrev ru (a b c d : Int) : Value := .agg #[.int .i64 a, .int .i64 b, .int .i64 c, .int .i64 d]
/-- a rule as said -/
def ruOk (a b c d : Int) : Bool := ok2 a b c d && decide (b ≤ 1000) && decide (d ≤ 1000) && decide (0 ≤ a) && decide (a*d - c*b ≤ 0) && decide (4*c ≤ d)
set_option maxRecDepth 100000 in
set_option maxHeartbeats 2000000 in
theorem right_err (a b c d : Int) (w : World) (h : ok2 a b c d = false) :
    Calls Tryz.prog 71 #[ru a b c d] w fun e w' => e = .returned (.bool false) ∧ Gr w w' := by
  have hE := Lib.hid (Rm.err_false (e := 1) h)
  clear h
  go_enter Tryz.func71, Tryz.ntmps71
  go_wp2_with fail
  go_upto_region 1 with (fail)
  go_cut [3, 4] (fun s3 s4 wx => ∃ gl gh : Nat, s3 = .pointer (some ⟨gl, 0, none⟩) ∧ s4 = .pointer (some ⟨gh, 0, none⟩) ∧ NewTwo w a b gl wx ∧ NewTwo w c d gh wx)
  case first =>
    go_region
    all_goals (go_wp2_with fail; go_meet; exact ⟨_, _, rfl, rfl, ⟨by first | omega | (simp; done) | (simp; omega), by simp [go_sem], by simp [go_sem], (by repeat (first | exact Gr.refl _ | assumption | refine Gr.alloc ?_ _ | refine Gr.drew ?_ | refine Gr.drewN ?_ _ | refine Gr.set ?_ _ _ (by first | (simp; done) | (simp; omega)) | refine Gr.trans ?_ (by assumption)))⟩, ⟨by first | omega | (simp; done) | (simp; omega), by simp [go_sem], by simp [go_sem], (by repeat (first | exact Gr.refl _ | assumption | refine Gr.alloc ?_ _ | refine Gr.drew ?_ | refine Gr.drewN ?_ _ | refine Gr.set ?_ _ _ (by first | (simp; done) | (simp; omega)) | refine Gr.trans ?_ (by assumption)))⟩⟩)
  case rest =>
    obtain ⟨gl, gh, rfl, rfl, ⟨gl0, l0, l1, hg0⟩, ⟨gh0, h0, h1, _⟩⟩ := hcut
    have ll := World.block_lt_of_cell? _ _ l0
    have lh := World.block_lt_of_cell? _ _ h0
    go_wp2_with fail
    refine (checked_two _ _ a b c d _ (by simp [go_sem, *]) (by simp [go_sem, *]) (by simp [go_sem, *]) (by simp [go_sem, *])).mono ?_
    rintro e w1 ⟨rfl, hg1⟩
    rw [hE.out]
    have l0' : w1.cell? ⟨gl, 0, none⟩ = some (.int .i64 a) := by rw [hg1.cells.1 _ _ (by simp; omega)]; simp [go_sem, *]
    have l1' : w1.cell? ⟨gl, 1, none⟩ = some (.int .i64 b) := by rw [hg1.cells.1 _ _ (by simp; omega)]; simp [go_sem, *]
    have h0' : w1.cell? ⟨gh, 0, none⟩ = some (.int .i64 c) := by rw [hg1.cells.1 _ _ (by simp; omega)]; simp [go_sem, *]
    have h1' : w1.cell? ⟨gh, 1, none⟩ = some (.int .i64 d) := by rw [hg1.cells.1 _ _ (by simp; omega)]; simp [go_sem, *]
    clear l0 l1 h0 h1
    go_wp2
    go_ret
    exact ⟨rfl, (by repeat (first | exact Gr.refl _ | assumption | refine Gr.alloc ?_ _ | refine Gr.drew ?_ | refine Gr.drewN ?_ _ | refine Gr.set ?_ _ _ (by first | (simp; done) | (simp; omega)) | refine Gr.trans ?_ (by assumption)))⟩
set_option maxRecDepth 100000 in
set_option maxHeartbeats 2000000 in
theorem right_den (a b c d : Int) (w : World) (h : ok2 a b c d = true) (hb : 1000 < b ∨ 1000 < d) :
    Calls Tryz.prog 71 #[ru a b c d] w fun e w' => e = .returned (.bool false) ∧ Gr w w' := by
  have hE := Lib.hid (Rm.err_true (e := 1) h)
  clear h
  by_cases hb1 : 1000 < b
  · clear hb
    go_enter Tryz.func71, Tryz.ntmps71
    go_wp2_with fail
    go_upto_region 1 with (fail)
    go_cut [3, 4] (fun s3 s4 wx => ∃ gl gh : Nat, s3 = .pointer (some ⟨gl, 0, none⟩) ∧ s4 = .pointer (some ⟨gh, 0, none⟩) ∧ NewTwo w a b gl wx ∧ NewTwo w c d gh wx)
    case first =>
      go_region
      all_goals (go_wp2_with fail; go_meet; exact ⟨_, _, rfl, rfl, ⟨by first | omega | (simp; done) | (simp; omega), by simp [go_sem], by simp [go_sem], (by repeat (first | exact Gr.refl _ | assumption | refine Gr.alloc ?_ _ | refine Gr.drew ?_ | refine Gr.drewN ?_ _ | refine Gr.set ?_ _ _ (by first | (simp; done) | (simp; omega)) | refine Gr.trans ?_ (by assumption)))⟩, ⟨by first | omega | (simp; done) | (simp; omega), by simp [go_sem], by simp [go_sem], (by repeat (first | exact Gr.refl _ | assumption | refine Gr.alloc ?_ _ | refine Gr.drew ?_ | refine Gr.drewN ?_ _ | refine Gr.set ?_ _ _ (by first | (simp; done) | (simp; omega)) | refine Gr.trans ?_ (by assumption)))⟩⟩)
    case rest =>
      obtain ⟨gl, gh, rfl, rfl, ⟨gl0, l0, l1, hg0⟩, ⟨gh0, h0, h1, _⟩⟩ := hcut
      have ll := World.block_lt_of_cell? _ _ l0
      have lh := World.block_lt_of_cell? _ _ h0
      go_wp2_with fail
      refine (checked_two _ _ a b c d _ (by simp [go_sem, *]) (by simp [go_sem, *]) (by simp [go_sem, *]) (by simp [go_sem, *])).mono ?_
      rintro e w1 ⟨rfl, hg1⟩
      rw [hE.out]
      have l0' : w1.cell? ⟨gl, 0, none⟩ = some (.int .i64 a) := by rw [hg1.cells.1 _ _ (by simp; omega)]; simp [go_sem, *]
      have l1' : w1.cell? ⟨gl, 1, none⟩ = some (.int .i64 b) := by rw [hg1.cells.1 _ _ (by simp; omega)]; simp [go_sem, *]
      have h0' : w1.cell? ⟨gh, 0, none⟩ = some (.int .i64 c) := by rw [hg1.cells.1 _ _ (by simp; omega)]; simp [go_sem, *]
      have h1' : w1.cell? ⟨gh, 1, none⟩ = some (.int .i64 d) := by rw [hg1.cells.1 _ _ (by simp; omega)]; simp [go_sem, *]
      clear l0 l1 h0 h1
      go_wp2
      go_ret
      exact ⟨rfl, (by repeat (first | exact Gr.refl _ | assumption | refine Gr.alloc ?_ _ | refine Gr.drew ?_ | refine Gr.drewN ?_ _ | refine Gr.set ?_ _ _ (by first | (simp; done) | (simp; omega)) | refine Gr.trans ?_ (by assumption)))⟩
  · have hb2 : 1000 < d := by omega
    clear hb
    go_enter Tryz.func71, Tryz.ntmps71
    go_wp2_with fail
    go_upto_region 1 with (fail)
    go_cut [3, 4] (fun s3 s4 wx => ∃ gl gh : Nat, s3 = .pointer (some ⟨gl, 0, none⟩) ∧ s4 = .pointer (some ⟨gh, 0, none⟩) ∧ NewTwo w a b gl wx ∧ NewTwo w c d gh wx)
    case first =>
      go_region
      all_goals (go_wp2_with fail; go_meet; exact ⟨_, _, rfl, rfl, ⟨by first | omega | (simp; done) | (simp; omega), by simp [go_sem], by simp [go_sem], (by repeat (first | exact Gr.refl _ | assumption | refine Gr.alloc ?_ _ | refine Gr.drew ?_ | refine Gr.drewN ?_ _ | refine Gr.set ?_ _ _ (by first | (simp; done) | (simp; omega)) | refine Gr.trans ?_ (by assumption)))⟩, ⟨by first | omega | (simp; done) | (simp; omega), by simp [go_sem], by simp [go_sem], (by repeat (first | exact Gr.refl _ | assumption | refine Gr.alloc ?_ _ | refine Gr.drew ?_ | refine Gr.drewN ?_ _ | refine Gr.set ?_ _ _ (by first | (simp; done) | (simp; omega)) | refine Gr.trans ?_ (by assumption)))⟩⟩)
    case rest =>
      obtain ⟨gl, gh, rfl, rfl, ⟨gl0, l0, l1, hg0⟩, ⟨gh0, h0, h1, _⟩⟩ := hcut
      have ll := World.block_lt_of_cell? _ _ l0
      have lh := World.block_lt_of_cell? _ _ h0
      go_wp2_with fail
      refine (checked_two _ _ a b c d _ (by simp [go_sem, *]) (by simp [go_sem, *]) (by simp [go_sem, *]) (by simp [go_sem, *])).mono ?_
      rintro e w1 ⟨rfl, hg1⟩
      rw [hE.out]
      have l0' : w1.cell? ⟨gl, 0, none⟩ = some (.int .i64 a) := by rw [hg1.cells.1 _ _ (by simp; omega)]; simp [go_sem, *]
      have l1' : w1.cell? ⟨gl, 1, none⟩ = some (.int .i64 b) := by rw [hg1.cells.1 _ _ (by simp; omega)]; simp [go_sem, *]
      have h0' : w1.cell? ⟨gh, 0, none⟩ = some (.int .i64 c) := by rw [hg1.cells.1 _ _ (by simp; omega)]; simp [go_sem, *]
      have h1' : w1.cell? ⟨gh, 1, none⟩ = some (.int .i64 d) := by rw [hg1.cells.1 _ _ (by simp; omega)]; simp [go_sem, *]
      clear l0 l1 h0 h1
      go_wp2
      go_ret
      exact ⟨rfl, (by repeat (first | exact Gr.refl _ | assumption | refine Gr.alloc ?_ _ | refine Gr.drew ?_ | refine Gr.drewN ?_ _ | refine Gr.set ?_ _ _ (by first | (simp; done) | (simp; omega)) | refine Gr.trans ?_ (by assumption)))⟩
set_option maxRecDepth 100000 in
set_option maxHeartbeats 4000000 in
theorem right_neg (a b c d : Int) (w : World) (h : ok2 a b c d = true) (hb : b ≤ 1000) (hd : d ≤ 1000) (ha : a < 0) :
    Calls Tryz.prog 71 #[ru a b c d] w fun e w' => e = .returned (.bool false) ∧ Gr w w' := by
  have hE := Lib.hid (Rm.err_true (e := 1) h)
  obtain ⟨⟨x1, x2, x3, x4, _⟩, ⟨y1, y2, y3, y4, _⟩⟩ := ok2_parts h
  obtain ⟨u1, u2⟩ := Rm.nd_bound x1 x2 y3 y4
  obtain ⟨u3, u4⟩ := Rm.nd_bound y1 y2 x3 x4
  have CR := Lib.hid (fun w => cross_any a b c d w (by omega) (by omega) (by omega) (by omega))
  clear h u1 u2 u3 u4
  have had : decide (0 ≤ a) = false := decide_eq_false (by omega)
  go_enter Tryz.func71, Tryz.ntmps71
  go_wp2_with fail
  go_upto_region 1 with (fail)
  go_cut [3, 4] (fun s3 s4 wx => ∃ gl gh : Nat, s3 = .pointer (some ⟨gl, 0, none⟩) ∧ s4 = .pointer (some ⟨gh, 0, none⟩) ∧ NewTwo w a b gl wx ∧ NewTwo w c d gh wx)
  case first =>
    go_region
    all_goals (go_wp2_with fail; go_meet; exact ⟨_, _, rfl, rfl, ⟨by first | omega | (simp; done) | (simp; omega), by simp [go_sem], by simp [go_sem], (by repeat (first | exact Gr.refl _ | assumption | refine Gr.alloc ?_ _ | refine Gr.drew ?_ | refine Gr.drewN ?_ _ | refine Gr.set ?_ _ _ (by first | (simp; done) | (simp; omega)) | refine Gr.trans ?_ (by assumption)))⟩, ⟨by first | omega | (simp; done) | (simp; omega), by simp [go_sem], by simp [go_sem], (by repeat (first | exact Gr.refl _ | assumption | refine Gr.alloc ?_ _ | refine Gr.drew ?_ | refine Gr.drewN ?_ _ | refine Gr.set ?_ _ _ (by first | (simp; done) | (simp; omega)) | refine Gr.trans ?_ (by assumption)))⟩⟩)
  case rest =>
    obtain ⟨gl, gh, rfl, rfl, ⟨gl0, l0, l1, hg0⟩, ⟨gh0, h0, h1, _⟩⟩ := hcut
    have ll := World.block_lt_of_cell? _ _ l0
    have lh := World.block_lt_of_cell? _ _ h0
    go_wp2_with fail
    refine (checked_two _ _ a b c d _ (by simp [go_sem, *]) (by simp [go_sem, *]) (by simp [go_sem, *]) (by simp [go_sem, *])).mono ?_
    rintro e w1 ⟨rfl, hg1⟩
    rw [hE.out]
    have l0' : w1.cell? ⟨gl, 0, none⟩ = some (.int .i64 a) := by rw [hg1.cells.1 _ _ (by simp; omega)]; simp [go_sem, *]
    have l1' : w1.cell? ⟨gl, 1, none⟩ = some (.int .i64 b) := by rw [hg1.cells.1 _ _ (by simp; omega)]; simp [go_sem, *]
    have h0' : w1.cell? ⟨gh, 0, none⟩ = some (.int .i64 c) := by rw [hg1.cells.1 _ _ (by simp; omega)]; simp [go_sem, *]
    have h1' : w1.cell? ⟨gh, 1, none⟩ = some (.int .i64 d) := by rw [hg1.cells.1 _ _ (by simp; omega)]; simp [go_sem, *]
    clear l0 l1 h0 h1
    go_wp2_with fail
    go_quiet (fail)
    go_wp2
    go_ret
    exact ⟨rfl, (by repeat (first | exact Gr.refl _ | assumption | refine Gr.alloc ?_ _ | refine Gr.drew ?_ | refine Gr.drewN ?_ _ | refine Gr.set ?_ _ _ (by first | (simp; done) | (simp; omega)) | refine Gr.trans ?_ (by assumption)))⟩
set_option maxRecDepth 100000 in
set_option maxHeartbeats 4000000 in
theorem right_cross (a b c d : Int) (w : World) (h : ok2 a b c d = true) (hb : b ≤ 1000) (hd : d ≤ 1000) (ha : 0 ≤ a) (hk : 0 < a*d - c*b) :
    Calls Tryz.prog 71 #[ru a b c d] w fun e w' => e = .returned (.bool false) ∧ Gr w w' := by
  have hE := Lib.hid (Rm.err_true (e := 1) h)
  obtain ⟨⟨x1, x2, x3, x4, _⟩, ⟨y1, y2, y3, y4, _⟩⟩ := ok2_parts h
  obtain ⟨u1, u2⟩ := Rm.nd_bound x1 x2 y3 y4
  obtain ⟨u3, u4⟩ := Rm.nd_bound y1 y2 x3 x4
  have CR := Lib.hid (fun w => cross_any a b c d w (by omega) (by omega) (by omega) (by omega))
  clear h u1 u2 u3 u4
  have hkb : decide (a*d - c*b ≤ 0) = false := decide_eq_false (by omega)
  generalize a*d - c*b = X at *
  go_enter Tryz.func71, Tryz.ntmps71
  go_wp2_with fail
  go_upto_region 1 with (fail)
  go_cut [3, 4] (fun s3 s4 wx => ∃ gl gh : Nat, s3 = .pointer (some ⟨gl, 0, none⟩) ∧ s4 = .pointer (some ⟨gh, 0, none⟩) ∧ NewTwo w a b gl wx ∧ NewTwo w c d gh wx)
  case first =>
    go_region
    all_goals (go_wp2_with fail; go_meet; exact ⟨_, _, rfl, rfl, ⟨by first | omega | (simp; done) | (simp; omega), by simp [go_sem], by simp [go_sem], (by repeat (first | exact Gr.refl _ | assumption | refine Gr.alloc ?_ _ | refine Gr.drew ?_ | refine Gr.drewN ?_ _ | refine Gr.set ?_ _ _ (by first | (simp; done) | (simp; omega)) | refine Gr.trans ?_ (by assumption)))⟩, ⟨by first | omega | (simp; done) | (simp; omega), by simp [go_sem], by simp [go_sem], (by repeat (first | exact Gr.refl _ | assumption | refine Gr.alloc ?_ _ | refine Gr.drew ?_ | refine Gr.drewN ?_ _ | refine Gr.set ?_ _ _ (by first | (simp; done) | (simp; omega)) | refine Gr.trans ?_ (by assumption)))⟩⟩)
  case rest =>
    obtain ⟨gl, gh, rfl, rfl, ⟨gl0, l0, l1, hg0⟩, ⟨gh0, h0, h1, _⟩⟩ := hcut
    have ll := World.block_lt_of_cell? _ _ l0
    have lh := World.block_lt_of_cell? _ _ h0
    go_wp2_with fail
    refine (checked_two _ _ a b c d _ (by simp [go_sem, *]) (by simp [go_sem, *]) (by simp [go_sem, *]) (by simp [go_sem, *])).mono ?_
    rintro e w1 ⟨rfl, hg1⟩
    rw [hE.out]
    have l0' : w1.cell? ⟨gl, 0, none⟩ = some (.int .i64 a) := by rw [hg1.cells.1 _ _ (by simp; omega)]; simp [go_sem, *]
    have l1' : w1.cell? ⟨gl, 1, none⟩ = some (.int .i64 b) := by rw [hg1.cells.1 _ _ (by simp; omega)]; simp [go_sem, *]
    have h0' : w1.cell? ⟨gh, 0, none⟩ = some (.int .i64 c) := by rw [hg1.cells.1 _ _ (by simp; omega)]; simp [go_sem, *]
    have h1' : w1.cell? ⟨gh, 1, none⟩ = some (.int .i64 d) := by rw [hg1.cells.1 _ _ (by simp; omega)]; simp [go_sem, *]
    clear l0 l1 h0 h1
    have ll1 := World.block_lt_of_cell? _ _ l0'
    have lh1 := World.block_lt_of_cell? _ _ h0'
    go_wp2_with fail
    refine wp_region_held_drew (S := fun w' => w'.cell? ⟨gl, 0, none⟩ = some (.int .i64 a) ∧ w'.cell? ⟨gl, 1, none⟩ = some (.int .i64 b) ∧ w'.cell? ⟨gh, 0, none⟩ = some (.int .i64 c) ∧ w'.cell? ⟨gh, 1, none⟩ = some (.int .i64 d)) (by kernel_rfl) (⟨l0', l1', h0', h1'⟩) (fun hHeld => ?_)
    refine wpAnyH_take (i := 0) (oi := ⟨some 26, _, _, _, _, _⟩) (v := ?_) rfl (by kernel_rfl) (by kernel_rfl) (by kernel_rfl) (fun _ _ _ h => h) (Or.inl ⟨by rfl, ?_⟩) hHeld ?_
    rotate_left
    · (rintro w ⟨s1, s2, s3, s4⟩; go_simp; try with_reducible rfl)
    try simp only [Act.put, List.setIfInBounds_toArray, List.set_cons_zero, List.set_cons_succ]
    refine wpAnyH_take (i := 1) (oi := ⟨some 27, _, _, _, _, _⟩) (v := ?_) rfl (by kernel_rfl) (by kernel_rfl) (by kernel_rfl) (fun _ _ _ h => h) (Or.inl ⟨by rfl, ?_⟩) hHeld ?_
    rotate_left
    · (rintro w ⟨s1, s2, s3, s4⟩; go_simp; try with_reducible rfl)
    try simp only [Act.put, List.setIfInBounds_toArray, List.set_cons_zero, List.set_cons_succ]
    refine wpAnyH_take (i := 2) (oi := ⟨some 28, _, _, _, _, _⟩) (v := ?_) rfl (by kernel_rfl) (by kernel_rfl) (by kernel_rfl) (fun _ _ _ h => h) (Or.inl ⟨by rfl, ?_⟩) hHeld ?_
    rotate_left
    · (rintro w ⟨s1, s2, s3, s4⟩; go_simp; try with_reducible rfl)
    try simp only [Act.put, List.setIfInBounds_toArray, List.set_cons_zero, List.set_cons_succ]
    refine wpAnyH_take (i := 3) (oi := ⟨some 29, _, _, _, _, _⟩) (v := ?_) rfl (by kernel_rfl) (by kernel_rfl) (by kernel_rfl) (fun _ _ _ h => h) (Or.inl ⟨by rfl, ?_⟩) hHeld ?_
    rotate_left
    · (rintro w ⟨s1, s2, s3, s4⟩; go_simp; try with_reducible rfl)
    try simp only [Act.put, List.setIfInBounds_toArray, List.set_cons_zero, List.set_cons_succ]
    refine wpAnyH_take (i := 4) (oi := ⟨some 30, _, _, _, _, _⟩) (v := ?_) rfl (by kernel_rfl) (by kernel_rfl) (by kernel_rfl) (fun _ _ _ h => h) (Or.inl ⟨by rfl, ?_⟩) hHeld ?_
    rotate_left
    · (rintro w ⟨s1, s2, s3, s4⟩; go_simp; try with_reducible rfl)
    try simp only [Act.put, List.setIfInBounds_toArray, List.set_cons_zero, List.set_cons_succ]
    refine wpAnyH_take (i := 6) (oi := ⟨some 32, _, _, _, _, _⟩) (v := ?_) rfl (by kernel_rfl) (by kernel_rfl) (by kernel_rfl) (fun _ _ _ h => h) (Or.inl ⟨by rfl, ?_⟩) hHeld ?_
    rotate_left
    · (rintro w ⟨s1, s2, s3, s4⟩; go_simp; try with_reducible rfl)
    try simp only [Act.put, List.setIfInBounds_toArray, List.set_cons_zero, List.set_cons_succ]
    refine wpAnyH_ready (rs := [5]) (by kernel_rfl) (by simp) ?_
    refine AllReadyH.cons (o := ⟨some 31, _, _, _, _, _⟩) rfl (fun K hK => ?_) AllReadyH.nil
    go_simp
    refine (of_any _ _ _).mono ?_
    rintro e v1 ⟨rfl, hq1⟩
    refine hK.out _ _ ?_ (fun hHeld => ?_)
    · refine ⟨?_, ?_, ?_, ?_⟩ <;> (rw [(Gr.cells (W := w1) (by repeat (first | exact Gr.refl _ | assumption | refine Gr.alloc ?_ _ | refine Gr.drew ?_ | refine Gr.drewN ?_ _ | refine Gr.set ?_ _ _ (by first | (simp; done) | (simp; omega)) | refine Gr.trans ?_ (by assumption)))).1 _ _ (by omega)]; assumption)
    clear hK K
    try simp only [Act.put, List.setIfInBounds_toArray, List.set_cons_zero, List.set_cons_succ]
    refine wpAnyH_ready (rs := [7]) (by kernel_rfl) (by simp) ?_
    refine AllReadyH.cons (o := ⟨some 33, _, _, _, _, _⟩) rfl (fun K hK => ?_) AllReadyH.nil
    go_simp
    refine (of_any _ _ _).mono ?_
    rintro e v2 ⟨rfl, hq2⟩
    refine hK.out _ _ ?_ (fun hHeld => ?_)
    · refine ⟨?_, ?_, ?_, ?_⟩ <;> (rw [(Gr.cells (W := w1) (by repeat (first | exact Gr.refl _ | assumption | refine Gr.alloc ?_ _ | refine Gr.drew ?_ | refine Gr.drewN ?_ _ | refine Gr.set ?_ _ _ (by first | (simp; done) | (simp; omega)) | refine Gr.trans ?_ (by assumption)))).1 _ _ (by omega)]; assumption)
    clear hK K
    try simp only [Act.put, List.setIfInBounds_toArray, List.set_cons_zero, List.set_cons_succ]
    refine wpAnyH_ready (rs := [8]) (by kernel_rfl) (by simp) ?_
    refine AllReadyH.cons (o := ⟨some 34, _, _, _, _, _⟩) rfl (fun K hK => ?_) AllReadyH.nil
    go_simp
    refine (CR.out _).mono ?_
    rintro e v3 ⟨rfl, hq3⟩
    refine hK.out _ _ ?_ (fun hHeld => ?_)
    · refine ⟨?_, ?_, ?_, ?_⟩ <;> (rw [(Gr.cells (W := w1) (by repeat (first | exact Gr.refl _ | assumption | refine Gr.alloc ?_ _ | refine Gr.drew ?_ | refine Gr.drewN ?_ _ | refine Gr.set ?_ _ _ (by first | (simp; done) | (simp; omega)) | refine Gr.trans ?_ (by assumption)))).1 _ _ (by omega)]; assumption)
    clear hK K
    try simp only [Act.put, List.setIfInBounds_toArray, List.set_cons_zero, List.set_cons_succ]
    refine wpAnyH_take (i := 9) (oi := ⟨some 35, _, _, _, _, _⟩) (v := ?_) rfl (by kernel_rfl) (by kernel_rfl) (by kernel_rfl) (fun _ _ _ h => h) (Or.inl ⟨by rfl, ?_⟩) hHeld ?_
    rotate_left
    · (rintro w ⟨s1, s2, s3, s4⟩; go_simp; try with_reducible rfl)
    try simp only [Act.put, List.setIfInBounds_toArray, List.set_cons_zero, List.set_cons_succ]
    refine wpAnyH_take (i := 10) (oi := ⟨some 36, _, _, _, _, _⟩) (v := ?_) rfl (by kernel_rfl) (by kernel_rfl) (by kernel_rfl) (fun _ _ _ h => h) (Or.inl ⟨by rfl, ?_⟩) hHeld ?_
    rotate_left
    · (rintro w ⟨s1, s2, s3, s4⟩; go_simp; try with_reducible rfl)
    try simp only [Act.put, List.setIfInBounds_toArray, List.set_cons_zero, List.set_cons_succ]
    refine wpAnyH_take (i := 11) (oi := ⟨some 37, _, _, _, _, _⟩) (v := ?_) rfl (by kernel_rfl) (by kernel_rfl) (by kernel_rfl) (fun _ _ _ h => h) (Or.inl ⟨by rfl, ?_⟩) hHeld ?_
    rotate_left
    · (rintro w ⟨s1, s2, s3, s4⟩; go_simp; try with_reducible rfl)
    try simp only [Act.put, List.setIfInBounds_toArray, List.set_cons_zero, List.set_cons_succ]
    refine wpAnyH_take (i := 12) (oi := ⟨some 38, _, _, _, _, _⟩) (v := undef) rfl (by kernel_rfl) (by kernel_rfl) (by kernel_rfl) (fun _ _ _ h => ⟨h.1, h.2⟩) (Or.inr ⟨by kernel_rfl, rfl⟩) hHeld ?_
    try simp only [Act.put, List.setIfInBounds_toArray, List.set_cons_zero, List.set_cons_succ]
    refine wpAnyH_take (i := 13) (oi := ⟨some 39, _, _, _, _, _⟩) (v := undef) rfl (by kernel_rfl) (by kernel_rfl) (by kernel_rfl) (fun _ _ _ h => ⟨h.1, h.2⟩) (Or.inr ⟨by kernel_rfl, rfl⟩) hHeld ?_
    try simp only [Act.put, List.setIfInBounds_toArray, List.set_cons_zero, List.set_cons_succ]
    refine wpAnyH_take (i := 14) (oi := ⟨some 40, _, _, _, _, _⟩) (v := undef) rfl (by kernel_rfl) (by kernel_rfl) (by kernel_rfl) (fun _ _ _ h => ⟨h.1, h.2⟩) (Or.inr ⟨by kernel_rfl, rfl⟩) hHeld ?_
    try simp only [Act.put, List.setIfInBounds_toArray, List.set_cons_zero, List.set_cons_succ]
    refine wpAnyH_take (i := 15) (oi := ⟨some 41, _, _, _, _, _⟩) (v := undef) rfl (by kernel_rfl) (by kernel_rfl) (by kernel_rfl) (fun _ _ _ h => ⟨h.1, h.2⟩) (Or.inr ⟨by kernel_rfl, rfl⟩) hHeld ?_
    try simp only [Act.put, List.setIfInBounds_toArray, List.set_cons_zero, List.set_cons_succ]
    refine wpAnyH_take (i := 16) (oi := ⟨some 42, _, _, _, _, _⟩) (v := undef) rfl (by kernel_rfl) (by kernel_rfl) (by kernel_rfl) (fun _ _ _ h => ⟨h.1, h.2⟩) (Or.inr ⟨by kernel_rfl, rfl⟩) hHeld ?_
    try simp only [Act.put, List.setIfInBounds_toArray, List.set_cons_zero, List.set_cons_succ]
    refine wpAnyH_take (i := 17) (oi := ⟨some 43, _, _, _, _, _⟩) (v := undef) rfl (by kernel_rfl) (by kernel_rfl) (by kernel_rfl) (fun _ _ _ h => ⟨h.1, h.2⟩) (Or.inr ⟨by kernel_rfl, rfl⟩) hHeld ?_
    try simp only [Act.put, List.setIfInBounds_toArray, List.set_cons_zero, List.set_cons_succ]
    refine wpAnyH_take (i := 18) (oi := ⟨some 44, _, _, _, _, _⟩) (v := ?_) rfl (by kernel_rfl) (by kernel_rfl) (by kernel_rfl) (fun _ _ _ h => h) (Or.inl ⟨by rfl, ?_⟩) hHeld ?_
    rotate_left
    · (rintro w ⟨s1, s2, s3, s4⟩; go_simp; try with_reducible rfl)
    try simp only [Act.put, List.setIfInBounds_toArray, List.set_cons_zero, List.set_cons_succ]
    refine wpAnyH_take (i := 19) (oi := ⟨some 2, _, _, _, _, _⟩) (v := ?_) rfl (by kernel_rfl) (by kernel_rfl) (by kernel_rfl) (fun _ _ _ h => h) (Or.inl ⟨by rfl, ?_⟩) hHeld ?_
    rotate_left
    · (rintro w ⟨s1, s2, s3, s4⟩; go_simp; try with_reducible rfl)
    try simp only [Act.put, List.setIfInBounds_toArray, List.set_cons_zero, List.set_cons_succ]
    refine wpAnyH_done (by kernel_rfl) ?_ _
    go_wp2
    go_ret
    exact ⟨rfl, (by repeat (first | exact Gr.refl _ | assumption | refine Gr.alloc ?_ _ | refine Gr.drew ?_ | refine Gr.drewN ?_ _ | refine Gr.set ?_ _ _ (by first | (simp; done) | (simp; omega)) | refine Gr.trans ?_ (by assumption)))⟩
set_option maxRecDepth 100000 in
set_option maxHeartbeats 4000000 in
theorem right_last (a b c d : Int) (w : World) (h : ok2 a b c d = true) (hb : b ≤ 1000) (hd : d ≤ 1000) (ha : 0 ≤ a) (hk : a*d - c*b ≤ 0) :
    Calls Tryz.prog 71 #[ru a b c d] w fun e w' => e = .returned (.bool (decide (4*c ≤ d))) ∧ Gr w w' := by
  have hE := Lib.hid (Rm.err_true (e := 1) h)
  obtain ⟨⟨x1, x2, x3, x4, _⟩, ⟨y1, y2, y3, y4, _⟩⟩ := ok2_parts h
  obtain ⟨u1, u2⟩ := Rm.nd_bound x1 x2 y3 y4
  obtain ⟨u3, u4⟩ := Rm.nd_bound y1 y2 x3 x4
  have CR := Lib.hid (fun w => cross_any a b c d w (by omega) (by omega) (by omega) (by omega))
  clear h u1 u2 u3 u4
  have w4 : IntKind.i64.wrap (4*c) = 4*c := IntWalk.i64_in _ (by omega)
  generalize a*d - c*b = X at *
  go_enter Tryz.func71, Tryz.ntmps71
  go_wp2_with fail
  go_upto_region 1 with (fail)
  go_cut [3, 4] (fun s3 s4 wx => ∃ gl gh : Nat, s3 = .pointer (some ⟨gl, 0, none⟩) ∧ s4 = .pointer (some ⟨gh, 0, none⟩) ∧ NewTwo w a b gl wx ∧ NewTwo w c d gh wx)
  case first =>
    go_region
    all_goals (go_wp2_with fail; go_meet; exact ⟨_, _, rfl, rfl, ⟨by first | omega | (simp; done) | (simp; omega), by simp [go_sem], by simp [go_sem], (by repeat (first | exact Gr.refl _ | assumption | refine Gr.alloc ?_ _ | refine Gr.drew ?_ | refine Gr.drewN ?_ _ | refine Gr.set ?_ _ _ (by first | (simp; done) | (simp; omega)) | refine Gr.trans ?_ (by assumption)))⟩, ⟨by first | omega | (simp; done) | (simp; omega), by simp [go_sem], by simp [go_sem], (by repeat (first | exact Gr.refl _ | assumption | refine Gr.alloc ?_ _ | refine Gr.drew ?_ | refine Gr.drewN ?_ _ | refine Gr.set ?_ _ _ (by first | (simp; done) | (simp; omega)) | refine Gr.trans ?_ (by assumption)))⟩⟩)
  case rest =>
    obtain ⟨gl, gh, rfl, rfl, ⟨gl0, l0, l1, hg0⟩, ⟨gh0, h0, h1, _⟩⟩ := hcut
    have ll := World.block_lt_of_cell? _ _ l0
    have lh := World.block_lt_of_cell? _ _ h0
    go_wp2_with fail
    refine (checked_two _ _ a b c d _ (by simp [go_sem, *]) (by simp [go_sem, *]) (by simp [go_sem, *]) (by simp [go_sem, *])).mono ?_
    rintro e w1 ⟨rfl, hg1⟩
    rw [hE.out]
    have l0' : w1.cell? ⟨gl, 0, none⟩ = some (.int .i64 a) := by rw [hg1.cells.1 _ _ (by simp; omega)]; simp [go_sem, *]
    have l1' : w1.cell? ⟨gl, 1, none⟩ = some (.int .i64 b) := by rw [hg1.cells.1 _ _ (by simp; omega)]; simp [go_sem, *]
    have h0' : w1.cell? ⟨gh, 0, none⟩ = some (.int .i64 c) := by rw [hg1.cells.1 _ _ (by simp; omega)]; simp [go_sem, *]
    have h1' : w1.cell? ⟨gh, 1, none⟩ = some (.int .i64 d) := by rw [hg1.cells.1 _ _ (by simp; omega)]; simp [go_sem, *]
    clear l0 l1 h0 h1
    have ll1 := World.block_lt_of_cell? _ _ l0'
    have lh1 := World.block_lt_of_cell? _ _ h0'
    go_wp2_with fail
    go_region_held3 (fun w' => w'.cell? ⟨gl, 0, none⟩ = some (.int .i64 a) ∧ w'.cell? ⟨gl, 1, none⟩ = some (.int .i64 b) ∧ w'.cell? ⟨gh, 0, none⟩ = some (.int .i64 c) ∧ w'.cell? ⟨gh, 1, none⟩ = some (.int .i64 d))
      ((refine ⟨?_, ?_, ?_, ?_⟩ <;> (rw [(Gr.cells (W := w1) (by repeat (first | exact Gr.refl _ | assumption | refine Gr.alloc ?_ _ | refine Gr.drew ?_ | refine Gr.drewN ?_ _ | refine Gr.set ?_ _ _ (by first | (simp; done) | (simp; omega)) | refine Gr.trans ?_ (by assumption)))).1 _ _ (by omega)]; assumption)))
      ((first | (go_at_call 34; refine (of_any _ _ _).mono ?_; rintro e v1 ⟨rfl, hq1⟩) | (go_at_call 37; refine (CR.out _).mono ?_; rintro e v2 ⟨rfl, hq2⟩)))
    all_goals (try go_wp2)
    all_goals go_ret
    all_goals exact ⟨rfl, (by repeat (first | exact Gr.refl _ | assumption | refine Gr.alloc ?_ _ | refine Gr.drew ?_ | refine Gr.drewN ?_ _ | refine Gr.set ?_ _ _ (by first | (simp; done) | (simp; omega)) | refine Gr.trans ?_ (by assumption)))⟩
theorem right_any (a b c d : Int) (w : World) :
    Calls Tryz.prog 71 #[ru a b c d] w fun e w' => e = .returned (.bool (ruOk a b c d)) ∧ Gr w w' := by
  cases h : ok2 a b c d
  · have e : ruOk a b c d = false := by simp [ruOk, h]
    rw [e]; exact right_err a b c d w h
  by_cases hb : 1000 < b ∨ 1000 < d
  · have e : ruOk a b c d = false := by simp only [ruOk, h]; rcases hb with hb | hb <;> simp <;> omega
    rw [e]; exact right_den a b c d w h hb
  by_cases ha : a < 0
  · have e : ruOk a b c d = false := by simp only [ruOk, h]; simp; omega
    rw [e]; exact right_neg a b c d w h (by omega) (by omega) ha
  by_cases hk : 0 < a*d - c*b
  · have e : ruOk a b c d = false := by simp only [ruOk, h]; simp; omega
    rw [e]; exact right_cross a b c d w h (by omega) (by omega) (by omega) hk
  have e : ruOk a b c d = decide (4*c ≤ d) := by
    have h1 : b ≤ 1000 := by omega
    have h2 : d ≤ 1000 := by omega
    have h3 : 0 ≤ a := by omega
    have h4 : a*d - c*b ≤ 0 := by omega
    simp only [ruOk, h, h1, h2, h3, h4]; simp
  rw [e]; exact right_last a b c d w h (by omega) (by omega) (by omega) (by omega)
set_option maxHeartbeats 400000 in
theorem CheckRule_any (a b c d : Int) (w : World) :
    Calls Tryz.prog 48 #[ru a b c d] w fun e w' => e = .returned (.int .i64 (Rm.err (ruOk a b c d) 1)) ∧ Gr w w' := by
  cases h : ruOk a b c d
  all_goals
    have hE := Lib.hid h
    first | rw [Rm.err_false rfl] | rw [Rm.err_true rfl]
    go_enter Tryz.func48, Tryz.ntmps48
    go_wp2_with fail
    refine (right_any _ _ _ _ _).mono ?_
    rintro e w1 ⟨rfl, hg1⟩
    rw [hE.out]
    go_wp2
    go_ret
    exact ⟨rfl, (by repeat (first | exact Gr.refl _ | assumption | refine Gr.alloc ?_ _ | refine Gr.drew ?_ | refine Gr.drewN ?_ _ | refine Gr.set ?_ _ _ (by first | (simp; done) | (simp; omega)) | refine Gr.trans ?_ (by assumption)))⟩
end Go.Proofs.YtconhikflghkdaaGreatDoor
