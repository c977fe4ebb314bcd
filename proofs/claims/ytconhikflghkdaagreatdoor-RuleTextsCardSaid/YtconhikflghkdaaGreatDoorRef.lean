/- strickleref01: what the reference's small functions return. -/
import Derived.Test.YtconhikflghkdaaGreatDoorCmp
namespace Go.Proofs.YtconhikflghkdaaGreatDoor
open Go.RowKit Go.Shelf
set_option maxHeartbeats 400000 in
theorem within_any (n a b : Int) (w : World) :
    Calls Tryz.prog 75 #[.int .i64 n, .int .i64 a, .int .i64 b] w fun e w' => e = .returned (.bool (decide (a ≤ n) && decide (n ≤ b))) ∧ w = w' := by
  by_cases h : a ≤ n
  · go_enter Tryz.func75, Tryz.ntmps75
    go_wp2
    go_ret
    exact ⟨ret_bool (by simp [h]), rfl⟩
  · go_enter Tryz.func75, Tryz.ntmps75
    go_wp2
    go_ret
    exact ⟨ret_bool (by have : ¬ a ≤ n := by omega
                        simp [this]), rfl⟩
set_option maxHeartbeats 400000 in
theorem rsize_any (n : Int) (w : World) (h1 : -4000000000000000000 ≤ n) (h2 : n ≤ 4000000000000000000) :
    Calls Tryz.prog 25 #[.int .i64 n] w fun e w' => e = .returned (.int .i64 (n.natAbs : Int)) ∧ w = w' := by
  by_cases h : n < 0
  · go_enter Tryz.func25, Tryz.ntmps25
    go_wp2
    go_ret
    exact ⟨ret_int (by omega), rfl⟩
  · go_enter Tryz.func25, Tryz.ntmps25
    go_wp2
    go_ret
    exact ⟨ret_int (by omega), rfl⟩
theorem divisor_ind (k : Nat) : ∀ (a b : Int) (w : World), b.toNat ≤ k → 0 ≤ a → a ≤ 4000000000000000000 → 0 ≤ b → b ≤ 4000000000000000000 →
    Calls Tryz.prog 76 #[.int .i64 a, .int .i64 b] w fun e w' => e = .returned (.int .i64 (Int.gcd a b : Int)) ∧ w = w' := by
  induction k with
  | zero =>
    intro a b w hk ha1 ha2 hb1 hb2
    have hb : b = 0 := by omega
    subst hb
    clear hk hb1 hb2
    go_enter Tryz.func76, Tryz.ntmps76
    go_wp2_with fail
    go_ret
    exact ⟨ret_int (by simp; omega), rfl⟩
  | succ k ih =>
    intro a b w hk ha1 ha2 hb1 hb2
    by_cases hb : b = 0
    · subst hb
      clear hk hb1 hb2
      go_enter Tryz.func76, Tryz.ntmps76
      go_wp2_with fail
      go_ret
      exact ⟨ret_int (by simp; omega), rfl⟩
    · have h1 := Int.emod_nonneg a hb
      have h2 := Int.emod_lt_of_pos a (show 0 < b by omega)
      have hg : Hid (Int.gcd b (a % b) = Int.gcd a b) := Lib.hid (by
        have := Rm.gcd_tmod a b
        rwa [Int.tmod_eq_emod_of_nonneg ha1] at this)
      have IH := Lib.hid (ih b (a % b) w (by omega) hb1 hb2 h1 (by omega))
      clear ih
      have hbp : 1 ≤ b := by omega
      go_enter Tryz.func76, Tryz.ntmps76
      go_wp2_with fail
      refine IH.out.mono ?_
      rintro e w' ⟨rfl, rfl⟩
      go_wp2_with fail
      go_ret
      exact ⟨ret_int (by rw [hg.out]), rfl⟩
theorem divisor_any (a b : Int) (w : World) (ha1 : 0 ≤ a) (ha2 : a ≤ 4000000000000000000) (hb1 : 0 ≤ b) (hb2 : b ≤ 4000000000000000000) :
    Calls Tryz.prog 76 #[.int .i64 a, .int .i64 b] w fun e w' => e = .returned (.int .i64 (Int.gcd a b : Int)) ∧ w = w' :=
  divisor_ind _ a b w (Nat.le_refl _) ha1 ha2 hb1 hb2
theorem gcd_abs (a b : Int) : Int.gcd (a.natAbs : Int) b = Int.gcd a b := by simp [Int.gcd]
theorem within_same (n a b : Int) (w : World) :
    Calls Tryz.prog 75 #[.int .i64 n, .int .i64 a, .int .i64 b] w fun e w' => e = .returned (.bool (decide (a ≤ n) && decide (n ≤ b))) ∧ w' = w := (within_any n a b w).mono fun _ _ h => ⟨h.1, h.2.symm⟩
set_option maxHeartbeats 1000000 in
theorem Right_any (a b : Int) (w : World) :
    Calls Tryz.prog 56 #[fr a b] w fun e w' => e = .returned (.bool (Rm.okF a b)) ∧ Gr w w' := by
  cases hd : (decide (1 ≤ b) && decide (b ≤ 1000000))
  · have e1 : Hid (Rm.okF a b = false) := Lib.hid (by
      cases c : Rm.okF a b
      · rfl
      · have := Rm.okF_iff.1 c; simp at hd; omega)
    go_enter Tryz.func56, Tryz.ntmps56
    go_wp2_with fail
    go_quiet ((go_at_call 75; exact Calls.quiet_of_same (within_same _ _ _ _)))
    all_goals go_wp2
    all_goals go_ret
    all_goals exact ⟨ret_bool (by rw [e1.out]), (by repeat (first | exact Gr.refl _ | assumption | refine Gr.alloc ?_ _ | refine Gr.drew ?_ | refine Gr.drewN ?_ _ | refine Gr.set ?_ _ _ (by first | (simp; done) | (simp; omega)) | refine Gr.trans ?_ (by assumption)))⟩
  · cases hn : (decide (-1000000000 ≤ a) && decide (a ≤ 1000000000))
    · have e1 : Hid (Rm.okF a b = false) := Lib.hid (by
        cases c : Rm.okF a b
        · rfl
        · have := Rm.okF_iff.1 c; simp at hn; omega)
      go_enter Tryz.func56, Tryz.ntmps56
      go_wp2_with fail
      go_quiet ((go_at_call 75; exact Calls.quiet_of_same (within_same _ _ _ _)))
      all_goals go_wp2
      all_goals go_ret
      all_goals exact ⟨ret_bool (by rw [e1.out]), (by repeat (first | exact Gr.refl _ | assumption | refine Gr.alloc ?_ _ | refine Gr.drew ?_ | refine Gr.drewN ?_ _ | refine Gr.set ?_ _ _ (by first | (simp; done) | (simp; omega)) | refine Gr.trans ?_ (by assumption)))⟩
    · obtain ⟨b1, b2, b3, b4⟩ : 1 ≤ b ∧ b ≤ 1000000 ∧ -1000000000 ≤ a ∧ a ≤ 1000000000 := by simp at hd hn; omega
      have e1 : Hid (Rm.okF a b = decide ((Int.gcd a b : Int) = 1)) := Lib.hid (by
        have : Rm.small a b = true := by simp [Rm.small, *]
        rw [Rm.okF_of this]; simp; omega)
      have DV : Hid (∀ w, Calls Tryz.prog 76 #[.int .i64 (a.natAbs : Int), .int .i64 b] w fun e w' => e = .returned (.int .i64 (Int.gcd a b : Int)) ∧ w = w') := Lib.hid (fun w => by
        have := divisor_any (a.natAbs : Int) b w (by omega) (by omega) (by omega) (by omega)
        rwa [gcd_abs] at this)
      go_enter Tryz.func56, Tryz.ntmps56
      go_wp2_with fail
      go_region_held3 (fun w' => w'.cell? ⟨w.heap.size, 0, none⟩ = some (.int .i64 a) ∧ w'.cell? ⟨w.heap.size, 1, none⟩ = some (.int .i64 b))
        (first | go_keep)
        ((first
        | (go_at_call 75; refine (within_any _ _ _ _).mono ?_; rintro e w1 ⟨rfl, rfl⟩)
        | (go_at_call 25; refine (rsize_any _ _ (by omega) (by omega)).mono ?_; rintro e w1 ⟨rfl, rfl⟩)
        | (go_at_call 76; refine (DV.out _).mono ?_; rintro e w1 ⟨rfl, rfl⟩)))
      all_goals go_wp2
      all_goals go_ret
      all_goals exact ⟨ret_bool (by rw [e1.out]; rfl), (by repeat (first | exact Gr.refl _ | assumption | refine Gr.alloc ?_ _ | refine Gr.drew ?_ | refine Gr.drewN ?_ _ | refine Gr.set ?_ _ _ (by first | (simp; done) | (simp; omega)) | refine Gr.trans ?_ (by assumption)))⟩
set_option maxHeartbeats 400000 in
theorem rCheckFrac_any (a b : Int) (w : World) :
    Calls Tryz.prog 23 #[fr a b] w fun e w' => e = .returned (.int .i64 (Rm.err (Rm.okF a b) 1)) ∧ Gr w w' := by
  cases h : Rm.okF a b
  all_goals
    have hE := Lib.hid h
    first | rw [Rm.err_false rfl] | rw [Rm.err_true rfl]
    go_enter Tryz.func23, Tryz.ntmps23
    go_wp2_with fail
    refine (Right_any _ _ _).mono ?_
    rintro e w1 ⟨rfl, hg1⟩
    rw [hE.out]
    go_wp2
    go_ret
    exact ⟨rfl, (by repeat (first | exact Gr.refl _ | assumption | refine Gr.alloc ?_ _ | refine Gr.drew ?_ | refine Gr.drewN ?_ _ | refine Gr.set ?_ _ _ (by first | (simp; done) | (simp; omega)) | refine Gr.trans ?_ (by assumption)))⟩
end Go.Proofs.YtconhikflghkdaaGreatDoor
