/- strickleref01: digits. -/
import Derived.Test.YtconhikflghkdaaGreatDoorPlan
import Derived.Test.YtconhikflghkdaaGreatDoorMathT
import Derived.Laws.BytesArg
import Derived.Lib.ItoaLen
import Derived.Deep.RegionWith
import Derived.Deep.RegionHeld3
namespace Go.Proofs.YtconhikflghkdaaGreatDoor
open Go.RowKit
theorem conv_one (w : World) (b : Nat) (c : Int) (hw : w.cell? ⟨b, 0, none⟩ = some (.int .u8 c)) : (convert 92 9 (.slice (some ⟨b, 0, none⟩) 1 1)).run Tryz.prog w = .ok (.string (strOfNums [c])) w :=
  run_convert_bytes_arg w 92 5 Tryz.underlying92 Tryz.underlying5 b 0 1 1 [c] rfl (fun i hi => by
    obtain rfl : i = 0 := by omega
    simpa using hw) 9 Tryz.underlying9
theorem one_nums (k : Nat) : strOfNums [48 + (k : Int)] = ⟨#[UInt8.ofNat (48 + k)]⟩ := by
  have : (48 + (k : Int)).toNat = 48 + k := by omega
  simp only [strOfNums, List.map_cons, List.map_nil, this]
theorem cat_one (A : List UInt8) (c : UInt8) : (⟨(A ++ [c]).toArray⟩ : ByteArray) = ⟨A.toArray⟩ ++ ⟨#[c]⟩ := by
  apply ByteArray.ext
  simp
set_option maxRecDepth 100000 in
set_option maxHeartbeats 1000000 in
theorem digits_small (n : Nat) (w : World) (h : n < 10) :
    Calls Tryz.prog 24 #[.int .i64 n] w fun e w' => e = .returned (.string ⟨(Lib.decDigits n).toArray⟩) ∧ Gr w w' := by
  have e0 : Lib.decDigits n = [UInt8.ofNat (48 + n)] := by rw [Lib.decDigits, dif_pos h]
  rw [e0]
  have cv := conv_one (w.alloc (.cells #[.int .u8 (48 + (n : Int))] 5)) w.heap.size (48 + (n : Int)) ((blk_cells (heap_alloc_self w _)).1 0)
  rw [one_nums] at cv
  obtain ⟨c, hc⟩ : ∃ c, UInt8.ofNat (48 + n) = c := ⟨_, rfl⟩
  rw [hc] at cv ⊢
  clear hc e0
  go_enter Tryz.func24, Tryz.ntmps24
  go_wp2_with fail
  go_ret
  exact ⟨rfl, (by repeat (first | exact Gr.refl _ | assumption | refine Gr.alloc ?_ _ | refine Gr.drew ?_ | refine Gr.drewN ?_ _ | refine Gr.set ?_ _ _ (by first | (simp; done) | (simp; omega)) | refine Gr.trans ?_ (by assumption)))⟩
set_option maxRecDepth 100000 in
set_option maxHeartbeats 2000000 in
theorem digits_ind (k : Nat) : ∀ (n : Nat) (w : World), n ≤ k → n ≤ 1000000000 →
    Calls Tryz.prog 24 #[.int .i64 n] w fun e w' => e = .returned (.string ⟨(Lib.decDigits n).toArray⟩) ∧ Gr w w' := by
  induction k with
  | zero => intro n w h _; exact digits_small n w (by omega)
  | succ k ih =>
    intro n w h hb
    by_cases h10 : n < 10
    · exact digits_small n w h10
    have e0 : Lib.decDigits n = Lib.decDigits (n/10) ++ [UInt8.ofNat (48 + n % 10)] := by rw [Lib.decDigits, dif_neg h10]
    rw [e0]
    have IH := Lib.hid (fun w => ih (n/10) w (by omega) (by omega))
    have q1 : ((n : Int)).tdiv 10 = ((n / 10 : Nat) : Int) := by rw [Int.tdiv_eq_ediv_of_nonneg (by omega)]; omega
    have q2 : ((n : Int)).tmod 10 = ((n % 10 : Nat) : Int) := by rw [Int.tmod_eq_emod_of_nonneg (by omega)]; omega
    have CV := Lib.hid (fun (w : World) (b : Nat) (hb : w.cell? ⟨b, 0, none⟩ = some (.int .u8 (48 + ((n % 10 : Nat) : Int)))) => (conv_one w b _ hb).trans (by rw [one_nums]))
    obtain ⟨c, hc⟩ : ∃ c, UInt8.ofNat (48 + n % 10) = c := ⟨_, rfl⟩
    rw [hc] at CV ⊢
    have hm : n % 10 < 10 := Nat.mod_lt _ (by omega)
    have hm2 : n / 10 ≤ 1000000000 := by omega
    have q3 : IntKind.i64.wrap ((n / 10 : Nat) : Int) = ((n / 10 : Nat) : Int) := IntWalk.i64_in _ (by omega)
    have hl : (Lib.decDigits (n/10)).length ≤ 21 := by
      have := Lib.itoa_length_le ((n/10 : Nat) : Int) (by omega) (by omega)
      rwa [Lib.itoa_nonneg] at this
    have q4 : IntKind.i64.wrap (48 + ((n % 10 : Nat) : Int)) = 48 + ((n % 10 : Nat) : Int) := IntWalk.i64_in _ (by omega)
    have q5 : IntKind.u8.wrap (48 + ((n % 10 : Nat) : Int)) = 48 + ((n % 10 : Nat) : Int) := IntWalk.u8_in _ (by omega)
    generalize n % 10 = r at *
    generalize Lib.decDigits (n/10) = A at *
    generalize n / 10 = m at *
    have l1 : ¬ 9223372036854775807 < A.length + 1 := by omega
    clear ih e0 hc
    go_enter Tryz.func24, Tryz.ntmps24
    go_wp2_with fail
    have CV2 := CV.out
    clear CV
    go_region_with (go_at_call_of 24 (Value.int .i64 (m : Int)); refine (IH.out _).mono ?_; rintro e w1 ⟨rfl, hg1⟩; obtain ⟨hc1, hf1, hz1⟩ := hg1.cells)
    all_goals go_wp2
    all_goals exact bodyPost_ret (v := .string ⟨(A ++ [c]).toArray⟩) (by simp [results, Tryz.results24, go_sem]; exact (cat_one A c).symm) rfl ⟨rfl, (by repeat (first | exact Gr.refl _ | assumption | refine Gr.alloc ?_ _ | refine Gr.drew ?_ | refine Gr.drewN ?_ _ | refine Gr.set ?_ _ _ (by first | (simp; done) | (simp; omega)) | refine Gr.trans ?_ (by assumption)))⟩
theorem digits_any (n : Nat) (w : World) (h : n ≤ 1000000000) :
    Calls Tryz.prog 24 #[.int .i64 n] w fun e w' => e = .returned (.string ⟨(Lib.decDigits n).toArray⟩) ∧ Gr w w' := digits_ind n n w (Nat.le_refl _) h
end Go.Proofs.YtconhikflghkdaaGreatDoor
