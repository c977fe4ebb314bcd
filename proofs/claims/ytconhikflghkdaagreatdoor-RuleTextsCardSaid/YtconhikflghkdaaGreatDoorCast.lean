/- rule/shrink.go: cast, miss, asked. -/
import Derived.Test.YtconhikflghkdaaGreatDoorRule
namespace Go.Proofs.YtconhikflghkdaaGreatDoor
open Go.RowKit Go.Shelf
set_option maxHeartbeats 400000 in
theorem left_any (p : Nat) (n a b : Int) (w : World) (hp : w.cell? ⟨p, 0, none⟩ = some (.int .i64 n)) (h1 : -4000000000000000000 ≤ b - a) (h2 : b - a ≤ 4000000000000000000) (h3 : -4000000000000000000 ≤ n*(b-a)) (h4 : n*(b-a) ≤ 4000000000000000000) :
    Calls Tryz.prog 70 #[fr a b, .pointer (some ⟨p, 0, none⟩)] w fun e w' => e = .returned (fr (n*(b-a)) b) ∧ Gr w w' := by
  have lp : p < w.heap.size := World.block_lt_of_cell? w _ hp
  go_enter Tryz.func70, Tryz.ntmps70
  go_wp2
  exact bodyPost_ret (v := fr (n*(b-a)) b) (by simp [results, Tryz.results70, go_sem]) rfl ⟨rfl, (by repeat (first | exact Gr.refl _ | assumption | refine Gr.alloc ?_ _ | refine Gr.drew ?_ | refine Gr.drewN ?_ _ | refine Gr.set ?_ _ _ (by first | (simp; done) | (simp; omega)) | refine Gr.trans ?_ (by assumption)))⟩
set_option maxRecDepth 100000 in
set_option maxHeartbeats 1000000 in
theorem cast_any (a b c d n : Int) (w : World) (h1 : -4000000000000000000 ≤ b - a) (h2 : b - a ≤ 4000000000000000000) (h3 : -4000000000000000000 ≤ n*(b-a)) (h4 : n*(b-a) ≤ 4000000000000000000)
    (k1 : -4000000000000000000 ≤ d - c) (k2 : d - c ≤ 4000000000000000000) (k3 : -4000000000000000000 ≤ n*(d-c)) (k4 : n*(d-c) ≤ 4000000000000000000) :
    Calls Tryz.prog 43 #[ru a b c d, .int .i64 n] w fun e w' => e = .returned (.tuple #[fr (n*(d-c)) d, fr (n*(b-a)) b]) ∧ Gr w w' := by
  have hmf : ∀ (fn : Fn) (first cap : Array Value) (w : World), (Instr.makeFunc fn first cap).run Tryz.prog w = .ok (.func fn first cap) w := fun _ _ _ _ => rfl
  have L1 := Lib.hid (fun p w hp => left_any p n a b w hp h1 h2 h3 h4)
  have L2 := Lib.hid (fun p w hp => left_any p n c d w hp k1 k2 k3 k4)
  clear h1 h2 h3 h4 k1 k2 k3 k4
  have n1 : ¬ w.heap.size + 1 + 1 = w.heap.size := by omega
  have n2 : ¬ w.heap.size + 1 + 1 = w.heap.size + 1 := by omega
  have n3 : ¬ w.heap.size = w.heap.size + 1 + 1 := by omega
  have n4 : ¬ w.heap.size + 1 = w.heap.size + 1 + 1 := by omega
  have m1 : ¬ w.heap.size + 1 + 1 + 1 = w.heap.size := by omega
  have m2 : ¬ w.heap.size + 1 + 1 + 1 = w.heap.size + 1 := by omega
  have m3 : ¬ w.heap.size = w.heap.size + 1 + 1 + 1 := by omega
  have m4 : ¬ w.heap.size + 1 = w.heap.size + 1 + 1 + 1 := by omega
  generalize n*(b-a) = P at *
  generalize n*(d-c) = Q at *
  go_enter Tryz.func43, Tryz.ntmps43
  go_wp2_with fail
  go_region_held3 (fun w' => w'.cell? ⟨w.heap.size, 0, none⟩ = some (.int .i64 a) ∧ w'.cell? ⟨w.heap.size, 1, none⟩ = some (.int .i64 b) ∧ w'.cell? ⟨w.heap.size, 2, none⟩ = some (.int .i64 c) ∧ w'.cell? ⟨w.heap.size, 3, none⟩ = some (.int .i64 d) ∧ w'.cell? ⟨w.heap.size + 1, 0, none⟩ = some (.int .i64 n))
    (first | go_keep)
    ((first
      | (go_at_call_of 70 (Value.int .i64 a); refine (L1.out _ _ (by simp [go_sem, *])).mono ?_; rintro e v1 ⟨rfl, hg1⟩; obtain ⟨hc1, hf1, hz1⟩ := hg1.at (n := w.heap.size + 4) (by first | (simp; done) | (simp; omega) | omega))
      | (go_at_call_of 70 (Value.int .i64 c); refine (L2.out _ _ (by simp [go_sem, *])).mono ?_; rintro e v2 ⟨rfl, hg2⟩; obtain ⟨hc2, hf2, hz2⟩ := hg2.at (n := w.heap.size + 4) (by first | (simp; done) | (simp; omega) | omega))))
  all_goals go_wp2
  all_goals exact bodyPost_ret (v := .tuple #[fr Q d, fr P b]) (by simp [results, Tryz.results43, go_sem, *]) rfl ⟨rfl, (by repeat (first | exact Gr.refl _ | assumption | refine Gr.alloc ?_ _ | refine Gr.drew ?_ | refine Gr.drewN ?_ _ | refine Gr.set ?_ _ _ (by first | (simp; done) | (simp; omega)) | refine Gr.trans ?_ (by assumption)))⟩
/-- sizes as said -/
def szOk (n : Int) : Bool := decide (1 ≤ n) && decide (n ≤ 1000000)
def szAll (x : Nat → Int) : Nat → Bool
  | 0 => true
  | k+1 => szAll x k && szOk (x k)
theorem err_step {b c : Bool} : (if Rm.err b 1 = 0 ∧ c = false then (1 : Int) else Rm.err b 1) = Rm.err (b && c) 1 := by
  cases b <;> cases c <;> rfl
set_option maxHeartbeats 1000000 in
theorem asked_any (s n cap : Nat) (a b c d : Int) (x : Nat → Int) (w : World) (hn : n ≤ 1000) (hx : ∀ i, i < n → w.cell? ⟨s, i, none⟩ = some (.int .i64 (x i))) (hs : 0 < n) :
    Calls Tryz.prog 40 #[ru a b c d, .slice (some ⟨s, 0, none⟩) n cap] w fun e w' => e = .returned (.tuple #[ru a b c d, .int .i64 (Rm.err (ruOk a b c d && szAll x n) 1)]) ∧ Gr w w' := by
  have HX := Lib.hid hx
  have ls : s < w.heap.size := World.block_lt_of_cell? w _ (hx 0 hs)
  clear hx
  go_enter Tryz.func40, Tryz.ntmps40
  go_wp2_with fail
  refine (CheckRule_any _ _ _ _ _).mono ?_
  rintro e w1 ⟨rfl, hg1⟩
  obtain ⟨hc1, hf1, hz1⟩ := hg1.at (n := w.heap.size + 2) (by first | (simp; done) | (simp; omega) | omega)
  go_wp2_with fail
  go_loopw [6, 13] (fun e i wr => ∃ k : Nat, k ≤ n ∧ i = .int .i64 k ∧ (∃ E : Bool, e = .int .i64 (Rm.err E 1) ∧ Hid (E = (ruOk a b c d && szAll x k))) ∧ Gr w1 wr) (fun _ i _ => n - (intOf i).toNat)
  case atStart => exact ⟨0, Nat.zero_le _, rfl, ⟨_, rfl, Lib.hid (by simp [szAll])⟩, Gr.refl _⟩
  case round =>
    obtain ⟨k, hk, rfl, ⟨E, rfl, hE⟩, hw⟩ := hrel
    by_cases hlt : k < n
    · have x1 : wr.cell? ⟨s, k, none⟩ = some (.int .i64 (x k)) := by rw [hw.cells.1 _ _ (by omega), hg1.cells.1 _ _ (by simp; omega), (((Gr.refl w).alloc _).alloc _).cells.1 _ _ ls]; exact HX.out k hlt
      cases E
      · rw [show Rm.err false 1 = 1 from rfl]
        go_wp2
        go_roundw
        case rel => exact ⟨k + 1, by omega, by go_num, ⟨false, rfl, Lib.hid (by rw [szAll, ← Bool.and_assoc, ← hE.out]; rfl)⟩, hw⟩
        case measure => simp [intOf]; omega
      · rw [show Rm.err true 1 = 0 from rfl]
        cases hz : (decide (1 ≤ x k) && decide (x k ≤ 1000000))
        · have HZ := Lib.hid hz
          go_wp2_with (go_at_call 28; refine (in_any _ _ _ _).mono ?_; rintro e w' ⟨rfl, rfl⟩)
          go_roundw
          case rel => exact ⟨k + 1, by omega, by go_num, ⟨false, rfl, Lib.hid (by rw [szAll, ← Bool.and_assoc, ← hE.out, szOk, HZ.out]; rfl)⟩, hw⟩
          case measure => simp [intOf]; omega
        · have HZ := Lib.hid hz
          go_wp2_with (go_at_call 28; refine (in_any _ _ _ _).mono ?_; rintro e w' ⟨rfl, rfl⟩)
          go_roundw
          case rel => exact ⟨k + 1, by omega, by go_num, ⟨true, rfl, Lib.hid (by rw [szAll, ← Bool.and_assoc, ← hE.out, szOk, HZ.out]; rfl)⟩, hw⟩
          case measure => simp [intOf]; omega
    · have e : k = n := by omega
      have EE : Hid (Rm.err (ruOk a b c d && szAll x n) 1 = Rm.err E 1) := Lib.hid (by rw [hE.out, e])
      have q0 : ∀ o, wr.cell? ⟨w.heap.size, o, none⟩ = (w.alloc (.cells #[.int .i64 a, .int .i64 b, .int .i64 c, .int .i64 d] 43)).cell? ⟨w.heap.size, o, none⟩ := fun o => by
        rw [hw.cells.1 _ _ (by omega), hc1 _ _ (by omega)]; simp [go_sem]
      have q1 : ∀ o, wr.cell? ⟨w.heap.size + 1, o, none⟩ = w1.cell? ⟨w.heap.size + 1, o, none⟩ := fun o => hw.cells.1 _ _ (by omega)
      have q2 : ∀ o, wr.frozen? ⟨w.heap.size + 1, o, none⟩ = w1.frozen? ⟨w.heap.size + 1, o, none⟩ := fun o => hw.cells.2.1 _ _ (by omega)
      clear hE e
      go_wp2
      exact bodyPost_ret (v := .tuple #[ru a b c d, .int .i64 (Rm.err E 1)]) (by simp [results, Tryz.results40, go_sem, q1, hc1]) rfl ⟨by rw [EE.out], (by repeat (first | exact Gr.refl _ | assumption | refine Gr.alloc ?_ _ | refine Gr.drew ?_ | refine Gr.drewN ?_ _ | refine Gr.set ?_ _ _ (by first | (simp; done) | (simp; omega)) | refine Gr.trans ?_ (by assumption)))⟩
end Go.Proofs.YtconhikflghkdaaGreatDoor
