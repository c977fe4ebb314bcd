/- sort.Search at a predicate with a threshold; rule/shrink.go: first. -/
import Derived.Test.YtconhikflghkdaaGreatDoorCast
namespace Go.Proofs.YtconhikflghkdaaGreatDoor
open Go.RowKit Go.Shelf
set_option maxRecDepth 100000 in
set_option maxHeartbeats 1000000 in
theorem Search_any (g n K : Nat) (cb : Array Value) (w : World) (hn : n ≤ 1000000000) (hK : K ≤ n) (eg : ∀ args w, (callFunc g args).run Tryz.prog w = .ok (.enter g args) w)
    (hf : ∀ (i : Nat) (W : World), i < n → Gr w W → Calls Tryz.prog g (#[.int .i64 i] ++ cb) W fun e w' => e = .returned (.bool (decide (K ≤ i))) ∧ Gr W w') :
    Calls Tryz.prog 68 #[.int .i64 n, .func (.func g) #[] cb] w fun e w' => e = .returned (.int .i64 K) ∧ Gr w w' := by
  have HF := Lib.hid hf
  clear hf
  go_enter Tryz.func68, Tryz.ntmps68
  go_wp2
  go_loopg [5, 6] n (fun kx s5 s6 wr => ∃ (lo hi : Nat), s5 = .int .i64 lo ∧ s6 = .int .i64 hi ∧ lo ≤ K ∧ K ≤ hi ∧ hi ≤ n ∧ hi - lo ≤ kx ∧ Gr w wr)
  case atStart => exact ⟨0, n, rfl, rfl, Nat.zero_le _, hK, Nat.le_refl _, by omega, Gr.refl _⟩
  case round =>
    obtain ⟨lo, hi, rfl, rfl, h1, h2, h3, hg, hw⟩ := hrel
    by_cases hlt : lo < hi
    · have hc := HF.out ((lo + hi) / 2) wr (by omega) hw
      rw [show (((lo + hi) / 2 : Nat) : Int) = ((lo : Int) + (hi : Int)) / 2 by omega] at hc
      by_cases hp : K ≤ (lo + hi) / 2
      · rw [decide_eq_true hp] at hc
        have HC := Lib.hid hc
        clear hc
        go_wp2_with fail
        refine HC.out.mono ?_
        rintro e w1 ⟨rfl, hg1⟩
        go_wp2
        go_roundg ((lo + hi) / 2 - lo)
        case measure => omega
        case rel => exact ⟨lo, (lo + hi) / 2, rfl, by rw [show ((lo : Int) + (hi : Int)) / 2 = (((lo + hi) / 2 : Nat) : Int) by omega], h1, hp, by omega, Nat.le_refl _, hw.trans hg1⟩
      · rw [decide_eq_false hp] at hc
        have HC := Lib.hid hc
        clear hc
        go_wp2_with fail
        refine HC.out.mono ?_
        rintro e w1 ⟨rfl, hg1⟩
        go_wp2
        go_roundg (hi - ((lo + hi) / 2 + 1))
        case measure => omega
        case rel => exact ⟨(lo + hi) / 2 + 1, hi, by rw [show ((lo : Int) + (hi : Int)) / 2 + 1 = (((lo + hi) / 2 + 1 : Nat) : Int) by omega], rfl, by omega, h2, h3, Nat.le_refl _, hw.trans hg1⟩
    · go_wp2
      go_ret
      exact ⟨ret_int (by omega), hw⟩
set_option maxHeartbeats 1000000 in
theorem first1_any (g : Nat) (cb : Array Value) (p q : Nat) (i : Nat) (r : Bool) (w : World) (hi : i < 1000000) (eg : ∀ args w, (callFunc g args).run Tryz.prog w = .ok (.enter g args) w)
    (hp : w.cell? ⟨p, 0, none⟩ = some (.func (.func g) #[] cb)) (hq : w.cell? ⟨q, 0, none⟩ = some (.int .i64 1))
    (hf : Calls Tryz.prog g (#[.int .i64 (1 + (i : Int))] ++ cb) w fun e w' => e = .returned (.bool r) ∧ Gr w w') :
    Calls Tryz.prog 69 #[.int .i64 i, .pointer (some ⟨p, 0, none⟩), .pointer (some ⟨q, 0, none⟩)] w fun e w' => e = .returned (.bool r) ∧ Gr w w' := by
  have HF := Lib.hid hf
  clear hf
  go_enter Tryz.func69, Tryz.ntmps69
  go_wp2_with fail
  refine HF.out.mono ?_
  rintro e w1 ⟨rfl, hg1⟩
  go_wp2
  go_ret
  exact ⟨rfl, hg1⟩
set_option maxRecDepth 100000 in
set_option maxHeartbeats 1000000 in
/-- the first size of which something holds; L is the threshold -/
theorem first_any (g : Nat) (L : Nat) (cb : Array Value) (w : World) (hL1 : 1 ≤ L) (hL2 : L ≤ 1000001) (eg : ∀ args w, (callFunc g args).run Tryz.prog w = .ok (.enter g args) w)
    (hf : ∀ (i : Nat) (W : World), i < 1000000 → Gr w W → Calls Tryz.prog g (#[.int .i64 (1 + (i : Int))] ++ cb) W fun e w' => e = .returned (.bool (decide (L ≤ 1 + i))) ∧ Gr W w') :
    Calls Tryz.prog 41 #[.int .i64 1, .int .i64 1000000, .func (.func g) #[] cb] w fun e w' => e = .returned (.int .i64 L) ∧ Gr w w' := by
  have hmf : ∀ (fn : Fn) (first cap : Array Value) (w : World), (Instr.makeFunc fn first cap).run Tryz.prog w = .ok (.func fn first cap) w := fun _ _ _ _ => rfl
  have HF := Lib.hid hf
  clear hf
  have SR : Hid (∀ X, Gr ((w.alloc (.cells #[.int .i64 1] 3)).alloc (.cells #[.func (.func g) #[] cb] 82)) X →
      Calls Tryz.prog 68 #[.int .i64 1000000, .func (.func 69) #[] #[.pointer (some ⟨w.heap.size + 1, 0, none⟩), .pointer (some ⟨w.heap.size, 0, none⟩)]] X fun e w' => e = .returned (.int .i64 ((L : Int) - 1)) ∧ Gr X w') := Lib.hid (fun X hX => by
    have := Search_any 69 1000000 (L-1) #[.pointer (some ⟨w.heap.size + 1, 0, none⟩), .pointer (some ⟨w.heap.size, 0, none⟩)] X (by omega) (by omega) (enters_of Tryz.func69 (by kernel_rfl) rfl) (fun i W hi hW => by
      have h := HF.out i W hi ((((Gr.refl w).alloc _).alloc _).trans (hX.trans hW))
      have e : decide (L ≤ 1 + i) = decide (L - 1 ≤ i) := by rw [decide_eq_decide]; omega
      rw [e] at h
      have c := (hX.trans hW).cells.1
      exact first1_any g cb (w.heap.size + 1) w.heap.size i _ W hi eg ((c _ _ (by simp)).trans (by simp [go_sem])) ((c _ _ (by simp; omega)).trans (by simp [go_sem])) h)
    rw [show (((L - 1 : Nat) : Nat) : Int) = (L : Int) - 1 by omega] at this
    exact this)
  clear HF
  have hwr : IntKind.i64.wrap (1 + ((L : Int) - 1)) = (L : Int) := by rw [IntWalk.i64_in _ (by omega)]; omega
  go_enter Tryz.func41, Tryz.ntmps41
  go_wp2_with fail
  go_region_held3 (fun w' => w'.cell? ⟨w.heap.size, 0, none⟩ = some (.int .i64 1))
    (first | go_keep)
    ((go_at_call 68; refine (SR.out _ (by repeat (first | exact Gr.refl _ | assumption | refine Gr.alloc ?_ _ | refine Gr.drew ?_ | refine Gr.drewN ?_ _ | refine Gr.set ?_ _ _ (by first | (simp; done) | (simp; omega)) | refine Gr.trans ?_ (by assumption)))).mono ?_; rintro e v1 ⟨rfl, hg1⟩; obtain ⟨hc1, hf1, hz1⟩ := hg1.at (n := w.heap.size + 2) (by first | (simp; done) | (simp; omega) | omega)))
  all_goals (try go_wp2)
  all_goals go_ret
  all_goals exact ⟨rfl, (by repeat (first | exact Gr.refl _ | assumption | refine Gr.alloc ?_ _ | refine Gr.drew ?_ | refine Gr.drewN ?_ _ | refine Gr.set ?_ _ _ (by first | (simp; done) | (simp; omega)) | refine Gr.trans ?_ (by assumption)))⟩
end Go.Proofs.YtconhikflghkdaaGreatDoor
