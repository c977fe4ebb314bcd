/- rule/near.go: Around, Nearest. -/
import Derived.Test.YtconhikflghkdaaGreatDoorAround
namespace Go.Proofs.YtconhikflghkdaaGreatDoor
open Go.RowKit Go.Shelf
def abOk (n d m : Int) : Bool := Rm.okF n d && (decide (1 ≤ m) && decide (m ≤ 1000000))
def abN (n d m : Int) : Int := if abOk n d m then Rm.bkN n d m else 0
def abD (n d m : Int) : Int := if abOk n d m then Rm.bkD n d m else 0
def ahN (n d m : Int) : Int := if abOk n d m then Rm.bhN n d m else 0
def ahD (n d m : Int) : Int := if abOk n d m then Rm.bhD n d m else 0
theorem ab_yes {n d m : Int} (h : abOk n d m = true) : abN n d m = Rm.bkN n d m ∧ abD n d m = Rm.bkD n d m ∧ ahN n d m = Rm.bhN n d m ∧ ahD n d m = Rm.bhD n d m := by simp [abN, abD, ahN, ahD, h]
theorem ab_no {n d m : Int} (h : abOk n d m = false) : abN n d m = 0 ∧ abD n d m = 0 ∧ ahN n d m = 0 ∧ ahD n d m = 0 := by simp [abN, abD, ahN, ahD, h]
set_option maxRecDepth 100000 in
set_option maxHeartbeats 2000000 in
theorem Around_any (n d m : Int) (w : World) :
    Calls Tryz.prog 36 #[fr n d, .int .i64 m] w fun e w' => e = .returned (.tuple #[fr (abN n d m) (abD n d m), fr (ahN n d m) (ahD n d m), .int .i64 (Rm.err (abOk n d m) 1)]) ∧ Gr w w' := by
  cases h : Rm.okF n d
  · have hA : abOk n d m = false := by simp [abOk, h]
    obtain ⟨e1, e2, e3, e4⟩ := ab_no hA
    rw [e1, e2, e3, e4, hA, Rm.err_false rfl]
    have hE := Lib.hid (Rm.err_false (e := 1) h)
    clear e1 e2 e3 e4 hA h
    go_enter Tryz.func36, Tryz.ntmps36
    go_wp2_with fail
    refine (checked_one _ _ n d _ (by simp [go_sem]) (by simp [go_sem])).mono ?_
    rintro e w1 ⟨rfl, hg1⟩
    rw [hE.out]
    obtain ⟨hc1, hf1, hz1⟩ := hg1.at (n := w.heap.size + 3) (by first | (simp; done) | (simp; omega) | omega)
    go_wp2
    go_region
    all_goals (try go_wp2)
    all_goals exact bodyPost_ret (v := .tuple #[fr 0 0, fr 0 0, .int .i64 1]) (by simp [results, Tryz.results36, go_sem, hc1]) rfl ⟨rfl, (by repeat (first | exact Gr.refl _ | assumption | refine Gr.alloc ?_ _ | refine Gr.drew ?_ | refine Gr.drewN ?_ _ | refine Gr.set ?_ _ _ (by first | (simp; done) | (simp; omega)) | refine Gr.trans ?_ (by assumption)))⟩
  · have hE := Lib.hid (Rm.err_true (e := 1) h)
    cases hm : (decide (1 ≤ m) && decide (m ≤ 1000000))
    · have hA : abOk n d m = false := by simp only [abOk, hm, Bool.and_false]
      obtain ⟨e1, e2, e3, e4⟩ := ab_no hA
      rw [e1, e2, e3, e4, hA, Rm.err_false rfl]
      clear e1 e2 e3 e4 hA h
      go_enter Tryz.func36, Tryz.ntmps36
      go_wp2_with fail
      refine (checked_one _ _ n d _ (by simp [go_sem]) (by simp [go_sem])).mono ?_
      rintro e w1 ⟨rfl, hg1⟩
      rw [hE.out]
      obtain ⟨hc1, hf1, hz1⟩ := hg1.at (n := w.heap.size + 3) (by first | (simp; done) | (simp; omega) | omega)
      go_wp2_with (go_at_call 28; refine (in_any _ _ _ _).mono ?_; rintro e w' ⟨rfl, rfl⟩)
      go_region
      all_goals (try go_wp2)
      all_goals exact bodyPost_ret (v := .tuple #[fr 0 0, fr 0 0, .int .i64 1]) (by simp [results, Tryz.results36, go_sem, hc1]) rfl ⟨rfl, (by repeat (first | exact Gr.refl _ | assumption | refine Gr.alloc ?_ _ | refine Gr.drew ?_ | refine Gr.drewN ?_ _ | refine Gr.set ?_ _ _ (by first | (simp; done) | (simp; omega)) | refine Gr.trans ?_ (by assumption)))⟩
    · have hA : abOk n d m = true := by simp only [abOk, hm, h, Bool.and_self]
      obtain ⟨e1, e2, e3, e4⟩ := ab_yes hA
      rw [e1, e2, e3, e4, hA, Rm.err_true rfl]
      obtain ⟨x1, x2, x3, x4, x5⟩ := Rm.okF_iff.1 h
      obtain ⟨m1, m2⟩ : 1 ≤ m ∧ m ≤ 1000000 := by simpa using hm
      clear e1 e2 e3 e4 hA
      by_cases hd : d ≤ m
      · obtain ⟨q1, q2, q3, q4⟩ := Rm.bk_eq x3 m1 (Rm.Brk.self x3 x5 hd)
        rw [q1, q2, q3, q4]
        clear q1 q2 q3 q4 h x1 x2 x3 x4 x5
        go_enter Tryz.func36, Tryz.ntmps36
        go_wp2_with fail
        refine (checked_one _ _ n d _ (by simp [go_sem]) (by simp [go_sem])).mono ?_
        rintro e w1 ⟨rfl, hg1⟩
        rw [hE.out]
        obtain ⟨hc1, hf1, hz1⟩ := hg1.at (n := w.heap.size + 3) (by first | (simp; done) | (simp; omega) | omega)
        go_wp2_with (go_at_call 28; refine (in_any _ _ _ _).mono ?_; rintro e w' ⟨rfl, rfl⟩)
        go_region
        all_goals (try go_wp2)
        all_goals exact bodyPost_ret (v := .tuple #[fr n d, fr n d, .int .i64 0]) (by simp [results, Tryz.results36, go_sem, hc1]) rfl ⟨rfl, (by repeat (first | exact Gr.refl _ | assumption | refine Gr.alloc ?_ _ | refine Gr.drew ?_ | refine Gr.drewN ?_ _ | refine Gr.set ?_ _ _ (by first | (simp; done) | (simp; omega)) | refine Gr.trans ?_ (by assumption)))⟩
      · have AR := Lib.hid (fun w => around_any n d m w h m1 (by omega))
        clear h x1 x2 x3 x4 x5
        generalize Rm.bkN n d m = a at *
        generalize Rm.bkD n d m = b at *
        generalize Rm.bhN n d m = a' at *
        generalize Rm.bhD n d m = b' at *
        go_enter Tryz.func36, Tryz.ntmps36
        go_wp2_with fail
        refine (checked_one _ _ n d _ (by simp [go_sem]) (by simp [go_sem])).mono ?_
        rintro e w1 ⟨rfl, hg1⟩
        rw [hE.out]
        obtain ⟨hc1, hf1, hz1⟩ := hg1.at (n := w.heap.size + 3) (by first | (simp; done) | (simp; omega) | omega)
        go_wp2_with (first | (go_at_call 28; refine (in_any _ _ _ _).mono ?_; rintro e w' ⟨rfl, rfl⟩) | (go_at_call 34; refine (of_any _ _ _).mono ?_; rintro e v1 ⟨rfl, hg2⟩; obtain ⟨hc2, hf2, hz2⟩ := hg2.at (n := w.heap.size + 3) (by first | (simp; done) | (simp; omega) | omega)) | (go_at_call 65; refine (AR.out _).mono ?_; rintro e v2 ⟨rfl, hg3⟩; obtain ⟨hc3, hf3, hz3⟩ := hg3.at (n := w.heap.size + 3) (by first | (simp; done) | (simp; omega) | omega)))
        have r0 : v2.cell? ⟨w.heap.size + 1, 0, none⟩ = some (.int .i64 0) := by rw [hc3 _ _ (by omega), hc2 _ _ (by omega), hc1 _ _ (by omega)]; simp [go_sem]
        have rf0 : v2.frozen? ⟨w.heap.size + 1, 0, none⟩ = false := by rw [hf3 _ _ (by omega), hf2 _ _ (by omega), hf1 _ _ (by omega)]; simp [go_sem]
        have r1 : v2.cell? ⟨w.heap.size + 1, 1, none⟩ = some (.int .i64 0) := by rw [hc3 _ _ (by omega), hc2 _ _ (by omega), hc1 _ _ (by omega)]; simp [go_sem]
        have rf1 : v2.frozen? ⟨w.heap.size + 1, 1, none⟩ = false := by rw [hf3 _ _ (by omega), hf2 _ _ (by omega), hf1 _ _ (by omega)]; simp [go_sem]
        have s0 : v2.cell? ⟨w.heap.size + 1 + 1, 0, none⟩ = some (.int .i64 0) := by rw [hc3 _ _ (by omega), hc2 _ _ (by omega), hc1 _ _ (by omega)]; simp [go_sem]
        have sf0 : v2.frozen? ⟨w.heap.size + 1 + 1, 0, none⟩ = false := by rw [hf3 _ _ (by omega), hf2 _ _ (by omega), hf1 _ _ (by omega)]; simp [go_sem]
        have s1 : v2.cell? ⟨w.heap.size + 1 + 1, 1, none⟩ = some (.int .i64 0) := by rw [hc3 _ _ (by omega), hc2 _ _ (by omega), hc1 _ _ (by omega)]; simp [go_sem]
        have sf1 : v2.frozen? ⟨w.heap.size + 1 + 1, 1, none⟩ = false := by rw [hf3 _ _ (by omega), hf2 _ _ (by omega), hf1 _ _ (by omega)]; simp [go_sem]
        have z2 : w.heap.size + 1 + 1 < v2.heap.size := by omega
        have z1 : w.heap.size + 1 < v2.heap.size := by omega
        have z4 : w.heap.size + 1 + 1 < v2.heap.size + 1 := by omega
        have z3 : w.heap.size + 1 < v2.heap.size + 1 := by omega
        have : ¬ v2.heap.size = w.heap.size := (by omega); have : ¬ w.heap.size = v2.heap.size := (by omega); have : w.heap.size < v2.heap.size := (by omega); have : w.heap.size ≤ v2.heap.size := (by omega); have : ¬ v2.heap.size = w.heap.size + 1 := (by omega); have : ¬ w.heap.size + 1 = v2.heap.size := (by omega); have : w.heap.size + 1 < v2.heap.size := (by omega); have : w.heap.size + 1 ≤ v2.heap.size := (by omega); have : ¬ v2.heap.size = w.heap.size + 2 := (by omega); have : ¬ w.heap.size + 2 = v2.heap.size := (by omega); have : w.heap.size + 2 < v2.heap.size := (by omega); have : w.heap.size + 2 ≤ v2.heap.size := (by omega)
        clear hc1 hc2 hc3 hf1 hf2 hf3
        go_region
        all_goals (try go_wp2)
        all_goals exact bodyPost_ret (v := .tuple #[fr a b, fr a' b', .int .i64 0]) (by simp [results, Tryz.results36, go_sem, *]) rfl ⟨rfl, (by repeat (first | exact Gr.refl _ | assumption | refine Gr.alloc ?_ _ | refine Gr.drew ?_ | refine Gr.drewN ?_ _ | refine Gr.set ?_ _ _ (by first | (simp; done) | (simp; omega)) | refine Gr.trans ?_ (by assumption)))⟩
end Go.Proofs.YtconhikflghkdaaGreatDoor
