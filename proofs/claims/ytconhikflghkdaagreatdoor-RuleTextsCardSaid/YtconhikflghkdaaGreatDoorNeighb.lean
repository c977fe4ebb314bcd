/- rule/near.go: Neighbours. -/
import Derived.Test.YtconhikflghkdaaGreatDoorNeigh
namespace Go.Proofs.YtconhikflghkdaaGreatDoor
open Go.RowKit Go.Shelf
/-- Neighbours' error -/
def nbE (n d : Int) : Int := if Rm.okF n d then (if d = 1 then 13 else 0) else 1
/-- the parts that Neighbours returns -/
def nbv (n d v : Int) : Int := if nbE n d = 0 then v else 0
def nbR (n d : Int) : Value := .tuple #[fr (nbv n d (Rm.bkN n d (d-1))) (nbv n d (Rm.bkD n d (d-1))), fr (nbv n d (Rm.bhN n d (d-1))) (nbv n d (Rm.bhD n d (d-1))), .int .i64 (nbE n d)]
set_option maxRecDepth 100000 in
set_option maxHeartbeats 2000000 in
theorem Neighbours_any (n d : Int) (w : World) :
    Calls Tryz.prog 12 #[fr n d] w fun e w' => e = .returned (nbR n d) ∧ Gr w w' := by
  cases h : Rm.okF n d
  · have e0 : nbR n d = .tuple #[fr 0 0, fr 0 0, .int .i64 1] := by simp [nbR, nbv, nbE, h]
    rw [e0]
    have hE := Lib.hid (Rm.err_false (e := 1) h)
    clear e0 h
    go_enter Tryz.func12, Tryz.ntmps12
    go_wp2_with fail
    refine (checked_one _ _ n d _ (by simp [go_sem]) (by simp [go_sem])).mono ?_
    rintro e w1 ⟨rfl, hg1⟩
    rw [hE.out]
    obtain ⟨hc1, hf1, hz1⟩ := hg1.at (n := w.heap.size + 3) (by first | (simp; done) | (simp; omega) | omega)
    go_wp2
    go_region
    all_goals (try go_wp2)
    all_goals exact bodyPost_ret (v := .tuple #[fr 0 0, fr 0 0, .int .i64 1]) (by simp [results, Tryz.results12, go_sem, hc1]) rfl ⟨rfl, (by repeat (first | exact Gr.refl _ | assumption | refine Gr.alloc ?_ _ | refine Gr.drew ?_ | refine Gr.drewN ?_ _ | refine Gr.set ?_ _ _ (by first | (simp; done) | (simp; omega)) | refine Gr.trans ?_ (by assumption)))⟩
  · have hE := Lib.hid (Rm.err_true (e := 1) h)
    by_cases hd : d = 1
    · subst hd
      have e0 : nbR n 1 = .tuple #[fr 0 0, fr 0 0, .int .i64 13] := by simp [nbR, nbv, nbE, h]
      rw [e0]
      clear e0 h
      go_enter Tryz.func12, Tryz.ntmps12
      go_wp2_with fail
      refine (checked_one _ _ n 1 _ (by simp [go_sem]) (by simp [go_sem])).mono ?_
      rintro e w1 ⟨rfl, hg1⟩
      rw [hE.out]
      obtain ⟨hc1, hf1, hz1⟩ := hg1.at (n := w.heap.size + 3) (by first | (simp; done) | (simp; omega) | omega)
      go_wp2
      go_region
      all_goals (try go_wp2)
      all_goals exact bodyPost_ret (v := .tuple #[fr 0 0, fr 0 0, .int .i64 13]) (by simp [results, Tryz.results12, go_sem, hc1]) rfl ⟨rfl, (by repeat (first | exact Gr.refl _ | assumption | refine Gr.alloc ?_ _ | refine Gr.drew ?_ | refine Gr.drewN ?_ _ | refine Gr.set ?_ _ _ (by first | (simp; done) | (simp; omega)) | refine Gr.trans ?_ (by assumption)))⟩
    · have e0 : nbR n d = .tuple #[fr (Rm.bkN n d (d-1)) (Rm.bkD n d (d-1)), fr (Rm.bhN n d (d-1)) (Rm.bhD n d (d-1)), .int .i64 0] := by simp [nbR, nbv, nbE, h, hd]
      rw [e0]
      have AR := Lib.hid (fun w => callsIn_wide.1 (neighbours_in 9 n d w h (by have := (Rm.okF_iff.1 h).2.2.1; omega)))
      clear e0 h
      generalize Rm.bkN n d (d-1) = a at *
      generalize Rm.bkD n d (d-1) = b at *
      generalize Rm.bhN n d (d-1) = a' at *
      generalize Rm.bhD n d (d-1) = b' at *
      go_enter Tryz.func12, Tryz.ntmps12
      go_wp2_with fail
      refine (checked_one _ _ n d _ (by simp [go_sem]) (by simp [go_sem])).mono ?_
      rintro e w1 ⟨rfl, hg1⟩
      rw [hE.out]
      obtain ⟨hc1, hf1, hz1⟩ := hg1.at (n := w.heap.size + 3) (by first | (simp; done) | (simp; omega) | omega)
      go_wp2_with (first | (go_at_call 34; refine (of_any _ _ _).mono ?_; rintro e v1 ⟨rfl, hg2⟩; obtain ⟨hc2, hf2, hz2⟩ := hg2.at (n := w.heap.size + 3) (by first | (simp; done) | (simp; omega) | omega)) | (go_at_call 35; refine (AR.out _).mono ?_; rintro e v2 ⟨rfl, hg3⟩; obtain ⟨hc3, hf3, hz3⟩ := hg3.at (n := w.heap.size + 3) (by first | (simp; done) | (simp; omega) | omega)))
      have r0 : v2.cell? ⟨w.heap.size + 1, 0, none⟩ = some (.int .i64 0) := by rw [hc3 _ _ (by omega), hc2 _ _ (by omega), hc1 _ _ (by omega)]; simp [go_sem]
      have rf0 : v2.frozen? ⟨w.heap.size + 1, 0, none⟩ = false := by rw [hf3 _ _ (by omega), hf2 _ _ (by omega), hf1 _ _ (by omega)]; simp [go_sem]
      have r1 : v2.cell? ⟨w.heap.size + 1, 1, none⟩ = some (.int .i64 0) := by rw [hc3 _ _ (by omega), hc2 _ _ (by omega), hc1 _ _ (by omega)]; simp [go_sem]
      have rf1 : v2.frozen? ⟨w.heap.size + 1, 1, none⟩ = false := by rw [hf3 _ _ (by omega), hf2 _ _ (by omega), hf1 _ _ (by omega)]; simp [go_sem]
      have s0 : v2.cell? ⟨w.heap.size + 1 + 1, 0, none⟩ = some (.int .i64 0) := by rw [hc3 _ _ (by omega), hc2 _ _ (by omega), hc1 _ _ (by omega)]; simp [go_sem]
      have sf0 : v2.frozen? ⟨w.heap.size + 1 + 1, 0, none⟩ = false := by rw [hf3 _ _ (by omega), hf2 _ _ (by omega), hf1 _ _ (by omega)]; simp [go_sem]
      have s1 : v2.cell? ⟨w.heap.size + 1 + 1, 1, none⟩ = some (.int .i64 0) := by rw [hc3 _ _ (by omega), hc2 _ _ (by omega), hc1 _ _ (by omega)]; simp [go_sem]
      have sf1 : v2.frozen? ⟨w.heap.size + 1 + 1, 1, none⟩ = false := by rw [hf3 _ _ (by omega), hf2 _ _ (by omega), hf1 _ _ (by omega)]; simp [go_sem]
      have z2 : w.heap.size + 1 + 1 < v2.heap.size := by omega
      have z1 : w.heap.size + 1 < v2.heap.size := by omega
      have z4 : w.heap.size + 1 + 1 < v2.heap.size + 1 := by omega
      have z3 : w.heap.size + 1 < v2.heap.size + 1 := by omega
      have : ¬ v2.heap.size = w.heap.size := (by omega); have : ¬ w.heap.size = v2.heap.size := (by omega); have : w.heap.size < v2.heap.size := (by omega); have : w.heap.size ≤ v2.heap.size := (by omega); have : ¬ v2.heap.size = w.heap.size + 1 := (by omega); have : ¬ w.heap.size + 1 = v2.heap.size := (by omega); have : w.heap.size + 1 < v2.heap.size := (by omega); have : w.heap.size + 1 ≤ v2.heap.size := (by omega); have : ¬ v2.heap.size = w.heap.size + 2 := (by omega); have : ¬ w.heap.size + 2 = v2.heap.size := (by omega); have : w.heap.size + 2 < v2.heap.size := (by omega); have : w.heap.size + 2 ≤ v2.heap.size := (by omega)
      clear hc1 hc2 hc3 hf1 hf2 hf3
      go_region
      all_goals (try go_wp2)
      all_goals exact bodyPost_ret (v := .tuple #[fr a b, fr a' b', .int .i64 0]) (by simp [results, Tryz.results12, go_sem, *]) rfl ⟨rfl, (by repeat (first | exact Gr.refl _ | assumption | refine Gr.alloc ?_ _ | refine Gr.drew ?_ | refine Gr.drewN ?_ _ | refine Gr.set ?_ _ _ (by first | (simp; done) | (simp; omega)) | refine Gr.trans ?_ (by assumption)))⟩
end Go.Proofs.YtconhikflghkdaaGreatDoor
