/- rule/near.go: Nearest. -/
import Derived.Test.YtconhikflghkdaaGreatDoorNearest
import Derived.Test.YtconhikflghkdaaGreatDoorMath
namespace Go.Proofs.YtconhikflghkdaaGreatDoor
open Go.RowKit Go.Shelf
def nrB (n d m : Int) : Bool := Rm.nearB n d (Rm.bkN n d m) (Rm.bkD n d m) (Rm.bhN n d m) (Rm.bhD n d m)
def nrN (n d m : Int) : Int := if abOk n d m then (if nrB n d m then Rm.bkN n d m else Rm.bhN n d m) else 0
def nrD (n d m : Int) : Int := if abOk n d m then (if nrB n d m then Rm.bkD n d m else Rm.bhD n d m) else 0
set_option maxRecDepth 100000 in
set_option maxHeartbeats 2000000 in
theorem Nearest_no (n d m : Int) (w : World) (h : abOk n d m = false) :
    Calls Tryz.prog 13 #[fr n d, .int .i64 m] w fun e w' => e = .returned (.tuple #[fr 0 0, .int .i64 1]) ∧ Gr w w' := by
  obtain ⟨e1, e2, e3, e4⟩ := ab_no h
  have A := Around_any n d m
  rw [e1, e2, e3, e4, h, Rm.err_false rfl] at A
  have AR := Lib.hid A
  clear A e1 e2 e3 e4 h
  go_enter Tryz.func13, Tryz.ntmps13
  go_wp2_with fail
  refine (AR.out _).mono ?_
  rintro e w1 ⟨rfl, hg1⟩
  obtain ⟨hc1, hf1, hz1⟩ := hg1.at (n := w.heap.size + 2) (by first | (simp; done) | (simp; omega) | omega)
  have : ¬ w1.heap.size = w.heap.size := (by omega); have : ¬ w.heap.size = w1.heap.size := (by omega); have : w.heap.size < w1.heap.size := (by omega); have : w.heap.size ≤ w1.heap.size := (by omega); have : ¬ w1.heap.size = w.heap.size + 1 := (by omega); have : ¬ w.heap.size + 1 = w1.heap.size := (by omega); have : w.heap.size + 1 < w1.heap.size := (by omega); have : w.heap.size + 1 ≤ w1.heap.size := (by omega)
  go_wp2
  exact bodyPost_ret (v := .tuple #[fr 0 0, .int .i64 1]) (by simp [results, Tryz.results13, go_sem, *]) rfl ⟨rfl, (by repeat (first | exact Gr.refl _ | assumption | refine Gr.alloc ?_ _ | refine Gr.drew ?_ | refine Gr.drewN ?_ _ | refine Gr.set ?_ _ _ (by first | (simp; done) | (simp; omega)) | refine Gr.trans ?_ (by assumption)))⟩
set_option maxRecDepth 100000 in
set_option maxHeartbeats 4000000 in
theorem Nearest_core (n d m a b a' b' : Int) (w : World) (AR : Hid (∀ w, Calls Tryz.prog 36 #[fr n d, .int .i64 m] w fun e w' => e = .returned (.tuple #[fr a b, fr a' b', .int .i64 0]) ∧ Gr w w'))
    (x1 : -4000000000000000000 ≤ n*b) (x2 : n*b ≤ 4000000000000000000) (x3 : -4000000000000000000 ≤ a*d) (x4 : a*d ≤ 4000000000000000000)
    (y1 : -4000000000000000000 ≤ a'*d) (y2 : a'*d ≤ 4000000000000000000) (y3 : -4000000000000000000 ≤ n*b') (y4 : n*b' ≤ 4000000000000000000)
    (_p1 : 0 ≤ n*b - a*d) (_p2 : n*b - a*d ≤ 1000000000000) (p3 : 0 ≤ (n*b - a*d)*b') (p4 : (n*b - a*d)*b' ≤ 1000000000000000000)
    (q1 : 0 ≤ a'*d - n*b') (q2 : a'*d - n*b' ≤ 1000000000000) (q3 : 0 ≤ (a'*d - n*b')*b) (q4 : (a'*d - n*b')*b ≤ 1000000000000000000) (t : Bool) (ht : Rm.nearB n d a b a' b' = t) :
    Calls Tryz.prog 13 #[fr n d, .int .i64 m] w fun e w' => e = .returned (.tuple #[if t then fr a b else fr a' b', .int .i64 0]) ∧ Gr w w' := by
  by_cases heq : a = a' ∧ b = b'
  · obtain ⟨rfl, rfl⟩ := heq
    have ev : (if t then fr a b else fr a b) = fr a b := by split <;> rfl
    rw [ev]
    have eq : ∀ w, (binOp .eql 23 (fr a b) (fr a b)).run Tryz.prog w = .ok (.bool true) w := fun w => by rw [eql_Frac]; simp
    clear ht x1 x2 x3 x4 y1 y2 y3 y4 _p1 _p2 p3 p4 q1 q2 q3 q4
    go_enter Tryz.func13, Tryz.ntmps13
    go_wp2_with fail
    refine (AR.out _).mono ?_
    rintro e w1 ⟨rfl, hg1⟩
    obtain ⟨hc1, hf1, hz1⟩ := hg1.at (n := w.heap.size + 2) (by first | (simp; done) | (simp; omega) | omega)
    have : ¬ w1.heap.size = w.heap.size := (by omega); have : ¬ w.heap.size = w1.heap.size := (by omega); have : w.heap.size < w1.heap.size := (by omega); have : w.heap.size ≤ w1.heap.size := (by omega); have : ¬ w1.heap.size = w.heap.size + 1 := (by omega); have : ¬ w.heap.size + 1 = w1.heap.size := (by omega); have : w.heap.size + 1 < w1.heap.size := (by omega); have : w.heap.size + 1 ≤ w1.heap.size := (by omega)
    go_wp2
    exact bodyPost_ret (v := .tuple #[fr a b, .int .i64 0]) (by simp [results, Tryz.results13, go_sem, *]) rfl ⟨rfl, (by repeat (first | exact Gr.refl _ | assumption | refine Gr.alloc ?_ _ | refine Gr.drew ?_ | refine Gr.drewN ?_ _ | refine Gr.set ?_ _ _ (by first | (simp; done) | (simp; omega)) | refine Gr.trans ?_ (by assumption)))⟩
  · have eq : ∀ w, (binOp .eql 23 (fr a b) (fr a' b')).run Tryz.prog w = .ok (.bool false) w := fun w => by rw [eql_Frac]; simp; intro h1 h2; exact heq ⟨h1, h2⟩
    have c1 := Lib.hid (fun w => cross_any n d a b w x1 x2 x3 x4)
    have c2 := Lib.hid (fun w => cross_any a' b' n d w y1 y2 y3 y4)
    have wr1 : IntKind.i64.wrap ((n*b - a*d)*b') = (n*b - a*d)*b' := IntWalk.i64_in _ (by omega)
    have wr2 : IntKind.i64.wrap ((a'*d - n*b')*b) = (a'*d - n*b')*b := IntWalk.i64_in _ (by omega)
    unfold Rm.nearB at ht
    clear heq x1 x2 x3 x4 y1 y2 y3 y4 _p1 _p2 q1 q2
    generalize n*b - a*d = X at *
    generalize a'*d - n*b' = Y at *
    have HT := Lib.hid ht
    clear ht
    go_enter Tryz.func13, Tryz.ntmps13
    go_wp2_with fail
    refine (AR.out _).mono ?_
    rintro e w1 ⟨rfl, hg1⟩
    obtain ⟨hc1, hf1, hz1⟩ := hg1.at (n := w.heap.size + 2) (by first | (simp; done) | (simp; omega) | omega)
    have : ¬ w1.heap.size = w.heap.size := (by omega); have : ¬ w.heap.size = w1.heap.size := (by omega); have : w.heap.size < w1.heap.size := (by omega); have : w.heap.size ≤ w1.heap.size := (by omega); have : ¬ w1.heap.size = w.heap.size + 1 := (by omega); have : ¬ w.heap.size + 1 = w1.heap.size := (by omega); have : w.heap.size + 1 < w1.heap.size := (by omega); have : w.heap.size + 1 ≤ w1.heap.size := (by omega)
    have r0 : w1.cell? ⟨w.heap.size, 0, none⟩ = some (.int .i64 n) := by rw [hc1 _ _ (by omega)]; simp [go_sem]
    have r1 : w1.cell? ⟨w.heap.size, 1, none⟩ = some (.int .i64 d) := by rw [hc1 _ _ (by omega)]; simp [go_sem]
    have l2 : w.heap.size < w1.heap.size + 2 := by omega
    go_wp2_with fail
    go_region_held3 (fun w' => w'.cell? ⟨w.heap.size, 0, none⟩ = some (.int .i64 n) ∧ w'.cell? ⟨w.heap.size, 1, none⟩ = some (.int .i64 d) ∧ w'.cell? ⟨w1.heap.size, 0, none⟩ = some (.int .i64 a) ∧ w'.cell? ⟨w1.heap.size, 1, none⟩ = some (.int .i64 b) ∧ w'.cell? ⟨w1.heap.size + 1, 0, none⟩ = some (.int .i64 a') ∧ w'.cell? ⟨w1.heap.size + 1, 1, none⟩ = some (.int .i64 b'))
      (first | go_keep)
      ((first
      | (go_at_call 34; refine (of_any _ _ _).mono ?_; rintro e v1 ⟨rfl, hg2⟩; obtain ⟨hc2, hf2, hz2⟩ := hg2.at (n := w1.heap.size + 2) (by first | (simp; done) | (simp; omega) | omega))
      | (go_at_call_of 37 (fr a b); refine (c1.out _).mono ?_; rintro e v2 ⟨rfl, hg3⟩; obtain ⟨hc3, hf3, hz3⟩ := hg3.at (n := w1.heap.size + 2) (by first | (simp; done) | (simp; omega) | omega))
      | (go_at_call_of 37 (fr a' b'); refine (c2.out _).mono ?_; rintro e v2 ⟨rfl, hg3⟩; obtain ⟨hc3, hf3, hz3⟩ := hg3.at (n := w1.heap.size + 2) (by first | (simp; done) | (simp; omega) | omega))))
    have u0 : v2.cell? ⟨w.heap.size + 1, 0, none⟩ = some (.int .i64 0) := by rw [(Gr.cells (W := w1) (by repeat (first | exact Gr.refl _ | assumption | refine Gr.alloc ?_ _ | refine Gr.drew ?_ | refine Gr.drewN ?_ _ | refine Gr.set ?_ _ _ (by first | (simp; done) | (simp; omega)) | refine Gr.trans ?_ (by assumption)))).1 _ _ (by omega), hc1 _ _ (by omega)]; simp [go_sem]
    have u1 : v2.cell? ⟨w.heap.size + 1, 1, none⟩ = some (.int .i64 0) := by rw [(Gr.cells (W := w1) (by repeat (first | exact Gr.refl _ | assumption | refine Gr.alloc ?_ _ | refine Gr.drew ?_ | refine Gr.drewN ?_ _ | refine Gr.set ?_ _ _ (by first | (simp; done) | (simp; omega)) | refine Gr.trans ?_ (by assumption)))).1 _ _ (by omega), hc1 _ _ (by omega)]; simp [go_sem]
    rcases (show X*b' < Y*b ∨ (X*b' = Y*b ∧ b ≤ b') ∨ (X*b' = Y*b ∧ b' < b) ∨ Y*b < X*b' by omega) with k | ⟨k, k2⟩ | ⟨k, k2⟩ | k
    · obtain rfl : t = true := by rw [← HT.out]; simp [k]
      go_wp2
      exact bodyPost_ret (v := .tuple #[fr a b, .int .i64 0]) (by simp [results, Tryz.results13, go_sem, u0, u1]) rfl ⟨rfl, (by repeat (first | exact Gr.refl _ | assumption | refine Gr.alloc ?_ _ | refine Gr.drew ?_ | refine Gr.drewN ?_ _ | refine Gr.set ?_ _ _ (by first | (simp; done) | (simp; omega)) | refine Gr.trans ?_ (by assumption)))⟩
    · obtain rfl : t = true := by rw [← HT.out]; simp [k, k2]
      have kb : (X*b' == Y*b) = true := beq_iff_eq.2 k
      have kc : ¬ X*b' < Y*b := by omega
      clear k
      go_wp2
      exact bodyPost_ret (v := .tuple #[fr a b, .int .i64 0]) (by simp [results, Tryz.results13, go_sem, u0, u1]) rfl ⟨rfl, (by repeat (first | exact Gr.refl _ | assumption | refine Gr.alloc ?_ _ | refine Gr.drew ?_ | refine Gr.drewN ?_ _ | refine Gr.set ?_ _ _ (by first | (simp; done) | (simp; omega)) | refine Gr.trans ?_ (by assumption)))⟩
    · obtain rfl : t = false := by rw [← HT.out]; simp [k]; omega
      have kb : (X*b' == Y*b) = true := beq_iff_eq.2 k
      have kc : ¬ X*b' < Y*b := by omega
      clear k
      go_wp2
      exact bodyPost_ret (v := .tuple #[fr a' b', .int .i64 0]) (by simp [results, Tryz.results13, go_sem, u0, u1]) rfl ⟨rfl, (by repeat (first | exact Gr.refl _ | assumption | refine Gr.alloc ?_ _ | refine Gr.drew ?_ | refine Gr.drewN ?_ _ | refine Gr.set ?_ _ _ (by first | (simp; done) | (simp; omega)) | refine Gr.trans ?_ (by assumption)))⟩
    · obtain rfl : t = false := by rw [← HT.out]; simp; omega
      have kb : (X*b' == Y*b) = false := beq_eq_false_iff_ne.2 (by omega)
      have kc : ¬ X*b' < Y*b := by omega
      go_wp2
      exact bodyPost_ret (v := .tuple #[fr a' b', .int .i64 0]) (by simp [results, Tryz.results13, go_sem, u0, u1]) rfl ⟨rfl, (by repeat (first | exact Gr.refl _ | assumption | refine Gr.alloc ?_ _ | refine Gr.drew ?_ | refine Gr.drewN ?_ _ | refine Gr.set ?_ _ _ (by first | (simp; done) | (simp; omega)) | refine Gr.trans ?_ (by assumption)))⟩
theorem Nearest_any (n d m : Int) (w : World) :
    Calls Tryz.prog 13 #[fr n d, .int .i64 m] w fun e w' => e = .returned (.tuple #[fr (nrN n d m) (nrD n d m), .int .i64 (Rm.err (abOk n d m) 1)]) ∧ Gr w w' := by
  cases h : abOk n d m
  · have e1 : nrN n d m = 0 ∧ nrD n d m = 0 := by simp [nrN, nrD, h]
    rw [e1.1, e1.2, Rm.err_false rfl]
    exact Nearest_no n d m w h
  · have hA : Rm.okF n d = true ∧ 1 ≤ m ∧ m ≤ 1000000 := by simpa [abOk] using h
    obtain ⟨x1, x2, x3, x4, x5⟩ := Rm.okF_iff.1 hA.1
    obtain ⟨e1, e2, e3, e4⟩ := ab_yes h
    have A := Around_any n d m
    rw [e1, e2, e3, e4, h, Rm.err_true rfl] at A
    have B := @Rm.bk_brk n d m x3 hA.2.1
    have O := B.off x3 hA.2.1
    have a1 := B.a1
    have am := B.am
    have b1 := B.b1
    have bm := B.bm
    have e5 : fr (nrN n d m) (nrD n d m) = if nrB n d m then fr (Rm.bkN n d m) (Rm.bkD n d m) else fr (Rm.bhN n d m) (Rm.bhD n d m) := by
      unfold nrN nrD
      rw [if_pos h, if_pos h]
      split <;> rfl
    rw [e5, Rm.err_true rfl]
    have p := Rm.near_bd O.1 O.2.1 a1 (by omega) x3 x4 b1 (by omega)
    have q := Rm.near_bd O.2.2.1 O.2.2.2 b1 (by omega) x3 x4 a1 (by omega)
    have r1 := Rm.nd_bound x1 x2 a1 (by omega)
    have r2 := Rm.nd_bound x1 x2 b1 (by omega)
    exact Nearest_core n d m _ _ _ _ w (Lib.hid A) (by omega) (by omega) (by omega) (by omega) (by omega) (by omega) (by omega) (by omega) p.1 p.2.1 p.2.2.1 p.2.2.2 q.1 q.2.1 q.2.2.1 q.2.2.2 _ rfl
end Go.Proofs.YtconhikflghkdaaGreatDoor
