/- rule/frac.go: operated, Add, Sub, Mul, Div; Compare, Floor, Ceil. -/
import Derived.Test.YtconhikflghkdaaGreatDoorOps
namespace Go.Proofs.YtconhikflghkdaaGreatDoor
open Go.RowKit Go.Shelf
/-- two fractions as said -/
def ok2 (a b c d : Int) : Bool := Rm.okF a b && Rm.okF c d
/-- a call of checked with two fractions in a new row -/
theorem checked_two (s cap : Nat) (a b c d : Int) (w : World) (h0 : w.cell? ⟨s, 0, none⟩ = some (.int .i64 a)) (h1 : w.cell? ⟨s, 1, none⟩ = some (.int .i64 b)) (h2 : w.cell? ⟨s, 2, none⟩ = some (.int .i64 c)) (h3 : w.cell? ⟨s, 3, none⟩ = some (.int .i64 d)) :
    Calls Tryz.prog 21 #[.slice (some ⟨s, 0, none⟩) 2 cap] w fun e w' => e = .returned (.int .i64 (Rm.err (ok2 a b c d) 1)) ∧ Gr w w' := by
  have := checked_any s 2 cap (fun i => if i = 0 then a else c) (fun i => if i = 0 then b else d) w (by omega)
    (fun i hi => by rcases (show i = 0 ∨ i = 1 by omega) with rfl | rfl <;> simpa) (fun i hi => by rcases (show i = 0 ∨ i = 1 by omega) with rfl | rfl <;> simpa)
  simpa [allOk, ok2] using this
theorem checked_one (s cap : Nat) (a b : Int) (w : World) (h0 : w.cell? ⟨s, 0, none⟩ = some (.int .i64 a)) (h1 : w.cell? ⟨s, 1, none⟩ = some (.int .i64 b)) :
    Calls Tryz.prog 21 #[.slice (some ⟨s, 0, none⟩) 1 cap] w fun e w' => e = .returned (.int .i64 (Rm.err (Rm.okF a b) 1)) ∧ Gr w w' := by
  have := checked_any s 1 cap (fun _ => a) (fun _ => b) w (by omega)
    (fun i hi => by obtain rfl : i = 0 := by omega
                    simpa) (fun i hi => by obtain rfl : i = 0 := by omega
                                           simpa)
  simpa [allOk] using this
theorem checked_three (s cap : Nat) (a b c d e f : Int) (w : World) (h0 : w.cell? ⟨s, 0, none⟩ = some (.int .i64 a)) (h1 : w.cell? ⟨s, 1, none⟩ = some (.int .i64 b)) (h2 : w.cell? ⟨s, 2, none⟩ = some (.int .i64 c)) (h3 : w.cell? ⟨s, 3, none⟩ = some (.int .i64 d)) (h4 : w.cell? ⟨s, 4, none⟩ = some (.int .i64 e)) (h5 : w.cell? ⟨s, 5, none⟩ = some (.int .i64 f)) :
    Calls Tryz.prog 21 #[.slice (some ⟨s, 0, none⟩) 3 cap] w fun r w' => r = .returned (.int .i64 (Rm.err (ok2 a b c d && Rm.okF e f) 1)) ∧ Gr w w' := by
  have := checked_any s 3 cap (fun i => if i = 0 then a else if i = 1 then c else e) (fun i => if i = 0 then b else if i = 1 then d else f) w (by omega)
    (fun i hi => by rcases (show i = 0 ∨ i = 1 ∨ i = 2 by omega) with rfl | rfl | rfl <;> simpa) (fun i hi => by rcases (show i = 0 ∨ i = 1 ∨ i = 2 by omega) with rfl | rfl | rfl <;> simpa)
  simpa [allOk, ok2] using this
/-- what an operation returns -/
def arOk (k : Nat) (a b c d : Int) : Bool := ok2 a b c d && !(decide (k = 3) && decide (c = 0))
def arN (k : Nat) (a b c d : Int) : Int := if arOk k a b c d then Rm.mN (Rm.opN k a b c d) (Rm.opD k a b c d) else 0
def arD (k : Nat) (a b c d : Int) : Int := if arOk k a b c d then Rm.mD (Rm.opN k a b c d) (Rm.opD k a b c d) else 0
def arE (k : Nat) (a b c d : Int) : Int := if ok2 a b c d then (if k = 3 ∧ c = 0 then 11 else Rm.mE (Rm.opN k a b c d) (Rm.opD k a b c d)) else 1
set_option maxHeartbeats 1000000 in
theorem operated_err (k : Nat) (a b c d : Int) (w : World) (h : ok2 a b c d = false) :
    Calls Tryz.prog 53 #[.int .i64 k, fr a b, fr c d] w fun e w' => e = .returned (.tuple #[fr 0 0, .int .i64 1]) ∧ Gr w w' := by
  have hE := Lib.hid (Rm.err_false (e := 1) h)
  go_enter Tryz.func53, Tryz.ntmps53
  go_wp2_with fail
  refine (checked_two _ _ a b c d _ (by simp [go_sem]) (by simp [go_sem]) (by simp [go_sem]) (by simp [go_sem])).mono ?_
  rintro e w1 ⟨rfl, hg1⟩
  rw [hE.out]
  obtain ⟨hc1, hf1, hz1⟩ := hg1.at (n := w.heap.size + 4) (by first | (simp; done) | (simp; omega) | omega)
  go_wp2
  exact bodyPost_ret (v := .tuple #[fr 0 0, .int .i64 1]) (by simp [results, Tryz.results53, go_sem, hc1]) rfl ⟨rfl, (by repeat (first | exact Gr.refl _ | assumption | refine Gr.alloc ?_ _ | refine Gr.drew ?_ | refine Gr.drewN ?_ _ | refine Gr.set ?_ _ _ (by first | (simp; done) | (simp; omega)) | refine Gr.trans ?_ (by assumption)))⟩
set_option maxHeartbeats 400000 in
/-- a division by zero gives up -/
theorem op3_zero (p q : Nat) (x y : Value) (w : World) (k0 : w.cell? ⟨p, 0, none⟩ = some (.int .i64 3)) (q0 : w.cell? ⟨q, 0, none⟩ = some (.int .i64 0)) :
    Calls Tryz.prog 72 #[.pointer (some ⟨p, 0, none⟩), .pointer (some ⟨q, 0, none⟩), x, y] w fun e w' => e = .panicked [{ v := giv 11, recovered := false }] ∧ GrL [] w w' := by
  go_enter Tryz.func72, Tryz.ntmps72
  go_wp2_with (go_at_call 52; refine (need_no _ _).mono ?_; rintro e w3 ⟨rfl, rfl⟩)
  exact ⟨rfl, rfl, GrL.of_gr (by repeat (first | exact Gr.refl _ | assumption | refine Gr.alloc ?_ _ | refine Gr.drew ?_ | refine Gr.drewN ?_ _ | refine Gr.set ?_ _ _ (by first | (simp; done) | (simp; omega)) | refine Gr.trans ?_ (by assumption)))⟩
set_option maxHeartbeats 1000000 in
theorem operated_zero (a b c d : Int) (w : World) (h : ok2 a b c d = true) (hz : c = 0) :
    Calls Tryz.prog 53 #[.int .i64 3, fr a b, fr c d] w fun e w' => e = .returned (.tuple #[fr 0 0, .int .i64 11]) ∧ Gr w w' := by
  have hmf : ∀ (fn : Fn) (first cap : Array Value) (w : World), (Instr.makeFunc fn first cap).run Tryz.prog w = .ok (.func fn first cap) w := fun _ _ _ _ => rfl
  have hE := Lib.hid (Rm.err_true (e := 1) h)
  subst hz
  go_enter Tryz.func53, Tryz.ntmps53
  go_wp2_with fail
  refine (checked_two _ _ a b 0 d _ (by simp [go_sem]) (by simp [go_sem]) (by simp [go_sem]) (by simp [go_sem])).mono ?_
  rintro e w1 ⟨rfl, hg1⟩
  rw [hE.out]
  obtain ⟨hc1, hf1, hz1⟩ := hg1.at (n := w.heap.size + 5) (by first | (simp; done) | (simp; omega) | omega)
  go_wp2_with fail
  refine (tried_no 72 _ [] 11 _ (by simp) (enters_of Tryz.func72 (by kernel_rfl) rfl) (op3_zero w.heap.size (w.heap.size+2) _ _ ((w1.alloc (.cells #[.int .i64 0, .int .i64 0] 23)).alloc (.cells #[.int .i64 0] 25))
    (by rw [(((Gr.refl w1).alloc _).alloc _).cells.1 _ _ (by omega), hc1 _ _ (by omega)]; simp [go_sem]) (by rw [(((Gr.refl w1).alloc _).alloc _).cells.1 _ _ (by omega), hc1 _ _ (by omega)]; simp [go_sem]))).mono ?_
  rintro e w2 ⟨rfl, hg2⟩
  obtain ⟨hc2, hf2, hz2⟩ := hg2.at (n := w1.heap.size + 1) (by first | (simp; done) | (simp; omega) | omega)
  have r0 : w2.cell? ⟨w.heap.size + 3, 0, none⟩ = some (.int .i64 0) := by rw [hc2 _ _ (by omega) (by simp), ((Gr.refl w1).alloc _).cells.1 _ _ (by omega), hc1 _ _ (by omega)]; simp [go_sem]
  have r1 : w2.cell? ⟨w.heap.size + 3, 1, none⟩ = some (.int .i64 0) := by rw [hc2 _ _ (by omega) (by simp), ((Gr.refl w1).alloc _).cells.1 _ _ (by omega), hc1 _ _ (by omega)]; simp [go_sem]
  have f0 : w2.frozen? ⟨w.heap.size + 3, 0, none⟩ = false := by rw [hf2 _ _ (by omega) (by simp), ((Gr.refl w1).alloc _).cells.2.1 _ _ (by omega), hf1 _ _ (by omega)]; simp [go_sem]
  have f1 : w2.frozen? ⟨w.heap.size + 3, 1, none⟩ = false := by rw [hf2 _ _ (by omega) (by simp), ((Gr.refl w1).alloc _).cells.2.1 _ _ (by omega), hf1 _ _ (by omega)]; simp [go_sem]
  have o0 : w2.cell? ⟨w1.heap.size, 0, none⟩ = some (.int .i64 0) := by rw [hc2 _ _ (by omega) (by simp)]; simp [go_sem]
  have o1 : w2.cell? ⟨w1.heap.size, 1, none⟩ = some (.int .i64 0) := by rw [hc2 _ _ (by omega) (by simp)]; simp [go_sem]
  clear hc1 hf1 hc2 hf2
  go_wp2
  exact bodyPost_ret (v := .tuple #[fr 0 0, .int .i64 11]) (by simp [results, Tryz.results53, go_sem, r0, r1]) rfl ⟨rfl, ((GrL.gr (l := []) (by repeat (first | exact Gr.refl _ | assumption | refine Gr.alloc ?_ _ | refine Gr.drew ?_ | refine Gr.drewN ?_ _ | refine Gr.set ?_ _ _ (by first | (simp; done) | (simp; omega)) | refine Gr.trans ?_ (by assumption))) hg2 (by simp)).set _ _ (by first | (simp; done) | (simp; omega) | omega)).set _ _ (by first | (simp; done) | (simp; omega) | omega)⟩
-- the four operations
set_option maxHeartbeats 1000000 in
theorem operated0_ok (a b c d : Int) (w : World) (h : ok2 a b c d = true) (ho : Rm.okR (Rm.opN 0 a b c d) (Rm.opD 0 a b c d) = true) :
    Calls Tryz.prog 53 #[.int .i64 0, fr a b, fr c d] w fun e w' => e = .returned (.tuple #[fr (Rm.redN (Rm.opN 0 a b c d) (Rm.opD 0 a b c d)) (Rm.redD (Rm.opN 0 a b c d) (Rm.opD 0 a b c d)), .int .i64 0]) ∧ Gr w w' := by
  have hmf : ∀ (fn : Fn) (first cap : Array Value) (w : World), (Instr.makeFunc fn first cap).run Tryz.prog w = .ok (.func fn first cap) w := fun _ _ _ _ => rfl
  have hE := Lib.hid (Rm.err_true (e := 1) h)
  obtain ⟨⟨x1, x2, x3, x4, _⟩, ⟨y1, y2, y3, y4, _⟩⟩ : (-1000000000 ≤ a ∧ a ≤ 1000000000 ∧ 1 ≤ b ∧ b ≤ 1000000 ∧ Int.gcd a b = 1) ∧ (-1000000000 ≤ c ∧ c ≤ 1000000000 ∧ 1 ≤ d ∧ d ≤ 1000000 ∧ Int.gcd c d = 1) := by
    simpa [ok2, Rm.okF_iff] using h
  have hop := fun p q r o w I => op0_ok p q r o a b c d w I x1 x2 x3 x4 y1 y2 y3 y4 ho
  have HOP := Lib.hid hop
  clear hop x1 x2 x3 x4 y1 y2 y3 y4 h ho
  go_enter Tryz.func53, Tryz.ntmps53
  go_wp2_with fail
  refine (checked_two _ _ a b c d _ (by simp [go_sem]) (by simp [go_sem]) (by simp [go_sem]) (by simp [go_sem])).mono ?_
  rintro e w1 ⟨rfl, hg1⟩
  rw [hE.out]
  obtain ⟨hc1, hf1, hz1⟩ := hg1.at (n := w.heap.size + 5) (by first | (simp; done) | (simp; omega) | omega)
  go_wp2_with fail
  refine (tried_ok 72 _ [w1.heap.size] (Two w1.heap.size (Rm.redN (Rm.opN 0 a b c d) (Rm.opD 0 a b c d)) (Rm.redD (Rm.opN 0 a b c d) (Rm.opD 0 a b c d))) _ (by simp) (enters_of Tryz.func72 (by kernel_rfl) rfl) (HOP.out w.heap.size (w.heap.size+2) (w.heap.size+1) w1.heap.size ((w1.alloc (.cells #[.int .i64 0, .int .i64 0] 23)).alloc (.cells #[.int .i64 0] 25))
    ⟨(by rw [(((Gr.refl w1).alloc _).alloc _).cells.1 _ _ (by omega), hc1 _ _ (by omega)]; simp [go_sem]), (by rw [(((Gr.refl w1).alloc _).alloc _).cells.1 _ _ (by omega), hc1 _ _ (by omega)]; simp [go_sem]), (by rw [(((Gr.refl w1).alloc _).alloc _).cells.1 _ _ (by omega), hc1 _ _ (by omega)]; simp [go_sem]), (by rw [(((Gr.refl w1).alloc _).alloc _).cells.1 _ _ (by omega), hc1 _ _ (by omega)]; simp [go_sem]), (by rw [(((Gr.refl w1).alloc _).alloc _).cells.1 _ _ (by omega), hc1 _ _ (by omega)]; simp [go_sem]), ⟨⟨0, 0, by simp [go_sem], by simp [go_sem]⟩, by simp [go_sem], by simp [go_sem]⟩, by omega, by omega, by omega⟩)).mono ?_
  rintro e w2 ⟨rfl, hg2, w0, ⟨t1, t2⟩, hg3⟩
  obtain ⟨hc2, hf2, hz2⟩ := hg2.at (n := w1.heap.size + 1) (by first | (simp; done) | (simp; omega) | omega)
  have r0 : w2.cell? ⟨w.heap.size + 3, 0, none⟩ = some (.int .i64 0) := by rw [hc2 _ _ (by omega) (by simp; omega), ((Gr.refl w1).alloc _).cells.1 _ _ (by omega), hc1 _ _ (by omega)]; simp [go_sem]
  have r1 : w2.cell? ⟨w.heap.size + 3, 1, none⟩ = some (.int .i64 0) := by rw [hc2 _ _ (by omega) (by simp; omega), ((Gr.refl w1).alloc _).cells.1 _ _ (by omega), hc1 _ _ (by omega)]; simp [go_sem]
  have f0 : w2.frozen? ⟨w.heap.size + 3, 0, none⟩ = false := by rw [hf2 _ _ (by omega) (by simp; omega), ((Gr.refl w1).alloc _).cells.2.1 _ _ (by omega), hf1 _ _ (by omega)]; simp [go_sem]
  have f1 : w2.frozen? ⟨w.heap.size + 3, 1, none⟩ = false := by rw [hf2 _ _ (by omega) (by simp; omega), ((Gr.refl w1).alloc _).cells.2.1 _ _ (by omega), hf1 _ _ (by omega)]; simp [go_sem]
  have hl := World.block_lt_of_cell? _ _ t1
  have o0 := ((hg3.at (Nat.le_refl _)).1 w1.heap.size 0 hl (by simp)).trans t1
  have o1 := ((hg3.at (Nat.le_refl _)).1 w1.heap.size 1 hl (by simp)).trans t2
  clear t1 t2 hg3 hl
  clear hc1 hf1 hc2 hf2
  go_wp2
  exact bodyPost_ret (v := .tuple #[fr (Rm.redN (Rm.opN 0 a b c d) (Rm.opD 0 a b c d)) (Rm.redD (Rm.opN 0 a b c d) (Rm.opD 0 a b c d)), .int .i64 0]) (by simp [results, Tryz.results53, go_sem, r0, r1]) rfl ⟨rfl, ((GrL.gr (l := [w1.heap.size]) (by repeat (first | exact Gr.refl _ | assumption | refine Gr.alloc ?_ _ | refine Gr.drew ?_ | refine Gr.drewN ?_ _ | refine Gr.set ?_ _ _ (by first | (simp; done) | (simp; omega)) | refine Gr.trans ?_ (by assumption))) hg2 (by simp; omega)).set _ _ (by first | (simp; done) | (simp; omega) | omega)).set _ _ (by first | (simp; done) | (simp; omega) | omega)⟩
set_option maxHeartbeats 1000000 in
theorem operated0_no (a b c d : Int) (w : World) (h : ok2 a b c d = true) (ho : Rm.okR (Rm.opN 0 a b c d) (Rm.opD 0 a b c d) = false) :
    Calls Tryz.prog 53 #[.int .i64 0, fr a b, fr c d] w fun e w' => e = .returned (.tuple #[fr 0 0, .int .i64 10]) ∧ Gr w w' := by
  have hmf : ∀ (fn : Fn) (first cap : Array Value) (w : World), (Instr.makeFunc fn first cap).run Tryz.prog w = .ok (.func fn first cap) w := fun _ _ _ _ => rfl
  have hE := Lib.hid (Rm.err_true (e := 1) h)
  obtain ⟨⟨x1, x2, x3, x4, _⟩, ⟨y1, y2, y3, y4, _⟩⟩ : (-1000000000 ≤ a ∧ a ≤ 1000000000 ∧ 1 ≤ b ∧ b ≤ 1000000 ∧ Int.gcd a b = 1) ∧ (-1000000000 ≤ c ∧ c ≤ 1000000000 ∧ 1 ≤ d ∧ d ≤ 1000000 ∧ Int.gcd c d = 1) := by
    simpa [ok2, Rm.okF_iff] using h
  have hop := fun p q r o w I => op0_no p q r o a b c d w I x1 x2 x3 x4 y1 y2 y3 y4 ho
  have HOP := Lib.hid hop
  clear hop x1 x2 x3 x4 y1 y2 y3 y4 h ho
  go_enter Tryz.func53, Tryz.ntmps53
  go_wp2_with fail
  refine (checked_two _ _ a b c d _ (by simp [go_sem]) (by simp [go_sem]) (by simp [go_sem]) (by simp [go_sem])).mono ?_
  rintro e w1 ⟨rfl, hg1⟩
  rw [hE.out]
  obtain ⟨hc1, hf1, hz1⟩ := hg1.at (n := w.heap.size + 5) (by first | (simp; done) | (simp; omega) | omega)
  go_wp2_with fail
  refine (tried_no 72 _ [] 10 _ (by simp) (enters_of Tryz.func72 (by kernel_rfl) rfl) (HOP.out w.heap.size (w.heap.size+2) (w.heap.size+1) w1.heap.size ((w1.alloc (.cells #[.int .i64 0, .int .i64 0] 23)).alloc (.cells #[.int .i64 0] 25))
    ⟨(by rw [(((Gr.refl w1).alloc _).alloc _).cells.1 _ _ (by omega), hc1 _ _ (by omega)]; simp [go_sem]), (by rw [(((Gr.refl w1).alloc _).alloc _).cells.1 _ _ (by omega), hc1 _ _ (by omega)]; simp [go_sem]), (by rw [(((Gr.refl w1).alloc _).alloc _).cells.1 _ _ (by omega), hc1 _ _ (by omega)]; simp [go_sem]), (by rw [(((Gr.refl w1).alloc _).alloc _).cells.1 _ _ (by omega), hc1 _ _ (by omega)]; simp [go_sem]), (by rw [(((Gr.refl w1).alloc _).alloc _).cells.1 _ _ (by omega), hc1 _ _ (by omega)]; simp [go_sem]), ⟨⟨0, 0, by simp [go_sem], by simp [go_sem]⟩, by simp [go_sem], by simp [go_sem]⟩, by omega, by omega, by omega⟩)).mono ?_
  rintro e w2 ⟨rfl, hg2⟩
  obtain ⟨hc2, hf2, hz2⟩ := hg2.at (n := w1.heap.size + 1) (by first | (simp; done) | (simp; omega) | omega)
  have r0 : w2.cell? ⟨w.heap.size + 3, 0, none⟩ = some (.int .i64 0) := by rw [hc2 _ _ (by omega) (by simp), ((Gr.refl w1).alloc _).cells.1 _ _ (by omega), hc1 _ _ (by omega)]; simp [go_sem]
  have r1 : w2.cell? ⟨w.heap.size + 3, 1, none⟩ = some (.int .i64 0) := by rw [hc2 _ _ (by omega) (by simp), ((Gr.refl w1).alloc _).cells.1 _ _ (by omega), hc1 _ _ (by omega)]; simp [go_sem]
  have f0 : w2.frozen? ⟨w.heap.size + 3, 0, none⟩ = false := by rw [hf2 _ _ (by omega) (by simp), ((Gr.refl w1).alloc _).cells.2.1 _ _ (by omega), hf1 _ _ (by omega)]; simp [go_sem]
  have f1 : w2.frozen? ⟨w.heap.size + 3, 1, none⟩ = false := by rw [hf2 _ _ (by omega) (by simp), ((Gr.refl w1).alloc _).cells.2.1 _ _ (by omega), hf1 _ _ (by omega)]; simp [go_sem]
  have o0 : w2.cell? ⟨w1.heap.size, 0, none⟩ = some (.int .i64 0) := by rw [hc2 _ _ (by omega) (by simp)]; simp [go_sem]
  have o1 : w2.cell? ⟨w1.heap.size, 1, none⟩ = some (.int .i64 0) := by rw [hc2 _ _ (by omega) (by simp)]; simp [go_sem]
  clear hc1 hf1 hc2 hf2
  go_wp2
  exact bodyPost_ret (v := .tuple #[fr 0 0, .int .i64 10]) (by simp [results, Tryz.results53, go_sem, r0, r1]) rfl ⟨rfl, ((GrL.gr (l := []) (by repeat (first | exact Gr.refl _ | assumption | refine Gr.alloc ?_ _ | refine Gr.drew ?_ | refine Gr.drewN ?_ _ | refine Gr.set ?_ _ _ (by first | (simp; done) | (simp; omega)) | refine Gr.trans ?_ (by assumption))) hg2 (by simp)).set _ _ (by first | (simp; done) | (simp; omega) | omega)).set _ _ (by first | (simp; done) | (simp; omega) | omega)⟩
theorem operated0_any (a b c d : Int) (w : World) :
    Calls Tryz.prog 53 #[.int .i64 0, fr a b, fr c d] w fun e w' => e = .returned (.tuple #[fr (arN 0 a b c d) (arD 0 a b c d), .int .i64 (arE 0 a b c d)]) ∧ Gr w w' := by
  cases h : ok2 a b c d
  · have e : arN 0 a b c d = 0 ∧ arD 0 a b c d = 0 ∧ arE 0 a b c d = 1 := by simp [arN, arD, arE, arOk, h]
    rw [e.1, e.2.1, e.2.2]
    exact operated_err 0 a b c d w h
  have hA : arOk 0 a b c d = true := by simp [arOk, h]
  cases ho : Rm.okR (Rm.opN 0 a b c d) (Rm.opD 0 a b c d)
  · have m := Rm.made_no ho
    have e : arN 0 a b c d = 0 ∧ arD 0 a b c d = 0 ∧ arE 0 a b c d = 10 := by simp [arN, arD, arE, hA, h, m]
    rw [e.1, e.2.1, e.2.2]
    exact operated0_no a b c d w h ho
  · have m := Rm.made_yes ho
    have e : arN 0 a b c d = Rm.redN (Rm.opN 0 a b c d) (Rm.opD 0 a b c d) ∧ arD 0 a b c d = Rm.redD (Rm.opN 0 a b c d) (Rm.opD 0 a b c d) ∧ arE 0 a b c d = 0 := by simp [arN, arD, arE, hA, h, m]
    rw [e.1, e.2.1, e.2.2]
    exact operated0_ok a b c d w h ho
set_option maxHeartbeats 400000 in
theorem Add_any (a b c d : Int) (w : World) :
    Calls Tryz.prog 19 #[fr a b, fr c d] w fun e w' => e = .returned (.tuple #[fr (arN 0 a b c d) (arD 0 a b c d), .int .i64 (arE 0 a b c d)]) ∧ Gr w w' := by
  go_enter Tryz.func19, Tryz.ntmps19
  go_wp2_with fail
  refine (operated0_any _ _ _ _ _).mono ?_
  rintro e w1 ⟨rfl, hg1⟩
  obtain ⟨hc1, hf1, hz1⟩ := hg1.at (n := w.heap.size + 3) (by first | (simp; done) | (simp; omega) | omega)
  go_wp2
  exact bodyPost_ret (v := .tuple #[fr (arN 0 a b c d) (arD 0 a b c d), .int .i64 (arE 0 a b c d)]) (by simp [results, Tryz.results19, go_sem, hc1]) rfl ⟨rfl, (by repeat (first | exact Gr.refl _ | assumption | refine Gr.alloc ?_ _ | refine Gr.drew ?_ | refine Gr.drewN ?_ _ | refine Gr.set ?_ _ _ (by first | (simp; done) | (simp; omega)) | refine Gr.trans ?_ (by assumption)))⟩
set_option maxHeartbeats 1000000 in
theorem operated1_ok (a b c d : Int) (w : World) (h : ok2 a b c d = true) (ho : Rm.okR (Rm.opN 1 a b c d) (Rm.opD 1 a b c d) = true) :
    Calls Tryz.prog 53 #[.int .i64 1, fr a b, fr c d] w fun e w' => e = .returned (.tuple #[fr (Rm.redN (Rm.opN 1 a b c d) (Rm.opD 1 a b c d)) (Rm.redD (Rm.opN 1 a b c d) (Rm.opD 1 a b c d)), .int .i64 0]) ∧ Gr w w' := by
  have hmf : ∀ (fn : Fn) (first cap : Array Value) (w : World), (Instr.makeFunc fn first cap).run Tryz.prog w = .ok (.func fn first cap) w := fun _ _ _ _ => rfl
  have hE := Lib.hid (Rm.err_true (e := 1) h)
  obtain ⟨⟨x1, x2, x3, x4, _⟩, ⟨y1, y2, y3, y4, _⟩⟩ : (-1000000000 ≤ a ∧ a ≤ 1000000000 ∧ 1 ≤ b ∧ b ≤ 1000000 ∧ Int.gcd a b = 1) ∧ (-1000000000 ≤ c ∧ c ≤ 1000000000 ∧ 1 ≤ d ∧ d ≤ 1000000 ∧ Int.gcd c d = 1) := by
    simpa [ok2, Rm.okF_iff] using h
  have hop := fun p q r o w I => op1_ok p q r o a b c d w I x1 x2 x3 x4 y1 y2 y3 y4 ho
  have HOP := Lib.hid hop
  clear hop x1 x2 x3 x4 y1 y2 y3 y4 h ho
  go_enter Tryz.func53, Tryz.ntmps53
  go_wp2_with fail
  refine (checked_two _ _ a b c d _ (by simp [go_sem]) (by simp [go_sem]) (by simp [go_sem]) (by simp [go_sem])).mono ?_
  rintro e w1 ⟨rfl, hg1⟩
  rw [hE.out]
  obtain ⟨hc1, hf1, hz1⟩ := hg1.at (n := w.heap.size + 5) (by first | (simp; done) | (simp; omega) | omega)
  go_wp2_with fail
  refine (tried_ok 72 _ [w1.heap.size] (Two w1.heap.size (Rm.redN (Rm.opN 1 a b c d) (Rm.opD 1 a b c d)) (Rm.redD (Rm.opN 1 a b c d) (Rm.opD 1 a b c d))) _ (by simp) (enters_of Tryz.func72 (by kernel_rfl) rfl) (HOP.out w.heap.size (w.heap.size+2) (w.heap.size+1) w1.heap.size ((w1.alloc (.cells #[.int .i64 0, .int .i64 0] 23)).alloc (.cells #[.int .i64 0] 25))
    ⟨(by rw [(((Gr.refl w1).alloc _).alloc _).cells.1 _ _ (by omega), hc1 _ _ (by omega)]; simp [go_sem]), (by rw [(((Gr.refl w1).alloc _).alloc _).cells.1 _ _ (by omega), hc1 _ _ (by omega)]; simp [go_sem]), (by rw [(((Gr.refl w1).alloc _).alloc _).cells.1 _ _ (by omega), hc1 _ _ (by omega)]; simp [go_sem]), (by rw [(((Gr.refl w1).alloc _).alloc _).cells.1 _ _ (by omega), hc1 _ _ (by omega)]; simp [go_sem]), (by rw [(((Gr.refl w1).alloc _).alloc _).cells.1 _ _ (by omega), hc1 _ _ (by omega)]; simp [go_sem]), ⟨⟨0, 0, by simp [go_sem], by simp [go_sem]⟩, by simp [go_sem], by simp [go_sem]⟩, by omega, by omega, by omega⟩)).mono ?_
  rintro e w2 ⟨rfl, hg2, w0, ⟨t1, t2⟩, hg3⟩
  obtain ⟨hc2, hf2, hz2⟩ := hg2.at (n := w1.heap.size + 1) (by first | (simp; done) | (simp; omega) | omega)
  have r0 : w2.cell? ⟨w.heap.size + 3, 0, none⟩ = some (.int .i64 0) := by rw [hc2 _ _ (by omega) (by simp; omega), ((Gr.refl w1).alloc _).cells.1 _ _ (by omega), hc1 _ _ (by omega)]; simp [go_sem]
  have r1 : w2.cell? ⟨w.heap.size + 3, 1, none⟩ = some (.int .i64 0) := by rw [hc2 _ _ (by omega) (by simp; omega), ((Gr.refl w1).alloc _).cells.1 _ _ (by omega), hc1 _ _ (by omega)]; simp [go_sem]
  have f0 : w2.frozen? ⟨w.heap.size + 3, 0, none⟩ = false := by rw [hf2 _ _ (by omega) (by simp; omega), ((Gr.refl w1).alloc _).cells.2.1 _ _ (by omega), hf1 _ _ (by omega)]; simp [go_sem]
  have f1 : w2.frozen? ⟨w.heap.size + 3, 1, none⟩ = false := by rw [hf2 _ _ (by omega) (by simp; omega), ((Gr.refl w1).alloc _).cells.2.1 _ _ (by omega), hf1 _ _ (by omega)]; simp [go_sem]
  have hl := World.block_lt_of_cell? _ _ t1
  have o0 := ((hg3.at (Nat.le_refl _)).1 w1.heap.size 0 hl (by simp)).trans t1
  have o1 := ((hg3.at (Nat.le_refl _)).1 w1.heap.size 1 hl (by simp)).trans t2
  clear t1 t2 hg3 hl
  clear hc1 hf1 hc2 hf2
  go_wp2
  exact bodyPost_ret (v := .tuple #[fr (Rm.redN (Rm.opN 1 a b c d) (Rm.opD 1 a b c d)) (Rm.redD (Rm.opN 1 a b c d) (Rm.opD 1 a b c d)), .int .i64 0]) (by simp [results, Tryz.results53, go_sem, r0, r1]) rfl ⟨rfl, ((GrL.gr (l := [w1.heap.size]) (by repeat (first | exact Gr.refl _ | assumption | refine Gr.alloc ?_ _ | refine Gr.drew ?_ | refine Gr.drewN ?_ _ | refine Gr.set ?_ _ _ (by first | (simp; done) | (simp; omega)) | refine Gr.trans ?_ (by assumption))) hg2 (by simp; omega)).set _ _ (by first | (simp; done) | (simp; omega) | omega)).set _ _ (by first | (simp; done) | (simp; omega) | omega)⟩
set_option maxHeartbeats 1000000 in
theorem operated1_no (a b c d : Int) (w : World) (h : ok2 a b c d = true) (ho : Rm.okR (Rm.opN 1 a b c d) (Rm.opD 1 a b c d) = false) :
    Calls Tryz.prog 53 #[.int .i64 1, fr a b, fr c d] w fun e w' => e = .returned (.tuple #[fr 0 0, .int .i64 10]) ∧ Gr w w' := by
  have hmf : ∀ (fn : Fn) (first cap : Array Value) (w : World), (Instr.makeFunc fn first cap).run Tryz.prog w = .ok (.func fn first cap) w := fun _ _ _ _ => rfl
  have hE := Lib.hid (Rm.err_true (e := 1) h)
  obtain ⟨⟨x1, x2, x3, x4, _⟩, ⟨y1, y2, y3, y4, _⟩⟩ : (-1000000000 ≤ a ∧ a ≤ 1000000000 ∧ 1 ≤ b ∧ b ≤ 1000000 ∧ Int.gcd a b = 1) ∧ (-1000000000 ≤ c ∧ c ≤ 1000000000 ∧ 1 ≤ d ∧ d ≤ 1000000 ∧ Int.gcd c d = 1) := by
    simpa [ok2, Rm.okF_iff] using h
  have hop := fun p q r o w I => op1_no p q r o a b c d w I x1 x2 x3 x4 y1 y2 y3 y4 ho
  have HOP := Lib.hid hop
  clear hop x1 x2 x3 x4 y1 y2 y3 y4 h ho
  go_enter Tryz.func53, Tryz.ntmps53
  go_wp2_with fail
  refine (checked_two _ _ a b c d _ (by simp [go_sem]) (by simp [go_sem]) (by simp [go_sem]) (by simp [go_sem])).mono ?_
  rintro e w1 ⟨rfl, hg1⟩
  rw [hE.out]
  obtain ⟨hc1, hf1, hz1⟩ := hg1.at (n := w.heap.size + 5) (by first | (simp; done) | (simp; omega) | omega)
  go_wp2_with fail
  refine (tried_no 72 _ [] 10 _ (by simp) (enters_of Tryz.func72 (by kernel_rfl) rfl) (HOP.out w.heap.size (w.heap.size+2) (w.heap.size+1) w1.heap.size ((w1.alloc (.cells #[.int .i64 0, .int .i64 0] 23)).alloc (.cells #[.int .i64 0] 25))
    ⟨(by rw [(((Gr.refl w1).alloc _).alloc _).cells.1 _ _ (by omega), hc1 _ _ (by omega)]; simp [go_sem]), (by rw [(((Gr.refl w1).alloc _).alloc _).cells.1 _ _ (by omega), hc1 _ _ (by omega)]; simp [go_sem]), (by rw [(((Gr.refl w1).alloc _).alloc _).cells.1 _ _ (by omega), hc1 _ _ (by omega)]; simp [go_sem]), (by rw [(((Gr.refl w1).alloc _).alloc _).cells.1 _ _ (by omega), hc1 _ _ (by omega)]; simp [go_sem]), (by rw [(((Gr.refl w1).alloc _).alloc _).cells.1 _ _ (by omega), hc1 _ _ (by omega)]; simp [go_sem]), ⟨⟨0, 0, by simp [go_sem], by simp [go_sem]⟩, by simp [go_sem], by simp [go_sem]⟩, by omega, by omega, by omega⟩)).mono ?_
  rintro e w2 ⟨rfl, hg2⟩
  obtain ⟨hc2, hf2, hz2⟩ := hg2.at (n := w1.heap.size + 1) (by first | (simp; done) | (simp; omega) | omega)
  have r0 : w2.cell? ⟨w.heap.size + 3, 0, none⟩ = some (.int .i64 0) := by rw [hc2 _ _ (by omega) (by simp), ((Gr.refl w1).alloc _).cells.1 _ _ (by omega), hc1 _ _ (by omega)]; simp [go_sem]
  have r1 : w2.cell? ⟨w.heap.size + 3, 1, none⟩ = some (.int .i64 0) := by rw [hc2 _ _ (by omega) (by simp), ((Gr.refl w1).alloc _).cells.1 _ _ (by omega), hc1 _ _ (by omega)]; simp [go_sem]
  have f0 : w2.frozen? ⟨w.heap.size + 3, 0, none⟩ = false := by rw [hf2 _ _ (by omega) (by simp), ((Gr.refl w1).alloc _).cells.2.1 _ _ (by omega), hf1 _ _ (by omega)]; simp [go_sem]
  have f1 : w2.frozen? ⟨w.heap.size + 3, 1, none⟩ = false := by rw [hf2 _ _ (by omega) (by simp), ((Gr.refl w1).alloc _).cells.2.1 _ _ (by omega), hf1 _ _ (by omega)]; simp [go_sem]
  have o0 : w2.cell? ⟨w1.heap.size, 0, none⟩ = some (.int .i64 0) := by rw [hc2 _ _ (by omega) (by simp)]; simp [go_sem]
  have o1 : w2.cell? ⟨w1.heap.size, 1, none⟩ = some (.int .i64 0) := by rw [hc2 _ _ (by omega) (by simp)]; simp [go_sem]
  clear hc1 hf1 hc2 hf2
  go_wp2
  exact bodyPost_ret (v := .tuple #[fr 0 0, .int .i64 10]) (by simp [results, Tryz.results53, go_sem, r0, r1]) rfl ⟨rfl, ((GrL.gr (l := []) (by repeat (first | exact Gr.refl _ | assumption | refine Gr.alloc ?_ _ | refine Gr.drew ?_ | refine Gr.drewN ?_ _ | refine Gr.set ?_ _ _ (by first | (simp; done) | (simp; omega)) | refine Gr.trans ?_ (by assumption))) hg2 (by simp)).set _ _ (by first | (simp; done) | (simp; omega) | omega)).set _ _ (by first | (simp; done) | (simp; omega) | omega)⟩
theorem operated1_any (a b c d : Int) (w : World) :
    Calls Tryz.prog 53 #[.int .i64 1, fr a b, fr c d] w fun e w' => e = .returned (.tuple #[fr (arN 1 a b c d) (arD 1 a b c d), .int .i64 (arE 1 a b c d)]) ∧ Gr w w' := by
  cases h : ok2 a b c d
  · have e : arN 1 a b c d = 0 ∧ arD 1 a b c d = 0 ∧ arE 1 a b c d = 1 := by simp [arN, arD, arE, arOk, h]
    rw [e.1, e.2.1, e.2.2]
    exact operated_err 1 a b c d w h
  have hA : arOk 1 a b c d = true := by simp [arOk, h]
  cases ho : Rm.okR (Rm.opN 1 a b c d) (Rm.opD 1 a b c d)
  · have m := Rm.made_no ho
    have e : arN 1 a b c d = 0 ∧ arD 1 a b c d = 0 ∧ arE 1 a b c d = 10 := by simp [arN, arD, arE, hA, h, m]
    rw [e.1, e.2.1, e.2.2]
    exact operated1_no a b c d w h ho
  · have m := Rm.made_yes ho
    have e : arN 1 a b c d = Rm.redN (Rm.opN 1 a b c d) (Rm.opD 1 a b c d) ∧ arD 1 a b c d = Rm.redD (Rm.opN 1 a b c d) (Rm.opD 1 a b c d) ∧ arE 1 a b c d = 0 := by simp [arN, arD, arE, hA, h, m]
    rw [e.1, e.2.1, e.2.2]
    exact operated1_ok a b c d w h ho
set_option maxHeartbeats 1000000 in
theorem operated2_ok (a b c d : Int) (w : World) (h : ok2 a b c d = true) (ho : Rm.okR (Rm.opN 2 a b c d) (Rm.opD 2 a b c d) = true) :
    Calls Tryz.prog 53 #[.int .i64 2, fr a b, fr c d] w fun e w' => e = .returned (.tuple #[fr (Rm.redN (Rm.opN 2 a b c d) (Rm.opD 2 a b c d)) (Rm.redD (Rm.opN 2 a b c d) (Rm.opD 2 a b c d)), .int .i64 0]) ∧ Gr w w' := by
  have hmf : ∀ (fn : Fn) (first cap : Array Value) (w : World), (Instr.makeFunc fn first cap).run Tryz.prog w = .ok (.func fn first cap) w := fun _ _ _ _ => rfl
  have hE := Lib.hid (Rm.err_true (e := 1) h)
  obtain ⟨⟨x1, x2, x3, x4, _⟩, ⟨y1, y2, y3, y4, _⟩⟩ : (-1000000000 ≤ a ∧ a ≤ 1000000000 ∧ 1 ≤ b ∧ b ≤ 1000000 ∧ Int.gcd a b = 1) ∧ (-1000000000 ≤ c ∧ c ≤ 1000000000 ∧ 1 ≤ d ∧ d ≤ 1000000 ∧ Int.gcd c d = 1) := by
    simpa [ok2, Rm.okF_iff] using h
  have hop := fun p q r o w I => op2_ok p q r o a b c d w I x1 x2 x3 x4 y1 y2 y3 y4 ho
  have HOP := Lib.hid hop
  clear hop x1 x2 x3 x4 y1 y2 y3 y4 h ho
  go_enter Tryz.func53, Tryz.ntmps53
  go_wp2_with fail
  refine (checked_two _ _ a b c d _ (by simp [go_sem]) (by simp [go_sem]) (by simp [go_sem]) (by simp [go_sem])).mono ?_
  rintro e w1 ⟨rfl, hg1⟩
  rw [hE.out]
  obtain ⟨hc1, hf1, hz1⟩ := hg1.at (n := w.heap.size + 5) (by first | (simp; done) | (simp; omega) | omega)
  go_wp2_with fail
  refine (tried_ok 72 _ [w1.heap.size] (Two w1.heap.size (Rm.redN (Rm.opN 2 a b c d) (Rm.opD 2 a b c d)) (Rm.redD (Rm.opN 2 a b c d) (Rm.opD 2 a b c d))) _ (by simp) (enters_of Tryz.func72 (by kernel_rfl) rfl) (HOP.out w.heap.size (w.heap.size+2) (w.heap.size+1) w1.heap.size ((w1.alloc (.cells #[.int .i64 0, .int .i64 0] 23)).alloc (.cells #[.int .i64 0] 25))
    ⟨(by rw [(((Gr.refl w1).alloc _).alloc _).cells.1 _ _ (by omega), hc1 _ _ (by omega)]; simp [go_sem]), (by rw [(((Gr.refl w1).alloc _).alloc _).cells.1 _ _ (by omega), hc1 _ _ (by omega)]; simp [go_sem]), (by rw [(((Gr.refl w1).alloc _).alloc _).cells.1 _ _ (by omega), hc1 _ _ (by omega)]; simp [go_sem]), (by rw [(((Gr.refl w1).alloc _).alloc _).cells.1 _ _ (by omega), hc1 _ _ (by omega)]; simp [go_sem]), (by rw [(((Gr.refl w1).alloc _).alloc _).cells.1 _ _ (by omega), hc1 _ _ (by omega)]; simp [go_sem]), ⟨⟨0, 0, by simp [go_sem], by simp [go_sem]⟩, by simp [go_sem], by simp [go_sem]⟩, by omega, by omega, by omega⟩)).mono ?_
  rintro e w2 ⟨rfl, hg2, w0, ⟨t1, t2⟩, hg3⟩
  obtain ⟨hc2, hf2, hz2⟩ := hg2.at (n := w1.heap.size + 1) (by first | (simp; done) | (simp; omega) | omega)
  have r0 : w2.cell? ⟨w.heap.size + 3, 0, none⟩ = some (.int .i64 0) := by rw [hc2 _ _ (by omega) (by simp; omega), ((Gr.refl w1).alloc _).cells.1 _ _ (by omega), hc1 _ _ (by omega)]; simp [go_sem]
  have r1 : w2.cell? ⟨w.heap.size + 3, 1, none⟩ = some (.int .i64 0) := by rw [hc2 _ _ (by omega) (by simp; omega), ((Gr.refl w1).alloc _).cells.1 _ _ (by omega), hc1 _ _ (by omega)]; simp [go_sem]
  have f0 : w2.frozen? ⟨w.heap.size + 3, 0, none⟩ = false := by rw [hf2 _ _ (by omega) (by simp; omega), ((Gr.refl w1).alloc _).cells.2.1 _ _ (by omega), hf1 _ _ (by omega)]; simp [go_sem]
  have f1 : w2.frozen? ⟨w.heap.size + 3, 1, none⟩ = false := by rw [hf2 _ _ (by omega) (by simp; omega), ((Gr.refl w1).alloc _).cells.2.1 _ _ (by omega), hf1 _ _ (by omega)]; simp [go_sem]
  have hl := World.block_lt_of_cell? _ _ t1
  have o0 := ((hg3.at (Nat.le_refl _)).1 w1.heap.size 0 hl (by simp)).trans t1
  have o1 := ((hg3.at (Nat.le_refl _)).1 w1.heap.size 1 hl (by simp)).trans t2
  clear t1 t2 hg3 hl
  clear hc1 hf1 hc2 hf2
  go_wp2
  exact bodyPost_ret (v := .tuple #[fr (Rm.redN (Rm.opN 2 a b c d) (Rm.opD 2 a b c d)) (Rm.redD (Rm.opN 2 a b c d) (Rm.opD 2 a b c d)), .int .i64 0]) (by simp [results, Tryz.results53, go_sem, r0, r1]) rfl ⟨rfl, ((GrL.gr (l := [w1.heap.size]) (by repeat (first | exact Gr.refl _ | assumption | refine Gr.alloc ?_ _ | refine Gr.drew ?_ | refine Gr.drewN ?_ _ | refine Gr.set ?_ _ _ (by first | (simp; done) | (simp; omega)) | refine Gr.trans ?_ (by assumption))) hg2 (by simp; omega)).set _ _ (by first | (simp; done) | (simp; omega) | omega)).set _ _ (by first | (simp; done) | (simp; omega) | omega)⟩
set_option maxHeartbeats 1000000 in
theorem operated2_no (a b c d : Int) (w : World) (h : ok2 a b c d = true) (ho : Rm.okR (Rm.opN 2 a b c d) (Rm.opD 2 a b c d) = false) :
    Calls Tryz.prog 53 #[.int .i64 2, fr a b, fr c d] w fun e w' => e = .returned (.tuple #[fr 0 0, .int .i64 10]) ∧ Gr w w' := by
  have hmf : ∀ (fn : Fn) (first cap : Array Value) (w : World), (Instr.makeFunc fn first cap).run Tryz.prog w = .ok (.func fn first cap) w := fun _ _ _ _ => rfl
  have hE := Lib.hid (Rm.err_true (e := 1) h)
  obtain ⟨⟨x1, x2, x3, x4, _⟩, ⟨y1, y2, y3, y4, _⟩⟩ : (-1000000000 ≤ a ∧ a ≤ 1000000000 ∧ 1 ≤ b ∧ b ≤ 1000000 ∧ Int.gcd a b = 1) ∧ (-1000000000 ≤ c ∧ c ≤ 1000000000 ∧ 1 ≤ d ∧ d ≤ 1000000 ∧ Int.gcd c d = 1) := by
    simpa [ok2, Rm.okF_iff] using h
  have hop := fun p q r o w I => op2_no p q r o a b c d w I x1 x2 x3 x4 y1 y2 y3 y4 ho
  have HOP := Lib.hid hop
  clear hop x1 x2 x3 x4 y1 y2 y3 y4 h ho
  go_enter Tryz.func53, Tryz.ntmps53
  go_wp2_with fail
  refine (checked_two _ _ a b c d _ (by simp [go_sem]) (by simp [go_sem]) (by simp [go_sem]) (by simp [go_sem])).mono ?_
  rintro e w1 ⟨rfl, hg1⟩
  rw [hE.out]
  obtain ⟨hc1, hf1, hz1⟩ := hg1.at (n := w.heap.size + 5) (by first | (simp; done) | (simp; omega) | omega)
  go_wp2_with fail
  refine (tried_no 72 _ [] 10 _ (by simp) (enters_of Tryz.func72 (by kernel_rfl) rfl) (HOP.out w.heap.size (w.heap.size+2) (w.heap.size+1) w1.heap.size ((w1.alloc (.cells #[.int .i64 0, .int .i64 0] 23)).alloc (.cells #[.int .i64 0] 25))
    ⟨(by rw [(((Gr.refl w1).alloc _).alloc _).cells.1 _ _ (by omega), hc1 _ _ (by omega)]; simp [go_sem]), (by rw [(((Gr.refl w1).alloc _).alloc _).cells.1 _ _ (by omega), hc1 _ _ (by omega)]; simp [go_sem]), (by rw [(((Gr.refl w1).alloc _).alloc _).cells.1 _ _ (by omega), hc1 _ _ (by omega)]; simp [go_sem]), (by rw [(((Gr.refl w1).alloc _).alloc _).cells.1 _ _ (by omega), hc1 _ _ (by omega)]; simp [go_sem]), (by rw [(((Gr.refl w1).alloc _).alloc _).cells.1 _ _ (by omega), hc1 _ _ (by omega)]; simp [go_sem]), ⟨⟨0, 0, by simp [go_sem], by simp [go_sem]⟩, by simp [go_sem], by simp [go_sem]⟩, by omega, by omega, by omega⟩)).mono ?_
  rintro e w2 ⟨rfl, hg2⟩
  obtain ⟨hc2, hf2, hz2⟩ := hg2.at (n := w1.heap.size + 1) (by first | (simp; done) | (simp; omega) | omega)
  have r0 : w2.cell? ⟨w.heap.size + 3, 0, none⟩ = some (.int .i64 0) := by rw [hc2 _ _ (by omega) (by simp), ((Gr.refl w1).alloc _).cells.1 _ _ (by omega), hc1 _ _ (by omega)]; simp [go_sem]
  have r1 : w2.cell? ⟨w.heap.size + 3, 1, none⟩ = some (.int .i64 0) := by rw [hc2 _ _ (by omega) (by simp), ((Gr.refl w1).alloc _).cells.1 _ _ (by omega), hc1 _ _ (by omega)]; simp [go_sem]
  have f0 : w2.frozen? ⟨w.heap.size + 3, 0, none⟩ = false := by rw [hf2 _ _ (by omega) (by simp), ((Gr.refl w1).alloc _).cells.2.1 _ _ (by omega), hf1 _ _ (by omega)]; simp [go_sem]
  have f1 : w2.frozen? ⟨w.heap.size + 3, 1, none⟩ = false := by rw [hf2 _ _ (by omega) (by simp), ((Gr.refl w1).alloc _).cells.2.1 _ _ (by omega), hf1 _ _ (by omega)]; simp [go_sem]
  have o0 : w2.cell? ⟨w1.heap.size, 0, none⟩ = some (.int .i64 0) := by rw [hc2 _ _ (by omega) (by simp)]; simp [go_sem]
  have o1 : w2.cell? ⟨w1.heap.size, 1, none⟩ = some (.int .i64 0) := by rw [hc2 _ _ (by omega) (by simp)]; simp [go_sem]
  clear hc1 hf1 hc2 hf2
  go_wp2
  exact bodyPost_ret (v := .tuple #[fr 0 0, .int .i64 10]) (by simp [results, Tryz.results53, go_sem, r0, r1]) rfl ⟨rfl, ((GrL.gr (l := []) (by repeat (first | exact Gr.refl _ | assumption | refine Gr.alloc ?_ _ | refine Gr.drew ?_ | refine Gr.drewN ?_ _ | refine Gr.set ?_ _ _ (by first | (simp; done) | (simp; omega)) | refine Gr.trans ?_ (by assumption))) hg2 (by simp)).set _ _ (by first | (simp; done) | (simp; omega) | omega)).set _ _ (by first | (simp; done) | (simp; omega) | omega)⟩
theorem operated2_any (a b c d : Int) (w : World) :
    Calls Tryz.prog 53 #[.int .i64 2, fr a b, fr c d] w fun e w' => e = .returned (.tuple #[fr (arN 2 a b c d) (arD 2 a b c d), .int .i64 (arE 2 a b c d)]) ∧ Gr w w' := by
  cases h : ok2 a b c d
  · have e : arN 2 a b c d = 0 ∧ arD 2 a b c d = 0 ∧ arE 2 a b c d = 1 := by simp [arN, arD, arE, arOk, h]
    rw [e.1, e.2.1, e.2.2]
    exact operated_err 2 a b c d w h
  have hA : arOk 2 a b c d = true := by simp [arOk, h]
  cases ho : Rm.okR (Rm.opN 2 a b c d) (Rm.opD 2 a b c d)
  · have m := Rm.made_no ho
    have e : arN 2 a b c d = 0 ∧ arD 2 a b c d = 0 ∧ arE 2 a b c d = 10 := by simp [arN, arD, arE, hA, h, m]
    rw [e.1, e.2.1, e.2.2]
    exact operated2_no a b c d w h ho
  · have m := Rm.made_yes ho
    have e : arN 2 a b c d = Rm.redN (Rm.opN 2 a b c d) (Rm.opD 2 a b c d) ∧ arD 2 a b c d = Rm.redD (Rm.opN 2 a b c d) (Rm.opD 2 a b c d) ∧ arE 2 a b c d = 0 := by simp [arN, arD, arE, hA, h, m]
    rw [e.1, e.2.1, e.2.2]
    exact operated2_ok a b c d w h ho
set_option maxHeartbeats 1000000 in
theorem operated3_ok (a b c d : Int) (w : World) (h : ok2 a b c d = true) (hz : c ≠ 0) (ho : Rm.okR (Rm.opN 3 a b c d) (Rm.opD 3 a b c d) = true) :
    Calls Tryz.prog 53 #[.int .i64 3, fr a b, fr c d] w fun e w' => e = .returned (.tuple #[fr (Rm.redN (Rm.opN 3 a b c d) (Rm.opD 3 a b c d)) (Rm.redD (Rm.opN 3 a b c d) (Rm.opD 3 a b c d)), .int .i64 0]) ∧ Gr w w' := by
  have hmf : ∀ (fn : Fn) (first cap : Array Value) (w : World), (Instr.makeFunc fn first cap).run Tryz.prog w = .ok (.func fn first cap) w := fun _ _ _ _ => rfl
  have hE := Lib.hid (Rm.err_true (e := 1) h)
  obtain ⟨⟨x1, x2, x3, x4, _⟩, ⟨y1, y2, y3, y4, _⟩⟩ : (-1000000000 ≤ a ∧ a ≤ 1000000000 ∧ 1 ≤ b ∧ b ≤ 1000000 ∧ Int.gcd a b = 1) ∧ (-1000000000 ≤ c ∧ c ≤ 1000000000 ∧ 1 ≤ d ∧ d ≤ 1000000 ∧ Int.gcd c d = 1) := by
    simpa [ok2, Rm.okF_iff] using h
  have hop := fun p q r o w I => op3_ok p q r o a b c d w I hz x1 x2 x3 x4 y1 y2 y3 y4 ho
  have HOP := Lib.hid hop
  clear hop x1 x2 x3 x4 y1 y2 y3 y4 h ho
  go_enter Tryz.func53, Tryz.ntmps53
  go_wp2_with fail
  refine (checked_two _ _ a b c d _ (by simp [go_sem]) (by simp [go_sem]) (by simp [go_sem]) (by simp [go_sem])).mono ?_
  rintro e w1 ⟨rfl, hg1⟩
  rw [hE.out]
  obtain ⟨hc1, hf1, hz1⟩ := hg1.at (n := w.heap.size + 5) (by first | (simp; done) | (simp; omega) | omega)
  go_wp2_with fail
  refine (tried_ok 72 _ [w1.heap.size] (Two w1.heap.size (Rm.redN (Rm.opN 3 a b c d) (Rm.opD 3 a b c d)) (Rm.redD (Rm.opN 3 a b c d) (Rm.opD 3 a b c d))) _ (by simp) (enters_of Tryz.func72 (by kernel_rfl) rfl) (HOP.out w.heap.size (w.heap.size+2) (w.heap.size+1) w1.heap.size ((w1.alloc (.cells #[.int .i64 0, .int .i64 0] 23)).alloc (.cells #[.int .i64 0] 25))
    ⟨(by rw [(((Gr.refl w1).alloc _).alloc _).cells.1 _ _ (by omega), hc1 _ _ (by omega)]; simp [go_sem]), (by rw [(((Gr.refl w1).alloc _).alloc _).cells.1 _ _ (by omega), hc1 _ _ (by omega)]; simp [go_sem]), (by rw [(((Gr.refl w1).alloc _).alloc _).cells.1 _ _ (by omega), hc1 _ _ (by omega)]; simp [go_sem]), (by rw [(((Gr.refl w1).alloc _).alloc _).cells.1 _ _ (by omega), hc1 _ _ (by omega)]; simp [go_sem]), (by rw [(((Gr.refl w1).alloc _).alloc _).cells.1 _ _ (by omega), hc1 _ _ (by omega)]; simp [go_sem]), ⟨⟨0, 0, by simp [go_sem], by simp [go_sem]⟩, by simp [go_sem], by simp [go_sem]⟩, by omega, by omega, by omega⟩)).mono ?_
  rintro e w2 ⟨rfl, hg2, w0, ⟨t1, t2⟩, hg3⟩
  obtain ⟨hc2, hf2, hz2⟩ := hg2.at (n := w1.heap.size + 1) (by first | (simp; done) | (simp; omega) | omega)
  have r0 : w2.cell? ⟨w.heap.size + 3, 0, none⟩ = some (.int .i64 0) := by rw [hc2 _ _ (by omega) (by simp; omega), ((Gr.refl w1).alloc _).cells.1 _ _ (by omega), hc1 _ _ (by omega)]; simp [go_sem]
  have r1 : w2.cell? ⟨w.heap.size + 3, 1, none⟩ = some (.int .i64 0) := by rw [hc2 _ _ (by omega) (by simp; omega), ((Gr.refl w1).alloc _).cells.1 _ _ (by omega), hc1 _ _ (by omega)]; simp [go_sem]
  have f0 : w2.frozen? ⟨w.heap.size + 3, 0, none⟩ = false := by rw [hf2 _ _ (by omega) (by simp; omega), ((Gr.refl w1).alloc _).cells.2.1 _ _ (by omega), hf1 _ _ (by omega)]; simp [go_sem]
  have f1 : w2.frozen? ⟨w.heap.size + 3, 1, none⟩ = false := by rw [hf2 _ _ (by omega) (by simp; omega), ((Gr.refl w1).alloc _).cells.2.1 _ _ (by omega), hf1 _ _ (by omega)]; simp [go_sem]
  have hl := World.block_lt_of_cell? _ _ t1
  have o0 := ((hg3.at (Nat.le_refl _)).1 w1.heap.size 0 hl (by simp)).trans t1
  have o1 := ((hg3.at (Nat.le_refl _)).1 w1.heap.size 1 hl (by simp)).trans t2
  clear t1 t2 hg3 hl
  clear hc1 hf1 hc2 hf2
  go_wp2
  exact bodyPost_ret (v := .tuple #[fr (Rm.redN (Rm.opN 3 a b c d) (Rm.opD 3 a b c d)) (Rm.redD (Rm.opN 3 a b c d) (Rm.opD 3 a b c d)), .int .i64 0]) (by simp [results, Tryz.results53, go_sem, r0, r1]) rfl ⟨rfl, ((GrL.gr (l := [w1.heap.size]) (by repeat (first | exact Gr.refl _ | assumption | refine Gr.alloc ?_ _ | refine Gr.drew ?_ | refine Gr.drewN ?_ _ | refine Gr.set ?_ _ _ (by first | (simp; done) | (simp; omega)) | refine Gr.trans ?_ (by assumption))) hg2 (by simp; omega)).set _ _ (by first | (simp; done) | (simp; omega) | omega)).set _ _ (by first | (simp; done) | (simp; omega) | omega)⟩
set_option maxHeartbeats 1000000 in
theorem operated3_no (a b c d : Int) (w : World) (h : ok2 a b c d = true) (hz : c ≠ 0) (ho : Rm.okR (Rm.opN 3 a b c d) (Rm.opD 3 a b c d) = false) :
    Calls Tryz.prog 53 #[.int .i64 3, fr a b, fr c d] w fun e w' => e = .returned (.tuple #[fr 0 0, .int .i64 10]) ∧ Gr w w' := by
  have hmf : ∀ (fn : Fn) (first cap : Array Value) (w : World), (Instr.makeFunc fn first cap).run Tryz.prog w = .ok (.func fn first cap) w := fun _ _ _ _ => rfl
  have hE := Lib.hid (Rm.err_true (e := 1) h)
  obtain ⟨⟨x1, x2, x3, x4, _⟩, ⟨y1, y2, y3, y4, _⟩⟩ : (-1000000000 ≤ a ∧ a ≤ 1000000000 ∧ 1 ≤ b ∧ b ≤ 1000000 ∧ Int.gcd a b = 1) ∧ (-1000000000 ≤ c ∧ c ≤ 1000000000 ∧ 1 ≤ d ∧ d ≤ 1000000 ∧ Int.gcd c d = 1) := by
    simpa [ok2, Rm.okF_iff] using h
  have hop := fun p q r o w I => op3_no p q r o a b c d w I hz x1 x2 x3 x4 y1 y2 y3 y4 ho
  have HOP := Lib.hid hop
  clear hop x1 x2 x3 x4 y1 y2 y3 y4 h ho
  go_enter Tryz.func53, Tryz.ntmps53
  go_wp2_with fail
  refine (checked_two _ _ a b c d _ (by simp [go_sem]) (by simp [go_sem]) (by simp [go_sem]) (by simp [go_sem])).mono ?_
  rintro e w1 ⟨rfl, hg1⟩
  rw [hE.out]
  obtain ⟨hc1, hf1, hz1⟩ := hg1.at (n := w.heap.size + 5) (by first | (simp; done) | (simp; omega) | omega)
  go_wp2_with fail
  refine (tried_no 72 _ [] 10 _ (by simp) (enters_of Tryz.func72 (by kernel_rfl) rfl) (HOP.out w.heap.size (w.heap.size+2) (w.heap.size+1) w1.heap.size ((w1.alloc (.cells #[.int .i64 0, .int .i64 0] 23)).alloc (.cells #[.int .i64 0] 25))
    ⟨(by rw [(((Gr.refl w1).alloc _).alloc _).cells.1 _ _ (by omega), hc1 _ _ (by omega)]; simp [go_sem]), (by rw [(((Gr.refl w1).alloc _).alloc _).cells.1 _ _ (by omega), hc1 _ _ (by omega)]; simp [go_sem]), (by rw [(((Gr.refl w1).alloc _).alloc _).cells.1 _ _ (by omega), hc1 _ _ (by omega)]; simp [go_sem]), (by rw [(((Gr.refl w1).alloc _).alloc _).cells.1 _ _ (by omega), hc1 _ _ (by omega)]; simp [go_sem]), (by rw [(((Gr.refl w1).alloc _).alloc _).cells.1 _ _ (by omega), hc1 _ _ (by omega)]; simp [go_sem]), ⟨⟨0, 0, by simp [go_sem], by simp [go_sem]⟩, by simp [go_sem], by simp [go_sem]⟩, by omega, by omega, by omega⟩)).mono ?_
  rintro e w2 ⟨rfl, hg2⟩
  obtain ⟨hc2, hf2, hz2⟩ := hg2.at (n := w1.heap.size + 1) (by first | (simp; done) | (simp; omega) | omega)
  have r0 : w2.cell? ⟨w.heap.size + 3, 0, none⟩ = some (.int .i64 0) := by rw [hc2 _ _ (by omega) (by simp), ((Gr.refl w1).alloc _).cells.1 _ _ (by omega), hc1 _ _ (by omega)]; simp [go_sem]
  have r1 : w2.cell? ⟨w.heap.size + 3, 1, none⟩ = some (.int .i64 0) := by rw [hc2 _ _ (by omega) (by simp), ((Gr.refl w1).alloc _).cells.1 _ _ (by omega), hc1 _ _ (by omega)]; simp [go_sem]
  have f0 : w2.frozen? ⟨w.heap.size + 3, 0, none⟩ = false := by rw [hf2 _ _ (by omega) (by simp), ((Gr.refl w1).alloc _).cells.2.1 _ _ (by omega), hf1 _ _ (by omega)]; simp [go_sem]
  have f1 : w2.frozen? ⟨w.heap.size + 3, 1, none⟩ = false := by rw [hf2 _ _ (by omega) (by simp), ((Gr.refl w1).alloc _).cells.2.1 _ _ (by omega), hf1 _ _ (by omega)]; simp [go_sem]
  have o0 : w2.cell? ⟨w1.heap.size, 0, none⟩ = some (.int .i64 0) := by rw [hc2 _ _ (by omega) (by simp)]; simp [go_sem]
  have o1 : w2.cell? ⟨w1.heap.size, 1, none⟩ = some (.int .i64 0) := by rw [hc2 _ _ (by omega) (by simp)]; simp [go_sem]
  clear hc1 hf1 hc2 hf2
  go_wp2
  exact bodyPost_ret (v := .tuple #[fr 0 0, .int .i64 10]) (by simp [results, Tryz.results53, go_sem, r0, r1]) rfl ⟨rfl, ((GrL.gr (l := []) (by repeat (first | exact Gr.refl _ | assumption | refine Gr.alloc ?_ _ | refine Gr.drew ?_ | refine Gr.drewN ?_ _ | refine Gr.set ?_ _ _ (by first | (simp; done) | (simp; omega)) | refine Gr.trans ?_ (by assumption))) hg2 (by simp)).set _ _ (by first | (simp; done) | (simp; omega) | omega)).set _ _ (by first | (simp; done) | (simp; omega) | omega)⟩
theorem operated3_any (a b c d : Int) (w : World) :
    Calls Tryz.prog 53 #[.int .i64 3, fr a b, fr c d] w fun e w' => e = .returned (.tuple #[fr (arN 3 a b c d) (arD 3 a b c d), .int .i64 (arE 3 a b c d)]) ∧ Gr w w' := by
  cases h : ok2 a b c d
  · have e : arN 3 a b c d = 0 ∧ arD 3 a b c d = 0 ∧ arE 3 a b c d = 1 := by simp [arN, arD, arE, arOk, h]
    rw [e.1, e.2.1, e.2.2]
    exact operated_err 3 a b c d w h
  by_cases hz : c = 0
  · have e : arN 3 a b c d = 0 ∧ arD 3 a b c d = 0 ∧ arE 3 a b c d = 11 := by subst hz; simp [arN, arD, arE, arOk, h]
    rw [e.1, e.2.1, e.2.2]
    exact operated_zero a b c d w h hz
  have hA : arOk 3 a b c d = true := by simp [arOk, h, hz]
  cases ho : Rm.okR (Rm.opN 3 a b c d) (Rm.opD 3 a b c d)
  · have m := Rm.made_no ho
    have e : arN 3 a b c d = 0 ∧ arD 3 a b c d = 0 ∧ arE 3 a b c d = 10 := by simp [arN, arD, arE, hA, h, m, hz]
    rw [e.1, e.2.1, e.2.2]
    exact operated3_no a b c d w h hz ho
  · have m := Rm.made_yes ho
    have e : arN 3 a b c d = Rm.redN (Rm.opN 3 a b c d) (Rm.opD 3 a b c d) ∧ arD 3 a b c d = Rm.redD (Rm.opN 3 a b c d) (Rm.opD 3 a b c d) ∧ arE 3 a b c d = 0 := by simp [arN, arD, arE, hA, h, m, hz]
    rw [e.1, e.2.1, e.2.2]
    exact operated3_ok a b c d w h hz ho
end Go.Proofs.YtconhikflghkdaaGreatDoor
