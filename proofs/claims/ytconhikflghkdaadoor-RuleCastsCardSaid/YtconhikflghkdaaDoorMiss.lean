/- rule/shrink.go: Miss itself. -/
import Derived.Test.YtconhikflghkdaaDoorBest
import Derived.Test.YtconhikflghkdaaDoorTold
import Derived.Test.YtconhikflghkdaaDoorSized
namespace Go.Proofs.YtconhikflghkdaaDoor
open Go.RowKit Go.Shelf
theorem ms_bd {a b c d n want : Int} (M : MsB a b c d n want) : 1 ≤ Rm.msD a b c d n want ∧ Rm.msD a b c d n want ≤ 1000 ∧ -1000000000 ≤ Rm.msN a b c d n want ∧ Rm.msN a b c d n want ≤ 1000000000 := by
  obtain ⟨b1, b2, d1, d2, p1, p2, p3, p4, q1, q2, q3, q4, _, _, _, _⟩ := M
  unfold Rm.msD Rm.msN
  split <;> (try unfold Rm.msA) <;> (try unfold Rm.msB) <;> omega
set_option maxHeartbeats 1000000 in
theorem Miss1_yes (p q s o : Nat) (a b c d n want : Int) (w : World) (hm : MB p a b c d w) (hq : w.cell? ⟨q, 0, none⟩ = some (.int .i64 n)) (hs : w.cell? ⟨s, 0, none⟩ = some (.int .i64 want)) (ho : w.heap[o]? = some (.cells #[.int .i64 0, .int .i64 0] 23 (0, 0)))
    (h : RuB a b c d) (n1 : 1 ≤ n) (n2 : n ≤ 1000000) (l1 : 1 ≤ want) (l2 : want ≤ 1000000) (hok : Rm.okR (Rm.msN a b c d n want) (Rm.msD a b c d n want) = true) :
    Calls Tryd.prog 110 #[.pointer (some ⟨p, 0, none⟩), .pointer (some ⟨q, 0, none⟩), .pointer (some ⟨s, 0, none⟩), .pointer (some ⟨o, 0, none⟩)] w fun e w' => e = .returned (.tuple #[]) ∧ GrL [o] w w' ∧
      w'.heap[o]? = some (.cells #[.int .i64 (Rm.redN (Rm.msN a b c d n want) (Rm.msD a b c d n want)), .int .i64 (Rm.redD (Rm.msN a b c d n want) (Rm.msD a b c d n want))] 23 (0, 0)) := by
  have MS := Lib.hid (fun w => miss_any a b c d n want w h n1 n2 l1 l2)
  obtain ⟨k1, k2, k3, k4⟩ := ms_bd (MsB.of h n1 n2 l1 l2)
  have TO := Lib.hid (fun w => told_ok _ _ w k1 (by omega) (by omega) (by omega) hok)
  obtain ⟨a0, a1, a2, a3⟩ := hm
  clear k1 k2 k3 k4 hok h
  generalize Rm.msN a b c d n want = N at *
  generalize Rm.msD a b c d n want = D at *
  go_enter Tryd.func110, Tryd.ntmps110
  go_wp2_with fail
  refine (MS.out _).mono ?_
  rintro e w1 ⟨rfl, hg1⟩
  go_wp2_with fail
  refine (TO.out _).mono ?_
  rintro e w2 ⟨rfl, hg2⟩
  obtain ⟨oc, of, oz⟩ := blk_cells (hg2.heap (hg1.heap ho))
  go_wp2
  exact bodyPost_end (v := .tuple #[]) (by simp [results, Tryd.results110, go_sem]) rfl ⟨rfl, ((GrL.of_gr (hg1.trans hg2)).set _ _ (Or.inr (by simp))).set _ _ (Or.inr (by simp)), put_two (hg2.heap (hg1.heap ho))⟩
set_option maxHeartbeats 1000000 in
theorem Miss1_no (p q s o : Nat) (a b c d n want : Int) (w : World) (hm : MB p a b c d w) (hq : w.cell? ⟨q, 0, none⟩ = some (.int .i64 n)) (hs : w.cell? ⟨s, 0, none⟩ = some (.int .i64 want))
    (h : RuB a b c d) (n1 : 1 ≤ n) (n2 : n ≤ 1000000) (l1 : 1 ≤ want) (l2 : want ≤ 1000000) (hok : Rm.okR (Rm.msN a b c d n want) (Rm.msD a b c d n want) = false) :
    Calls Tryd.prog 110 #[.pointer (some ⟨p, 0, none⟩), .pointer (some ⟨q, 0, none⟩), .pointer (some ⟨s, 0, none⟩), .pointer (some ⟨o, 0, none⟩)] w fun e w' => e = .panicked [{ v := giv 10, recovered := false }] ∧ Gr w w' := by
  have MS := Lib.hid (fun w => miss_any a b c d n want w h n1 n2 l1 l2)
  obtain ⟨k1, k2, k3, k4⟩ := ms_bd (MsB.of h n1 n2 l1 l2)
  have TO := Lib.hid (fun w => told_no _ _ w k1 (by omega) (by omega) (by omega) hok)
  obtain ⟨a0, a1, a2, a3⟩ := hm
  clear k1 k2 k3 k4 hok h
  generalize Rm.msN a b c d n want = N at *
  generalize Rm.msD a b c d n want = D at *
  go_enter Tryd.func110, Tryd.ntmps110
  go_wp2_with fail
  refine (MS.out _).mono ?_
  rintro e w1 ⟨rfl, hg1⟩
  go_wp2_with fail
  refine (TO.out _).mono ?_
  rintro e w2 ⟨rfl, hg2⟩
  exact ⟨rfl, rfl, hg1.trans hg2⟩
set_option maxRecDepth 100000 in
set_option maxHeartbeats 1000000 in
theorem Miss_bad (a b c d n want : Int) (w : World) (h : (ruOk a b c d && (szOk n && szOk want)) = false) :
    Calls Tryd.prog 47 #[ru a b c d, .int .i64 n, .int .i64 want] w fun e w' => e = .returned (.tuple #[fr 0 0, .int .i64 1]) ∧ Gr w w' := by
  have AT := Lib.hid (fun (s cap : Nat) W p q => asked_two s cap a b c d n want W p q)
  simp only [h] at AT
  clear h
  go_enter Tryd.func47, Tryd.ntmps47
  go_wp2_with fail
  refine (AT.out _ _ _ (by simp [go_sem]) (by simp [go_sem])).mono ?_
  rintro e w1 ⟨rfl, hg1⟩
  rw [show Rm.err false 1 = 1 from rfl]
  obtain ⟨hc1, hf1, hz1⟩ := hg1.at (n := w.heap.size + 4) (by first | (simp; done) | (simp; omega) | omega)
  have : ¬ w1.heap.size = w.heap.size := (by omega); have : ¬ w.heap.size = w1.heap.size := (by omega); have : w.heap.size < w1.heap.size := (by omega); have : w.heap.size ≤ w1.heap.size := (by omega); have : ¬ w1.heap.size = w.heap.size + 1 := (by omega); have : ¬ w.heap.size + 1 = w1.heap.size := (by omega); have : w.heap.size + 1 < w1.heap.size := (by omega); have : w.heap.size + 1 ≤ w1.heap.size := (by omega); have : ¬ w1.heap.size = w.heap.size + 2 := (by omega); have : ¬ w.heap.size + 2 = w1.heap.size := (by omega); have : w.heap.size + 2 < w1.heap.size := (by omega); have : w.heap.size + 2 ≤ w1.heap.size := (by omega); have : ¬ w1.heap.size = w.heap.size + 3 := (by omega); have : ¬ w.heap.size + 3 = w1.heap.size := (by omega); have : w.heap.size + 3 < w1.heap.size := (by omega); have : w.heap.size + 3 ≤ w1.heap.size := (by omega)
  go_wp2
  exact bodyPost_ret (v := .tuple #[fr 0 0, .int .i64 1]) (by simp [results, Tryd.results47, go_sem, *]) rfl ⟨rfl, (by repeat (first | exact Gr.refl _ | assumption | refine Gr.alloc ?_ _ | refine Gr.drew ?_ | refine Gr.drewN ?_ _ | refine Gr.set ?_ _ _ (by first | (simp; done) | (simp; omega)) | refine Gr.trans ?_ (by assumption)))⟩
set_option maxRecDepth 100000 in
set_option maxHeartbeats 2000000 in
theorem Miss_yes (a b c d n want : Int) (w : World) (h : (ruOk a b c d && (szOk n && szOk want)) = true) (hok : Rm.okR (Rm.msN a b c d n want) (Rm.msD a b c d n want) = true) :
    Calls Tryd.prog 47 #[ru a b c d, .int .i64 n, .int .i64 want] w fun e w' => e = .returned (.tuple #[fr (Rm.redN (Rm.msN a b c d n want) (Rm.msD a b c d n want)) (Rm.redD (Rm.msN a b c d n want) (Rm.msD a b c d n want)), .int .i64 0]) ∧ Gr w w' := by
  have hmf : ∀ (fn : Fn) (first cap : Array Value) (w : World), (Instr.makeFunc fn first cap).run Tryd.prog w = .ok (.func fn first cap) w := fun _ _ _ _ => rfl
  have AT := Lib.hid (fun (s cap : Nat) W p q => asked_two s cap a b c d n want W p q)
  simp only [h] at AT
  have HR : RuB a b c d ∧ (1 ≤ n ∧ n ≤ 1000000) ∧ (1 ≤ want ∧ want ≤ 1000000) := by
    simp only [szOk, Bool.and_eq_true, decide_eq_true_eq] at h
    exact ⟨RuB.of h.1, h.2.1, h.2.2⟩
  obtain ⟨R, ⟨n1, n2⟩, l1, l2⟩ := HR
  have YES := Lib.hid (fun (p q s o : Nat) (W : World) hm hq hs ho => Miss1_yes p q s o a b c d n want W hm hq hs ho R n1 n2 l1 l2 hok)
  clear h R n1 n2 l1 l2 hok
  generalize Rm.redN (Rm.msN a b c d n want) (Rm.msD a b c d n want) = N at *
  generalize Rm.redD (Rm.msN a b c d n want) (Rm.msD a b c d n want) = D at *
  go_enter Tryd.func47, Tryd.ntmps47
  go_wp2_with fail
  refine (AT.out _ _ _ (by simp [go_sem]) (by simp [go_sem])).mono ?_
  rintro e w1 ⟨rfl, hg1⟩
  rw [show Rm.err true 1 = 0 from rfl]
  obtain ⟨hc1, hf1, hz1⟩ := hg1.at (n := w.heap.size + 4) (by first | (simp; done) | (simp; omega) | omega)
  have : ¬ w1.heap.size = w.heap.size := (by omega); have : ¬ w.heap.size = w1.heap.size := (by omega); have : w.heap.size < w1.heap.size := (by omega); have : w.heap.size ≤ w1.heap.size := (by omega); have : ¬ w1.heap.size = w.heap.size + 1 := (by omega); have : ¬ w.heap.size + 1 = w1.heap.size := (by omega); have : w.heap.size + 1 < w1.heap.size := (by omega); have : w.heap.size + 1 ≤ w1.heap.size := (by omega); have : ¬ w1.heap.size = w.heap.size + 2 := (by omega); have : ¬ w.heap.size + 2 = w1.heap.size := (by omega); have : w.heap.size + 2 < w1.heap.size := (by omega); have : w.heap.size + 2 ≤ w1.heap.size := (by omega); have : ¬ w1.heap.size = w.heap.size + 3 := (by omega); have : ¬ w.heap.size + 3 = w1.heap.size := (by omega); have : w.heap.size + 3 < w1.heap.size := (by omega); have : w.heap.size + 3 ≤ w1.heap.size := (by omega)
  go_wp2_with fail
  have kq : w1.cell? ⟨w.heap.size + 1, 0, none⟩ = some (.int .i64 n) := by rw [hc1 _ _ (by omega)]; simp [go_sem]
  have ks : w1.cell? ⟨w.heap.size + 1 + 1, 0, none⟩ = some (.int .i64 want) := by rw [hc1 _ _ (by omega)]; simp [go_sem]
  have ko : ((w1.alloc (.cells #[.int .i64 a, .int .i64 b, .int .i64 c, .int .i64 d] 87)).alloc (.cells #[.int .i64 0, .int .i64 0] 23)).heap[w1.heap.size + 1]? = some (.cells #[.int .i64 0, .int .i64 0] 23 (0, 0)) := by
    have := heap_alloc_self (w1.alloc (.cells #[.int .i64 a, .int .i64 b, .int .i64 c, .int .i64 d] 87)) (.cells #[.int .i64 0, .int .i64 0] 23)
    rw [World.size_alloc] at this
    exact this
  refine (tried_ok 110 _ [w1.heap.size + 1] _ _ (by simp) (enters_of Tryd.func110 (by kernel_rfl) rfl) (YES.out _ _ _ _ _ ⟨by simp [go_sem], by simp [go_sem], by simp [go_sem], by simp [go_sem]⟩ (by simp [go_sem, *]) (by simp [go_sem, *]) (Gr.heap ((Gr.refl _).alloc _) ko))).mono ?_
  rintro e w2 ⟨rfl, hg2, w0, hq, hg3⟩
  have ho : w2.heap[w1.heap.size + 1]? = some (.cells #[.int .i64 N, .int .i64 D] 23 (0, 0)) := (hg3.block _ (heap_lt hq) (by simp)).trans hq
  obtain ⟨oc, of, oz⟩ := blk_cells ho
  have hgw : GrL [w1.heap.size + 1] w1 w2 := (GrL.of_gr (((Gr.refl w1).alloc _).alloc _)).trans hg2
  obtain ⟨hcw, hfw, hzw⟩ := hgw.at (n := w.heap.size + 4) (by omega)
  have s0 : ∀ o, w2.cell? ⟨w.heap.size + 1 + 1 + 1, o, none⟩ = (#[Value.int .i64 0, .int .i64 0] : Array Value)[o]? := fun o => by rw [hcw _ _ (by omega) (by simp; omega), hc1 _ _ (by omega)]; simp [go_sem]
  have sf : ∀ o, w2.frozen? ⟨w.heap.size + 1 + 1 + 1, o, none⟩ = false := fun o => by rw [hfw _ _ (by omega) (by simp; omega), hf1 _ _ (by omega)]; simp [go_sem]
  have z3 : w.heap.size + 1 + 1 + 1 < w2.heap.size := by omega
  have gfin : Gr w w2 := GrL.gr (l := [w1.heap.size + 1]) (w1 := w1) (by repeat (first | exact Gr.refl _ | assumption | refine Gr.alloc ?_ _ | refine Gr.drew ?_ | refine Gr.drewN ?_ _ | refine Gr.set ?_ _ _ (by first | (simp; done) | (simp; omega)) | refine Gr.trans ?_ (by assumption))) hgw (by simp; omega)
  clear hc1 hf1 hcw hfw ko kq ks hq ho hg2 hg3
  go_wp2
  exact bodyPost_ret (v := .tuple #[fr N D, .int .i64 0]) (by simp [results, Tryd.results47, go_sem, *]) rfl ⟨rfl, (by repeat (first | exact Gr.refl _ | assumption | refine Gr.alloc ?_ _ | refine Gr.drew ?_ | refine Gr.drewN ?_ _ | refine Gr.set ?_ _ _ (by first | (simp; done) | (simp; omega)) | refine Gr.trans ?_ (by assumption)))⟩
set_option maxRecDepth 100000 in
set_option maxHeartbeats 2000000 in
theorem Miss_no (a b c d n want : Int) (w : World) (h : (ruOk a b c d && (szOk n && szOk want)) = true) (hok : Rm.okR (Rm.msN a b c d n want) (Rm.msD a b c d n want) = false) :
    Calls Tryd.prog 47 #[ru a b c d, .int .i64 n, .int .i64 want] w fun e w' => e = .returned (.tuple #[fr 0 0, .int .i64 10]) ∧ Gr w w' := by
  have hmf : ∀ (fn : Fn) (first cap : Array Value) (w : World), (Instr.makeFunc fn first cap).run Tryd.prog w = .ok (.func fn first cap) w := fun _ _ _ _ => rfl
  have AT := Lib.hid (fun (s cap : Nat) W p q => asked_two s cap a b c d n want W p q)
  simp only [h] at AT
  have HR : RuB a b c d ∧ (1 ≤ n ∧ n ≤ 1000000) ∧ (1 ≤ want ∧ want ≤ 1000000) := by
    simp only [szOk, Bool.and_eq_true, decide_eq_true_eq] at h
    exact ⟨RuB.of h.1, h.2.1, h.2.2⟩
  obtain ⟨R, ⟨n1, n2⟩, l1, l2⟩ := HR
  have NO := Lib.hid (fun (p q s o : Nat) (W : World) hm hq hs => (Miss1_no p q s o a b c d n want W hm hq hs R n1 n2 l1 l2 hok).mono fun e w' (k : _ ∧ _) => And.intro k.1 (GrL.of_gr (l := []) k.2))
  clear h R n1 n2 l1 l2 hok
  go_enter Tryd.func47, Tryd.ntmps47
  go_wp2_with fail
  refine (AT.out _ _ _ (by simp [go_sem]) (by simp [go_sem])).mono ?_
  rintro e w1 ⟨rfl, hg1⟩
  rw [show Rm.err true 1 = 0 from rfl]
  obtain ⟨hc1, hf1, hz1⟩ := hg1.at (n := w.heap.size + 4) (by first | (simp; done) | (simp; omega) | omega)
  have : ¬ w1.heap.size = w.heap.size := (by omega); have : ¬ w.heap.size = w1.heap.size := (by omega); have : w.heap.size < w1.heap.size := (by omega); have : w.heap.size ≤ w1.heap.size := (by omega); have : ¬ w1.heap.size = w.heap.size + 1 := (by omega); have : ¬ w.heap.size + 1 = w1.heap.size := (by omega); have : w.heap.size + 1 < w1.heap.size := (by omega); have : w.heap.size + 1 ≤ w1.heap.size := (by omega); have : ¬ w1.heap.size = w.heap.size + 2 := (by omega); have : ¬ w.heap.size + 2 = w1.heap.size := (by omega); have : w.heap.size + 2 < w1.heap.size := (by omega); have : w.heap.size + 2 ≤ w1.heap.size := (by omega); have : ¬ w1.heap.size = w.heap.size + 3 := (by omega); have : ¬ w.heap.size + 3 = w1.heap.size := (by omega); have : w.heap.size + 3 < w1.heap.size := (by omega); have : w.heap.size + 3 ≤ w1.heap.size := (by omega)
  go_wp2_with fail
  have kq : w1.cell? ⟨w.heap.size + 1, 0, none⟩ = some (.int .i64 n) := by rw [hc1 _ _ (by omega)]; simp [go_sem]
  have ks : w1.cell? ⟨w.heap.size + 1 + 1, 0, none⟩ = some (.int .i64 want) := by rw [hc1 _ _ (by omega)]; simp [go_sem]
  have ko : ((w1.alloc (.cells #[.int .i64 a, .int .i64 b, .int .i64 c, .int .i64 d] 87)).alloc (.cells #[.int .i64 0, .int .i64 0] 23)).heap[w1.heap.size + 1]? = some (.cells #[.int .i64 0, .int .i64 0] 23 (0, 0)) := by
    have := heap_alloc_self (w1.alloc (.cells #[.int .i64 a, .int .i64 b, .int .i64 c, .int .i64 d] 87)) (.cells #[.int .i64 0, .int .i64 0] 23)
    rw [World.size_alloc] at this
    exact this
  refine (tried_no 110 _ [] 10 _ (by simp) (enters_of Tryd.func110 (by kernel_rfl) rfl) (NO.out _ _ _ (w1.heap.size + 1) _ ⟨by simp [go_sem], by simp [go_sem], by simp [go_sem], by simp [go_sem]⟩ (by simp [go_sem, *]) (by simp [go_sem, *]))).mono ?_
  rintro e w2 ⟨rfl, hg2⟩
  have ho : w2.heap[w1.heap.size + 1]? = some (.cells #[.int .i64 0, .int .i64 0] 23 (0, 0)) := (hg2.block _ (heap_lt ko) (by simp)).trans ko
  obtain ⟨oc, of, oz⟩ := blk_cells ho
  have hgw : GrL [] w1 w2 := (GrL.of_gr (((Gr.refl w1).alloc _).alloc _)).trans hg2
  obtain ⟨hcw, hfw, hzw⟩ := hgw.at (n := w.heap.size + 4) (by omega)
  have s0 : ∀ o, w2.cell? ⟨w.heap.size + 1 + 1 + 1, o, none⟩ = (#[Value.int .i64 0, .int .i64 0] : Array Value)[o]? := fun o => by rw [hcw _ _ (by omega) (by simp), hc1 _ _ (by omega)]; simp [go_sem]
  have sf : ∀ o, w2.frozen? ⟨w.heap.size + 1 + 1 + 1, o, none⟩ = false := fun o => by rw [hfw _ _ (by omega) (by simp), hf1 _ _ (by omega)]; simp [go_sem]
  have z3 : w.heap.size + 1 + 1 + 1 < w2.heap.size := by omega
  have gfin : Gr w w2 := GrL.gr (l := []) (w1 := w1) (by repeat (first | exact Gr.refl _ | assumption | refine Gr.alloc ?_ _ | refine Gr.drew ?_ | refine Gr.drewN ?_ _ | refine Gr.set ?_ _ _ (by first | (simp; done) | (simp; omega)) | refine Gr.trans ?_ (by assumption))) hgw (by simp)
  clear hc1 hf1 hcw hfw ko kq ks ho hg2
  go_wp2
  exact bodyPost_ret (v := .tuple #[fr 0 0, .int .i64 10]) (by simp [results, Tryd.results47, go_sem, *]) rfl ⟨rfl, (by repeat (first | exact Gr.refl _ | assumption | refine Gr.alloc ?_ _ | refine Gr.drew ?_ | refine Gr.drewN ?_ _ | refine Gr.set ?_ _ _ (by first | (simp; done) | (simp; omega)) | refine Gr.trans ?_ (by assumption)))⟩
/-- Miss: its error, its parts -/
def miOk (a b c d n want : Int) : Bool := ruOk a b c d && (szOk n && szOk want)
def miE (a b c d n want : Int) : Int := if miOk a b c d n want then Rm.mE (Rm.msN a b c d n want) (Rm.msD a b c d n want) else 1
def miN (a b c d n want : Int) : Int := if miOk a b c d n want then Rm.mN (Rm.msN a b c d n want) (Rm.msD a b c d n want) else 0
def miD (a b c d n want : Int) : Int := if miOk a b c d n want then Rm.mD (Rm.msN a b c d n want) (Rm.msD a b c d n want) else 0
theorem Miss_any (a b c d n want : Int) (w : World) :
    Calls Tryd.prog 47 #[ru a b c d, .int .i64 n, .int .i64 want] w fun e w' => e = .returned (.tuple #[fr (miN a b c d n want) (miD a b c d n want), .int .i64 (miE a b c d n want)]) ∧ Gr w w' := by
  cases h : miOk a b c d n want
  · have e1 : miN a b c d n want = 0 ∧ miD a b c d n want = 0 ∧ miE a b c d n want = 1 := by simp [miN, miD, miE, h]
    rw [e1.1, e1.2.1, e1.2.2]
    exact Miss_bad a b c d n want w h
  · cases hok : Rm.okR (Rm.msN a b c d n want) (Rm.msD a b c d n want)
    · obtain ⟨k1, k2, k3⟩ := Rm.made_no hok
      have e1 : miN a b c d n want = 0 ∧ miD a b c d n want = 0 ∧ miE a b c d n want = 10 := by simp [miN, miD, miE, h, k1, k2, k3]
      rw [e1.1, e1.2.1, e1.2.2]
      exact Miss_no a b c d n want w h hok
    · obtain ⟨k1, k2, k3⟩ := Rm.made_yes hok
      have e1 : miN a b c d n want = _ ∧ miD a b c d n want = _ ∧ miE a b c d n want = 0 := ⟨by simp only [miN, h, if_true]; exact k1, by simp only [miD, h, if_true]; exact k2, by simp only [miE, h, if_true]; exact k3⟩
      rw [e1.1, e1.2.1, e1.2.2]
      exact Miss_yes a b c d n want w h hok
end Go.Proofs.YtconhikflghkdaaDoor
