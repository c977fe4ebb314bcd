/- rule/shrink.go: Twice itself. -/
import Derived.Test.YtconhikflghkdaaGreatDoorTwice
namespace Go.Proofs.YtconhikflghkdaaGreatDoor
open Go.RowKit Go.Shelf
theorem TwB.of {a b c d a' b' c' d' : Int} (h : RuB a b c d) (k : RuB a' b' c' d') : TwB a b a' b' ∧ TwB c d c' d' := by
  have := h.ab; have := h.cd; have := k.ab; have := k.cd; have := h.a0; have := h.c0; have := k.a0; have := k.c0; have := h.b1; have := h.d1; have := k.b1; have := k.d1
  exact ⟨⟨h.b1, h.b2, k.b1, k.b2, h.a0, by omega, k.a0, by omega⟩, ⟨h.d1, h.d2, k.d1, k.d2, h.c0, by omega, k.c0, by omega⟩⟩
set_option maxRecDepth 100000 in
set_option maxHeartbeats 2000000 in
theorem Twice_bad (a b c d a' b' c' d' : Int) (w : World) (h : (ruOk a b c d && ruOk a' b' c' d') = false) :
    Calls Tryz.prog 18 #[ru a b c d, ru a' b' c' d'] w fun e w' => e = .returned (.tuple #[ru 0 0 0 0, .int .i64 1]) ∧ Gr w w' := by
  have C1 := Lib.hid (fun w => CheckRule_any a b c d w)
  have C2 := Lib.hid (fun w => CheckRule_any a' b' c' d' w)
  have H := Lib.hid h
  clear h
  go_enter Tryz.func18, Tryz.ntmps18
  go_wp2_with fail
  go_loopw [16] (fun i wr => ∃ k : Nat, k ≤ 2 ∧ i = .int .i64 k ∧ Hid (1 ≤ k → ruOk a b c d = true) ∧ Hid (2 ≤ k → ruOk a' b' c' d' = true) ∧ Gr ((((w.alloc (Obj.cells #[.int .i64 a, .int .i64 b, .int .i64 c, .int .i64 d] 43)).alloc (Obj.cells #[.int .i64 a', .int .i64 b', .int .i64 c', .int .i64 d'] 43)).alloc (Obj.cells #[.int .i64 0, .int .i64 0, .int .i64 0, .int .i64 0] 43)).alloc (Obj.cells #[.int .i64 a, .int .i64 b, .int .i64 c, .int .i64 d, .int .i64 a', .int .i64 b', .int .i64 c', .int .i64 d'] 43)) wr) (fun i _ => 2 - (intOf i).toNat)
  case atStart => exact ⟨0, by omega, rfl, Lib.hid (by omega), Lib.hid (by omega), Gr.refl _⟩
  case round =>
    obtain ⟨k, hk, rfl, h1, h2, hw⟩ := hrel
    obtain ⟨hc, hf, hz⟩ := hw.at (n := w.heap.size + 4) (by first | (simp; done) | (simp; omega) | omega)
    have hz' : w.heap.size + 3 < wr.heap.size := by omega
    rcases (show k = 0 ∨ k = 1 ∨ k = 2 by omega) with rfl | rfl | rfl
    · cases ho : ruOk a b c d
      · rw [ho] at C1
        clear h1 h2 ho H C2
        go_wp2_with fail
        refine (C1.out _).mono ?_
        rintro e w1 ⟨rfl, hg1⟩
        rw [show Rm.err false 1 = 1 from rfl]
        have hgw : Gr wr w1 := (by repeat (first | exact Gr.refl _ | assumption | refine Gr.alloc ?_ _ | refine Gr.drew ?_ | refine Gr.drewN ?_ _ | refine Gr.set ?_ _ _ (by first | (simp; done) | (simp; omega)) | refine Gr.trans ?_ (by assumption)))
        have r0 : ∀ o, w1.cell? ⟨w.heap.size + 1 + 1, o, none⟩ = wr.cell? ⟨w.heap.size + 1 + 1, o, none⟩ := fun o => hgw.cells.1 _ _ (by omega)
        have rf : ∀ o, w1.frozen? ⟨w.heap.size + 1 + 1, o, none⟩ = wr.frozen? ⟨w.heap.size + 1 + 1, o, none⟩ := fun o => hgw.cells.2.1 _ _ (by omega)
        go_wp2
        exact bodyPost_ret (v := .tuple #[ru 0 0 0 0, .int .i64 1]) (by simp [results, Tryz.results18, go_sem, *]) rfl ⟨rfl, (by repeat (first | exact Gr.refl _ | assumption | refine Gr.alloc ?_ _ | refine Gr.drew ?_ | refine Gr.drewN ?_ _ | refine Gr.set ?_ _ _ (by first | (simp; done) | (simp; omega)) | refine Gr.trans ?_ (by assumption)))⟩
      · rw [ho] at C1
        have HO := Lib.hid ho
        clear h1 h2 ho H C2
        go_wp2_with fail
        refine (C1.out _).mono ?_
        rintro e w1 ⟨rfl, hg1⟩
        rw [show Rm.err true 1 = 0 from rfl]
        go_wp2
        go_roundw
        case rel => exact ⟨1, by omega, by go_num, Lib.hid (by first | exact fun _ => HO.out | trivial), Lib.hid (by omega), (by repeat (first | exact Gr.refl _ | assumption | refine Gr.alloc ?_ _ | refine Gr.drew ?_ | refine Gr.drewN ?_ _ | refine Gr.set ?_ _ _ (by first | (simp; done) | (simp; omega)) | refine Gr.trans ?_ (by assumption)))⟩
        case measure => simp [intOf]
    · have ho : ruOk a' b' c' d' = false := by have := h1.out (by omega); have := H.out; simp_all
      rw [ho] at C2
      clear h1 h2 ho H C1
      go_wp2_with fail
      refine (C2.out _).mono ?_
      rintro e w1 ⟨rfl, hg1⟩
      rw [show Rm.err false 1 = 1 from rfl]
      have hgw : Gr wr w1 := (by repeat (first | exact Gr.refl _ | assumption | refine Gr.alloc ?_ _ | refine Gr.drew ?_ | refine Gr.drewN ?_ _ | refine Gr.set ?_ _ _ (by first | (simp; done) | (simp; omega)) | refine Gr.trans ?_ (by assumption)))
      have r0 : ∀ o, w1.cell? ⟨w.heap.size + 1 + 1, o, none⟩ = wr.cell? ⟨w.heap.size + 1 + 1, o, none⟩ := fun o => hgw.cells.1 _ _ (by omega)
      have rf : ∀ o, w1.frozen? ⟨w.heap.size + 1 + 1, o, none⟩ = wr.frozen? ⟨w.heap.size + 1 + 1, o, none⟩ := fun o => hgw.cells.2.1 _ _ (by omega)
      go_wp2
      exact bodyPost_ret (v := .tuple #[ru 0 0 0 0, .int .i64 1]) (by simp [results, Tryz.results18, go_sem, *]) rfl ⟨rfl, (by repeat (first | exact Gr.refl _ | assumption | refine Gr.alloc ?_ _ | refine Gr.drew ?_ | refine Gr.drewN ?_ _ | refine Gr.set ?_ _ _ (by first | (simp; done) | (simp; omega)) | refine Gr.trans ?_ (by assumption)))⟩
    · have := h1.out (by omega)
      have := h2.out (by omega)
      have := H.out
      simp_all
/-- what Twice returns -/
def tw1 (a b _c _d a' b' _c' _d' : Int) : Int := Rm.redN (twN a b a' b') (twD a b a' b')
def tw2 (a b _c _d a' b' _c' _d' : Int) : Int := Rm.redD (twN a b a' b') (twD a b a' b')
def tw3 (_a _b c d _a' _b' c' d' : Int) : Int := Rm.redN (twN c d c' d') (twD c d c' d')
def tw4 (_a _b c d _a' _b' c' d' : Int) : Int := Rm.redD (twN c d c' d') (twD c d c' d')
def twG (a b c d a' b' c' d' : Int) : Bool := Rm.okR (twN a b a' b') (twD a b a' b') && Rm.okR (twN c d c' d') (twD c d c' d') && ruOk (tw1 a b c d a' b' c' d') (tw2 a b c d a' b' c' d') (tw3 a b c d a' b' c' d') (tw4 a b c d a' b' c' d')
theorem Twice2_yes (t r q o : Nat) (a b c d a' b' c' d' : Int) (w : World) (I : TwIn t r q o a b c d a' b' c' d' w) (h1 : TwB a b a' b') (h2 : TwB c d c' d') (h : twG a b c d a' b' c' d' = true) :
    Calls Tryz.prog 51 #[.pointer (some ⟨t, 0, none⟩), .pointer (some ⟨r, 0, none⟩), .pointer (some ⟨q, 0, none⟩), .pointer (some ⟨o, 0, none⟩)] w fun e w' => e = .returned (.tuple #[]) ∧ GrL [o] w w' ∧ w'.heap[o]? = some (.cells #[.int .i64 (tw1 a b c d a' b' c' d'), .int .i64 (tw2 a b c d a' b' c' d'), .int .i64 (tw3 a b c d a' b' c' d'), .int .i64 (tw4 a b c d a' b' c' d')] 43 (0, 0)) := by
  simp only [twG, Bool.and_eq_true] at h
  have := Twice2_go t r q o a b c d a' b' c' d' w I h1 h2 h.1.1 h.1.2 _ _ _ _ rfl rfl rfl rfl
  refine this.mono fun e w' k => ?_
  have e1 : ruOk (Rm.redN (twN a b a' b') (twD a b a' b')) (Rm.redD (twN a b a' b') (twD a b a' b')) (Rm.redN (twN c d c' d') (twD c d c' d')) (Rm.redD (twN c d c' d') (twD c d c' d')) = true := h.2
  rw [if_pos e1] at k
  exact k
theorem Twice2_no (t r q o : Nat) (a b c d a' b' c' d' : Int) (w : World) (I : TwIn t r q o a b c d a' b' c' d' w) (h1 : TwB a b a' b') (h2 : TwB c d c' d') (h : twG a b c d a' b' c' d' = false) :
    Calls Tryz.prog 51 #[.pointer (some ⟨t, 0, none⟩), .pointer (some ⟨r, 0, none⟩), .pointer (some ⟨q, 0, none⟩), .pointer (some ⟨o, 0, none⟩)] w fun e w' => e = .panicked [{ v := giv 10, recovered := false }] ∧ GrL [o] w w' := by
  cases k1 : Rm.okR (twN a b a' b') (twD a b a' b')
  · exact (Twice2_no1 t r q o a b c d a' b' c' d' w I h1 k1).mono fun e w' k => ⟨k.1, k.2.mono (by simp)⟩
  · cases k2 : Rm.okR (twN c d c' d') (twD c d c' d')
    · exact (Twice2_no2 t r q o a b c d a' b' c' d' w I h1 h2 k1 k2).mono fun e w' k => ⟨k.1, k.2.mono (by simp)⟩
    · have := Twice2_go t r q o a b c d a' b' c' d' w I h1 h2 k1 k2 _ _ _ _ rfl rfl rfl rfl
      refine this.mono fun e w' k => ?_
      have e1 : ruOk (Rm.redN (twN a b a' b') (twD a b a' b')) (Rm.redD (twN a b a' b') (twD a b a' b')) (Rm.redN (twN c d c' d') (twD c d c' d')) (Rm.redD (twN c d c' d') (twD c d c' d')) = false := by
        have h' := h
        simp only [twG, k1, k2, Bool.true_and] at h'
        exact h'
      rw [if_neg (by rw [e1]; simp)] at k
      exact ⟨k.1, k.2.1⟩
set_option maxRecDepth 100000 in
set_option maxHeartbeats 4000000 in
theorem Twice_good (a b c d a' b' c' d' : Int) (w : World) (h : (ruOk a b c d && ruOk a' b' c' d') = true) (g : Bool) (hg : twG a b c d a' b' c' d' = g) (N D N' D' : Int)
    (e1 : N = tw1 a b c d a' b' c' d') (e2 : D = tw2 a b c d a' b' c' d') (e3 : N' = tw3 a b c d a' b' c' d') (e4 : D' = tw4 a b c d a' b' c' d') (r : Value) (hr : r = if g then .tuple #[ru N D N' D', .int .i64 0] else .tuple #[ru 0 0 0 0, .int .i64 10]) :
    Calls Tryz.prog 18 #[ru a b c d, ru a' b' c' d'] w fun e w' => e = .returned r ∧ Gr w w' := by
  have hmf : ∀ (fn : Fn) (first cap : Array Value) (w : World), (Instr.makeFunc fn first cap).run Tryz.prog w = .ok (.func fn first cap) w := fun _ _ _ _ => rfl
  rw [Bool.and_eq_true] at h
  obtain ⟨t1, t2⟩ := TwB.of (RuB.of h.1) (RuB.of h.2)
  have C1 := Lib.hid (fun w => CheckRule_any a b c d w)
  have C2 := Lib.hid (fun w => CheckRule_any a' b' c' d' w)
  rw [h.1] at C1
  rw [h.2] at C2
  have YES := Lib.hid (fun (t rr q o : Nat) (w : World) (I : TwIn t rr q o a b c d a' b' c' d' w) (hh : g = true) => Twice2_yes t rr q o a b c d a' b' c' d' w I t1 t2 (hg.trans hh))
  have NO := Lib.hid (fun (t rr q o : Nat) (w : World) (I : TwIn t rr q o a b c d a' b' c' d' w) (hh : g = false) => Twice2_no t rr q o a b c d a' b' c' d' w I t1 t2 (hg.trans hh))
  rw [← e1, ← e2, ← e3, ← e4] at YES
  have HR := Lib.hid hr
  clear h hg e1 e2 e3 e4 t1 t2 hr
  go_enter Tryz.func18, Tryz.ntmps18
  go_wp2_with fail
  go_loopw [16] (fun i wr => ∃ k : Nat, k ≤ 2 ∧ i = .int .i64 k ∧ Gr ((((w.alloc (Obj.cells #[.int .i64 a, .int .i64 b, .int .i64 c, .int .i64 d] 43)).alloc (Obj.cells #[.int .i64 a', .int .i64 b', .int .i64 c', .int .i64 d'] 43)).alloc (Obj.cells #[.int .i64 0, .int .i64 0, .int .i64 0, .int .i64 0] 43)).alloc (Obj.cells #[.int .i64 a, .int .i64 b, .int .i64 c, .int .i64 d, .int .i64 a', .int .i64 b', .int .i64 c', .int .i64 d'] 43)) wr) (fun i _ => 2 - (intOf i).toNat)
  case atStart => exact ⟨0, by omega, rfl, Gr.refl _⟩
  case round =>
    obtain ⟨k, hk, rfl, hw⟩ := hrel
    obtain ⟨hc, hf, hz⟩ := hw.at (n := w.heap.size + 4) (by first | (simp; done) | (simp; omega) | omega)
    have hz' : w.heap.size + 3 < wr.heap.size := by omega
    rcases (show k = 0 ∨ k = 1 ∨ k = 2 by omega) with rfl | rfl | rfl
    · clear C2 YES NO
      go_wp2_with fail
      refine (C1.out _).mono ?_
      rintro e w1 ⟨rfl, hg1⟩
      rw [show Rm.err true 1 = 0 from rfl]
      go_wp2
      go_roundw
      case rel => exact ⟨1, by omega, by go_num, (by repeat (first | exact Gr.refl _ | assumption | refine Gr.alloc ?_ _ | refine Gr.drew ?_ | refine Gr.drewN ?_ _ | refine Gr.set ?_ _ _ (by first | (simp; done) | (simp; omega)) | refine Gr.trans ?_ (by assumption)))⟩
      case measure => simp [intOf]
    · clear C1 YES NO
      go_wp2_with fail
      refine (C2.out _).mono ?_
      rintro e w1 ⟨rfl, hg1⟩
      rw [show Rm.err true 1 = 0 from rfl]
      go_wp2
      go_roundw
      case rel => exact ⟨2, by omega, by go_num, (by repeat (first | exact Gr.refl _ | assumption | refine Gr.alloc ?_ _ | refine Gr.drew ?_ | refine Gr.drewN ?_ _ | refine Gr.set ?_ _ _ (by first | (simp; done) | (simp; omega)) | refine Gr.trans ?_ (by assumption)))⟩
      case measure => simp [intOf]
    · clear C1 C2
      have mr : MB w.heap.size a b c d wr := ⟨by rw [hc _ _ (by omega)]; simp [go_sem], by rw [hc _ _ (by omega)]; simp [go_sem], by rw [hc _ _ (by omega)]; simp [go_sem], by rw [hc _ _ (by omega)]; simp [go_sem]⟩
      have mq : MB (w.heap.size + 1) a' b' c' d' wr := ⟨by rw [hc _ _ (by omega)]; simp [go_sem], by rw [hc _ _ (by omega)]; simp [go_sem], by rw [hc _ _ (by omega)]; simp [go_sem], by rw [hc _ _ (by omega)]; simp [go_sem]⟩
      go_wp2_with fail
      have hX : TwIn (wr.heap.size + 1) w.heap.size (w.heap.size + 1) wr.heap.size a b c d a' b' c' d' (((wr.alloc (Obj.cells #[.int .i64 0, .int .i64 0, .int .i64 0, .int .i64 0] 43)).alloc (Obj.cells #[.func (.func 49) #[] #[]] 87)).alloc (.cells #[.int .i64 0] 25)) :=
        ⟨by simp [go_sem], mr.gr (by repeat (first | exact Gr.refl _ | assumption | refine Gr.alloc ?_ _ | refine Gr.drew ?_ | refine Gr.drewN ?_ _ | refine Gr.set ?_ _ _ (by first | (simp; done) | (simp; omega)) | refine Gr.trans ?_ (by assumption))), mq.gr (by repeat (first | exact Gr.refl _ | assumption | refine Gr.alloc ?_ _ | refine Gr.drew ?_ | refine Gr.drewN ?_ _ | refine Gr.set ?_ _ _ (by first | (simp; done) | (simp; omega)) | refine Gr.trans ?_ (by assumption))), Gr.heap (((Gr.refl _).alloc _).alloc _) (heap_alloc_self wr _)⟩
      clear mr mq
      cases g
      · refine (tried_no 51 _ [wr.heap.size] 10 _ (by simp; omega) (enters_of Tryz.func51 (by kernel_rfl) rfl) (NO.out _ _ _ _ _ hX rfl)).mono ?_
        rintro e w1 ⟨rfl, hg1⟩
        clear YES NO hX
        have hgw : GrL [wr.heap.size] wr w1 := (GrL.of_gr (((Gr.refl wr).alloc _).alloc _)).trans hg1
        obtain ⟨hcw, hfw, hzw⟩ := hgw.at (n := w.heap.size + 3) (by omega)
        have s0 : ∀ o, w1.cell? ⟨w.heap.size + 1 + 1, o, none⟩ = wr.cell? ⟨w.heap.size + 1 + 1, o, none⟩ := fun o => hcw _ _ (by omega) (by simp; omega)
        have sf : ∀ o, w1.frozen? ⟨w.heap.size + 1 + 1, o, none⟩ = wr.frozen? ⟨w.heap.size + 1 + 1, o, none⟩ := fun o => hfw _ _ (by omega) (by simp; omega)
        have gfin : Gr w w1 := GrL.gr (l := [wr.heap.size]) (w1 := wr) (by repeat (first | exact Gr.refl _ | assumption | refine Gr.alloc ?_ _ | refine Gr.drew ?_ | refine Gr.drewN ?_ _ | refine Gr.set ?_ _ _ (by first | (simp; done) | (simp; omega)) | refine Gr.trans ?_ (by assumption))) hgw (by simp; omega)
        have r0 : ∀ o, wr.cell? ⟨w.heap.size + 1 + 1, o, none⟩ = (#[Value.int .i64 0, .int .i64 0, .int .i64 0, .int .i64 0] : Array Value)[o]? := fun o => by rw [hc _ _ (by omega)]; simp [go_sem]
        have rf : ∀ o, wr.frozen? ⟨w.heap.size + 1 + 1, o, none⟩ = false := fun o => by rw [hf _ _ (by omega)]; simp [go_sem]
        have z3 : w.heap.size + 1 + 1 < w1.heap.size := by omega
        clear hc hf hcw hfw
        go_wp2
        exact bodyPost_ret (v := .tuple #[ru 0 0 0 0, .int .i64 10]) (by simp [results, Tryz.results18, go_sem, *]) rfl ⟨by rw [HR.out]; rfl, (by repeat (first | exact Gr.refl _ | assumption | refine Gr.alloc ?_ _ | refine Gr.drew ?_ | refine Gr.drewN ?_ _ | refine Gr.set ?_ _ _ (by first | (simp; done) | (simp; omega)) | refine Gr.trans ?_ (by assumption)))⟩
      · refine (tried_ok 51 _ [wr.heap.size] _ _ (by simp; omega) (enters_of Tryz.func51 (by kernel_rfl) rfl) (YES.out _ _ _ _ _ hX rfl)).mono ?_
        rintro e w1 ⟨rfl, hg1, w0, hq, hg2⟩
        have ho : w1.heap[wr.heap.size]? = some (.cells #[.int .i64 N, .int .i64 D, .int .i64 N', .int .i64 D'] 43 (0, 0)) := (hg2.block _ (heap_lt hq) (by simp; omega)).trans hq
        obtain ⟨oc, of, oz⟩ := blk_cells ho
        clear YES NO hX hq hg2 ho
        have hgw : GrL [wr.heap.size] wr w1 := (GrL.of_gr (((Gr.refl wr).alloc _).alloc _)).trans hg1
        obtain ⟨hcw, hfw, hzw⟩ := hgw.at (n := w.heap.size + 3) (by omega)
        have s0 : ∀ o, w1.cell? ⟨w.heap.size + 1 + 1, o, none⟩ = wr.cell? ⟨w.heap.size + 1 + 1, o, none⟩ := fun o => hcw _ _ (by omega) (by simp; omega)
        have sf : ∀ o, w1.frozen? ⟨w.heap.size + 1 + 1, o, none⟩ = wr.frozen? ⟨w.heap.size + 1 + 1, o, none⟩ := fun o => hfw _ _ (by omega) (by simp; omega)
        have gfin : Gr w w1 := GrL.gr (l := [wr.heap.size]) (w1 := wr) (by repeat (first | exact Gr.refl _ | assumption | refine Gr.alloc ?_ _ | refine Gr.drew ?_ | refine Gr.drewN ?_ _ | refine Gr.set ?_ _ _ (by first | (simp; done) | (simp; omega)) | refine Gr.trans ?_ (by assumption))) hgw (by simp; omega)
        have r0 : ∀ o, wr.cell? ⟨w.heap.size + 1 + 1, o, none⟩ = (#[Value.int .i64 0, .int .i64 0, .int .i64 0, .int .i64 0] : Array Value)[o]? := fun o => by rw [hc _ _ (by omega)]; simp [go_sem]
        have rf : ∀ o, wr.frozen? ⟨w.heap.size + 1 + 1, o, none⟩ = false := fun o => by rw [hf _ _ (by omega)]; simp [go_sem]
        have z3 : w.heap.size + 1 + 1 < w1.heap.size := by omega
        clear hc hf hcw hfw
        go_wp2
        exact bodyPost_ret (v := .tuple #[ru N D N' D', .int .i64 0]) (by simp [results, Tryz.results18, go_sem, *]) rfl ⟨by rw [HR.out]; rfl, (by repeat (first | exact Gr.refl _ | assumption | refine Gr.alloc ?_ _ | refine Gr.drew ?_ | refine Gr.drewN ?_ _ | refine Gr.set ?_ _ _ (by first | (simp; done) | (simp; omega)) | refine Gr.trans ?_ (by assumption)))⟩
def twE (a b c d a' b' c' d' : Int) : Int := if ruOk a b c d && ruOk a' b' c' d' then (if twG a b c d a' b' c' d' then 0 else 10) else 1
def twV (a b c d a' b' c' d' x : Int) : Int := if ruOk a b c d && ruOk a' b' c' d' && twG a b c d a' b' c' d' then x else 0
theorem Twice_any (a b c d a' b' c' d' : Int) (w : World) :
    Calls Tryz.prog 18 #[ru a b c d, ru a' b' c' d'] w fun e w' => e = .returned (.tuple #[ru (twV a b c d a' b' c' d' (tw1 a b c d a' b' c' d')) (twV a b c d a' b' c' d' (tw2 a b c d a' b' c' d')) (twV a b c d a' b' c' d' (tw3 a b c d a' b' c' d')) (twV a b c d a' b' c' d' (tw4 a b c d a' b' c' d')), .int .i64 (twE a b c d a' b' c' d')]) ∧ Gr w w' := by
  cases h : (ruOk a b c d && ruOk a' b' c' d')
  · have e1 : twE a b c d a' b' c' d' = 1 := by simp only [twE, h]; rfl
    have e2 : ∀ x, twV a b c d a' b' c' d' x = 0 := fun x => by simp only [twV, h]; rfl
    rw [e1, e2, e2, e2, e2]
    exact Twice_bad a b c d a' b' c' d' w h
  · cases g : twG a b c d a' b' c' d'
    · have e1 : twE a b c d a' b' c' d' = 10 := by simp only [twE, h, g]; rfl
      have e2 : ∀ x, twV a b c d a' b' c' d' x = 0 := fun x => by simp only [twV, h, g]; rfl
      rw [e1, e2, e2, e2, e2]
      exact Twice_good a b c d a' b' c' d' w h false g _ _ _ _ rfl rfl rfl rfl _ rfl
    · have e1 : twE a b c d a' b' c' d' = 0 := by simp only [twE, h, g]; rfl
      have e2 : ∀ x, twV a b c d a' b' c' d' x = x := fun x => by simp only [twV, h, g]; rfl
      rw [e1, e2, e2, e2, e2]
      exact Twice_good a b c d a' b' c' d' w h true g _ _ _ _ rfl rfl rfl rfl _ rfl
end Go.Proofs.YtconhikflghkdaaGreatDoor
