/- rule/near.go: around. -/
import Derived.Test.YtconhikflghkdaaGreatDoorFar
import Derived.Test.YtconhikflghkdaaGreatDoorMath
namespace Go.Proofs.YtconhikflghkdaaGreatDoor
open Go.RowKit Go.Shelf
/-- what the variables of around hold -/
structure ArI (n d m : Int) (w : World) (ln ld hn hd : Int) (wr : World) : Prop where
  gr : Gr w wr
  x0 : wr.cell? ⟨w.heap.size, 0, none⟩ = some (.int .i64 n)
  x1 : wr.cell? ⟨w.heap.size, 1, none⟩ = some (.int .i64 d)
  m0 : wr.cell? ⟨w.heap.size + 1, 0, none⟩ = some (.int .i64 m)
  l0 : wr.cell? ⟨w.heap.size + 1 + 1, 0, none⟩ = some (.int .i64 ln)
  l1 : wr.cell? ⟨w.heap.size + 1 + 1, 1, none⟩ = some (.int .i64 ld)
  h0 : wr.cell? ⟨w.heap.size + 1 + 1 + 1, 0, none⟩ = some (.int .i64 hn)
  h1 : wr.cell? ⟨w.heap.size + 1 + 1 + 1, 1, none⟩ = some (.int .i64 hd)
  lf0 : wr.frozen? ⟨w.heap.size + 1 + 1, 0, none⟩ = false
  lf1 : wr.frozen? ⟨w.heap.size + 1 + 1, 1, none⟩ = false
  hf0 : wr.frozen? ⟨w.heap.size + 1 + 1 + 1, 0, none⟩ = false
  hf1 : wr.frozen? ⟨w.heap.size + 1 + 1 + 1, 1, none⟩ = false
theorem ArI.step {n d m ln ld hn hd : Int} {w wr w1 : World} (h : ArI n d m w ln ld hn hd wr) (g : Gr wr w1) : ArI n d m w ln ld hn hd w1 := by
  have a := World.block_lt_of_cell? _ _ h.x0
  have b := World.block_lt_of_cell? _ _ h.m0
  have c := World.block_lt_of_cell? _ _ h.l0
  have e := World.block_lt_of_cell? _ _ h.h0
  obtain ⟨k1, k2, _⟩ := g.cells
  exact ⟨h.gr.trans g, (k1 _ _ a).trans h.x0, (k1 _ _ a).trans h.x1, (k1 _ _ b).trans h.m0, (k1 _ _ c).trans h.l0, (k1 _ _ c).trans h.l1, (k1 _ _ e).trans h.h0, (k1 _ _ e).trans h.h1,
    (k2 _ _ c).trans h.lf0, (k2 _ _ c).trans h.lf1, (k2 _ _ e).trans h.hf0, (k2 _ _ e).trans h.hf1⟩
theorem ArI.setL {n d m ln ld hn hd : Int} {w wr : World} (h : ArI n d m w ln ld hn hd wr) (x y : Int) : ArI n d m w x y hn hd ((wr.setCell ⟨w.heap.size + 1 + 1, 0, none⟩ (.int .i64 x)).setCell ⟨w.heap.size + 1 + 1, 1, none⟩ (.int .i64 y)) := by
  obtain ⟨gr, x0, x1, m0, l0, l1, h0, h1, lf0, lf1, hf0, hf1⟩ := h
  refine ⟨(gr.set _ _ (by simp; omega)).set _ _ (by simp; omega), ?_, ?_, ?_, ?_, ?_, ?_, ?_, ?_, ?_, ?_, ?_⟩ <;> simp [go_sem, *]
theorem ArI.setH {n d m ln ld hn hd : Int} {w wr : World} (h : ArI n d m w ln ld hn hd wr) (x y : Int) : ArI n d m w ln ld x y ((wr.setCell ⟨w.heap.size + 1 + 1 + 1, 0, none⟩ (.int .i64 x)).setCell ⟨w.heap.size + 1 + 1 + 1, 1, none⟩ (.int .i64 y)) := by
  obtain ⟨gr, x0, x1, m0, l0, l1, h0, h1, lf0, lf1, hf0, hf1⟩ := h
  refine ⟨(gr.set _ _ (by simp; omega)).set _ _ (by simp; omega), ?_, ?_, ?_, ?_, ?_, ?_, ?_, ?_, ?_, ?_, ?_⟩ <;> simp [go_sem, *]
theorem around_done {n d m ln ld hn hd K N : Int} (hK : K = 0) (hN : N = 0) (e : Rm.far (hn*d - n*hd) (n*(ld + K*hd) - (ln + K*hn)*d) (m - hd) (ld + K*hd) = N)
    (D : K = 0 → Rm.far (hn*d - n*hd) (n*ld - ln*d) (m - hd) ld = 0 → Rm.Brk n d m ln ld hn hd) : Rm.Brk n d m (ln + K*hn) (ld + K*hd) (hn + N*(ln + K*hn)) (hd + N*(ld + K*hd)) := by
  subst hK
  subst hN
  simp only [Int.zero_mul, Int.add_zero] at e ⊢
  exact D rfl e
set_option maxRecDepth 100000 in
set_option maxHeartbeats 4000000 in
theorem around_any (n d m : Int) (w : World) (h : Rm.okF n d = true) (h1 : 1 ≤ m) (hmd : m < d) :
    Calls Tryz.prog 65 #[fr n d, .int .i64 m] w fun e w' => e = .returned (.tuple #[fr (Rm.bkN n d m) (Rm.bkD n d m), fr (Rm.bhN n d m) (Rm.bhD n d m)]) ∧ Gr w w' := by
  obtain ⟨x1, x2, x3, x4, x5⟩ := Rm.okF_iff.1 h
  have hmf : ∀ (fn : Fn) (first cap : Array Value) (w : World), (Instr.makeFunc fn first cap).run Tryz.prog w = .ok (.func fn first cap) w := fun _ _ _ _ => rfl
  have AS0 := Rm.AS.start x5 h1 hmd
  have B0 := ABnd.of x1 x2 x4 hmd AS0
  have FL := Lib.hid (fun w => floor_any n d w x3 (by omega) (by omega) (by omega))
  have EQ := Lib.hid (fun an ad bn bd => @Rm.bk_eq n d m an ad bn bd x3 h1)
  have hm6 : m ≤ 1000000 := by omega
  have HB := Lib.hid (fun ln ld hn hd => @ABnd.of n d m ln ld hn hd x1 x2 x4 hmd)
  have HG := Lib.hid x5
  have HM := Lib.hid hmd
  have f1 := B0.f1
  have f2 := B0.f2
  have AS0 := Lib.hid AS0
  clear B0 x1 x2 x3 x4 x5 h
  generalize Rm.fl n d = f at *
  go_enter Tryz.func65, Tryz.ntmps65
  go_wp2_with fail
  go_step3
  go_wp2_with fail
  refine (FL.out _).mono ?_
  rintro e w1 ⟨rfl, hg1⟩
  obtain ⟨hc1, hf1, hz1⟩ := hg1.at (n := w.heap.size + 4) (by first | (simp; done) | (simp; omega) | omega)
  have I0 : ArI n d m w 0 0 0 0 w1 := by
    refine ⟨(by repeat (first | exact Gr.refl _ | assumption | refine Gr.alloc ?_ _ | refine Gr.drew ?_ | refine Gr.drewN ?_ _ | refine Gr.set ?_ _ _ (by first | (simp; done) | (simp; omega)) | refine Gr.trans ?_ (by assumption))), ?_, ?_, ?_, ?_, ?_, ?_, ?_, ?_, ?_, ?_, ?_⟩ <;> (first | rw [hc1 _ _ (by omega)] | rw [hf1 _ _ (by omega)]) <;> simp [go_sem]
  have I1 := (I0.setL f 1).setH (f+1) 1
  obtain ⟨_, i1, i2, i3, i4, i5, i6, i7, i8, i9, i10, i11⟩ := I0
  clear hc1 hf1
  go_wp2_with fail
  go_step3
  go_wp2_with fail
  go_loopg [7] ((2*m).toNat) (fun kx _s7 wr => ∃ ln ld hn hd : Int, ArI n d m w ln ld hn hd wr ∧ Hid (Rm.AS n d m ln ld hn hd) ∧ (2*m - ld - hd).toNat ≤ kx)
  case atStart => exact ⟨f, 1, f+1, 1, I1, AS0, by omega⟩
  case round =>
    obtain ⟨ln, ld, hn, hd, I, hA, hme⟩ := hrel
    clear I1 AS0 i1 i2 i3 i4 i5 i6 i7 i8 i9 i10 i11
    have A := hA.out
    have B := HB.out _ _ _ _ A
    have FA := Lib.hid (far_low w.heap.size (w.heap.size+1) n d m ln ld hn hd wr I.x0 I.x1 I.m0 hm6 B A)
    have k0 : 0 ≤ Rm.far (n*ld - ln*d) (hn*d - n*hd) (m - ld) hd := Rm.far_nonneg (by have := A.ll; omega) (by have := A.hh; omega) (by have := A.lm; omega) A.h1
    have k1 := @Rm.far_le1 (n*ld - ln*d) (hn*d - n*hd) (m - ld) hd (by have := A.ll; omega) (by have := A.hh; omega) (by have := A.lm; omega) A.h1
    have k2 := @Rm.far_le2 (n*ld - ln*d) (hn*d - n*hd) (m - ld) hd (by have := A.ll; omega) (by have := A.hh; omega) (by have := A.lm; omega) A.h1
    have A2 := A.low HG.out HM.out k0 k1 k2
    have DN := Lib.hid (A.done HM.out)
    generalize hK : Rm.far (n*ld - ln*d) (hn*d - n*hd) (m - ld) hd = K at *
    have B2 := HB.out _ _ _ _ A2
    have FB := Lib.hid (fun W px py pm => far_high w.heap.size (w.heap.size+1) n d m (ln + K*hn) (ld + K*hd) hn hd W px py pm hm6 B2 A2)
    have k3 := Rm.far_nonneg (A := hn*d - n*hd) (B := n*(ld + K*hd) - (ln + K*hn)*d) (M := m - hd) (h := ld + K*hd) (by have := A.hh; omega) (by have := A2.ll; omega) (by have := A.hm; omega) A2.l1
    have k4 := Rm.far_le1 (A := hn*d - n*hd) (B := n*(ld + K*hd) - (ln + K*hn)*d) (M := m - hd) (h := ld + K*hd) (by have := A.hh; omega) (by have := A2.ll; omega) (by have := A.hm; omega) A2.l1
    have k5 := Rm.far_le2 (A := hn*d - n*hd) (B := n*(ld + K*hd) - (ln + K*hn)*d) (M := m - hd) (h := ld + K*hd) (by have := A.hh; omega) (by have := A2.ll; omega) (by have := A.hm; omega) A2.l1
    have A3 := A2.high HG.out HM.out k3 k4 k5
    generalize hN : Rm.far (hn*d - n*hd) (n*(ld + K*hd) - (ln + K*hn)*d) (m - hd) (ld + K*hd) = N at *
    have B3 := HB.out _ _ _ _ A3
    have z1 := A.h1
    have z2 := A2.l1
    have z3 := A.lm
    have z4 := A.hm
    have z5 := A.l1
    have K1 : K*1 ≤ K*hd := Int.mul_le_mul_of_nonneg_left z1 k0
    have N1 : N*1 ≤ N*(ld + K*hd) := Int.mul_le_mul_of_nonneg_left z2 k3
    have z6 := A2.lm
    have z7 := A3.hm
    obtain ⟨_, _, _, _, _, _, _, _, p1, p2, p3, p4⟩ := B
    obtain ⟨_, _, _, _, _, _, _, _, p5, p6, _, _⟩ := B2
    obtain ⟨_, _, _, _, _, _, _, _, _, _, p7, p8⟩ := B3
    have A3 := Lib.hid A3
    have HKz := Lib.hid hK
    have HNz := Lib.hid hN
    have hK0 : 0 ≤ K := k0
    have hN0 : 0 ≤ N := k3
    clear A A2 hK hN k0 k1 k2 k3 k4 k5 hA
    obtain ⟨_, x0, x1, m0, l0, l1, h0, h1', lf0, lf1, hf0, hf1⟩ := id I
    by_cases hk : K = 0
    · have hkb : (K == 0) = true := beq_iff_eq.2 hk
      have HK0 := Lib.hid hk
      by_cases hn0 : N = 0
      · have hnb : (N == 0) = true := beq_iff_eq.2 hn0
        have HN0 := Lib.hid hn0
        clear hk hn0
        go_wp2_with fail
        refine FA.out.mono ?_
        rintro e w2 ⟨rfl, hg2⟩
        have I2 := I.step hg2
        have I3 := I2.setL (ln + K*hn) (ld + K*hd)
        clear x0 x1 m0 l0 l1 h0 h1' lf0 lf1 hf0 hf1
        obtain ⟨_, x0, x1, m0, l0, l1, h0, h1', lf0, lf1, hf0, hf1⟩ := I2
        go_wp2_with fail
        refine (FB.out _ I3.x0 I3.x1 I3.m0).mono ?_
        rintro e w3 ⟨rfl, hg3⟩
        have I4 := I3.step hg3
        have I5 := I4.setH (hn + N*(ln + K*hn)) (hd + N*(ld + K*hd))
        clear x0 x1 m0 l0 l1 h0 h1' lf0 lf1 hf0 hf1 I3
        obtain ⟨_, x0, x1, m0, l0, l1, h0, h1', lf0, lf1, hf0, hf1⟩ := I4
        go_wp2
        go_region
        all_goals (try go_wp2)
        rw [Exit.noGoto_ret]
        obtain ⟨q1, q2, q3, q4⟩ := EQ.out _ _ _ _ (around_done HK0.out HN0.out HNz.out DN.out)
        obtain ⟨gr, _, _, _, y0, y1, y2, y3, _, _, _, _⟩ := (I5.setL (ln + K*hn) (ld + K*hd)).setH (hn + N*(ln + K*hn)) (hd + N*(ld + K*hd))
        exact bodyPost_ret (v := .tuple #[fr (ln + K*hn) (ld + K*hd), fr (hn + N*(ln + K*hn)) (hd + N*(ld + K*hd))]) (by simp [results, Tryz.results65, go_sem, y0, y1, y2, y3]) rfl ⟨by rw [q1, q2, q3, q4], gr.drew⟩
      · have hnb : (N == 0) = false := beq_eq_false_iff_ne.2 hn0
        have hme2 : (2*m - (ld + K*hd) - (hd + N*(ld + K*hd))).toNat < (2*m - ld - hd).toNat := by
          have : K*hd = 0 := by rw [hk]; omega
          omega
        clear hk hn0
        go_wp2_with fail
        refine FA.out.mono ?_
        rintro e w2 ⟨rfl, hg2⟩
        have I2 := I.step hg2
        have I3 := I2.setL (ln + K*hn) (ld + K*hd)
        clear x0 x1 m0 l0 l1 h0 h1' lf0 lf1 hf0 hf1
        obtain ⟨_, x0, x1, m0, l0, l1, h0, h1', lf0, lf1, hf0, hf1⟩ := I2
        go_wp2_with fail
        refine (FB.out _ I3.x0 I3.x1 I3.m0).mono ?_
        rintro e w3 ⟨rfl, hg3⟩
        have I4 := I3.step hg3
        have I5 := I4.setH (hn + N*(ln + K*hn)) (hd + N*(ld + K*hd))
        clear x0 x1 m0 l0 l1 h0 h1' lf0 lf1 hf0 hf1 I3
        obtain ⟨_, x0, x1, m0, l0, l1, h0, h1', lf0, lf1, hf0, hf1⟩ := I4
        go_wp2
        go_roundg ((2*m - (ld + K*hd) - (hd + N*(ld + K*hd))).toNat)
        case rel => exact ⟨ln + K*hn, ld + K*hd, hn + N*(ln + K*hn), hd + N*(ld + K*hd), I5, A3, Nat.le_refl _⟩
        case measure => omega
    · have hkb : (K == 0) = false := beq_eq_false_iff_ne.2 hk
      have hme2 : (2*m - (ld + K*hd) - (hd + N*(ld + K*hd))).toNat < (2*m - ld - hd).toNat := by omega
      go_wp2_with fail
      refine FA.out.mono ?_
      rintro e w2 ⟨rfl, hg2⟩
      have I2 := I.step hg2
      have I3 := I2.setL (ln + K*hn) (ld + K*hd)
      clear x0 x1 m0 l0 l1 h0 h1' lf0 lf1 hf0 hf1
      obtain ⟨_, x0, x1, m0, l0, l1, h0, h1', lf0, lf1, hf0, hf1⟩ := I2
      go_wp2_with fail
      refine (FB.out _ I3.x0 I3.x1 I3.m0).mono ?_
      rintro e w3 ⟨rfl, hg3⟩
      have I4 := I3.step hg3
      have I5 := I4.setH (hn + N*(ln + K*hn)) (hd + N*(ld + K*hd))
      clear x0 x1 m0 l0 l1 h0 h1' lf0 lf1 hf0 hf1 I3
      obtain ⟨_, x0, x1, m0, l0, l1, h0, h1', lf0, lf1, hf0, hf1⟩ := I4
      go_wp2
      go_roundg ((2*m - (ld + K*hd) - (hd + N*(ld + K*hd))).toNat)
      case rel => exact ⟨ln + K*hn, ld + K*hd, hn + N*(ln + K*hn), hd + N*(ld + K*hd), I5, A3, Nat.le_refl _⟩
      case measure => omega
end Go.Proofs.YtconhikflghkdaaGreatDoor
