/- rule/near.go: simplest, ranged, Simplest. -/
import Derived.Test.YtconhikflghkdaaGreatDoorRef2
import Derived.Test.YtconhikflghkdaaGreatDoorMath
import Derived.Laws.AppendOwn
import Derived.Deep.DeepCutAuto
namespace Go.Proofs.YtconhikflghkdaaGreatDoor
open Go.RowKit Go.Shelf
/-- a call returns the simplest fraction of the range -/
def SimR (ln ld hn hd : Int) (w : World) (e : Ending) (w' : World) : Prop := ∃ xn xd : Int, Rm.PS ln ld hn hd xn xd ∧ e = .returned (fr xn xd) ∧ Gr w w'
theorem SimR.mk {ln ld hn hd xn xd : Int} {w w' : World} (h : Rm.PS ln ld hn hd xn xd) (g : Gr w w') : SimR ln ld hn hd w (.returned (fr xn xd)) w' := ⟨xn, xd, h, rfl, g⟩
set_option maxRecDepth 100000 in
set_option maxHeartbeats 2000000 in
theorem simplest_pos (k : Nat) : ∀ (ln ld hn hd : Int) (w : World), (ld + hd).toNat ≤ k → 1 ≤ ln → ln ≤ 1000000000 → 1 ≤ ld → ld ≤ 1000000000 → 1 ≤ hn → hn ≤ 1000000000 → 1 ≤ hd → hd ≤ 1000000000 → Int.gcd ln ld = 1 → Int.gcd hn hd = 1 → ln*hd ≤ hn*ld →
    Calls Tryz.prog 33 #[fr ln ld, fr hn hd] w (SimR ln ld hn hd w) := by
  induction k with
  | zero => intro ln ld hn hd w hk _ _ _ _ _ _ _ _; omega
  | succ k ih =>
    intro ln ld hn hd w hk a1 a2 a3 a4 a5 a6 a7 a8 hg hgh hr
    have f1 := @Rm.fl_le ln ld a3
    have f2 := @Rm.lt_fl ln ld a3
    have f0 : 0 ≤ Rm.fl ln ld := Rm.le_fl a3 (by omega)
    have fb : Rm.fl ln ld ≤ ln := by
      have : Rm.fl ln ld * 1 ≤ Rm.fl ln ld * ld := Int.mul_le_mul_of_nonneg_left a3 f0
      omega
    generalize hf : Rm.fl ln ld = f at *
    have fh1 : 0 ≤ f*hd := Int.mul_nonneg f0 (by omega)
    have fh2 : (f+1)*hd = f*hd + hd := by grind
    have fh3 : f*hd ≤ 1000000000000000000 := (@Rm.mul_bound f hd 1000000000 1000000000 (by omega) (by omega) (by omega) (by omega) (by omega)).2
    have fh4 : 0 ≤ (f+1)*hd := by omega
    have fh5 : (f+1)*hd ≤ 1000000001000000000 := by omega
    have fl1 : 0 ≤ f*ld := Int.mul_nonneg f0 (by omega)
    have fl2 : f*ld ≤ 1000000000 := by omega
    have FL : Hid (∀ w, Calls Tryz.prog 63 #[fr ln ld] w fun e w' => e = .returned (.int .i64 f) ∧ Gr w w') := Lib.hid (fun w => by
      have := floor_any ln ld w a3 (by omega) (by omega) (by omega)
      rwa [hf] at this)
    by_cases h1 : f*ld = ln
    · -- low is whole
      have hd1 : ld = 1 := Rm.rd_one a3 hg h1
      subst hd1
      have P := Lib.hid (@Rm.PS.low ln hn hd (by omega) (by omega))
      have hb : (f * 1 == ln) = true := beq_iff_eq.2 h1
      have e1 : f = ln := by omega
      subst e1
      clear ih hf h1 hb f1 f2 fh2 fh3 fh4 fh5 fh1 fl1 fl2 fb hg hgh hr hk
      have hb : (f * 1 == f) = true := by simp
      go_enter Tryz.func33, Tryz.ntmps33
      go_wp2_with fail
      refine (FL.out _).mono ?_
      rintro e w1 ⟨rfl, hg1⟩
      obtain ⟨hc1, hf1, hz1⟩ := hg1.at (n := w.heap.size + 3) (by first | (simp; done) | (simp; omega) | omega)
      go_wp2
      exact bodyPost_ret (v := fr f 1) (by simp [results, Tryz.results33, go_sem, hc1]) rfl (SimR.mk P.out (by repeat (first | exact Gr.refl _ | assumption | refine Gr.alloc ?_ _ | refine Gr.drew ?_ | refine Gr.drewN ?_ _ | refine Gr.set ?_ _ _ (by first | (simp; done) | (simp; omega)) | refine Gr.trans ?_ (by assumption))))
    · have hb : (f * ld == ln) = false := beq_eq_false_iff_ne.2 h1
      by_cases h2 : (f+1)*hd ≤ hn
      · have P := Lib.hid (@Rm.PS.next ln ld hn hd f a3 f0 (by omega) (by omega) h2)
        clear ih hf h1 f1 f2 fh2 hg hgh hr hk
        go_enter Tryz.func33, Tryz.ntmps33
        go_wp2_with fail
        refine (FL.out _).mono ?_
        rintro e w1 ⟨rfl, hg1⟩
        obtain ⟨hc1, hf1, hz1⟩ := hg1.at (n := w.heap.size + 3) (by first | (simp; done) | (simp; omega) | omega)
        go_wp2
        exact bodyPost_ret (v := fr (f+1) 1) (by simp [results, Tryz.results33, go_sem, hc1]) rfl (SimR.mk P.out (by repeat (first | exact Gr.refl _ | assumption | refine Gr.alloc ?_ _ | refine Gr.drew ?_ | refine Gr.drewN ?_ _ | refine Gr.set ?_ _ _ (by first | (simp; done) | (simp; omega)) | refine Gr.trans ?_ (by assumption))))
      · have q1 : 1 ≤ ln - f*ld := by omega
        have q2 : ln - f*ld < ld := by
          have : (f+1)*ld = f*ld + ld := by grind
          omega
        have q3 : 1 ≤ hn - f*hd := by
          have : 0 < (hn - f*hd)*ld := by
            have : 0 < (ln - f*ld)*hd := Int.mul_pos (by omega) (by omega)
            grind
          have := Rm.posl this (by omega)
          omega
        have q4 : hn - f*hd < hd := by omega
        have q5 : hd*(ln - f*ld) ≤ ld*(hn - f*hd) := by grind
        have q6 : Int.gcd hd (hn - f*hd) = 1 := by rw [Rm.gcd_step]; exact hgh
        have q7 : Int.gcd ld (ln - f*ld) = 1 := by rw [Rm.gcd_step]; exact hg
        have IH := Lib.hid (fun w => ih hd (hn - f*hd) ld (ln - f*ld) w (by omega) (by omega) (by omega) q3 (by omega) (by omega) (by omega) q1 (by omega) q6 q7 q5)
        have ST := Lib.hid (fun xn xd (h : Rm.PS hd (hn - f*hd) ld (ln - f*ld) xn xd) => @Rm.PS.step ln ld hn hd f xn xd a3 a7 f0 (by omega) hr h)
        have HR := Lib.hid hr
        have h2' : hn < (f+1)*hd := by omega
        clear ih hf h1 h2 f1 f2 fh2 hg hgh hr hk q4 q5 q6 q7
        go_enter Tryz.func33, Tryz.ntmps33
        go_wp2_with fail
        refine (FL.out _).mono ?_
        rintro e w1 ⟨rfl, hg1⟩
        obtain ⟨hc1, hf1, hz1⟩ := hg1.at (n := w.heap.size + 3) (by first | (simp; done) | (simp; omega) | omega)
        go_wp2_with fail
        refine (IH.out _).mono ?_
        rintro e w2 ⟨xn, xd, hp, rfl, hg2⟩
        obtain ⟨hc2, hf2, hz2⟩ := hg2.at (n := w.heap.size + 3) (by first | (simp; done) | (simp; omega) | omega)
        have P := ST.out xn xd hp
        have hx1 : 1 ≤ xn := P.d1
        have hxd : 1 ≤ xd := hp.d1
        obtain ⟨le1, le2⟩ := P.le_low a3 HR.out
        have hfx : 0 ≤ f*xn := Int.mul_nonneg f0 (by omega)
        have hb1 : f*xn + xd ≤ 1000000000 := by omega
        have hb2 : xn ≤ 1000000000 := by omega
        have P := Lib.hid P
        clear hp le1 le2 IH ST HR
        have z2 : w.heap.size + 2 < w2.heap.size := by omega
        go_wp2
        exact bodyPost_ret (v := fr (f*xn + xd) xn) (by simp [results, Tryz.results33, go_sem, hc1, hc2, z2]) rfl (SimR.mk P.out (by repeat (first | exact Gr.refl _ | assumption | refine Gr.alloc ?_ _ | refine Gr.drew ?_ | refine Gr.drewN ?_ _ | refine Gr.set ?_ _ _ (by first | (simp; done) | (simp; omega)) | refine Gr.trans ?_ (by assumption))))
set_option maxRecDepth 100000 in
set_option maxHeartbeats 2000000 in
theorem simplest_any (ln ld hn hd : Int) (w : World) (a1 : -1000000000 ≤ ln) (a2 : ln ≤ 1000000000) (a3 : 1 ≤ ld) (a4 : ld ≤ 1000000000) (a5 : -1000000000 ≤ hn) (a6 : hn ≤ 1000000000) (a7 : 1 ≤ hd) (a8 : hd ≤ 1000000000)
    (hg : Int.gcd ln ld = 1) (hgh : Int.gcd hn hd = 1) (hr : ln*hd ≤ hn*ld) :
    Calls Tryz.prog 33 #[fr ln ld, fr hn hd] w (SimR ln ld hn hd w) := by
  by_cases h0 : 1 ≤ ln
  · have : 1 ≤ hn := by
      have : 0 < ln*hd := Int.mul_pos (by omega) (by omega)
      have : 0 < hn*ld := by omega
      have := Rm.posl this (by omega)
      omega
    exact simplest_pos _ ln ld hn hd w (Nat.le_refl _) h0 a2 a3 a4 this a6 a7 a8 hg hgh hr
  · by_cases h1 : hn < 0
    · have q5 : -hn*ld ≤ -ln*hd := by simp only [Int.neg_mul]; omega
      have IH := Lib.hid (fun w => simplest_pos _ (-hn) hd (-ln) ld w (Nat.le_refl _) (by omega) (by omega) (by omega) a8 (by
          have : ln < 0 := by
            have : hn*ld < 0*ld := Int.mul_lt_mul_of_pos_right h1 (by omega)
            have : ln*hd < 0*hd := by omega
            exact Rm.ltmul this (by omega)
          omega) (by omega) a3 a4 (by rw [Int.neg_gcd]; exact hgh) (by rw [Int.neg_gcd]; exact hg) q5)
      have HR := Lib.hid q5
      clear hg hgh hr q5
      go_enter Tryz.func33, Tryz.ntmps33
      go_wp2_with fail
      refine (floor_any ln ld _ a3 (by omega) (by omega) (by omega)).mono ?_
      rintro e w1 ⟨rfl, hg1⟩
      obtain ⟨hc1, hf1, hz1⟩ := hg1.at (n := w.heap.size + 3) (by first | (simp; done) | (simp; omega) | omega)
      go_wp2_with fail
      refine (IH.out _).mono ?_
      rintro e w2 ⟨xn, xd, hp, rfl, hg2⟩
      obtain ⟨hc2, hf2, hz2⟩ := hg2.at (n := w.heap.size + 3) (by first | (simp; done) | (simp; omega) | omega)
      obtain ⟨le1, le2⟩ := hp.le_low a7 HR.out
      have hb1 : -1000000000 ≤ xn := by omega
      have hb2 : xn ≤ 1000000000 := by omega
      have P := Lib.hid hp.neg
      clear hp le1 le2 IH HR
      have z2 : w.heap.size + 2 < w2.heap.size := by omega
      go_wp2
      exact bodyPost_ret (v := fr (-xn) xd) (by simp [results, Tryz.results33, go_sem, hc1, hc2, z2]) rfl (SimR.mk P.out (by repeat (first | exact Gr.refl _ | assumption | refine Gr.alloc ?_ _ | refine Gr.drew ?_ | refine Gr.drewN ?_ _ | refine Gr.set ?_ _ _ (by first | (simp; done) | (simp; omega)) | refine Gr.trans ?_ (by assumption))))
    · have P := Lib.hid (@Rm.PS.zero ln ld hn hd (by omega) (by omega))
      clear hg hgh hr
      go_enter Tryz.func33, Tryz.ntmps33
      go_wp2_with fail
      refine (floor_any ln ld _ a3 (by omega) (by omega) (by omega)).mono ?_
      rintro e w1 ⟨rfl, hg1⟩
      obtain ⟨hc1, hf1, hz1⟩ := hg1.at (n := w.heap.size + 3) (by first | (simp; done) | (simp; omega) | omega)
      go_wp2
      exact bodyPost_ret (v := fr 0 1) (by simp [results, Tryz.results33, go_sem, hc1]) rfl (SimR.mk P.out (by repeat (first | exact Gr.refl _ | assumption | refine Gr.alloc ?_ _ | refine Gr.drew ?_ | refine Gr.drewN ?_ _ | refine Gr.set ?_ _ _ (by first | (simp; done) | (simp; omega)) | refine Gr.trans ?_ (by assumption))))
set_option maxHeartbeats 400000 in
theorem of_exact (a b : Int) (w : World) :
    Calls Tryz.prog 34 #[fr a b] w fun e w' => e = .returned (fr a b) ∧ (w.alloc (.cells #[.int .i64 a, .int .i64 b] 23)).alloc (.cells #[.int .i64 a, .int .i64 b] 65) = w' := by
  go_enter Tryz.func34, Tryz.ntmps34
  go_wp2
  exact bodyPost_ret (v := fr a b) (by simp [results, Tryz.results34, go_sem]) rfl ⟨rfl, rfl⟩
theorem simplest_fn (ln ld hn hd : Int) (w : World) (h : ok2 ln ld hn hd = true) (hr : ln*hd ≤ hn*ld) :
    Calls Tryz.prog 33 #[fr ln ld, fr hn hd] w fun e w' => e = .returned (fr (Rm.sim ln ld hn hd).1 (Rm.sim ln ld hn hd).2) ∧ Gr w w' := by
  obtain ⟨⟨x1, x2, x3, x4, x5⟩, ⟨y1, y2, y3, y4, y5⟩⟩ := ok2_parts h
  refine (simplest_any ln ld hn hd w x1 x2 x3 (by omega) y1 y2 y3 (by omega) x5 y5 hr).mono ?_
  rintro e w' ⟨xn, xd, hp, rfl, hg⟩
  obtain ⟨e1, e2⟩ := Rm.sim_eq x3 y3 x5 y5 hr hp
  rw [e1, e2]
  exact ⟨rfl, hg⟩
set_option maxHeartbeats 1000000 in
theorem ranged_none (a b c d : Int) (w : World) :
    Calls Tryz.prog 32 #[fr a b, fr c d, .slice none 0 0] w fun e w' => e = .returned (.int .i64 (rgE a b c d)) ∧ Gr w w' := by
  cases h : ok2 a b c d
  · have e1 : rgE a b c d = 1 := by simp [rgE, h]
    rw [e1]
    have hE := Lib.hid (Rm.err_false (e := 1) h)
    go_enter Tryz.func32, Tryz.ntmps32
    go_wp2_with fail
    refine (checked_two _ _ a b c d _ (by simp [go_sem]) (by simp [go_sem]) (by simp [go_sem]) (by simp [go_sem])).mono ?_
    rintro e w1 ⟨rfl, hg1⟩
    rw [hE.out]
    go_wp2
    go_ret
    exact ⟨rfl, (by repeat (first | exact Gr.refl _ | assumption | refine Gr.alloc ?_ _ | refine Gr.drew ?_ | refine Gr.drewN ?_ _ | refine Gr.set ?_ _ _ (by first | (simp; done) | (simp; omega)) | refine Gr.trans ?_ (by assumption)))⟩
  · have hE := Lib.hid (Rm.err_true (e := 1) h)
    obtain ⟨⟨x1, x2, x3, x4, _⟩, ⟨y1, y2, y3, y4, _⟩⟩ := ok2_parts h
    obtain ⟨u1, u2⟩ := Rm.nd_bound x1 x2 y3 y4
    obtain ⟨u3, u4⟩ := Rm.nd_bound y1 y2 x3 x4
    by_cases hs : 0 < a*d - c*b
    all_goals
      have HS : Hid (rgE a b c d = if 0 < a*d - c*b then 12 else 0) := Lib.hid (by unfold rgE; rw [if_pos h])
      have HT := Lib.hid hs
      go_enter Tryz.func32, Tryz.ntmps32
      go_wp2_with fail
      refine (checked_two _ _ a b c d _ (by simp [go_sem]) (by simp [go_sem]) (by simp [go_sem]) (by simp [go_sem])).mono ?_
      rintro e w1 ⟨rfl, hg1⟩
      rw [hE.out]
      obtain ⟨hc1, hf1, hz1⟩ := hg1.at (n := w.heap.size + 2) (by first | (simp; done) | (simp; omega) | omega)
      go_wp2_with fail
      go_region_held3 (fun w' => w'.cell? ⟨w.heap.size, 0, none⟩ = some (.int .i64 a) ∧ w'.cell? ⟨w.heap.size, 1, none⟩ = some (.int .i64 b) ∧ w'.cell? ⟨w.heap.size + 1, 0, none⟩ = some (.int .i64 c) ∧ w'.cell? ⟨w.heap.size + 1, 1, none⟩ = some (.int .i64 d))
        (first | go_keep)
        ((first
        | (go_at_call 34; refine (of_any _ _ _).mono ?_; rintro e v1 ⟨rfl, hg2⟩; obtain ⟨hc2, hf2, hz2⟩ := hg2.at (n := w.heap.size + 2) (by first | (simp; done) | (simp; omega) | omega))
        | (go_at_call 37; refine (cross_any _ _ _ _ _ (by omega) (by omega) (by omega) (by omega)).mono ?_; rintro e v2 ⟨rfl, hg3⟩; obtain ⟨hc3, hf3, hz3⟩ := hg3.at (n := w.heap.size + 2) (by first | (simp; done) | (simp; omega) | omega))))
      all_goals go_wp2
      all_goals go_ret
      all_goals exact ⟨by rw [HS.out]; first | (rw [if_pos HT.out]; rfl) | (rw [if_neg (Int.not_lt.2 HT.out)]; rfl), (by repeat (first | exact Gr.refl _ | assumption | refine Gr.alloc ?_ _ | refine Gr.drew ?_ | refine Gr.drewN ?_ _ | refine Gr.set ?_ _ _ (by first | (simp; done) | (simp; omega)) | refine Gr.trans ?_ (by assumption)))⟩
/-- what Simplest returns -/
def smN (a b c d : Int) : Int := if rgE a b c d = 0 then (Rm.sim a b c d).1 else 0
def smD (a b c d : Int) : Int := if rgE a b c d = 0 then (Rm.sim a b c d).2 else 0
theorem rgE_zero {a b c d : Int} (h : rgE a b c d = 0) : ok2 a b c d = true ∧ a*d ≤ c*b := by
  unfold rgE at h
  split at h
  · rename_i h1
    refine ⟨h1, ?_⟩
    split at h
    · omega
    · omega
  · omega
theorem two_set {v : World} {B : Nat} {x y : Int} {u0 u1 : Value} (h0 : v.cell? ⟨B, 0, none⟩ = some u0) (h1 : v.cell? ⟨B, 1, none⟩ = some u1) :
    ((v.setCell ⟨B, 0, none⟩ (.int .i64 x)).setCell ⟨B, 1, none⟩ (.int .i64 y)).cell? ⟨B, 0, none⟩ = some (.int .i64 x) ∧ ((v.setCell ⟨B, 0, none⟩ (.int .i64 x)).setCell ⟨B, 1, none⟩ (.int .i64 y)).cell? ⟨B, 1, none⟩ = some (.int .i64 y) := by
  simp [go_sem, h0, h1]
/-- a variable that lies in a new block of two numbers -/
structure NewTwo (w1 : World) (x y : Int) (g : Nat) (wx : World) : Prop where
  g0 : w1.heap.size ≤ g
  c0 : wx.cell? ⟨g, 0, none⟩ = some (.int .i64 x)
  c1 : wx.cell? ⟨g, 1, none⟩ = some (.int .i64 y)
  gr : Gr w1 wx
set_option maxRecDepth 100000 in
set_option maxHeartbeats 2000000 in
theorem Simplest_any (a b c d : Int) (w : World) :
    Calls Tryz.prog 10 #[fr a b, fr c d] w fun e w' => e = .returned (.tuple #[fr (smN a b c d) (smD a b c d), .int .i64 (rgE a b c d)]) ∧ Gr w w' := by
  by_cases h : rgE a b c d = 0
  · have e1 : smN a b c d = (Rm.sim a b c d).1 ∧ smD a b c d = (Rm.sim a b c d).2 := by simp [smN, smD, h]
    obtain ⟨h1, h2⟩ := rgE_zero h
    have SF := Lib.hid (fun w => simplest_fn a b c d w h1 h2)
    have RN := Lib.hid (fun w => h ▸ ranged_none a b c d w)
    rw [e1.1, e1.2, h]
    clear e1 h1 h2 h
    generalize (Rm.sim a b c d).1 = xn at *
    generalize (Rm.sim a b c d).2 = xd at *
    go_enter Tryz.func10, Tryz.ntmps10
    go_wp2_with fail
    refine (RN.out _).mono ?_
    rintro e w1 ⟨rfl, hg1⟩
    obtain ⟨hc1, hf1, hz1⟩ := hg1.at (n := w.heap.size + 3) (by first | (simp; done) | (simp; omega) | omega)
    have hS : w1.cell? ⟨w.heap.size, 0, none⟩ = some (.int .i64 a) ∧ w1.cell? ⟨w.heap.size, 1, none⟩ = some (.int .i64 b) ∧ w1.cell? ⟨w.heap.size + 1, 0, none⟩ = some (.int .i64 c) ∧ w1.cell? ⟨w.heap.size + 1, 1, none⟩ = some (.int .i64 d) := by
      refine ⟨?_, ?_, ?_, ?_⟩ <;> (rw [hc1 _ _ (by omega)]; simp [go_sem])
    have HS := Lib.hid hS
    clear hS
    go_upto_region 4 with (fail)
    go_cut [7] (fun s7 wx => ∃ g : Nat, s7 = .pointer (some ⟨g, 0, none⟩) ∧ NewTwo w1 xn xd g wx)
    case first =>
      have : ¬ w1.heap.size = w.heap.size := (by omega); have : ¬ w.heap.size = w1.heap.size := (by omega); have : w.heap.size < w1.heap.size := (by omega); have : w.heap.size ≤ w1.heap.size := (by omega); have : ¬ w1.heap.size = w.heap.size + 1 := (by omega); have : ¬ w.heap.size + 1 = w1.heap.size := (by omega); have : w.heap.size + 1 < w1.heap.size := (by omega); have : w.heap.size + 1 ≤ w1.heap.size := (by omega)
      go_region_held3 (fun w' => w'.cell? ⟨w.heap.size, 0, none⟩ = some (.int .i64 a) ∧ w'.cell? ⟨w.heap.size, 1, none⟩ = some (.int .i64 b) ∧ w'.cell? ⟨w.heap.size + 1, 0, none⟩ = some (.int .i64 c) ∧ w'.cell? ⟨w.heap.size + 1, 1, none⟩ = some (.int .i64 d))
        ((refine ⟨?_, ?_, ?_, ?_⟩ <;> (rw [(Gr.cells (W := w1) (by repeat (first | exact Gr.refl _ | assumption | refine Gr.alloc ?_ _ | refine Gr.drew ?_ | refine Gr.drewN ?_ _ | refine Gr.set ?_ _ _ (by first | (simp; done) | (simp; omega)) | refine Gr.trans ?_ (by assumption)))).1 _ _ (by omega)]; first | exact HS.out.1 | exact HS.out.2.1 | exact HS.out.2.2.1 | exact HS.out.2.2.2)))
        ((first
        | (go_at_call 34; refine (of_exact _ _ _).mono ?_; rintro e v1 ⟨rfl, rfl⟩)
        | (go_at_call 33; refine (SF.out _).mono ?_; rintro e v2 ⟨rfl, hg3⟩; obtain ⟨hd3, he3, hy3⟩ := hg3.cells)))
      all_goals (go_wp2_with fail; go_meet; exact ⟨_, rfl, by first | omega | (simp; omega) | (have := hg3.b.size; simp at this; omega), by first | exact (two_set (by rw [hd3 _ _ (by first | (simp; done) | (simp; omega) | omega)]; simp [go_sem]; rfl) (by rw [hd3 _ _ (by first | (simp; done) | (simp; omega) | omega)]; simp [go_sem]; rfl)).1 | (simp [go_sem]; done), by first | exact (two_set (by rw [hd3 _ _ (by first | (simp; done) | (simp; omega) | omega)]; simp [go_sem]; rfl) (by rw [hd3 _ _ (by first | (simp; done) | (simp; omega) | omega)]; simp [go_sem]; rfl)).2 | (simp [go_sem]; done), (by repeat (first | exact Gr.refl _ | assumption | refine Gr.alloc ?_ _ | refine Gr.drew ?_ | refine Gr.drewN ?_ _ | refine Gr.set ?_ _ _ (by first | (simp; done) | (simp; omega)) | refine Gr.trans ?_ (by assumption)))⟩)
    case rest =>
      obtain ⟨g, rfl, n1, n2, n3, n4⟩ := hcut
      have r0 : wc.cell? ⟨w.heap.size + 2, 0, none⟩ = some (.int .i64 0) := by rw [n4.cells.1 _ _ (by omega), hc1 _ _ (by omega)]; simp [go_sem]
      have r1 : wc.cell? ⟨w.heap.size + 2, 1, none⟩ = some (.int .i64 0) := by rw [n4.cells.1 _ _ (by omega), hc1 _ _ (by omega)]; simp [go_sem]
      have f0 : wc.frozen? ⟨w.heap.size + 2, 0, none⟩ = false := by rw [n4.cells.2.1 _ _ (by omega), hf1 _ _ (by omega)]; simp [go_sem]
      have f1 : wc.frozen? ⟨w.heap.size + 2, 1, none⟩ = false := by rw [n4.cells.2.1 _ _ (by omega), hf1 _ _ (by omega)]; simp [go_sem]
      go_wp2
      exact bodyPost_ret (v := .tuple #[fr xn xd, .int .i64 0]) (by simp [results, Tryz.results10, go_sem, r0, r1]) rfl ⟨rfl, (by repeat (first | exact Gr.refl _ | assumption | refine Gr.alloc ?_ _ | refine Gr.drew ?_ | refine Gr.drewN ?_ _ | refine Gr.set ?_ _ _ (by first | (simp; done) | (simp; omega)) | refine Gr.trans ?_ (by assumption)))⟩
  · have e1 : smN a b c d = 0 ∧ smD a b c d = 0 := by simp [smN, smD, h]
    have RN := Lib.hid (ranged_none a b c d)
    have hb : (rgE a b c d != 0) = true := by rw [bne_iff_ne]; exact h
    rw [e1.1, e1.2]
    clear e1 h
    generalize rgE a b c d = r at *
    go_enter Tryz.func10, Tryz.ntmps10
    go_wp2_with fail
    refine (RN.out _).mono ?_
    rintro e w1 ⟨rfl, hg1⟩
    obtain ⟨hc1, hf1, hz1⟩ := hg1.at (n := w.heap.size + 3) (by first | (simp; done) | (simp; omega) | omega)
    go_wp2
    exact bodyPost_ret (v := .tuple #[fr 0 0, .int .i64 r]) (by simp [results, Tryz.results10, go_sem, hc1]) rfl ⟨rfl, (by repeat (first | exact Gr.refl _ | assumption | refine Gr.alloc ?_ _ | refine Gr.drew ?_ | refine Gr.drewN ?_ _ | refine Gr.set ?_ _ _ (by first | (simp; done) | (simp; omega)) | refine Gr.trans ?_ (by assumption)))⟩
end Go.Proofs.YtconhikflghkdaaGreatDoor
