/- strickleref01: value, FromTerms, Terms, Convergents, Same, SameFracs. -/
import Derived.Test.YtconhikflghkdaaDoorFromT
import Derived.Test.YtconhikflghkdaaDoorRef2
import Derived.Test.YtconhikflghkdaaDoorConvs
namespace Go.Proofs.YtconhikflghkdaaDoor
open Go.RowKit Go.Shelf
/-- is no number on the way too great? -/
def vaOk (l : List Int) : Bool := decide ((Rm.back l).2 ≤ 1000000)
def vaN (l : List Int) : Int := if vaOk l then (Rm.back l).1 else 0
def vaD (l : List Int) : Int := if vaOk l then (Rm.back l).2 else 0
theorem bk_step {l : List Int} {k : Nat} (hk : k < l.length) : (Rm.back (l.drop k)).1 = l.getD k 0 * (Rm.back (l.drop (k+1))).1 + (Rm.back (l.drop (k+1))).2 ∧ (Rm.back (l.drop k)).2 = (Rm.back (l.drop (k+1))).1 := by
  rw [List.drop_eq_getElem_cons hk, Rm.getD_el hk]
  exact ⟨rfl, rfl⟩
/-- terms whose sums stay small -/
structure VaOk (l : List Int) (L : Nat) : Prop where
  len : l.length = L + 1
  big : L ≤ 39
  ent : ∀ k, k ≤ L → -1000000000 ≤ l.getD k 0 ∧ l.getD k 0 ≤ 1000000000
  pos : ∀ k, 1 ≤ k → 1 ≤ (Rm.back (l.drop k)).1 ∧ 0 ≤ (Rm.back (l.drop k)).2 ∧ (Rm.back (l.drop k)).1 ≤ (Rm.back l).2
theorem VaOk.of {a : Int} {t : List Int} (h1 : -1000000000 ≤ a) (h2 : a ≤ 1000000000) (h : Rm.later t) (hl : t.length ≤ 39) : VaOk (a :: t) t.length := by
  refine ⟨rfl, hl, fun k hk => ?_, fun k hk => ?_⟩
  · cases k with
    | zero => exact ⟨h1, h2⟩
    | succ k =>
      have hk' : k < t.length := by omega
      rw [List.getD_cons_succ, Rm.getD_el hk']
      have := h _ (List.getElem_mem hk')
      omega
  · obtain ⟨j, rfl⟩ : ∃ j, k = j + 1 := ⟨k - 1, by omega⟩
    rw [List.drop_succ_cons]
    have := Rm.back_pos (t.drop j) (fun x hx => h x (List.mem_of_mem_drop hx))
    exact ⟨this.1, this.2, Rm.back_drop t h j⟩
set_option maxRecDepth 100000 in
set_option maxHeartbeats 2000000 in
theorem rvalue_any (b off cap L : Nat) (l : List Int) (w : World) (hc : ∀ j, j < l.length → w.cell? ⟨b, off + j, none⟩ = some (.int .i64 (l.getD j 0))) (hv : VaOk l L) :
    Calls Tryd.prog 126 #[.slice (some ⟨b, off, none⟩) l.length cap] w fun e w' => e = .returned (.tuple #[.int .i64 (vaN l), .int .i64 (vaD l), .bool (vaOk l)]) ∧ w = w' := by
  have hL := hv.len
  have hL2 := hv.big
  have hlast := hc L (by omega)
  have ST := Lib.hid (fun k (hk : k < l.length) => bk_step hk)
  have EN := Lib.hid hv.ent
  have PO := Lib.hid hv.pos
  have b0 : (Rm.back (l.drop L)).1 = l.getD L 0 ∧ (Rm.back (l.drop L)).2 = 1 ∧ (Rm.back (l.drop (L+1))).1 = 1 := by
    have e : l.drop (L+1) = [] := List.drop_eq_nil_of_le (by omega)
    obtain ⟨s1, s2⟩ := bk_step (l := l) (k := L) (by omega)
    rw [e] at s1 s2 ⊢
    simp [Rm.back] at s1 s2 ⊢
    exact ⟨s1, s2⟩
  obtain ⟨xL, hxL⟩ : ∃ x, l.getD L 0 = x := ⟨_, rfl⟩
  rw [hxL] at hlast b0
  have B0 := Lib.hid b0
  have HC := Lib.hid hc
  have eB : l.drop 0 = l := rfl
  clear hv b0 hc hxL
  rw [hL]
  go_enter Tryd.func126, Tryd.ntmps126
  go_wp2
  go_loop [5, 6, 7] (fun p q i => ∃ k : Nat, k ≤ L ∧ p = .int .i64 (Rm.back (l.drop k)).1 ∧ q = .int .i64 (Rm.back (l.drop k)).2 ∧ i = .int .i64 ((k : Int) - 1) ∧ Hid ((Rm.back (l.drop (k+1))).1 ≤ 1000000)) (fun _ _ i => (intOf i + 1).toNat)
  case atStart =>
    exact ⟨L, by omega, by rw [B0.out.1], by rw [B0.out.2.1], by go_num, Lib.hid (by rw [B0.out.2.2]; omega)⟩
  case round =>
    obtain ⟨k, hk, rfl, rfl, rfl, hbig⟩ := hrel
    cases k with
    | zero =>
      have V : vaOk l = true := by
        have := ((ST.out 0 (by omega)).2).symm ▸ hbig.out
        simpa [vaOk, eB] using this
      rw [eB]
      have VV := Lib.hid V
      clear V
      go_wp2
      exact bodyPost_ret (v := .tuple #[.int .i64 (Rm.back l).1, .int .i64 (Rm.back l).2, .bool true]) (by simp [results, Tryd.results126, go_sem]) rfl ⟨by simp only [vaN, vaD, VV.out, if_true], rfl⟩
    | succ j =>
      obtain ⟨e1, e2⟩ := ST.out j (by omega)
      obtain ⟨n1, n2⟩ := EN.out j (by omega)
      obtain ⟨p1, p2, p3⟩ := PO.out (j+1) (by omega)
      have hx := HC.out j (by omega)
      have e3 := (ST.out (j+1) (by omega)).2
      generalize hx' : l.getD j 0 = x at *
      generalize hN : (Rm.back (l.drop (j+1))).1 = N at *
      generalize hD : (Rm.back (l.drop (j+1))).2 = D at *
      have hb1 := hbig.out
      rw [← e3] at hb1
      by_cases hbg : N ≤ 1000000
      · have bd := @Rm.mul_bound x N 1000000000 1000000 (by omega) n1 n2 (by omega) hbg
        have NX := Lib.hid (And.intro e1 (And.intro e2 hN))
        have q1 : IntKind.i64.wrap (x*N) = x*N := IntWalk.i64_in _ (by omega)
        have q2 : IntKind.i64.wrap (x*N + D) = x*N + D := IntWalk.i64_in _ (by omega)
        clear hN hD hx' e1 e2 e3 bd n1 n2
        go_wp2
        go_round
        case rel => exact ⟨j, by omega, by rw [NX.out.1], by rw [NX.out.2.1], rfl, Lib.hid (by rw [NX.out.2.2]; exact hbg)⟩
        case measure => simp only [intOf]; omega
      · have V : Hid (vaOk l = false) := Lib.hid (by simp [vaOk]; omega)
        clear hN hD hx' e1 e2 e3 n1 n2 hb1
        go_wp2
        exact bodyPost_ret (v := .tuple #[.int .i64 0, .int .i64 0, .bool false]) (by simp [results, Tryd.results126, go_sem]) rfl ⟨by simp [vaN, vaD, V.out], rfl⟩
theorem back_snd (t : List Int) (h : Rm.later t) : (Rm.back t).2 ≤ (Rm.back t).1 + 1 := by
  cases t with
  | nil => simp [Rm.back]
  | cons x t =>
    have := Rm.back_drop (x :: t) h 1
    simp only [Rm.back, List.drop_succ_cons, List.drop_zero] at this ⊢
    omega
set_option maxHeartbeats 1000000 in
theorem rFromTerms_len (p : Option Addr) (len cap : Nat) (w : World) (h : (decide ((1 : Int) ≤ len) && decide ((len : Int) ≤ 40)) = false) :
    Calls Tryd.prog 68 #[.slice p len cap] w fun e w' => e = .returned (.tuple #[fr 0 0, .int .i64 1]) ∧ Gr w w' := by
  go_enter Tryd.func68, Tryd.ntmps68
  go_wp2_with (go_at_call 82; refine (within_same _ _ _ _).mono ?_; rintro e w' ⟨rfl, rfl⟩)
  exact bodyPost_ret (v := .tuple #[fr 0 0, .int .i64 1]) (by simp [results, Tryd.results68, go_sem]) rfl ⟨rfl, (by repeat (first | exact Gr.refl _ | assumption | refine Gr.alloc ?_ _ | refine Gr.drew ?_ | refine Gr.drewN ?_ _ | refine Gr.set ?_ _ _ (by first | (simp; done) | (simp; omega)) | refine Gr.trans ?_ (by assumption)))⟩
set_option maxRecDepth 100000 in
set_option maxHeartbeats 2000000 in
theorem rFromTerms_go (b off cap : Nat) (l : List Int) (w : World) (hb : b < w.heap.size) (hc : ∀ j, j < l.length → w.cell? ⟨b, off + j, none⟩ = some (.int .i64 (l.getD j 0))) (hl1 : 1 ≤ l.length) (hl2 : l.length ≤ 40) :
    Calls Tryd.prog 68 #[.slice (some ⟨b, off, none⟩) l.length cap] w fun e w' => e = .returned (.tuple #[fr (Rm.ftN l) (Rm.ftD l), .int .i64 (Rm.ftE l)]) ∧ Gr w w' := by
  have hin : (decide ((1 : Int) ≤ l.length) && decide ((l.length : Int) ≤ 40)) = true := by simp; omega
  have BAD := Lib.hid (fun (k : Nat) (hk : k < l.length) (h : Rm.okAt l.length k (l.getD k 0) = false) => ft_bad hk h)
  have GOOD := Lib.hid (fun (h : ∀ k, k < l.length → Rm.okAt l.length k (l.getD k 0) = true) => ft_good hl1 hl2 h)
  go_enter Tryd.func68, Tryd.ntmps68
  go_wp2_with (go_at_call 82; refine (within_same _ _ _ _).mono ?_; rintro e w' ⟨rfl, rfl⟩)
  have gW : Gr w (w.alloc (.cells #[.int .i64 0, .int .i64 0] 23)) := (Gr.refl w).alloc _
  have h2 : (w.alloc (.cells #[.int .i64 0, .int .i64 0] 23)).heap[w.heap.size]? = some (.cells #[.int .i64 0, .int .i64 0] 23 (0, 0)) := heap_alloc_self w _
  generalize hW : w.alloc (.cells #[.int .i64 0, .int .i64 0] 23) = W at *
  clear hW
  have hc : ∀ j, j < l.length → W.cell? ⟨b, off + j, none⟩ = some (.int .i64 (l.getD j 0)) := fun j hj => (gW.cells.1 _ _ hb).trans (hc j hj)
  obtain ⟨c2, f2, z2⟩ := blk_cells h2
  go_loop [4] (fun i => ∃ k : Nat, i = .int .i64 k ∧ k ≤ l.length ∧ Hid (∀ j, j < k → Rm.okAt l.length j (l.getD j 0) = true)) (fun i => l.length - (intOf i).toNat)
  case atStart => exact ⟨0, rfl, by omega, Lib.hid (fun j hj => by omega)⟩
  case round =>
    obtain ⟨k, rfl, hk, hok⟩ := hrel
    by_cases hkl : k < l.length
    · have hx := hc k hkl
      have OK : Hid (Rm.okAt l.length k (l.getD k 0) = (decide ((if k = 0 then -1000000000 else if k + 1 = l.length then 2 else 1) ≤ l.getD k 0) && decide (l.getD k 0 ≤ 1000000000))) := Lib.hid rfl
      have NX := Lib.hid (fun h => okT_step hok.out h)
      have BK := Lib.hid (BAD.out k hkl)
      clear hc BAD GOOD hok
      generalize l.getD k 0 = x at *
      by_cases h0 : k = 0
      · subst h0
        simp only [Nat.add_zero] at hx
        cases hin2 : (decide ((-1000000000 : Int) ≤ x) && decide (x ≤ 1000000000))
        · obtain ⟨e1, e2, e3⟩ := BK.out (by rw [OK.out]; simpa using hin2)
          go_wp2_with (go_at_call 82; refine (within_same _ _ _ _).mono ?_; rintro e w' ⟨rfl, rfl⟩)
          rw [e1, e2, e3]
          exact bodyPost_ret (v := .tuple #[fr 0 0, .int .i64 1]) (by simp [results, Tryd.results68, go_sem, c2]) rfl ⟨rfl, (by repeat (first | exact Gr.refl _ | assumption | refine Gr.alloc ?_ _ | refine Gr.drew ?_ | refine Gr.drewN ?_ _ | refine Gr.set ?_ _ _ (by first | (simp; done) | (simp; omega)) | refine Gr.trans ?_ (by assumption)))⟩
        · have hok' : Hid (∀ i, i < 0 + 1 → Rm.okAt l.length i (l.getD i 0) = true) := Lib.hid (NX.out (by rw [OK.out]; simpa using hin2))
          go_wp2_with (go_at_call 82; refine (within_same _ _ _ _).mono ?_; rintro e w' ⟨rfl, rfl⟩)
          go_round
          case rel => exact ⟨0+1, by go_num, by omega, hok'⟩
          case measure => simp only [intOf]; omega
      · obtain ⟨j, rfl⟩ : ∃ j, k = j + 1 := ⟨k - 1, by omega⟩
        cases hin2 : (decide ((-1000000000 : Int) ≤ x) && decide (x ≤ 1000000000))
        · obtain ⟨e1, e2, e3⟩ := BK.out (by rw [OK.out, if_neg h0]; simp at hin2 ⊢; split <;> omega)
          go_wp2_with (go_at_call 82; refine (within_same _ _ _ _).mono ?_; rintro e w' ⟨rfl, rfl⟩)
          rw [e1, e2, e3]
          exact bodyPost_ret (v := .tuple #[fr 0 0, .int .i64 1]) (by simp [results, Tryd.results68, go_sem, c2]) rfl ⟨rfl, (by repeat (first | exact Gr.refl _ | assumption | refine Gr.alloc ?_ _ | refine Gr.drew ?_ | refine Gr.drewN ?_ _ | refine Gr.set ?_ _ _ (by first | (simp; done) | (simp; omega)) | refine Gr.trans ?_ (by assumption)))⟩
        · have hx2 : x ≤ 1000000000 := by simp at hin2; exact hin2.2
          have hx3 : -1000000000 ≤ x := by simp at hin2; exact hin2.1
          by_cases hl : j + 1 + 1 = l.length
          · have hq : (((j : Int) + 1) == ((l.length : Int) - 1)) = true := by simp; omega
            have HL := Lib.hid hl
            clear hl
            by_cases x1 : x < 1
            · obtain ⟨e1, e2, e3⟩ := BK.out (by rw [OK.out, if_neg h0, if_pos HL.out]; simp; omega)
              go_wp2_with (go_at_call 82; refine (within_same _ _ _ _).mono ?_; rintro e w' ⟨rfl, rfl⟩)
              rw [e1, e2, e3]
              exact bodyPost_ret (v := .tuple #[fr 0 0, .int .i64 1]) (by simp [results, Tryd.results68, go_sem, c2]) rfl ⟨rfl, (by repeat (first | exact Gr.refl _ | assumption | refine Gr.alloc ?_ _ | refine Gr.drew ?_ | refine Gr.drewN ?_ _ | refine Gr.set ?_ _ _ (by first | (simp; done) | (simp; omega)) | refine Gr.trans ?_ (by assumption)))⟩
            · by_cases x2 : x < 2
              · obtain ⟨e1, e2, e3⟩ := BK.out (by rw [OK.out, if_neg h0, if_pos HL.out]; simp; omega)
                go_wp2_with (go_at_call 82; refine (within_same _ _ _ _).mono ?_; rintro e w' ⟨rfl, rfl⟩)
                rw [e1, e2, e3]
                exact bodyPost_ret (v := .tuple #[fr 0 0, .int .i64 1]) (by simp [results, Tryd.results68, go_sem, c2]) rfl ⟨rfl, (by repeat (first | exact Gr.refl _ | assumption | refine Gr.alloc ?_ _ | refine Gr.drew ?_ | refine Gr.drewN ?_ _ | refine Gr.set ?_ _ _ (by first | (simp; done) | (simp; omega)) | refine Gr.trans ?_ (by assumption)))⟩
              · have hok' : Hid (∀ i, i < j + 1 + 1 → Rm.okAt l.length i (l.getD i 0) = true) := Lib.hid (NX.out (by rw [OK.out, if_neg h0, if_pos HL.out]; simp; omega))
                go_wp2_with (go_at_call 82; refine (within_same _ _ _ _).mono ?_; rintro e w' ⟨rfl, rfl⟩)
                go_round
                case rel => exact ⟨j + 1+1, by go_num, by omega, hok'⟩
                case measure => simp only [intOf]; omega
          · have hq : (((j : Int) + 1) == ((l.length : Int) - 1)) = false := by simp; omega
            have HL := Lib.hid hl
            clear hl
            by_cases x1 : x < 1
            · obtain ⟨e1, e2, e3⟩ := BK.out (by rw [OK.out, if_neg h0, if_neg HL.out]; simp; omega)
              go_wp2_with (go_at_call 82; refine (within_same _ _ _ _).mono ?_; rintro e w' ⟨rfl, rfl⟩)
              rw [e1, e2, e3]
              exact bodyPost_ret (v := .tuple #[fr 0 0, .int .i64 1]) (by simp [results, Tryd.results68, go_sem, c2]) rfl ⟨rfl, (by repeat (first | exact Gr.refl _ | assumption | refine Gr.alloc ?_ _ | refine Gr.drew ?_ | refine Gr.drewN ?_ _ | refine Gr.set ?_ _ _ (by first | (simp; done) | (simp; omega)) | refine Gr.trans ?_ (by assumption)))⟩
            · have hok' : Hid (∀ i, i < j + 1 + 1 → Rm.okAt l.length i (l.getD i 0) = true) := Lib.hid (NX.out (by rw [OK.out, if_neg h0, if_neg HL.out]; simp; omega))
              go_wp2_with (go_at_call 82; refine (within_same _ _ _ _).mono ?_; rintro e w' ⟨rfl, rfl⟩)
              go_round
              case rel => exact ⟨j + 1+1, by go_num, by omega, hok'⟩
              case measure => simp only [intOf]; omega
    · obtain rfl : k = l.length := by omega
      have hf := GOOD.out (fun j hj => hok.out j hj)
      clear BAD GOOD hok
      obtain ⟨a, t, e, ht, a1, a2, hlt⟩ := Rm.ftOk_parts hf
      have hv := VaOk.of a1 a2 hlt ht
      rw [← e] at hv
      have VA := Lib.hid (rvalue_any b off cap t.length l W hc hv)
      have hp := Rm.back_pos t hlt
      have hlt' := hlt
      have hbk : (Rm.back l).2 = (Rm.back t).1 ∧ (Rm.back l).1 = a*(Rm.back t).1 + (Rm.back t).2 := by rw [e]; exact ⟨rfl, rfl⟩
      clear hc hlt e ht
      cases hva : vaOk l
      · have E3 : Rm.ftN l = 0 ∧ Rm.ftD l = 0 ∧ Rm.ftE l = 10 := by
          have hd : ¬ (Rm.back l).2 ≤ 1000000 := by simpa [vaOk] using hva
          simp [Rm.ftN, Rm.ftD, Rm.ftE, hf, hd]
        have HE := Lib.hid E3
        rw [show vaN l = 0 by simp [vaN, hva], show vaD l = 0 by simp [vaD, hva], hva] at VA
        clear E3 hva hp hbk hv hlt'
        go_wp2_with fail
        refine VA.out.mono ?_
        rintro e w1 ⟨rfl, rfl⟩
        go_wp2
        rw [HE.out.1, HE.out.2.1, HE.out.2.2]
        exact bodyPost_ret (v := .tuple #[fr 0 0, .int .i64 10]) (by simp [results, Tryd.results68, go_sem, c2]) rfl ⟨rfl, (by repeat (first | exact Gr.refl _ | assumption | refine Gr.alloc ?_ _ | refine Gr.drew ?_ | refine Gr.drewN ?_ _ | refine Gr.set ?_ _ _ (by first | (simp; done) | (simp; omega)) | refine Gr.trans ?_ (by assumption)))⟩
      · have hd : (Rm.back l).2 ≤ 1000000 := by simpa [vaOk] using hva
        have E3 : Rm.ftN l = Rm.mN (Rm.back l).1 (Rm.back l).2 ∧ Rm.ftD l = Rm.mD (Rm.back l).1 (Rm.back l).2 ∧ Rm.ftE l = Rm.mE (Rm.back l).1 (Rm.back l).2 := by
          simp [Rm.ftN, Rm.ftD, Rm.ftE, hf, hd]
        have HE := Lib.hid E3
        rw [show vaN l = (Rm.back l).1 by simp [vaN, hva], show vaD l = (Rm.back l).2 by simp [vaD, hva], hva] at VA
        have hbn : -2000000000000000 ≤ (Rm.back l).1 ∧ (Rm.back l).1 ≤ 2000000000000000 := by
          have bd := @Rm.mul_bound a (Rm.back t).1 1000000000 1000000 (by omega) a1 a2 (by omega) (by omega)
          have := back_snd t hlt'
          omega
        have hdp : 1 ≤ (Rm.back l).2 := by omega
        clear E3 hva hp hbk hv hlt'
        generalize (Rm.back l).1 = N at *
        generalize (Rm.back l).2 = D at *
        go_wp2_with fail
        refine VA.out.mono ?_
        rintro e w1 ⟨rfl, rfl⟩
        go_wp2_with fail
        refine (made_any N D _ (by omega) (by omega) (by omega) (by omega)).mono ?_
        rintro e w1 ⟨rfl, hg1⟩
        have k2 := hg1.heap h2
        clear c2 f2 z2
        obtain ⟨c2, f2, z2⟩ := blk_cells k2
        go_wp2
        rw [HE.out.1, HE.out.2.1, HE.out.2.2]
        exact bodyPost_ret (v := .tuple #[fr (Rm.mN N D) (Rm.mD N D), .int .i64 (Rm.mE N D)]) (by simp [results, Tryd.results68, go_sem, c2]) rfl ⟨rfl, ((gW.trans hg1).set _ _ (by first | (simp; done) | (simp; omega) | omega)).set _ _ (by first | (simp; done) | (simp; omega) | omega)⟩
theorem rFromTerms_any (v : Value) (l : List Int) (w : World) (hr : IRow w v l) :
    Calls Tryd.prog 68 #[v] w fun e w' => e = .returned (.tuple #[fr (Rm.ftN l) (Rm.ftD l), .int .i64 (Rm.ftE l)]) ∧ Gr w w' := by
  by_cases h : 1 ≤ l.length ∧ l.length ≤ 40
  · rcases hr with ⟨rfl, _⟩ | ⟨b, off, cap, rfl, _, hb, hc⟩
    · simp at h
    · exact rFromTerms_go b off cap l w hb hc h.1 h.2
  · obtain ⟨p, cap, rfl⟩ := hr.slice
    have hf : Rm.ftOk l = false := by
      cases e : Rm.ftOk l with
      | false => rfl
      | true =>
        simp only [Rm.ftOk, Bool.and_eq_true, decide_eq_true_eq] at e
        exact absurd e.1 h
    have e : Rm.ftN l = 0 ∧ Rm.ftD l = 0 ∧ Rm.ftE l = 1 := by simp [Rm.ftN, Rm.ftD, Rm.ftE, hf]
    rw [e.1, e.2.1, e.2.2]
    refine rFromTerms_len p l.length cap w ?_
    have : ¬ (1 ≤ (l.length : Int) ∧ (l.length : Int) ≤ 40) := by omega
    simpa using this
/-- the terms that are still to come -/
def tmR (a b : Int) : List Int := if b = 0 then [] else Rm.tm a b
theorem tmR_step {a b : Int} (hb : 1 ≤ b) : tmR a b = Rm.fl a b :: tmR b (a - Rm.fl a b * b) := by
  unfold tmR
  rw [if_neg (by omega)]
  by_cases h : Rm.fl a b * b = a
  · rw [Rm.tm_last hb h, if_pos (by omega)]
  · rw [Rm.tm_cons hb h, if_neg (by omega)]
attribute [local go_sem] Oper.semAt_some
set_option maxRecDepth 100000 in
set_option maxHeartbeats 2000000 in
theorem rTerms_in (m : Nat) (a b : Int) (w : World) (h : Rm.okF a b = true) : CallsIn Fence.wide m Tryd.prog 66 #[fr a b] w (TermsPost a b w) := by
  obtain ⟨x1, x2, x3, x4, x5⟩ := Rm.okF_iff.1 h
  have hlen := Rm.tm_len40 (n := a) x3 x4
  obtain ⟨i0, hi, hz0, hz1, hz2⟩ := info_parts info_int
  have hE := Lib.hid (Rm.err_true (e := 1) h)
  clear h x5
  refine callsIn_of_wp Tryd.func66 rfl trivial ?_ rfl
  simp only [Tryd.ntmps66, List.size_toArray, List.length_cons, List.length_nil, Nat.reduceAdd, Nat.reduceSub, Array.replicate_succ, Array.replicate_zero, List.push_toArray, List.append_toArray, List.nil_append, List.cons_append]
  gi_wp2_with fail
  refine ⟨trivial, fun h => absurd h (by simp [Fence.wide]), (callsIn_wide.2 (rCheckFrac_any a b _)).mono ?_⟩
  rintro e w1 ⟨rfl, hg1⟩
  rw [hE.out]
  obtain ⟨hc1, hf1, hz1'⟩ := blk_cells (hg1.heap (heap_alloc_self w (.cells #[.int .i64 a, .int .i64 b] 23)))
  gi_wp2_with fail
  have gw1 : Gr w w1 := (by repeat (first | exact Gr.refl _ | assumption | refine Gr.alloc ?_ _ | refine Gr.drew ?_ | refine Gr.drewN ?_ _ | refine Gr.set ?_ _ _ (by first | (simp; done) | (simp; omega)) | refine Gr.trans ?_ (by assumption)))
  clear hc1 hf1 hz1' hg1
  gi_loopw [5, 6, 7] (fun p q r wr => ∃ (pre : List Int) (x y : Int), q = .int .i64 x ∧ r = .int .i64 y ∧ -1000000000 ≤ x ∧ x ≤ 1000000000 ∧ 0 ≤ y ∧ y ≤ 1000000 ∧ Hid (Rm.tm a b = pre ++ tmR x y) ∧ wr.ownsRow w.heap.size 3 1 p pre.length (pre.map (Value.int .i64)) ∧ Gr w wr) (fun _ _ r _ => (intOf r).toNat)
  case atStart => exact ⟨[], a, b, rfl, rfl, x1, x2, by omega, x4, Lib.hid (by simp [tmR]; omega), World.ownsRow_nil _ _ _ _, gw1⟩
  case round =>
    obtain ⟨pre, x, y, rfl, rfl, y1, y2, y3, y4, hT, hrow, gw⟩ := hrel
    by_cases hy : y = 0
    · subst hy
      have HT : Hid (Rm.tm a b = pre) := Lib.hid (by rw [hT.out]; simp [tmR])
      gi_wp2
      exact bodyPost_ret (v := .tuple #[u5, .int .i64 0]) (by simp [results, Tryd.results66, go_sem]) rfl ⟨_, rfl, by rw [HT.out]; exact hrow, gw⟩
    · have hy1 : 1 ≤ y := by omega
      have st := tmR_step (a := x) hy1
      have f1 := @Rm.fl_le x y hy1
      have f2 := @Rm.fl_rest x y hy1
      have FL := Lib.hid (fun w => rfloor_any x y w hy1 (by omega) (by omega))
      have HT : Hid (Rm.tm a b = (pre ++ [Rm.fl x y]) ++ tmR y (x - Rm.fl x y * y)) := Lib.hid (by rw [hT.out, st]; simp)
      have hpl : pre.length + 1 ≤ 1000 := by
        have := congrArg List.length HT.out
        simp at this
        omega
      clear hT st
      generalize Rm.fl x y = f at *
      gi_wp2_with fail
      refine ⟨trivial, fun h => absurd h (by simp [Fence.wide]), (callsIn_wide.2 (FL.out _)).mono ?_⟩
      rintro e w2 ⟨rfl, hg2⟩
      have hrow2 := ownsRow_gr hrow (GrL.of_gr (l := []) hg2) (by simp)
      have gz : w.heap.size ≤ w2.heap.size := (gw.trans hg2).b.size
      gi_wp2_with (gi_at_builtin; refine wpListIn_append_own _ rfl _ _ 61 rfl w.heap.size 3 i0 (.int .i64 0) 1 8 Tryd.underlying61 hi hz0 hz1 hz2 rfl (by decide) _ _ _ rfl (hrow2.alloc _) ⟨w2.heap.size, 0, none⟩ 1 1 [.int .i64 f] rfl rfl (cell_one_new _ _ _) (by simp [Value.oneCell']) (by unfold maxLen; omega) (by omega) (by simp; omega) ?_; intro v' w3 hown' hgrow _)
      have gw3 : Gr w w3 := GrL.gr ((gw.trans hg2).alloc _) (GrL.of_grown (row := u5.ownBlock) hgrow u5.ownBlock.toList (fun k hk => by simp [hk])) (fun k hk => (hrow2.lt k (by simpa using hk)).1)
      go_roundw
      case rel => exact ⟨pre ++ [f], y, x - f*y, rfl, rfl, by omega, by omega, by omega, by omega, HT, by simpa using hown', gw3⟩
      case measure => simp only [intOf]; omega
set_option maxRecDepth 100000 in
set_option maxHeartbeats 1000000 in
theorem rTerms_no (a b : Int) (w : World) (h : Rm.okF a b = false) : Calls Tryd.prog 66 #[fr a b] w fun e w' => e = .returned (.tuple #[.slice none 0 0, .int .i64 1]) ∧ Gr w w' := by
  have hE := Lib.hid (Rm.err_false (e := 1) h)
  clear h
  go_enter Tryd.func66, Tryd.ntmps66
  go_wp2_with fail
  refine (rCheckFrac_any a b _).mono ?_
  rintro e w1 ⟨rfl, hg1⟩
  rw [hE.out]
  go_wp2
  exact bodyPost_ret (v := .tuple #[.slice none 0 0, .int .i64 1]) (by simp [results, Tryd.results66, go_sem]) rfl ⟨rfl, (by repeat (first | exact Gr.refl _ | assumption | refine Gr.alloc ?_ _ | refine Gr.drew ?_ | refine Gr.drewN ?_ _ | refine Gr.set ?_ _ _ (by first | (simp; done) | (simp; omega)) | refine Gr.trans ?_ (by assumption)))⟩
theorem rTerms_yes (a b : Int) (w : World) (h : Rm.okF a b = true) : Calls Tryd.prog 66 #[fr a b] w (TermsPost a b w) := callsIn_wide.1 (rTerms_in 9 a b w h)
theorem row_cells {W : World} {base : Nat} {l : List Int} {v : Value} (h : W.ownsRow base 3 1 v l.length (l.map (Value.int .i64))) (hl : l ≠ []) :
    ∃ g cap, v = .slice (some ⟨g, 0, none⟩) l.length cap ∧ base ≤ g ∧ g < W.heap.size ∧ l.length ≤ cap ∧ ∀ j, j < l.length → W.cell? ⟨g, 0 + j, none⟩ = some (.int .i64 (l.getD j 0)) := by
  have h' := h
  rcases h.2 with ⟨_, hn⟩ | ⟨g, cap, cur, rfl, hb, hg, hcap, _⟩
  · exact absurd hn (by intro e; exact hl (List.eq_nil_of_length_eq_zero e))
  · refine ⟨g, cap, rfl, hb, heap_lt hg, hcap, fun j hj => ?_⟩
    rw [Nat.zero_add, h'.cellAt j (by omega), Rm.getD_el hj]
    simp [hj]
theorem tm_va {n d : Int} (h : Rm.okF n d = true) {i : Nat} (hi : i < (Rm.tm n d).length) :
    VaOk ((Rm.tm n d).take (i+1)) i ∧ vaOk ((Rm.tm n d).take (i+1)) = true ∧ (Rm.cv (Rm.tm n d)).take (i+1) = (Rm.cv (Rm.tm n d)).take i ++ [(vaN ((Rm.tm n d).take (i+1)), vaD ((Rm.tm n d).take (i+1)))] := by
  obtain ⟨x1, x2, x3, x4, x5⟩ := Rm.okF_iff.1 h
  have hft := Rm.tm_ftOk x1 x2 x3 x4 x5
  have hbk := Rm.tm_back x1 x2 x3 x4 x5
  obtain ⟨_, L2⟩ := Rm.from_loop wr_ok hft
  have hy := (L2 (by rw [hbk]; exact x4)).2
  obtain ⟨a, t, e, ht, a1, a2, hl⟩ := Rm.ftOk_parts hft
  have hcl := Rm.cv_length (Rm.tm n d)
  have hk : i < (Rm.cv (Rm.tm n d)).length := by omega
  have ecv : Rm.cv ((Rm.tm n d).take (i+1)) = (Rm.cv (Rm.tm n d)).take (i+1) := by
    obtain ⟨r, hr⟩ := Rm.cv_prefix (List.take_prefix (i+1) (Rm.tm n d))
    rw [← hr, List.take_left' (by rw [Rm.cv_length]; simp; omega)]
  have hst : (Rm.cv (Rm.tm n d)).take (i+1) = (Rm.cv (Rm.tm n d)).take i ++ [(Rm.cv (Rm.tm n d))[i]] := List.take_succ_eq_append_getElem hk
  have hb : Rm.back ((Rm.tm n d).take (i+1)) = (Rm.cv (Rm.tm n d))[i] := by
    rw [← Rm.cv_last (l := (Rm.tm n d).take (i+1)) (by rw [e]; simp), ecv, hst, List.getLastD_concat]
  have hm := hy _ (List.getElem_mem hk)
  have hv : vaOk ((Rm.tm n d).take (i+1)) = true := by
    simp only [vaOk, hb, decide_eq_true_eq]
    exact hm.1
  refine ⟨?_, hv, ?_⟩
  · have et : (Rm.tm n d).take (i+1) = a :: t.take i := by rw [e]; rfl
    rw [et]
    have hlt : (t.take i).length = i := by rw [e] at hi; simp at hi ⊢; omega
    have := VaOk.of a1 a2 (t := t.take i) (fun x hx => hl x (List.mem_of_mem_take hx)) (by have : t.length ≤ 39 := ht; simp; omega)
    rwa [hlt] at this
  · rw [hst]
    simp only [vaN, vaD, hv, if_true, hb]
set_option maxRecDepth 100000 in
set_option maxHeartbeats 2000000 in
theorem rConvergents_in (m : Nat) (a b : Int) (w : World) (h : Rm.okF a b = true) : CallsIn Fence.wide m Tryd.prog 70 #[fr a b] w (ConvPost a b w) := by
  have TV := Lib.hid (fun i hi => tm_va h (i := i) hi)
  have hlen := Rm.tm_len40 (n := a) (Rm.okF_iff.1 h).2.2.1 (Rm.okF_iff.1 h).2.2.2.1
  obtain ⟨i0, hi, hz0, hz1, hz2⟩ := info_parts info_fr2
  have TE := Lib.hid (fun w => rTerms_yes a b w h)
  have hpos : 1 ≤ (Rm.tm a b).length := by
    obtain ⟨x1, x2, x3, x4, x5⟩ := Rm.okF_iff.1 h
    obtain ⟨a, t, e, _⟩ := Rm.ftOk_parts (Rm.tm_ftOk x1 x2 x3 x4 x5)
    rw [e]; simp
  clear h
  refine callsIn_of_wp Tryd.func70 rfl trivial ?_ rfl
  simp only [Tryd.ntmps70, List.size_toArray, List.length_cons, List.length_nil, Nat.reduceAdd, Nat.reduceSub, Array.replicate_succ, Array.replicate_zero, List.push_toArray, List.append_toArray, List.nil_append, List.cons_append]
  gi_wp2_with fail
  refine ⟨trivial, fun h => absurd h (by simp [Fence.wide]), (callsIn_wide.2 (TE.out _)).mono ?_⟩
  rintro e w2 ⟨v, rfl, hrow, hg⟩
  obtain ⟨l, hl⟩ : ∃ l, Rm.tm a b = l := ⟨_, rfl⟩
  rw [hl] at hrow hlen hpos
  obtain ⟨k, hk⟩ : ∃ k, l.length = k + 1 := ⟨l.length - 1, by omega⟩
  obtain ⟨g, cap, rfl, hg0, hgl, hcap, hc⟩ := row_cells hrow (by intro e; rw [e] at hk; simp at hk)
  have HL := Lib.hid hl
  have gw : Gr w w2 := (by repeat (first | exact Gr.refl _ | assumption | refine Gr.alloc ?_ _ | refine Gr.drew ?_ | refine Gr.drewN ?_ _ | refine Gr.set ?_ _ _ (by first | (simp; done) | (simp; omega)) | refine Gr.trans ?_ (by assumption)))
  have gz : w.heap.size ≤ w2.heap.size := gw.b.size
  rw [hl] at TV
  have TL := Lib.hid (fun i (hi : i < l.length) => TV.out i hi)
  have hcl : (Rm.cv l).length = l.length := Rm.cv_length l
  clear TE hl TV hrow hg hk
  gi_wp2
  gi_loopw [6, 7] (fun p q wr => ∃ i : Nat, q = .int .i64 i ∧ i ≤ l.length ∧ wr.ownsRow w2.heap.size 23 2 p i (flat ((Rm.cv l).take i)) ∧ Gr w2 wr) (fun _ q _ => l.length - (intOf q).toNat)
  case atStart => exact ⟨0, rfl, by omega, World.ownsRow_nil _ _ _ _, Gr.refl _⟩
  case round =>
    obtain ⟨i, rfl, hi', hrow, gw2⟩ := hrel
    by_cases hil : i < l.length
    · obtain ⟨tv1, tv2, tv3⟩ := TL.out i hil
      have htl : (l.take (i+1)).length = i + 1 := by simp; omega
      have VA := rvalue_any g 0 cap i (l.take (i+1)) wr (fun j hj => by
        rw [htl] at hj
        rw [gw2.cells.1 _ _ hgl, hc j (by omega), Rm.getD_el (by omega), Rm.getD_el (by rw [htl]; exact hj)]
        simp) tv1
      rw [htl, tv2] at VA
      have VA := Lib.hid VA
      have TV3 := Lib.hid tv3
      generalize vaN (l.take (i+1)) = N at *
      generalize vaD (l.take (i+1)) = D at *
      clear tv1 tv2 tv3 htl
      have qq : ∀ j u, [Value.int .i64 N, Value.int .i64 D][j]? = some u → (wr.alloc (.cells #[.int .i64 N, .int .i64 D] 23)).cell? ((⟨wr.heap.size, 0, none⟩ : Addr).add j) = some u := fun j u hj => by
        have q0 := (blk_cells (heap_alloc_self wr (.cells #[.int .i64 N, .int .i64 D] 23))).1
        match j, hj with
        | 0, hj => rw [← hj]; exact q0 0
        | 1, hj => rw [← hj]; exact q0 1
        | (j+2), hj => exact absurd hj (by simp)
      have gz2 := gw2.b.size
      gi_wp2_with fail
      refine ⟨trivial, fun h => absurd h (by simp [Fence.wide]), (callsIn_wide.2 VA.out).mono ?_⟩
      rintro e w' ⟨rfl, rfl⟩
      gi_wp2_with (gi_at_builtin; refine wpListIn_append_own _ rfl _ _ 65 rfl w2.heap.size 23 i0 (fr 0 0) 2 16 Tryd.underlying65 hi hz0 hz1 hz2 rfl (by decide) _ _ _ rfl (hrow.alloc _) ⟨wr.heap.size, 0, none⟩ 1 1 [.int .i64 N, .int .i64 D] rfl rfl qq (by simp [Value.oneCell']) (by unfold maxLen; omega) (by omega) (by simp; omega) ?_; intro v' w3 hown' hgrow _)
      have gw3 : Gr w2 w3 := GrL.gr (gw2.alloc _) (GrL.of_grown (row := u6.ownBlock) hgrow u6.ownBlock.toList (fun k hk => by simp [hk])) (fun k hk => (hrow.lt k (by simpa using hk)).1)
      go_roundw
      case rel =>
        refine ⟨i + 1, by go_num, by omega, ?_, gw3⟩
        rw [TV3.out, flat_snoc]
        simpa using hown'
      case measure => simp only [intOf]; omega
    · obtain rfl : i = l.length := by omega
      have hfl : flat ((Rm.cv l).take l.length) = flat (Rm.cv l) := by rw [← hcl, List.take_length]
      rw [hfl] at hrow
      gi_wp2
      refine bodyPost_ret (v := .tuple #[u6, .int .i64 0]) (by simp [results, Tryd.results70, go_sem]) rfl ⟨_, rfl, ?_, gw.trans gw2⟩
      rw [HL.out, hcl]
      exact ownsRow_le hrow gz
set_option maxRecDepth 100000 in
set_option maxHeartbeats 1000000 in
theorem rConvergents_no (a b : Int) (w : World) (h : Rm.okF a b = false) : Calls Tryd.prog 70 #[fr a b] w fun e w' => e = .returned (.tuple #[.slice none 0 0, .int .i64 1]) ∧ Gr w w' := by
  have TE := Lib.hid (fun w => rTerms_no a b w h)
  clear h
  go_enter Tryd.func70, Tryd.ntmps70
  go_wp2_with fail
  refine (TE.out _).mono ?_
  rintro e w1 ⟨rfl, hg1⟩
  go_wp2
  exact bodyPost_ret (v := .tuple #[.slice none 0 0, .int .i64 1]) (by simp [results, Tryd.results70, go_sem]) rfl ⟨rfl, (by repeat (first | exact Gr.refl _ | assumption | refine Gr.alloc ?_ _ | refine Gr.drew ?_ | refine Gr.drewN ?_ _ | refine Gr.set ?_ _ _ (by first | (simp; done) | (simp; omega)) | refine Gr.trans ?_ (by assumption)))⟩
theorem rConvergents_yes (a b : Int) (w : World) (h : Rm.okF a b = true) : Calls Tryd.prog 70 #[fr a b] w (ConvPost a b w) := callsIn_wide.1 (rConvergents_in 9 a b w h)
set_option maxHeartbeats 1000000 in
theorem Same_nil (w : World) : Calls Tryd.prog 71 #[.slice none 0 0, .slice none 0 0] w fun e w' => e = .returned (.bool true) ∧ Gr w w' := by
  go_enter Tryd.func71, Tryd.ntmps71
  go_wp2
  go_loop [5] (fun i => i = .int .i64 0) (fun _ => 0)
  case atStart => rfl
  case round =>
    subst hrel
    go_wp2
    go_ret
    exact ⟨rfl, Gr.refl _⟩
set_option maxRecDepth 100000 in
set_option maxHeartbeats 1000000 in
theorem Same_row (b1 o1 cap1 b2 o2 cap2 : Nat) (l : List Int) (w : World) (h1 : b1 < w.heap.size) (h2 : b2 < w.heap.size) (hbig : l.length ≤ 1000000) (hc1 : ∀ j, j < l.length → w.cell? ⟨b1, o1 + j, none⟩ = some (.int .i64 (l.getD j 0))) (hc2 : ∀ j, j < l.length → w.cell? ⟨b2, o2 + j, none⟩ = some (.int .i64 (l.getD j 0))) :
    Calls Tryd.prog 71 #[.slice (some ⟨b1, o1, none⟩) l.length cap1, .slice (some ⟨b2, o2, none⟩) l.length cap2] w fun e w' => e = .returned (.bool true) ∧ Gr w w' := by
  go_enter Tryd.func71, Tryd.ntmps71
  go_wp2
  go_loopw [5] (fun i wr => ∃ k : Nat, i = .int .i64 k ∧ k ≤ l.length ∧ Gr w wr) (fun i _ => l.length - (intOf i).toNat)
  case atStart => exact ⟨0, rfl, by omega, Gr.refl _⟩
  case round =>
    obtain ⟨k, rfl, hk, g⟩ := hrel
    by_cases hkl : k < l.length
    · have e1 := (g.cells.1 _ _ h1).trans (hc1 k hkl)
      have e2 := (g.cells.1 _ _ h2).trans (hc2 k hkl)
      generalize l.getD k 0 = x at *
      clear hc1 hc2
      go_wp2_with fail
      go_quiet (fail)
      go_wp2
      go_roundw
      case rel => exact ⟨k+1, by go_num, by omega, (by repeat (first | exact Gr.refl _ | assumption | refine Gr.alloc ?_ _ | refine Gr.drew ?_ | refine Gr.drewN ?_ _ | refine Gr.set ?_ _ _ (by first | (simp; done) | (simp; omega)) | refine Gr.trans ?_ (by assumption)))⟩
      case measure => simp only [intOf]; omega
    · obtain rfl : k = l.length := by omega
      clear hc1 hc2
      go_wp2
      go_ret
      exact ⟨rfl, g⟩
/-- a row of fractions that can be read -/
def FCells (w : World) (b o : Nat) (l : List (Int × Int)) : Prop := ∀ j, j < l.length → w.cell? ⟨b, o + j * 2, none⟩ = some (.int .i64 (l.getD j (0, 0)).1) ∧ w.cell? ⟨b, o + j * 2 + 1, none⟩ = some (.int .i64 (l.getD j (0, 0)).2)
theorem flat_get : ∀ (l : List (Int × Int)) (j : Nat), j < l.length → (flat l)[j * 2]? = some (.int .i64 (l.getD j (0, 0)).1) ∧ (flat l)[j * 2 + 1]? = some (.int .i64 (l.getD j (0, 0)).2)
  | [], j, h => by simp at h
  | p :: l, 0, _ => ⟨rfl, rfl⟩
  | p :: l, j+1, h => by
    have ih := flat_get l j (by simpa using h)
    have e : flat (p :: l) = .int .i64 p.1 :: .int .i64 p.2 :: flat l := rfl
    have e2 : (j + 1) * 2 = j * 2 + 1 + 1 := by omega
    rw [e, e2, List.getElem?_cons_succ, List.getElem?_cons_succ, List.getElem?_cons_succ, List.getElem?_cons_succ, List.getD_cons_succ]
    exact ih
theorem frow_cells {W : World} {base : Nat} {l : List (Int × Int)} {v : Value} (h : W.ownsRow base 23 2 v l.length (flat l)) (hl : l ≠ []) :
    ∃ g cap, v = .slice (some ⟨g, 0, none⟩) l.length cap ∧ base ≤ g ∧ g < W.heap.size ∧ l.length ≤ cap ∧ FCells W g 0 l := by
  have h' := h
  rcases h.2 with ⟨_, hn⟩ | ⟨g, cap, cur, rfl, hb, hg, hcap, _⟩
  · exact absurd hn (by intro e; exact hl (List.eq_nil_of_length_eq_zero e))
  · refine ⟨g, cap, rfl, hb, heap_lt hg, hcap, fun j hj => ?_⟩
    rw [Nat.zero_add, h'.cellAt (j * 2) (by omega), h'.cellAt (j * 2 + 1) (by omega)]
    exact flat_get l j hj
theorem FCells.gr {W W' : World} {b o : Nat} {l : List (Int × Int)} (h : FCells W b o l) (g : Gr W W') (hb : b < W.heap.size) : FCells W' b o l := fun j hj =>
  ⟨(g.cells.1 _ _ hb).trans (h j hj).1, (g.cells.1 _ _ hb).trans (h j hj).2⟩
set_option maxHeartbeats 1000000 in
theorem SameFracs_nil (w : World) : Calls Tryd.prog 72 #[.slice none 0 0, .slice none 0 0] w fun e w' => e = .returned (.bool true) ∧ Gr w w' := by
  go_enter Tryd.func72, Tryd.ntmps72
  go_wp2
  go_loop [5] (fun i => i = .int .i64 0) (fun _ => 0)
  case atStart => rfl
  case round =>
    subst hrel
    go_wp2
    go_ret
    exact ⟨rfl, Gr.refl _⟩
set_option maxRecDepth 100000 in
set_option maxHeartbeats 1000000 in
theorem SameFracs_row (b1 o1 cap1 b2 o2 cap2 : Nat) (l : List (Int × Int)) (w : World) (h1 : b1 < w.heap.size) (h2 : b2 < w.heap.size) (hbig : l.length ≤ 1000000) (hc1 : FCells w b1 o1 l) (hc2 : FCells w b2 o2 l) :
    Calls Tryd.prog 72 #[.slice (some ⟨b1, o1, none⟩) l.length cap1, .slice (some ⟨b2, o2, none⟩) l.length cap2] w fun e w' => e = .returned (.bool true) ∧ Gr w w' := by
  go_enter Tryd.func72, Tryd.ntmps72
  go_wp2
  go_loopw [5] (fun i wr => ∃ k : Nat, i = .int .i64 k ∧ k ≤ l.length ∧ Gr w wr) (fun i _ => l.length - (intOf i).toNat)
  case atStart => exact ⟨0, rfl, by omega, Gr.refl _⟩
  case round =>
    obtain ⟨k, rfl, hk, g⟩ := hrel
    by_cases hkl : k < l.length
    · obtain ⟨e1, e1'⟩ := hc1 k hkl
      obtain ⟨e2, e2'⟩ := hc2 k hkl
      rw [← g.cells.1 _ _ h1] at e1 e1'
      rw [← g.cells.1 _ _ h2] at e2 e2'
      generalize (l.getD k (0, 0)).1 = x at *
      generalize (l.getD k (0, 0)).2 = y at *
      clear hc1 hc2
      have ne : ∀ w, (binOp .neq 23 (fr x y) (fr x y)).run Tryd.prog w = .ok (.bool false) w := fun w => by rw [neq_Frac]; simp
      go_wp2_with fail
      go_quiet (fail)
      go_wp2
      go_roundw
      case rel => exact ⟨k+1, by go_num, by omega, (by repeat (first | exact Gr.refl _ | assumption | refine Gr.alloc ?_ _ | refine Gr.drew ?_ | refine Gr.drewN ?_ _ | refine Gr.set ?_ _ _ (by first | (simp; done) | (simp; omega)) | refine Gr.trans ?_ (by assumption)))⟩
      case measure => simp only [intOf]; omega
    · obtain rfl : k = l.length := by omega
      clear hc1 hc2
      go_wp2
      go_ret
      exact ⟨rfl, g⟩
end Go.Proofs.YtconhikflghkdaaDoor
