/- rule/frac.go: told, Of, Add, Sub, Mul, Div. -/
import Derived.Test.YtconhikflghkdaaGreatDoorTried
namespace Go.Proofs.YtconhikflghkdaaGreatDoor
open Go.RowKit Go.Shelf
set_option maxHeartbeats 400000 in
theorem told_ok (a b : Int) (w : World) (h : 1 ≤ b) (h1 : -4000000000000000000 ≤ a) (h2 : a ≤ 4000000000000000000) (h3 : b ≤ 4000000000000000000) (ho : Rm.okR a b = true) :
    Calls Tryz.prog 31 #[fr a b] w fun e w' => e = .returned (fr (Rm.redN a b) (Rm.redD a b)) ∧ Gr w w' := by
  have hs : Rm.small (Rm.redN a b) (Rm.redD a b) = true := ho
  go_enter Tryz.func31, Tryz.ntmps31
  go_wp2_with fail
  refine (reduced_any _ _ _ h h1 h2 h3).mono ?_
  rintro e w1 ⟨rfl, hg1⟩
  obtain ⟨hc1, hf1, hz1⟩ := hg1.at (n := w.heap.size + 2) (by first | (simp; done) | (simp; omega) | omega)
  go_wp2_with fail
  refine (small_any _ _ _).mono ?_
  rintro e w2 ⟨rfl, hg2⟩
  obtain ⟨hc2, hf2, hz2⟩ := hg2.at (n := w.heap.size + 2) (by first | (simp; done) | (simp; omega) | omega)
  rw [hs]
  go_wp2_with (go_at_call 52; refine (need_ok _ _).mono ?_; rintro e w3 ⟨rfl, rfl⟩)
  exact bodyPost_ret (v := fr (Rm.redN a b) (Rm.redD a b)) (by simp [results, Tryz.results31, go_sem, hc1, hc2]) rfl ⟨rfl, (by repeat (first | exact Gr.refl _ | assumption | refine Gr.alloc ?_ _ | refine Gr.drew ?_ | refine Gr.drewN ?_ _ | refine Gr.set ?_ _ _ (by first | (simp; done) | (simp; omega)) | refine Gr.trans ?_ (by assumption)))⟩
set_option maxHeartbeats 400000 in
theorem told_no (a b : Int) (w : World) (h : 1 ≤ b) (h1 : -4000000000000000000 ≤ a) (h2 : a ≤ 4000000000000000000) (h3 : b ≤ 4000000000000000000) (ho : Rm.okR a b = false) :
    Calls Tryz.prog 31 #[fr a b] w fun e w' => e = .panicked [{ v := giv 10, recovered := false }] ∧ Gr w w' := by
  have hs : Rm.small (Rm.redN a b) (Rm.redD a b) = false := ho
  go_enter Tryz.func31, Tryz.ntmps31
  go_wp2_with fail
  refine (reduced_any _ _ _ h h1 h2 h3).mono ?_
  rintro e w1 ⟨rfl, hg1⟩
  obtain ⟨hc1, hf1, hz1⟩ := hg1.at (n := w.heap.size + 2) (by first | (simp; done) | (simp; omega) | omega)
  go_wp2_with fail
  refine (small_any _ _ _).mono ?_
  rintro e w2 ⟨rfl, hg2⟩
  obtain ⟨hc2, hf2, hz2⟩ := hg2.at (n := w.heap.size + 2) (by first | (simp; done) | (simp; omega) | omega)
  rw [hs]
  go_wp2_with (go_at_call 52; refine (need_no _ _).mono ?_; rintro e w3 ⟨rfl, rfl⟩)
  exact ⟨rfl, rfl, (by repeat (first | exact Gr.refl _ | assumption | refine Gr.alloc ?_ _ | refine Gr.drew ?_ | refine Gr.drewN ?_ _ | refine Gr.set ?_ _ _ (by first | (simp; done) | (simp; omega)) | refine Gr.trans ?_ (by assumption)))⟩
/-- what block b of two numbers holds -/
def Two (b : Nat) (x y : Int) (w : World) : Prop := w.cell? ⟨b, 0, none⟩ = some (.int .i64 x) ∧ w.cell? ⟨b, 1, none⟩ = some (.int .i64 y)
/-- a block of two numbers that may be written -/
def Two0 (b : Nat) (w : World) : Prop := (∃ x y : Int, w.cell? ⟨b, 0, none⟩ = some (.int .i64 x) ∧ w.cell? ⟨b, 1, none⟩ = some (.int .i64 y)) ∧ w.frozen? ⟨b, 0, none⟩ = false ∧ w.frozen? ⟨b, 1, none⟩ = false
set_option maxHeartbeats 400000 in
theorem Of1_ok (p q b : Nat) (x y : Int) (w : World) (hp : w.cell? ⟨p, 0, none⟩ = some (.int .i64 x)) (hq : w.cell? ⟨q, 0, none⟩ = some (.int .i64 y)) (hb : Two0 b w)
    (h : 1 ≤ y) (h1 : -4000000000000000000 ≤ x) (h2 : x ≤ 4000000000000000000) (h3 : y ≤ 4000000000000000000) (ho : Rm.okR x y = true) :
    Calls Tryz.prog 30 #[.pointer (some ⟨p, 0, none⟩), .pointer (some ⟨q, 0, none⟩), .pointer (some ⟨b, 0, none⟩)] w fun e w' => e = .returned (.tuple #[]) ∧ GrL [b] w w' ∧ Two b (Rm.redN x y) (Rm.redD x y) w' := by
  obtain ⟨⟨x0, y0, k0, k1⟩, f0, f1⟩ := hb
  have hl : b < w.heap.size := World.block_lt_of_cell? w _ k0
  go_enter Tryz.func30, Tryz.ntmps30
  go_wp2_with fail
  refine (told_ok _ _ _ h h1 h2 h3 ho).mono ?_
  rintro e w1 ⟨rfl, hg1⟩
  obtain ⟨hc1, hf1, hz1⟩ := hg1.at (Nat.le_refl _)
  go_wp2
  go_end0
  exact ⟨rfl, ((GrL.of_gr hg1).set _ _ (Or.inr (by simp))).set _ _ (Or.inr (by simp)), by simp [Two, go_sem, hc1, hl, k0, k1]⟩
set_option maxHeartbeats 400000 in
theorem Of1_no (p q b : Nat) (x y : Int) (w : World) (hp : w.cell? ⟨p, 0, none⟩ = some (.int .i64 x)) (hq : w.cell? ⟨q, 0, none⟩ = some (.int .i64 y))
    (h : 1 ≤ y) (h1 : -4000000000000000000 ≤ x) (h2 : x ≤ 4000000000000000000) (h3 : y ≤ 4000000000000000000) (ho : Rm.okR x y = false) :
    Calls Tryz.prog 30 #[.pointer (some ⟨p, 0, none⟩), .pointer (some ⟨q, 0, none⟩), .pointer (some ⟨b, 0, none⟩)] w fun e w' => e = .panicked [{ v := giv 10, recovered := false }] ∧ GrL [] w w' := by
  go_enter Tryz.func30, Tryz.ntmps30
  go_wp2_with fail
  refine (told_no _ _ _ h h1 h2 h3 ho).mono ?_
  rintro e w1 ⟨rfl, hg1⟩
  go_wp2
  exact ⟨rfl, rfl, GrL.of_gr hg1⟩
/-- what Of returns -/
def ofOk (n d : Int) : Bool := decide (1 ≤ d) && decide (d ≤ 1000000000000) && (decide (-1000000000000000 ≤ n) && decide (n ≤ 1000000000000000))
def ofN (n d : Int) : Int := if ofOk n d then Rm.mN n d else 0
def ofD (n d : Int) : Int := if ofOk n d then Rm.mD n d else 0
def ofE (n d : Int) : Int := if ofOk n d then Rm.mE n d else 1
set_option maxHeartbeats 1000000 in
theorem Of_any (x y : Int) (w : World) :
    Calls Tryz.prog 9 #[.int .i64 x, .int .i64 y] w fun e w' => e = .returned (.tuple #[fr (ofN x y) (ofD x y), .int .i64 (ofE x y)]) ∧ Gr w w' := by
  have hmf : ∀ (fn : Fn) (first cap : Array Value) (w : World), (Instr.makeFunc fn first cap).run Tryz.prog w = .ok (.func fn first cap) w := fun _ _ _ _ => rfl
  cases hd : (decide (1 ≤ y) && decide (y ≤ 1000000000000))
  · have eN : ofN x y = 0 ∧ ofD x y = 0 ∧ ofE x y = 1 := by simp [ofN, ofD, ofE, ofOk, hd]
    rw [eN.1, eN.2.1, eN.2.2]
    clear eN
    go_enter Tryz.func9, Tryz.ntmps9
    go_wp2_with (go_at_call 28; refine (in_any _ _ _ _).mono ?_; rintro e w' ⟨rfl, rfl⟩)
    exact bodyPost_ret (v := .tuple #[fr 0 0, .int .i64 1]) (by simp [results, Tryz.results9, go_sem]) rfl ⟨rfl, (by repeat (first | exact Gr.refl _ | assumption | refine Gr.alloc ?_ _ | refine Gr.drew ?_ | refine Gr.drewN ?_ _ | refine Gr.set ?_ _ _ (by first | (simp; done) | (simp; omega)) | refine Gr.trans ?_ (by assumption)))⟩
  · cases hn : (decide (-1000000000000000 ≤ x) && decide (x ≤ 1000000000000000))
    · have eN : ofN x y = 0 ∧ ofD x y = 0 ∧ ofE x y = 1 := by simp [ofN, ofD, ofE, ofOk, hn]
      rw [eN.1, eN.2.1, eN.2.2]
      clear eN
      go_enter Tryz.func9, Tryz.ntmps9
      go_wp2_with (go_at_call 28; refine (in_any _ _ _ _).mono ?_; rintro e w' ⟨rfl, rfl⟩)
      exact bodyPost_ret (v := .tuple #[fr 0 0, .int .i64 1]) (by simp [results, Tryz.results9, go_sem]) rfl ⟨rfl, (by repeat (first | exact Gr.refl _ | assumption | refine Gr.alloc ?_ _ | refine Gr.drew ?_ | refine Gr.drewN ?_ _ | refine Gr.set ?_ _ _ (by first | (simp; done) | (simp; omega)) | refine Gr.trans ?_ (by assumption)))⟩
    · have b1 : 1 ≤ y ∧ y ≤ 1000000000000 ∧ -1000000000000000 ≤ x ∧ x ≤ 1000000000000000 := by simp at hd hn; omega
      obtain ⟨b1, b2, b3, b4⟩ := b1
      have eO : ofOk x y = true := by unfold ofOk; rw [hd, hn]; rfl
      have eN : ofN x y = Rm.mN x y ∧ ofD x y = Rm.mD x y ∧ ofE x y = Rm.mE x y := by simp [ofN, ofD, ofE, eO]
      rw [eN.1, eN.2.1, eN.2.2]
      clear eN eO
      cases ho : Rm.okR x y
      · obtain ⟨e1, e2, e3⟩ := Rm.made_no ho
        rw [e1, e2, e3]
        clear e1 e2 e3
        go_enter Tryz.func9, Tryz.ntmps9
        go_wp2_with (go_at_call 28; refine (in_any _ _ _ _).mono ?_; rintro e w' ⟨rfl, rfl⟩)
        refine (tried_no 30 _ [] 10 _ (by simp) (enters_of Tryz.func30 (by kernel_rfl) rfl) ((Of1_no w.heap.size (w.heap.size+1) (w.heap.size + 3) x y _ (by simp [go_sem]) (by simp [go_sem]) (by omega) (by omega) (by omega) (by omega) ho))).mono ?_
        rintro e w1 ⟨rfl, hg1⟩
        obtain ⟨hc1, hf1, hz1⟩ := hg1.at (n := w.heap.size + 4) (by first | (simp; done) | (simp; omega) | omega)
        go_wp2
        exact bodyPost_ret (v := .tuple #[fr 0 0, .int .i64 10]) (by simp [results, Tryz.results9, go_sem, hc1]) rfl ⟨rfl, ((GrL.gr (l := []) (by repeat (first | exact Gr.refl _ | assumption | refine Gr.alloc ?_ _ | refine Gr.drew ?_ | refine Gr.drewN ?_ _ | refine Gr.set ?_ _ _ (by first | (simp; done) | (simp; omega)) | refine Gr.trans ?_ (by assumption))) hg1 (by simp)).set _ _ (by first | (simp; done) | (simp; omega) | omega)).set _ _ (by first | (simp; done) | (simp; omega) | omega)⟩
      · obtain ⟨e1, e2, e3⟩ := Rm.made_yes ho
        rw [e1, e2, e3]
        clear e1 e2 e3
        go_enter Tryz.func9, Tryz.ntmps9
        go_wp2_with (go_at_call 28; refine (in_any _ _ _ _).mono ?_; rintro e w' ⟨rfl, rfl⟩)
        refine (tried_ok 30 _ [w.heap.size + 3] (Two (w.heap.size + 3) (Rm.redN x y) (Rm.redD x y)) _ (by simp) (enters_of Tryz.func30 (by kernel_rfl) rfl) ((Of1_ok w.heap.size (w.heap.size+1) (w.heap.size + 3) x y _ (by simp [go_sem]) (by simp [go_sem]) ⟨⟨0, 0, by simp [go_sem]⟩, by simp [go_sem]⟩ (by omega) (by omega) (by omega) (by omega) ho))).mono ?_
        rintro e w1 ⟨rfl, hg1, w0, ⟨t1, t2⟩, hg2⟩
        obtain ⟨hc1, hf1, hz1⟩ := hg1.at (n := w.heap.size + 4) (by first | (simp; done) | (simp; omega) | omega)
        have s1 := ((hg2.at (Nat.le_refl _)).1 (w.heap.size + 3) 0 (World.block_lt_of_cell? _ _ t1) (by simp)).trans t1
        have s2 := ((hg2.at (Nat.le_refl _)).1 (w.heap.size + 3) 1 (World.block_lt_of_cell? _ _ t1) (by simp)).trans t2
        clear t1 t2 hg2
        go_wp2
        exact bodyPost_ret (v := .tuple #[fr (Rm.redN x y) (Rm.redD x y), .int .i64 0]) (by simp [results, Tryz.results9, go_sem, hc1]) rfl ⟨rfl, ((GrL.gr (l := [w.heap.size + 3]) (by repeat (first | exact Gr.refl _ | assumption | refine Gr.alloc ?_ _ | refine Gr.drew ?_ | refine Gr.drewN ?_ _ | refine Gr.set ?_ _ _ (by first | (simp; done) | (simp; omega)) | refine Gr.trans ?_ (by assumption))) hg1 (by simp)).set _ _ (by first | (simp; done) | (simp; omega) | omega)).set _ _ (by first | (simp; done) | (simp; omega) | omega)⟩
end Go.Proofs.YtconhikflghkdaaGreatDoor
