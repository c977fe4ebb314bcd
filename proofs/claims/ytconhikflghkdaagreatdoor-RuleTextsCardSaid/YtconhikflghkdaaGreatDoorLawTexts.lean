/- RuleTexts: the walk. -/
import Derived.Test.YtconhikflghkdaaGreatDoorAlive
import Derived.Test.YtconhikflghkdaaGreatDoorRReads
namespace Go.Proofs.YtconhikflghkdaaGreatDoor
open Go.RowKit Go.Shelf
set_option maxHeartbeats 1000000 in
theorem RuleTexts_long (a b : Int) (s : ByteArray) (w : World) (tw : TW w) (h : 100 < s.size) :
    Calls Tryz.prog 3 #[fr a b, .string s] w fun e w' => e = .returned (.bool true) ∧ Gr w w' := by
  have AL := Lib.hid (fun w' (g : Gr w w') => alive_any w' (tw.gr g).t)
  have h' : (100 : Int) < s.size := by omega
  clear tw
  go_enter Tryz.func3, Tryz.ntmps3
  go_wp2_with fail
  refine (AL.out _ (by repeat (first | exact Gr.refl _ | assumption | refine Gr.alloc ?_ _ | refine Gr.drew ?_ | refine Gr.drewN ?_ _ | refine Gr.set ?_ _ _ (by first | (simp; done) | (simp; omega)) | refine Gr.trans ?_ (by assumption)))).mono ?_
  rintro e w1 ⟨rfl, hg⟩
  go_wp2
  go_ret
  exact ⟨rfl, (by repeat (first | exact Gr.refl _ | assumption | refine Gr.alloc ?_ _ | refine Gr.drew ?_ | refine Gr.drewN ?_ _ | refine Gr.set ?_ _ _ (by first | (simp; done) | (simp; omega)) | refine Gr.trans ?_ (by assumption)))⟩
set_option maxRecDepth 100000 in
set_option maxHeartbeats 4000000 in
theorem RuleTexts_core (a b : Int) (s T : ByteArray) (e h N D : Int) (w : World) (tw : TW w) (hs : ¬ 100 < s.size)
    (W1 : Hid (∀ w', Gr w w' → Calls Tryz.prog 5 #[fr a b] w' fun r w'' => r = .returned (.tuple #[.string T, .int .i64 e]) ∧ Gr w' w''))
    (W2 : Hid (∀ w', Gr w w' → Calls Tryz.prog 6 #[fr a b] w' fun r w'' => r = .returned (.tuple #[.string T, .int .i64 e]) ∧ Gr w' w''))
    (R1 : Hid (∀ w', Gr w w' → Calls Tryz.prog 7 #[.string s] w' fun r w'' => r = .returned (.tuple #[fr N D, .int .i64 h]) ∧ Gr w' w''))
    (R2 : Hid (∀ w', Gr w w' → Calls Tryz.prog 8 #[.string s] w' fun r w'' => r = .returned (.tuple #[fr N D, .int .i64 h]) ∧ Gr w' w''))
    (R3 : Hid (e = 0 → ∀ w', Gr w w' → Calls Tryz.prog 7 #[.string T] w' fun r w'' => r = .returned (.tuple #[fr a b, .int .i64 0]) ∧ Gr w' w''))
    (W3 : Hid (h = 0 → ∀ w', Gr w w' → Calls Tryz.prog 5 #[fr N D] w' fun r w'' => r = .returned (.tuple #[.string s, .int .i64 0]) ∧ Gr w' w'')) :
    Calls Tryz.prog 3 #[fr a b, .string s] w fun e w' => e = .returned (.bool true) ∧ Gr w w' := by
  have AL := Lib.hid (fun w' (g : Gr w w') => alive_any w' (tw.gr g).t)
  have h' : ¬ (100 : Int) < s.size := by omega
  have eq0 : ∀ w, (binOp .eql 23 (fr N D) (fr N D)).run Tryz.prog w = .ok (.bool true) w := fun w => by rw [eql_Frac]; simp
  have eq1 : ∀ w, (binOp .eql 23 (fr a b) (fr a b)).run Tryz.prog w = .ok (.bool true) w := fun w => by rw [eql_Frac]; simp
  clear tw
  go_enter Tryz.func3, Tryz.ntmps3
  have bkx := heap_alloc_self w (.cells #[.int .i64 a, .int .i64 b] 23)
  have g : Gr w (w.alloc (.cells #[.int .i64 a, .int .i64 b] 23)) := (Gr.refl w).alloc _
  go_wp2_with fail
  refine (W1.out _ g).mono ?_
  rintro r w1 ⟨rfl, hg⟩
  replace bkx := hg.heap bkx
  replace g := g.trans hg
  clear hg
  obtain ⟨cx, fx, zx⟩ := blk_cells bkx
  go_wp2_with fail
  clear cx fx zx
  refine (W2.out _ g).mono ?_
  rintro r w2 ⟨rfl, hg⟩
  replace bkx := hg.heap bkx
  replace g := g.trans hg
  clear hg
  obtain ⟨cx, fx, zx⟩ := blk_cells bkx
  go_wp2_with fail
  clear cx fx zx
  refine (R1.out _ g).mono ?_
  rintro r w3 ⟨rfl, hg⟩
  replace bkx := hg.heap bkx
  replace g := g.trans hg
  clear hg
  obtain ⟨cx, fx, zx⟩ := blk_cells bkx
  go_wp2_with fail
  clear cx fx zx
  replace bkx := ((Gr.refl _).alloc (.cells #[.int .i64 N, .int .i64 D] 23)).heap bkx
  have bky := heap_alloc_self w3 (.cells #[.int .i64 N, .int .i64 D] 23)
  replace g := g.alloc (.cells #[.int .i64 N, .int .i64 D] 23)
  refine (R2.out _ g).mono ?_
  rintro r w4 ⟨rfl, hg⟩
  replace bkx := hg.heap bkx
  replace bky := hg.heap bky
  replace g := g.trans hg
  clear hg
  obtain ⟨cx, fx, zx⟩ := blk_cells bkx
  obtain ⟨cy, fy, zy⟩ := blk_cells bky
  by_cases he : e = 0
  · by_cases hh : h = 0
    · have R3p := R3.out he
      have W3p := W3.out hh
      subst he
      subst hh
      go_wp2_with fail
      clear cx fx zx cy fy zy
      replace bkx := ((Gr.refl _).alloc (.cells #[.int .i64 N, .int .i64 D] 23)).heap bkx
      replace bky := ((Gr.refl _).alloc (.cells #[.int .i64 N, .int .i64 D] 23)).heap bky
      have bkz := heap_alloc_self w4 (.cells #[.int .i64 N, .int .i64 D] 23)
      replace g := g.alloc (.cells #[.int .i64 N, .int .i64 D] 23)
      refine (R3p _ g).mono ?_
      rintro r w5 ⟨rfl, hg⟩
      replace bkx := hg.heap bkx
      replace bky := hg.heap bky
      replace bkz := hg.heap bkz
      replace g := g.trans hg
      clear hg
      obtain ⟨cx, fx, zx⟩ := blk_cells bkx
      obtain ⟨cy, fy, zy⟩ := blk_cells bky
      obtain ⟨cz, fz, zz⟩ := blk_cells bkz
      go_wp2_with fail
      clear cx fx zx cy fy zy cz fz zz
      replace bkx := ((Gr.refl _).alloc (.cells #[.int .i64 a, .int .i64 b] 23)).heap bkx
      replace bky := ((Gr.refl _).alloc (.cells #[.int .i64 a, .int .i64 b] 23)).heap bky
      replace bkz := ((Gr.refl _).alloc (.cells #[.int .i64 a, .int .i64 b] 23)).heap bkz
      have bkv := heap_alloc_self w5 (.cells #[.int .i64 a, .int .i64 b] 23)
      replace g := g.alloc (.cells #[.int .i64 a, .int .i64 b] 23)
      refine (W3p _ g).mono ?_
      rintro r w6 ⟨rfl, hg⟩
      replace bkx := hg.heap bkx
      replace bky := hg.heap bky
      replace bkz := hg.heap bkz
      replace bkv := hg.heap bkv
      replace g := g.trans hg
      clear hg
      go_wp2_with fail
      refine (AL.out _ g).mono ?_
      rintro r w7 ⟨rfl, hg⟩
      replace g := g.trans hg
      clear hg
      go_wp2
      go_ret
      exact ⟨rfl, g⟩
    · have R3p := R3.out he
      have hh' : (h == 0) = false := beq_eq_false_iff_ne.2 hh
      subst he
      go_wp2_with fail
      clear cx fx zx cy fy zy
      replace bkx := ((Gr.refl _).alloc (.cells #[.int .i64 N, .int .i64 D] 23)).heap bkx
      replace bky := ((Gr.refl _).alloc (.cells #[.int .i64 N, .int .i64 D] 23)).heap bky
      have bkz := heap_alloc_self w4 (.cells #[.int .i64 N, .int .i64 D] 23)
      replace g := g.alloc (.cells #[.int .i64 N, .int .i64 D] 23)
      refine (R3p _ g).mono ?_
      rintro r w5 ⟨rfl, hg⟩
      replace bkx := hg.heap bkx
      replace bky := hg.heap bky
      replace bkz := hg.heap bkz
      replace g := g.trans hg
      clear hg
      obtain ⟨cx, fx, zx⟩ := blk_cells bkx
      obtain ⟨cy, fy, zy⟩ := blk_cells bky
      obtain ⟨cz, fz, zz⟩ := blk_cells bkz
      go_wp2_with fail
      clear cx fx zx cy fy zy cz fz zz
      replace bkx := ((Gr.refl _).alloc (.cells #[.int .i64 a, .int .i64 b] 23)).heap bkx
      replace bky := ((Gr.refl _).alloc (.cells #[.int .i64 a, .int .i64 b] 23)).heap bky
      replace bkz := ((Gr.refl _).alloc (.cells #[.int .i64 a, .int .i64 b] 23)).heap bkz
      have bkv := heap_alloc_self w5 (.cells #[.int .i64 a, .int .i64 b] 23)
      replace g := g.alloc (.cells #[.int .i64 a, .int .i64 b] 23)
      refine (AL.out _ g).mono ?_
      rintro r w6 ⟨rfl, hg⟩
      replace g := g.trans hg
      clear hg
      go_wp2
      go_ret
      exact ⟨rfl, g⟩
  · by_cases hh : h = 0
    · have he' : (e == 0) = false := beq_eq_false_iff_ne.2 he
      have W3p := W3.out hh
      subst hh
      go_wp2_with fail
      clear cx fx zx cy fy zy
      replace bkx := ((Gr.refl _).alloc (.cells #[.int .i64 N, .int .i64 D] 23)).heap bkx
      replace bky := ((Gr.refl _).alloc (.cells #[.int .i64 N, .int .i64 D] 23)).heap bky
      have bkz := heap_alloc_self w4 (.cells #[.int .i64 N, .int .i64 D] 23)
      replace g := g.alloc (.cells #[.int .i64 N, .int .i64 D] 23)
      refine (W3p _ g).mono ?_
      rintro r w5 ⟨rfl, hg⟩
      replace bkx := hg.heap bkx
      replace bky := hg.heap bky
      replace bkz := hg.heap bkz
      replace g := g.trans hg
      clear hg
      go_wp2_with fail
      refine (AL.out _ g).mono ?_
      rintro r w6 ⟨rfl, hg⟩
      replace g := g.trans hg
      clear hg
      go_wp2
      go_ret
      exact ⟨rfl, g⟩
    · have he' : (e == 0) = false := beq_eq_false_iff_ne.2 he
      have hh' : (h == 0) = false := beq_eq_false_iff_ne.2 hh
      go_wp2_with fail
      clear cx fx zx cy fy zy
      replace bkx := ((Gr.refl _).alloc (.cells #[.int .i64 N, .int .i64 D] 23)).heap bkx
      replace bky := ((Gr.refl _).alloc (.cells #[.int .i64 N, .int .i64 D] 23)).heap bky
      have bkz := heap_alloc_self w4 (.cells #[.int .i64 N, .int .i64 D] 23)
      replace g := g.alloc (.cells #[.int .i64 N, .int .i64 D] 23)
      refine (AL.out _ g).mono ?_
      rintro r w5 ⟨rfl, hg⟩
      replace g := g.trans hg
      clear hg
      go_wp2
      go_ret
      exact ⟨rfl, g⟩
theorem RuleTexts_any (a b : Int) (s : ByteArray) (w : World) (tw : TW w) :
    Calls Tryz.prog 3 #[fr a b, .string s] w fun e w' => e = .returned (.bool true) ∧ Gr w w' := by
  by_cases h : 100 < s.size
  · exact RuleTexts_long a b s w tw h
  · refine RuleTexts_core a b s ⟨(wT a b).toArray⟩ (Rm.err (Rm.okF a b) 1) (rdE s.data.toList) (rdN s.data.toList) (rdD s.data.toList) w tw h
      (Lib.hid (fun w' g => Write_any a b w' (tw.gr g))) (Lib.hid (fun w' _ => rWrite_any a b w')) (Lib.hid (fun w' g => Read_any s w' (by omega) (tw.gr g))) (Lib.hid (fun w' g => rRead_any s w' (by omega) (tw.gr g))) (Lib.hid (fun he w' g => ?_)) (Lib.hid (fun he w' g => ?_))
    · cases ho : Rm.okF a b
      · rw [ho, Rm.err_false rfl] at he
        exact absurd he (by decide)
      · obtain ⟨x1, x2, x3, x4, x5⟩ := Rm.okF_iff.1 ho
        have e : wT a b = wrT a b := by simp [wT, ho]
        obtain ⟨p1, p2⟩ := p_wrT (a := a) (b := b) (by omega) (by omega) (by omega) (by omega)
        have hk : rdOk (wrT a b) = true := by unfold rdOk; rw [p1, p2, ho]; simp
        have hl := wrT_len ho
        have R := Read_any ⟨(wrT a b).toArray⟩ w' (by show (wrT a b).toArray.size ≤ 1000; rw [List.size_toArray]; omega) (tw.gr g)
        simp only [rdN, rdD, rdE, hk, if_true, p1, p2] at R
        rw [e]
        exact R
    · obtain ⟨l, hl⟩ : ∃ l, s.data.toList = l := ⟨_, rfl⟩
      rw [hl] at he ⊢
      cases hk : rdOk l
      · unfold rdE at he
        rw [hk] at he
        exact absurd he (by decide)
      · have hk' := hk
        unfold rdOk at hk'
        obtain ⟨o1, o2⟩ := Bool.and_eq_true_iff.1 hk'
        have o2 := of_decide_eq_true o2
        have W := Write_any (pN l) (pD l) w' (tw.gr g)
        have e : wT (pN l) (pD l) = l := by simp [wT, o1, o2]
        have es : (⟨l.toArray⟩ : ByteArray) = s := by rw [← hl]
        rw [e, es, o1, Rm.err_true rfl] at W
        simp only [rdN, rdD, hk, if_true]
        exact W
end Go.Proofs.YtconhikflghkdaaGreatDoor
