/- rule/near.go: terms, Terms. -/
import Derived.Test.YtconhikflghkdaaGreatDoorCollect
namespace Go.Proofs.YtconhikflghkdaaGreatDoor
open Go.RowKit Go.Shelf
set_option maxHeartbeats 400000 in
theorem terms_any (a b : Int) (w : World) :
    Calls Tryz.prog 39 #[fr a b] w fun e w' => e = .returned (.func (.func 67) #[] #[.pointer (some ⟨w.heap.size, 0, none⟩)]) ∧ w' = w.alloc (.cells #[.int .i64 a, .int .i64 b] 65) := by
  have hmf : ∀ (fn : Fn) (first cap : Array Value) (w : World), (Instr.makeFunc fn first cap).run Tryz.prog w = .ok (.func fn first cap) w := fun _ _ _ _ => rfl
  go_enter Tryz.func39, Tryz.ntmps39
  go_wp2
  go_ret
  exact ⟨rfl, rfl⟩
def TermsPost (a b : Int) (w : World) (e : Ending) (w' : World) : Prop :=
  ∃ v, e = .returned (.tuple #[v, .int .i64 0]) ∧ w'.ownsRow w.heap.size 3 1 v (Rm.tm a b).length ((Rm.tm a b).map (Value.int .i64)) ∧ Gr w w'
theorem ownsRow_le {W : World} {base base' : Nat} {e : TypeId} {size : Nat} {v : Value} {k : Nat} {xs : List Value} (h : W.ownsRow base e size v k xs) (hb : base' ≤ base) : W.ownsRow base' e size v k xs := by
  refine ⟨h.1, ?_⟩
  rcases h.2 with hn | ⟨i, cap, cur, rfl, hbi, rest⟩
  · exact .inl hn
  · exact .inr ⟨i, cap, cur, rfl, by omega, rest⟩
set_option maxRecDepth 100000 in
set_option maxHeartbeats 1000000 in
theorem Terms_yes (a b : Int) (w : World) (h : Rm.okF a b = true) : Calls Tryz.prog 14 #[fr a b] w (TermsPost a b w) := by
  obtain ⟨x1, x2, x3, x4, x5⟩ := Rm.okF_iff.1 h
  have hl := Rm.tm_len40 (n := a) x3 x4
  have hE := Lib.hid (Rm.err_true (e := 1) h)
  have CO := Lib.hid (fun (W : World) => Collect_any 67 #[.pointer (some ⟨W.heap.size, 0, none⟩)] [W.heap.size] (Rm.tm a b) (W.alloc (.cells #[.int .i64 a, .int .i64 b] 65)) (by simp) (enters_of Tryz.func67 (by kernel_rfl) rfl)
    (terms_iter W.heap.size 65 a b _ (Gr.heap ((Gr.refl _).alloc _) (heap_alloc_self W _)) x1 x2 x3 x4) (by omega))
  clear h x1 x2 x3 x4 x5 hl
  go_enter Tryz.func14, Tryz.ntmps14
  go_wp2_with fail
  refine (checked_one _ _ a b _ (by simp [go_sem]) (by simp [go_sem])).mono ?_
  rintro e w1 ⟨rfl, hg1⟩
  rw [hE.out]
  obtain ⟨hc1, hf1, hz1⟩ := hg1.at (n := w.heap.size + 1) (by first | (simp; done) | (simp; omega) | omega)
  go_wp2_with fail
  refine (of_any _ _ _).mono ?_
  rintro e w2 ⟨rfl, hg2⟩
  clear hc1 hf1
  go_wp2_with fail
  refine (terms_any _ _ _).mono ?_
  rintro e w3 ⟨rfl, rfl⟩
  go_wp2_with fail
  refine (CO.out _).mono ?_
  rintro e w4 ⟨v, rfl, hr, hn, hg4⟩
  go_wp2
  have hgw : Gr w w2 := (by repeat (first | exact Gr.refl _ | assumption | refine Gr.alloc ?_ _ | refine Gr.drew ?_ | refine Gr.drewN ?_ _ | refine Gr.set ?_ _ _ (by first | (simp; done) | (simp; omega)) | refine Gr.trans ?_ (by assumption)))
  have hz : w.heap.size ≤ w2.heap.size := hgw.b.size
  exact bodyPost_ret (v := .tuple #[v, .int .i64 0]) (by simp [results, Tryz.results14, go_sem]) rfl ⟨v, rfl, ownsRow_le hr (by simp; omega), GrL.gr (hgw.alloc _) hg4 (by simp; omega)⟩
set_option maxRecDepth 100000 in
set_option maxHeartbeats 1000000 in
theorem Terms_no (a b : Int) (w : World) (h : Rm.okF a b = false) : Calls Tryz.prog 14 #[fr a b] w fun e w' => e = .returned (.tuple #[.slice none 0 0, .int .i64 1]) ∧ Gr w w' := by
  have hE := Lib.hid (Rm.err_false (e := 1) h)
  clear h
  go_enter Tryz.func14, Tryz.ntmps14
  go_wp2_with fail
  refine (checked_one _ _ a b _ (by simp [go_sem]) (by simp [go_sem])).mono ?_
  rintro e w1 ⟨rfl, hg1⟩
  rw [hE.out]
  go_wp2
  exact bodyPost_ret (v := .tuple #[.slice none 0 0, .int .i64 1]) (by simp [results, Tryz.results14, go_sem]) rfl ⟨rfl, (by repeat (first | exact Gr.refl _ | assumption | refine Gr.alloc ?_ _ | refine Gr.drew ?_ | refine Gr.drewN ?_ _ | refine Gr.set ?_ _ _ (by first | (simp; done) | (simp; omega)) | refine Gr.trans ?_ (by assumption)))⟩
end Go.Proofs.YtconhikflghkdaaGreatDoor
