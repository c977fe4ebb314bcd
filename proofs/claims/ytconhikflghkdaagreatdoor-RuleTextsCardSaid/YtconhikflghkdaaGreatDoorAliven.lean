/- stricklelaw01.alive: what its calls come to, in numbers. -/
import Derived.Test.YtconhikflghkdaaGreatDoorNeighb
import Derived.Test.YtconhikflghkdaaGreatDoorWrite
import Derived.Test.YtconhikflghkdaaGreatDoorTwiced
import Derived.Test.YtconhikflghkdaaGreatDoorSized
import Derived.Test.YtconhikflghkdaaGreatDoorBested
namespace Go.Proofs.YtconhikflghkdaaGreatDoor
open Go.RowKit Go.Shelf
/-- a contract that says what is returned -/
abbrev Says (f : Nat) (args : Array Value) (v : Value) : Prop := ∀ w : World, Calls Tryz.prog f args w fun e w' => e = .returned v ∧ Gr w w'
theorem al_of : Says 9 #[.int .i64 (-6), .int .i64 4] (.tuple #[fr (-3) 2, .int .i64 0]) := fun w => by
  have := Of_any (-6) 4 w
  rwa [show ofN (-6) 4 = -3 by kernel_rfl, show ofD (-6) 4 = 2 by kernel_rfl, show ofE (-6) 4 = 0 by kernel_rfl] at this
theorem al_simplest : Says 10 #[fr 31 100, fr 8 25] (.tuple #[fr 5 16, .int .i64 0]) := fun w => by
  have := Simplest_any 31 100 8 25 w
  rwa [show smN 31 100 8 25 = 5 by kernel_rfl, show smD 31 100 8 25 = 16 by kernel_rfl, show rgE 31 100 8 25 = 0 by kernel_rfl] at this
theorem al_neighbours : Says 12 #[fr 5 16] (.tuple #[fr 4 13, fr 1 3, .int .i64 0]) := fun w => by
  have := Neighbours_any 5 16 w
  have n : Rm.Nb 5 16 4 13 1 3 := ⟨by decide, by decide, by decide, by decide, by decide⟩
  obtain ⟨k1, k2, k3, k4⟩ := Rm.bk_eq (by decide) (by decide) n.brk
  have e : nbR 5 16 = .tuple #[fr 4 13, fr 1 3, .int .i64 0] := by
    unfold nbR nbv
    rw [show nbE 5 16 = 0 by kernel_rfl, k1, k2, k3, k4]; rfl
  rwa [e] at this
theorem al_nearest : Says 13 #[fr 314159 100000, .int .i64 200] (.tuple #[fr 355 113, .int .i64 0]) := fun w => by
  have := Nearest_any 314159 100000 200 w
  have n : Rm.Brk 314159 100000 200 333 106 355 113 := Rm.Brk.of_adj (by decide) (by decide) (by decide) (by decide) (by decide) (by decide) (by decide) (by decide) (by decide)
  obtain ⟨k1, k2, k3, k4⟩ := Rm.bk_eq (by decide) (by decide) n
  have ok : abOk 314159 100000 200 = true := by kernel_rfl
  have b : nrB 314159 100000 200 = false := by unfold nrB; rw [k1, k2, k3, k4]; kernel_rfl
  have e1 : nrN 314159 100000 200 = 355 := by simp [nrN, ok, b, k3]
  have e2 : nrD 314159 100000 200 = 113 := by simp [nrD, ok, b, k4]
  rw [e1, e2, ok] at this
  exact this
theorem al_terms (w : World) : Calls Tryz.prog 14 #[fr 355 113] w fun e w' => ∃ v, e = .returned (.tuple #[v, .int .i64 0]) ∧ w'.ownsRow w.heap.size 3 1 v 3 [.int .i64 3, .int .i64 7, .int .i64 16] ∧ Gr w w' := by
  have := Terms_yes 355 113 w (by kernel_rfl)
  unfold TermsPost at this
  rwa [show Rm.tm 355 113 = [3, 7, 16] by kernel_rfl] at this
theorem al_sizes : Says 15 #[ru 1 100 1 50, .int .i64 975, .int .i64 1000] (.tuple #[.int .i64 995, .int .i64 1010, .bool true, .int .i64 0]) := fun w => by
  have := Sizes_any 1 100 1 50 975 1000 w
  rwa [show szLo 1 100 1 50 975 1000 = 995 by kernel_rfl, show szHi 1 100 1 50 975 1000 = 1010 by kernel_rfl, show szB 1 100 1 50 975 1000 = true by kernel_rfl, show szE 1 100 1 50 975 1000 = 0 by kernel_rfl] at this
theorem al_best : Says 17 #[ru 1 100 1 50, .int .i64 1000] (.tuple #[.int .i64 1015, .int .i64 0]) := fun w => by
  have := Best_any 1 100 1 50 1000 w
  rwa [show bsR 1 100 1 50 1000 = 1015 by kernel_rfl, show Rm.err (ruOk 1 100 1 50 && szOk 1000) 1 = 0 by kernel_rfl] at this
theorem al_twice : Says 18 #[ru 1 100 1 50, ru 1 10 1 10] (.tuple #[ru 109 1000 59 500, .int .i64 0]) := fun w => by
  have := Twice_any 1 100 1 50 1 10 1 10 w
  rwa [show twV 1 100 1 50 1 10 1 10 (tw1 1 100 1 50 1 10 1 10) = 109 by kernel_rfl, show twV 1 100 1 50 1 10 1 10 (tw2 1 100 1 50 1 10 1 10) = 1000 by kernel_rfl, show twV 1 100 1 50 1 10 1 10 (tw3 1 100 1 50 1 10 1 10) = 59 by kernel_rfl, show twV 1 100 1 50 1 10 1 10 (tw4 1 100 1 50 1 10 1 10) = 500 by kernel_rfl, show twE 1 100 1 50 1 10 1 10 = 0 by kernel_rfl] at this
theorem al_write (w : World) (ht : Tab w) : Calls Tryz.prog 5 #[fr (-3) 2] w fun e w' => e = .returned (.tuple #[.string ⟨#[45, 51, 47, 50]⟩, .int .i64 0]) ∧ Gr w w' := by
  have := Write_yes (-3) 2 w (by kernel_rfl) ht
  have e : wrT (-3) 2 = [45, 51, 47, 50] := by
    simp [wrT, Lib.itoa, Lib.decDigits]
  rwa [e] at this
theorem al_add : Says 19 #[fr 1 6, fr 1 3] (.tuple #[fr 1 2, .int .i64 0]) := fun w => by
  have := Add_any 1 6 1 3 w
  rwa [show arN 0 1 6 1 3 = 1 by kernel_rfl, show arD 0 1 6 1 3 = 2 by kernel_rfl, show arE 0 1 6 1 3 = 0 by kernel_rfl] at this
theorem al_equal (b1 c b2 d : Nat) (w : World) (h0 : w.cell? ⟨b1, 0, none⟩ = some (.int .i64 3)) (h1 : w.cell? ⟨b1, 1, none⟩ = some (.int .i64 7)) (h2 : w.cell? ⟨b1, 2, none⟩ = some (.int .i64 16))
    (k0 : w.cell? ⟨b2, 0, none⟩ = some (.int .i64 3)) (k1 : w.cell? ⟨b2, 1, none⟩ = some (.int .i64 7)) (k2 : w.cell? ⟨b2, 2, none⟩ = some (.int .i64 16)) :
    Calls Tryz.prog 20 #[.slice (some ⟨b1, 0, none⟩) 3 c, .slice (some ⟨b2, 0, none⟩) 3 d] w fun e w' => e = .returned (.bool true) ∧ Gr w w' := by
  refine (Tryz.slices_Equal_int b1 0 3 c b2 0 3 d [3, 7, 16] [3, 7, 16] w (by simp) (by simp) (by omega) (by omega) ?_ ?_).mono ?_
  · intro j hj
    rcases (show j = 0 ∨ j = 1 ∨ j = 2 by simp at hj; omega) with rfl | rfl | rfl <;> simpa
  · intro j hj
    rcases (show j = 0 ∨ j = 1 ∨ j = 2 by simp at hj; omega) with rfl | rfl | rfl <;> simpa
  · rintro e w' ⟨rfl, q, rfl⟩
    exact ⟨rfl, (Gr.refl w).drewN q⟩
theorem eql_Rule (a b c d a' b' c' d' : Int) (w : World) : (binOp .eql 43 (ru a b c d) (ru a' b' c' d')).run Tryz.prog w = .ok (.bool (decide (a = a') && (decide (b = b') && (decide (c = c') && decide (d = d'))))) w := by
  go_simp
  by_cases h1 : a = a' <;> by_cases h2 : b = b' <;> by_cases h3 : c = c' <;> by_cases h4 : d = d' <;> simp_all
theorem law_f (n d : Int) : Says 11 #[.int .i64 n, .int .i64 d] (fr n d) := fun w => by
  go_enter Tryz.func11, Tryz.ntmps11
  go_wp2
  exact bodyPost_ret (v := fr n d) (by simp [results, Tryz.results11, go_sem]) rfl ⟨rfl, (by repeat (first | exact Gr.refl _ | assumption | refine Gr.alloc ?_ _ | refine Gr.drew ?_ | refine Gr.drewN ?_ _ | refine Gr.set ?_ _ _ (by first | (simp; done) | (simp; omega)) | refine Gr.trans ?_ (by assumption)))⟩
theorem law_tin : Says 16 #[] (ru 1 100 1 50) := fun w => by
  have F1 := Lib.hid (law_f 1 100)
  have F2 := Lib.hid (law_f 1 50)
  go_enter Tryz.func16, Tryz.ntmps16
  go_wp2_with fail
  refine (F1.out _).mono ?_
  rintro e w1 ⟨rfl, hg1⟩
  obtain ⟨hc1, hf1, hz1⟩ := hg1.at (n := w.heap.size + 1) (by first | (simp; done) | (simp; omega) | omega)
  go_wp2_with fail
  refine (F2.out _).mono ?_
  rintro e w2 ⟨rfl, hg2⟩
  obtain ⟨c0, f0, z0⟩ := blk_cells (hg2.heap (hg1.heap (heap_alloc_self w (.cells #[.int .i64 0, .int .i64 0, .int .i64 0, .int .i64 0] 43))))
  clear hc1 hf1
  go_wp2
  exact bodyPost_ret (v := ru 1 100 1 50) (by simp [results, Tryz.results16, go_sem, c0]) rfl ⟨rfl, (by repeat (first | exact Gr.refl _ | assumption | refine Gr.alloc ?_ _ | refine Gr.drew ?_ | refine Gr.drewN ?_ _ | refine Gr.set ?_ _ _ (by first | (simp; done) | (simp; omega)) | refine Gr.trans ?_ (by assumption)))⟩
end Go.Proofs.YtconhikflghkdaaGreatDoor
