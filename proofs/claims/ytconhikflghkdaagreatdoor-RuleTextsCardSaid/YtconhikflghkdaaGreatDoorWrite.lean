/- rule/frac.go: Write. -/
import Derived.Test.YtconhikflghkdaaGreatDoorShelf
import Derived.Test.YtconhikflghkdaaGreatDoorArith
import Derived.Lib.AppendIntMem
import Derived.Lib.ItoaLen
namespace Go.Proofs.YtconhikflghkdaaGreatDoor
open Go.RowKit Go.Shelf
/-- the library's table of powers stands in the world -/
abbrev Tab (w : World) : Prop := Lib.TabIs Tryz.prog w "internal/strconv.uint64pow10" .u64 Lib.pow10Tab
theorem Tab.gr {w w' : World} (h : Tab w) (g : Gr w w') : Tab w' := Lib.tabBelow_of_tabIs h w' g.b
theorem Gr.grow (w : World) (k : Nat) (os : Array Obj) : Gr w (Sort.grow (w.drewN k) os) :=
  ⟨⟨rfl, rfl, rfl, by simp [Sort.grow], fun j hj => by simp [Sort.grow, Array.getElem?_append, hj]⟩, trivial⟩
theorem Itoa_any (n : Int) (w : World) (h1 : -1000000000 ≤ n) (h2 : n ≤ 1000000000) (ht : Tab w) :
    Calls Tryz.prog 22 #[.int .i64 n] w fun e w' => e = .returned (.string ⟨(Lib.itoa n).toArray⟩) ∧ Gr w w' :=
  (Tryz.strconv_Itoa n (by omega) (by omega) w ht).mono fun e w' ⟨h, k, os, e'⟩ => ⟨h, e' ▸ Gr.grow w k os⟩
theorem cat3 (A B : List UInt8) : (⟨A.toArray⟩ : ByteArray) ++ (⟨#[47]⟩ ++ ⟨B.toArray⟩) = ⟨(A ++ 47 :: B).toArray⟩ := by
  apply ByteArray.ext
  simp
/-- the text of a fraction -/
def wrT (a b : Int) : List UInt8 := if 1 < b then Lib.itoa a ++ 47 :: Lib.itoa b else Lib.itoa a
set_option maxRecDepth 100000 in
set_option maxHeartbeats 1000000 in
theorem Write_yes (a b : Int) (w : World) (h : Rm.okF a b = true) (ht : Tab w) : Calls Tryz.prog 5 #[fr a b] w fun e w' => e = .returned (.tuple #[.string ⟨(wrT a b).toArray⟩, .int .i64 0]) ∧ Gr w w' := by
  obtain ⟨x1, x2, x3, x4, x5⟩ := Rm.okF_iff.1 h
  have hE := Lib.hid (Rm.err_true (e := 1) h)
  have IA := Lib.hid (fun w => Itoa_any a w x1 x2)
  have IB := Lib.hid (fun w => Itoa_any b w (by omega) (by omega))
  have HT := Lib.hid (fun w' (g : Gr w w') => ht.gr g)
  clear h x5 ht
  by_cases hb : 1 < b
  · have e0 : wrT a b = Lib.itoa a ++ 47 :: Lib.itoa b := by simp [wrT, hb]
    rw [e0]
    clear e0
    have la := Lib.itoa_length_le a (by omega) (by omega)
    have lb := Lib.itoa_length_le b (by omega) (by omega)
    generalize Lib.itoa a = A at *
    generalize Lib.itoa b = B at *
    have l1 : ¬ 9223372036854775807 < 1 + B.length := by omega
    have l2 : ¬ 9223372036854775807 < A.length + (1 + B.length) := by omega
    have l3 : ¬ 9223372036854775807 < A.length + (B.length + 1) := by omega
    clear la lb
    go_enter Tryz.func5, Tryz.ntmps5
    go_wp2_with fail
    refine (checked_one _ _ a b _ (by simp [go_sem]) (by simp [go_sem])).mono ?_
    rintro e w1 ⟨rfl, hg1⟩
    rw [hE.out]
    obtain ⟨hc1, hf1, hz1⟩ := hg1.at (n := w.heap.size + 1) (by first | (simp; done) | (simp; omega) | omega)
    go_wp2_with fail
    have g1 : Gr w w1 := (by repeat (first | exact Gr.refl _ | assumption | refine Gr.alloc ?_ _ | refine Gr.drew ?_ | refine Gr.drewN ?_ _ | refine Gr.set ?_ _ _ (by first | (simp; done) | (simp; omega)) | refine Gr.trans ?_ (by assumption)))
    refine (IA.out _ (HT.out _ g1)).mono ?_
    rintro e w2 ⟨rfl, hg2⟩
    obtain ⟨hc2, hf2, hz2⟩ := hg2.at (n := w.heap.size + 1) (by first | (simp; done) | (simp; omega) | omega)
    go_wp2_with fail
    refine (IB.out _ (HT.out _ (g1.trans hg2))).mono ?_
    rintro e w3 ⟨rfl, hg3⟩
    go_wp2
    exact bodyPost_ret (v := .tuple #[.string ⟨(A ++ 47 :: B).toArray⟩, .int .i64 0]) (by simp [results, Tryz.results5, go_sem]; exact cat3 A B) rfl ⟨rfl, (g1.trans hg2).trans hg3⟩
  · have e0 : wrT a b = Lib.itoa a := by simp [wrT, hb]
    rw [e0]
    clear e0 IB
    go_enter Tryz.func5, Tryz.ntmps5
    go_wp2_with fail
    refine (checked_one _ _ a b _ (by simp [go_sem]) (by simp [go_sem])).mono ?_
    rintro e w1 ⟨rfl, hg1⟩
    rw [hE.out]
    obtain ⟨hc1, hf1, hz1⟩ := hg1.at (n := w.heap.size + 1) (by first | (simp; done) | (simp; omega) | omega)
    go_wp2_with fail
    have g1 : Gr w w1 := (by repeat (first | exact Gr.refl _ | assumption | refine Gr.alloc ?_ _ | refine Gr.drew ?_ | refine Gr.drewN ?_ _ | refine Gr.set ?_ _ _ (by first | (simp; done) | (simp; omega)) | refine Gr.trans ?_ (by assumption)))
    refine (IA.out _ (HT.out _ g1)).mono ?_
    rintro e w2 ⟨rfl, hg2⟩
    obtain ⟨hc2, hf2, hz2⟩ := hg2.at (n := w.heap.size + 1) (by first | (simp; done) | (simp; omega) | omega)
    go_wp2
    exact bodyPost_ret (v := .tuple #[.string ⟨(Lib.itoa a).toArray⟩, .int .i64 0]) (by simp [results, Tryz.results5, go_sem]) rfl ⟨rfl, g1.trans hg2⟩
end Go.Proofs.YtconhikflghkdaaGreatDoor
