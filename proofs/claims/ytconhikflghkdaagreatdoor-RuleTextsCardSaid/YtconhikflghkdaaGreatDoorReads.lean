/- rule/frac.go: Read. -/
import Derived.Test.YtconhikflghkdaaGreatDoorTexts
namespace Go.Proofs.YtconhikflghkdaaGreatDoor
open Go.RowKit Go.Shelf
theorem cell_put {u : World} {g i : Nat} {c : Array Value} {T : TypeId} (s : Value) (hv : u.heap[g]? = some (.cells c T (0, 0))) : (u.setCell ⟨g, i, none⟩ s).heap[g]? = some (.cells (c.setIfInBounds i s) T (0, 0)) := by
  have : (u.setCell ⟨g, i, none⟩ s).heap = u.heap.modify g fun | .cells c elem fr => .cells (c.setIfInBounds i s) elem fr | o => o := rfl
  rw [this, Array.getElem?_modify]
  simp [hv]
/-- is the text that of a fraction? -/
def rdOk (l : List UInt8) : Bool := Rm.okF (pN l) (pD l) && decide (wrT (pN l) (pD l) = l)
def rdN (l : List UInt8) : Int := if rdOk l then pN l else 0
def rdD (l : List UInt8) : Int := if rdOk l then pD l else 0
def rdE (l : List UInt8) : Int := if rdOk l then 0 else 4
set_option maxRecDepth 100000 in
set_option maxHeartbeats 2000000 in
theorem Read_core (s : ByteArray) (n d : List UInt8) (two : Bool) (N D0 D E : Int) (t : List UInt8) (w : World) (tw : TW w)
    (CU : Hid (∀ w, TW w → Calls Tryz.prog 26 #[.string s, .string ⟨#[47]⟩] w fun e w' => e = .returned (.tuple #[.string ⟨n.toArray⟩, .string ⟨d.toArray⟩, .bool two]) ∧ Gr w w'))
    (A1 : Hid (∀ w, TW w → Calls Tryz.prog 27 #[.string ⟨n.toArray⟩] w fun e w' => (∃ ev, e = .returned (.tuple #[.int .i64 N, ev])) ∧ Gr w w'))
    (A2 : Hid (∀ w, TW w → Calls Tryz.prog 27 #[.string ⟨d.toArray⟩] w fun e w' => (∃ ev, e = .returned (.tuple #[.int .i64 D0, ev])) ∧ Gr w w'))
    (hD : D = if two then D0 else 1)
    (WR : Hid (∀ w, TW w → Calls Tryz.prog 5 #[fr N D] w fun e w' => e = .returned (.tuple #[.string ⟨t.toArray⟩, .int .i64 E]) ∧ Gr w w')) :
    Calls Tryz.prog 7 #[.string s] w fun e w' => e = .returned (.tuple #[fr (if E = 0 ∧ t = s.data.toList then N else 0) (if E = 0 ∧ t = s.data.toList then D else 0), .int .i64 (if E = 0 ∧ t = s.data.toList then 0 else 4)]) ∧ Gr w w' := by
  have HTW := Lib.hid (fun w' (g : Gr w w') => tw.gr g)
  obtain ⟨Q1, hQ1⟩ : ∃ q, (if E = 0 ∧ t = s.data.toList then N else 0) = q := ⟨_, rfl⟩
  obtain ⟨Q2, hQ2⟩ : ∃ q, (if E = 0 ∧ t = s.data.toList then D else 0) = q := ⟨_, rfl⟩
  obtain ⟨Q3, hQ3⟩ : ∃ q : Int, (if E = 0 ∧ t = s.data.toList then 0 else 4) = q := ⟨_, rfl⟩
  rw [hQ1, hQ2, hQ3]
  have HQ := Lib.hid (And.intro hQ1 (And.intro hQ2 hQ3))
  clear tw hQ1 hQ2 hQ3
  go_enter Tryz.func7, Tryz.ntmps7
  have bo := heap_alloc_self w (.cells #[.int .i64 0, .int .i64 0] 23)
  have g0 : Gr w (w.alloc (.cells #[.int .i64 0, .int .i64 0] 23)) := (Gr.refl w).alloc _
  go_wp2_with fail
  refine (CU.out _ (HTW.out _ g0)).mono ?_
  rintro e w1 ⟨rfl, hg1⟩
  have bo1 := hg1.heap bo
  have g1 := g0.trans hg1
  clear bo g0 hg1
  go_wp2_with fail
  have bx2 := heap_alloc_self w1 (.cells #[.int .i64 0, .int .i64 1] 23)
  have bo2 := ((Gr.refl _).alloc (.cells #[.int .i64 0, .int .i64 1] 23)).heap bo1
  have g2 := g1.alloc (.cells #[.int .i64 0, .int .i64 1] 23)
  obtain ⟨k7, h7⟩ : ∃ k7, w1.heap.size = k7 := ⟨_, rfl⟩
  have z1 : w.heap.size < k7 := by rw [← h7]; exact heap_lt bo1
  generalize hW : w1.alloc (.cells #[.int .i64 0, .int .i64 1] 23) = W at *
  rw [h7] at bx2
  rw [h7]
  clear g1 bo1 hW h7 CU
  cases two with
  | false =>
    have hD' : D = 1 := by simpa using hD
    clear hD
    subst hD'
    refine (A1.out _ (HTW.out _ g2)).mono ?_
    rintro e w3 ⟨⟨ev, rfl⟩, hg3⟩
    have bo3 := hg3.heap bo2
    have bx3 := hg3.heap bx2
    have g3 := g2.trans hg3
    clear bo2 bx2 g2 hg3 A1
    obtain ⟨cx, fx, zx⟩ := blk_cells bx3
    have bx4 := cell_put (i := 0) (.int .i64 N) bx3
    have bo4 : (w3.setCell ⟨k7, 0, none⟩ (.int .i64 N)).heap[w.heap.size]? = some (.cells #[.int .i64 0, .int .i64 0] 23 (0, 0)) := by
      rw [Below.heap_setCell _ ⟨k7, 0, none⟩ _ _ (by show w.heap.size ≠ k7; omega)]; exact bo3
    have g4 : Gr w (w3.setCell ⟨k7, 0, none⟩ (.int .i64 N)) := g3.set _ _ (by show w.heap.size ≤ k7; omega)
    simp only [List.setIfInBounds_toArray, List.set_cons_zero] at bx4
    go_wp2_with fail
    clear cx fx zx
    refine (WR.out _ (HTW.out _ g4)).mono ?_
    rintro e w5 ⟨rfl, hg5⟩
    have bx5 := hg5.heap bx4
    have bo5 := hg5.heap bo4
    have g5 := g4.trans hg5
    clear bo4 bx4 g4 hg5 WR
    obtain ⟨cx, fx, zx⟩ := blk_cells bx5
    obtain ⟨co, fo, zo⟩ := blk_cells bo5
    have eqs : s.toList = s.data.toList := ByteArray.toList_eq s
    by_cases hE : E = 0
    · subst hE
      by_cases hT : t = s.data.toList
      · have hc : (t == s.toList) = true := by rw [eqs]; exact beq_iff_eq.2 hT
        have hq : Q1 = N ∧ Q2 = 1 ∧ Q3 = 0 := by obtain ⟨a1, a2, a3⟩ := HQ.out; simp [hT] at a1 a2 a3; exact ⟨a1.symm, a2.symm, a3.symm⟩
        clear hT eqs
        go_wp2
        rw [hq.1, hq.2.1, hq.2.2]
        exact bodyPost_ret (v := .tuple #[fr N 1, .int .i64 0]) (by simp [results, Tryz.results7, go_sem, co]) rfl ⟨rfl, (by repeat (first | exact Gr.refl _ | assumption | refine Gr.alloc ?_ _ | refine Gr.drew ?_ | refine Gr.drewN ?_ _ | refine Gr.set ?_ _ _ (by first | (simp; done) | (simp; omega)) | refine Gr.trans ?_ (by assumption)))⟩
      · have hc : (t == s.toList) = false := by rw [eqs]; exact beq_eq_false_iff_ne.2 hT
        have hq : Q1 = 0 ∧ Q2 = 0 ∧ Q3 = 4 := by obtain ⟨a1, a2, a3⟩ := HQ.out; simp [hT] at a1 a2 a3; exact ⟨a1.symm, a2.symm, a3.symm⟩
        clear hT eqs
        go_wp2
        rw [hq.1, hq.2.1, hq.2.2]
        exact bodyPost_ret (v := .tuple #[fr 0 0, .int .i64 4]) (by simp [results, Tryz.results7, go_sem, co]) rfl ⟨rfl, (by repeat (first | exact Gr.refl _ | assumption | refine Gr.alloc ?_ _ | refine Gr.drew ?_ | refine Gr.drewN ?_ _ | refine Gr.set ?_ _ _ (by first | (simp; done) | (simp; omega)) | refine Gr.trans ?_ (by assumption)))⟩
    · have hq : Q1 = 0 ∧ Q2 = 0 ∧ Q3 = 4 := by obtain ⟨a1, a2, a3⟩ := HQ.out; simp [hE] at a1 a2 a3; exact ⟨a1.symm, a2.symm, a3.symm⟩
      have hE' : (E == 0) = false := beq_eq_false_iff_ne.2 hE
      go_wp2
      rw [hq.1, hq.2.1, hq.2.2]
      exact bodyPost_ret (v := .tuple #[fr 0 0, .int .i64 4]) (by simp [results, Tryz.results7, go_sem, co]) rfl ⟨rfl, (by repeat (first | exact Gr.refl _ | assumption | refine Gr.alloc ?_ _ | refine Gr.drew ?_ | refine Gr.drewN ?_ _ | refine Gr.set ?_ _ _ (by first | (simp; done) | (simp; omega)) | refine Gr.trans ?_ (by assumption)))⟩
  | true =>
    have hD' : D = D0 := by simpa using hD
    clear hD
    subst hD'
    refine (A1.out _ (HTW.out _ g2)).mono ?_
    rintro e w3 ⟨⟨ev, rfl⟩, hg3⟩
    have bo3 := hg3.heap bo2
    have bx3 := hg3.heap bx2
    have g3 := g2.trans hg3
    clear bo2 bx2 g2 hg3 A1
    obtain ⟨cx, fx, zx⟩ := blk_cells bx3
    have bx4 := cell_put (i := 0) (.int .i64 N) bx3
    have bo4 : (w3.setCell ⟨k7, 0, none⟩ (.int .i64 N)).heap[w.heap.size]? = some (.cells #[.int .i64 0, .int .i64 0] 23 (0, 0)) := by
      rw [Below.heap_setCell _ ⟨k7, 0, none⟩ _ _ (by show w.heap.size ≠ k7; omega)]; exact bo3
    have g4 : Gr w (w3.setCell ⟨k7, 0, none⟩ (.int .i64 N)) := g3.set _ _ (by show w.heap.size ≤ k7; omega)
    simp only [List.setIfInBounds_toArray, List.set_cons_zero] at bx4
    go_wp2_with fail
    clear cx fx zx
    refine (A2.out _ (HTW.out _ g4)).mono ?_
    rintro e w5 ⟨⟨ev2, rfl⟩, hg5⟩
    have bo5 := hg5.heap bo4
    have bx5 := hg5.heap bx4
    have g5 := g4.trans hg5
    clear bo4 bx4 g4 hg5 A2
    obtain ⟨cx, fx, zx⟩ := blk_cells bx5
    have bx4 := cell_put (i := 1) (.int .i64 D) bx5
    have bo4 : (w5.setCell ⟨k7, 1, none⟩ (.int .i64 D)).heap[w.heap.size]? = some (.cells #[.int .i64 0, .int .i64 0] 23 (0, 0)) := by
      rw [Below.heap_setCell _ ⟨k7, 1, none⟩ _ _ (by show w.heap.size ≠ k7; omega)]; exact bo5
    have g4 : Gr w (w5.setCell ⟨k7, 1, none⟩ (.int .i64 D)) := g5.set _ _ (by show w.heap.size ≤ k7; omega)
    simp only [List.setIfInBounds_toArray, List.set_cons_zero, List.set_cons_succ] at bx4
    go_wp2_with fail
    clear cx fx zx bx5 bo5 g5
    refine (WR.out _ (HTW.out _ g4)).mono ?_
    rintro e w6 ⟨rfl, hg6⟩
    have bx5 := hg6.heap bx4
    have bo5 := hg6.heap bo4
    have g6 := g4.trans hg6
    clear bo4 bx4 g4 hg6 WR
    obtain ⟨cx, fx, zx⟩ := blk_cells bx5
    obtain ⟨co, fo, zo⟩ := blk_cells bo5
    have eqs : s.toList = s.data.toList := ByteArray.toList_eq s
    by_cases hE : E = 0
    · subst hE
      by_cases hT : t = s.data.toList
      · have hc : (t == s.toList) = true := by rw [eqs]; exact beq_iff_eq.2 hT
        have hq : Q1 = N ∧ Q2 = D ∧ Q3 = 0 := by obtain ⟨a1, a2, a3⟩ := HQ.out; simp [hT] at a1 a2 a3; exact ⟨a1.symm, a2.symm, a3.symm⟩
        clear hT eqs
        go_wp2
        rw [hq.1, hq.2.1, hq.2.2]
        exact bodyPost_ret (v := .tuple #[fr N D, .int .i64 0]) (by simp [results, Tryz.results7, go_sem, co]) rfl ⟨rfl, (by repeat (first | exact Gr.refl _ | assumption | refine Gr.alloc ?_ _ | refine Gr.drew ?_ | refine Gr.drewN ?_ _ | refine Gr.set ?_ _ _ (by first | (simp; done) | (simp; omega)) | refine Gr.trans ?_ (by assumption)))⟩
      · have hc : (t == s.toList) = false := by rw [eqs]; exact beq_eq_false_iff_ne.2 hT
        have hq : Q1 = 0 ∧ Q2 = 0 ∧ Q3 = 4 := by obtain ⟨a1, a2, a3⟩ := HQ.out; simp [hT] at a1 a2 a3; exact ⟨a1.symm, a2.symm, a3.symm⟩
        clear hT eqs
        go_wp2
        rw [hq.1, hq.2.1, hq.2.2]
        exact bodyPost_ret (v := .tuple #[fr 0 0, .int .i64 4]) (by simp [results, Tryz.results7, go_sem, co]) rfl ⟨rfl, (by repeat (first | exact Gr.refl _ | assumption | refine Gr.alloc ?_ _ | refine Gr.drew ?_ | refine Gr.drewN ?_ _ | refine Gr.set ?_ _ _ (by first | (simp; done) | (simp; omega)) | refine Gr.trans ?_ (by assumption)))⟩
    · have hq : Q1 = 0 ∧ Q2 = 0 ∧ Q3 = 4 := by obtain ⟨a1, a2, a3⟩ := HQ.out; simp [hE] at a1 a2 a3; exact ⟨a1.symm, a2.symm, a3.symm⟩
      have hE' : (E == 0) = false := beq_eq_false_iff_ne.2 hE
      go_wp2
      rw [hq.1, hq.2.1, hq.2.2]
      exact bodyPost_ret (v := .tuple #[fr 0 0, .int .i64 4]) (by simp [results, Tryz.results7, go_sem, co]) rfl ⟨rfl, (by repeat (first | exact Gr.refl _ | assumption | refine Gr.alloc ?_ _ | refine Gr.drew ?_ | refine Gr.drewN ?_ _ | refine Gr.set ?_ _ _ (by first | (simp; done) | (simp; omega)) | refine Gr.trans ?_ (by assumption)))⟩
theorem Read_any (s : ByteArray) (w : World) (hs : s.size ≤ 1000) (tw : TW w) :
    Calls Tryz.prog 7 #[.string s] w fun e w' => e = .returned (.tuple #[fr (rdN s.data.toList) (rdD s.data.toList), .int .i64 (rdE s.data.toList)]) ∧ Gr w w' := by
  have hl : s.data.toList.length ≤ 1000 := by simpa using hs
  obtain ⟨c1, c2⟩ := cut_len s.data.toList
  have sz : ∀ l : List UInt8, l.length ≤ 1000 → (⟨l.toArray⟩ : ByteArray).size ≤ 1000 := fun l h => by simpa [ByteArray.size] using h
  have R := Read_core s (Lib.cut s.data.toList [47]).1 (Lib.cut s.data.toList [47]).2.1 (Lib.cut s.data.toList [47]).2.2 (pN s.data.toList) (atoiV (Lib.cut s.data.toList [47]).2.1) (pD s.data.toList) (Rm.err (Rm.okF (pN s.data.toList) (pD s.data.toList)) 1) (wT (pN s.data.toList) (pD s.data.toList)) w tw
    (Lib.hid (fun w h => Cut_any s w hs h)) (Lib.hid (fun w h => Atoi_any _ w (sz _ (by omega)) h)) (Lib.hid (fun w h => Atoi_any _ w (sz _ (by omega)) h)) rfl (Lib.hid (fun w h => Write_any _ _ w h))
  have e : (Rm.err (Rm.okF (pN s.data.toList) (pD s.data.toList)) 1 = 0 ∧ wT (pN s.data.toList) (pD s.data.toList) = s.data.toList) ↔ rdOk s.data.toList = true := by
    unfold rdOk wT
    cases Rm.okF (pN s.data.toList) (pD s.data.toList)
    · simp [Rm.err_false]
    · simp [Rm.err_true]
  simp only [e] at R
  exact R
end Go.Proofs.YtconhikflghkdaaGreatDoor
