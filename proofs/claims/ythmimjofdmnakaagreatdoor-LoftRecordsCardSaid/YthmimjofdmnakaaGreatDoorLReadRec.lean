/- loft: ReadRecord. -/
import Derived.Test.YthmimjofdmnakaaGreatDoorLNum
import Derived.Test.YthmimjofdmnakaaGreatDoorSteps
namespace Go.Proofs.YthmimjofdmnakaaGreatDoor
section
open Go.RowKit Go.Shelf
/-- the words of a line -/
def lineW (s : ByteArray) : List ByteArray := Lib.splitB ⟨#[32]⟩ 0 (min 4 (s.size + 1) - 1) s
theorem SplitN_any (s : ByteArray) (w : World) (hs : s.size ≤ 100000) (tw : TW w) :
    Calls Tryz.prog 58 #[.string s, .string ⟨#[32]⟩, .int .i64 4] w fun e w' => e = .returned (.slice (some ⟨w.heap.size, 0, none⟩) (lineW s).length (min 4 (s.size + 1))) ∧ w'.heap[w.heap.size]? = some (.cells (Lib.cellsOf (lineW s) (min 4 (s.size + 1))) 9 (0, 0)) ∧ Gr w w' := by
  obtain ⟨m, hm⟩ := tw.m
  refine (Tryz.strings_SplitN s ⟨#[32]⟩ 4 m w (by omega) hm (by decide) (by decide) (by decide)).mono ?_
  rintro e w' ⟨rfl, rfl⟩
  exact ⟨rfl, heap_alloc_self _ _, (Gr.refl _).alloc _⟩
theorem put_four {u : World} {g : Nat} {x0 y0 z0 t0 x y z t : Value} {T : TypeId} (h : u.heap[g]? = some (.cells #[x0, y0, z0, t0] T (0, 0))) : ((((u.setCell ⟨g, 0, none⟩ x).setCell ⟨g, 1, none⟩ y).setCell ⟨g, 2, none⟩ z).setCell ⟨g, 3, none⟩ t).heap[g]? = some (.cells #[x, y, z, t] T (0, 0)) := by
  have go : ∀ (v : World) (c : Array Value) (i : Nat) (s : Value), v.heap[g]? = some (.cells c T (0, 0)) → (v.setCell ⟨g, i, none⟩ s).heap[g]? = some (.cells (c.setIfInBounds i s) T (0, 0)) := fun v c i s hv => by
    have : (v.setCell ⟨g, i, none⟩ s).heap = v.heap.modify g fun | .cells c elem fr => .cells (c.setIfInBounds i s) elem fr | o => o := rfl
    rw [this, Array.getElem?_modify]
    simp [hv]
  have := go _ _ 3 t (go _ _ 2 z (go _ _ 1 y (go _ _ 0 x h)))
  simpa using this
theorem run_rec (s : ByteArray) (a b c d : ByteArray) (h : lineW s = [a, b, c, d]) {u : World} {g : Nat} (hg : u.heap[g]? = some (.cells (Lib.cellsOf (lineW s) (min 4 (s.size + 1))) 9 (0, 0))) (hz : 3 ≤ s.size) :
    u.heap[g]? = some (.cells #[.string a, .string b, .string c, .string d] 9 (0, 0)) := by
  rw [hg, h, show min 4 (s.size + 1) = 4 by omega]
  rfl
/-- what ReadRecord returns -/
def rdR (n : Int) (s : ByteArray) : Value × Int := if (decide (n = 3) || decide (n = 5)) = false then (rcd 0 0 0 ⟨#[]⟩, 1) else
  match lineW s with
  | [a, b, c, d] => if formedB n (numV a.data.toList) (numV b.data.toList) (numV c.data.toList) d then (rcd (numV a.data.toList) (numV b.data.toList) (numV c.data.toList) d, 0) else (rcd 0 0 0 ⟨#[]⟩, 4)
  | _ => (rcd 0 0 0 ⟨#[]⟩, 4)
set_option maxRecDepth 100000 in
set_option maxHeartbeats 2000000 in
theorem ReadRecord_nocount (n : Int) (s : ByteArray) (w : World) (h : (decide (n = 3) || decide (n = 5)) = false) :
    Calls Tryz.prog 11 #[.int .i64 n, .string s] w fun e w' => e = .returned (.tuple #[rcd 0 0 0 ⟨#[]⟩, .int .i64 1]) ∧ Gr w w' := by
  have IC := Lib.hid (fun w => isCount_any n w)
  rw [h] at IC
  clear h
  have bx := heap_alloc_self w (.cells #[.int .i64 0, .int .i64 0, .int .i64 0, .string ⟨#[]⟩] 23)
  have g0 : Gr w (w.alloc (.cells #[.int .i64 0, .int .i64 0, .int .i64 0, .string ⟨#[]⟩] 23)) := (Gr.refl w).alloc _
  go_enter Tryz.func11, Tryz.ntmps11
  go_wp2_with fail
  refine (IC.out _).mono ?_
  rintro e w1 ⟨rfl, hg1⟩
  have bx1 := hg1.heap bx
  have g1 := g0.trans hg1
  clear hg1 g0 bx IC
  obtain ⟨cx, fx, zx⟩ := blk_cells bx1
  go_wp2
  exact bodyPost_ret (v := .tuple #[rcd 0 0 0 ⟨#[]⟩, .int .i64 1]) (by simp [results, Tryz.results11, go_sem, *]) rfl ⟨rfl, (by repeat (first | exact Gr.refl _ | assumption | refine Gr.alloc ?_ _ | refine Gr.drew ?_ | refine Gr.drewN ?_ _ | refine Gr.set ?_ _ _ (by first | (simp; done) | (simp; omega)) | refine Gr.trans ?_ (by assumption)))⟩
set_option maxRecDepth 100000 in
set_option maxHeartbeats 2000000 in
theorem ReadRecord_few (n : Int) (s : ByteArray) (w : World) (h : (decide (n = 3) || decide (n = 5)) = true) (hs : s.size ≤ 100000) (tw : TW w) (hl : (lineW s).length < 4) :
    Calls Tryz.prog 11 #[.int .i64 n, .string s] w fun e w' => e = .returned (.tuple #[rcd 0 0 0 ⟨#[]⟩, .int .i64 4]) ∧ Gr w w' := by
  have IC := Lib.hid (fun w => isCount_any n w)
  rw [h] at IC
  have SP := Lib.hid (fun w' (g : Gr w w') => SplitN_any s w' hs (tw.gr g))
  have hl' : ((lineW s).length : Int) < 4 := by omega
  generalize lineW s = ws at *
  clear h hs tw
  have bx := heap_alloc_self w (.cells #[.int .i64 0, .int .i64 0, .int .i64 0, .string ⟨#[]⟩] 23)
  have g0 : Gr w (w.alloc (.cells #[.int .i64 0, .int .i64 0, .int .i64 0, .string ⟨#[]⟩] 23)) := (Gr.refl w).alloc _
  go_enter Tryz.func11, Tryz.ntmps11
  go_wp2_with fail
  refine (IC.out _).mono ?_
  rintro e w1 ⟨rfl, hg1⟩
  have bx1 := hg1.heap bx
  have g1 := g0.trans hg1
  clear hg1 g0 bx IC
  obtain ⟨cx, fx, zx⟩ := blk_cells bx1
  go_wp2_with fail
  refine (SP.out _ g1).mono ?_
  rintro e w2 ⟨rfl, br, hg2⟩
  have bx2 := hg2.heap bx1
  have g2 := g1.trans hg2
  clear hg2 bx1 cx fx zx SP
  clear br g1
  obtain ⟨cx, fx, zx⟩ := blk_cells bx2
  go_wp2
  exact bodyPost_ret (v := .tuple #[rcd 0 0 0 ⟨#[]⟩, .int .i64 4]) (by simp [results, Tryz.results11, go_sem, *]) rfl ⟨rfl, (by repeat (first | exact Gr.refl _ | assumption | refine Gr.alloc ?_ _ | refine Gr.drew ?_ | refine Gr.drewN ?_ _ | refine Gr.set ?_ _ _ (by first | (simp; done) | (simp; omega)) | refine Gr.trans ?_ (by assumption)))⟩
set_option maxRecDepth 100000 in
set_option maxHeartbeats 2000000 in
theorem ReadRecord_four (n : Int) (s a b c d : ByteArray) (w : World) (hn1 : -1000000 ≤ n) (hn2 : n ≤ 1000000) (h : (decide (n = 3) || decide (n = 5)) = true) (hs : s.size ≤ 100000) (tw : TW w) (hl : lineW s = [a, b, c, d]) (hz : 3 ≤ s.size)
    (ha : a.size ≤ 100000) (hb : b.size ≤ 100000) (hc : c.size ≤ 100000) (hd : d.size ≤ 100000) (x y z : Int) (hx : numV a.data.toList = x) (hy : numV b.data.toList = y) (hzz : numV c.data.toList = z) (ok : Bool) (hok : formedB n x y z d = ok) :
    Calls Tryz.prog 11 #[.int .i64 n, .string s] w fun e w' => e = .returned (.tuple #[if ok then rcd x y z d else rcd 0 0 0 ⟨#[]⟩, .int .i64 (if ok then 0 else 4)]) ∧ Gr w w' := by
  have IC := Lib.hid (fun w => isCount_any n w)
  rw [h] at IC
  have SP := Lib.hid (fun w' (g : Gr w w') => SplitN_any s w' hs (tw.gr g))
  have NA := Lib.hid (fun w' (g : Gr w w') => numeral_any a w' ha (tw.gr g))
  have NB := Lib.hid (fun w' (g : Gr w w') => numeral_any b w' hb (tw.gr g))
  have NC := Lib.hid (fun w' (g : Gr w w') => numeral_any c w' hc (tw.gr g))
  have FO := Lib.hid (fun w => formed_any n x y z d w hn1 hn2 hd)
  rw [hx] at NA
  rw [hy] at NB
  rw [hzz] at NC
  rw [hok] at FO
  have RR := Lib.hid (fun (u : World) (g : Nat) (hg : u.heap[g]? = some (.cells (Lib.cellsOf (lineW s) (min 4 (s.size + 1))) 9 (0, 0))) => run_rec s a b c d hl hg hz)
  have hll : (lineW s).length = 4 := by rw [hl]; rfl
  have hcap : min 4 (s.size + 1) = 4 := by omega
  rw [hcap] at SP RR
  rw [hll] at SP
  generalize lineW s = ws at *
  clear h hs tw ha hb hc hd hx hy hzz hok hl hz hn1 hn2 hll hcap
  have bx := heap_alloc_self w (.cells #[.int .i64 0, .int .i64 0, .int .i64 0, .string ⟨#[]⟩] 23)
  have g0 : Gr w (w.alloc (.cells #[.int .i64 0, .int .i64 0, .int .i64 0, .string ⟨#[]⟩] 23)) := (Gr.refl w).alloc _
  go_enter Tryz.func11, Tryz.ntmps11
  go_wp2_with fail
  refine (IC.out _).mono ?_
  rintro e w1 ⟨rfl, hg1⟩
  have bx1 := hg1.heap bx
  have g1 := g0.trans hg1
  clear hg1 g0 bx IC
  obtain ⟨cx, fx, zx⟩ := blk_cells bx1
  go_wp2_with fail
  refine (SP.out _ g1).mono ?_
  rintro e w2 ⟨rfl, br, hg2⟩
  have bx2 := hg2.heap bx1
  have g2 := g1.trans hg2
  clear hg2 bx1 cx fx zx SP
  have br2 := RR.out _ _ br
  clear br RR g1
  obtain ⟨cr, fr', zr⟩ := blk_cells br2
  go_wp2_with fail
  obtain ⟨k5, h5⟩ : ∃ k5, w1.heap.size = k5 := ⟨_, rfl⟩
  rw [h5] at br2 cr fr' zr
  rw [h5]
  refine wp_region_plan [.val (.slice (some ⟨k5, 0, none⟩) 4 4), .val (.pointer (some ⟨k5, 0, none⟩)), .val (.string a), .val (.int .i64 x), .val (.slice (some ⟨k5, 0, none⟩) 4 4), .val (.pointer (some ⟨k5, 1, none⟩)), .val (.string b), .val (.int .i64 y), .val (.slice (some ⟨k5, 0, none⟩) 4 4), .val (.pointer (some ⟨k5, 2, none⟩)), .val (.string c), .val (.int .i64 z), .val (.slice (some ⟨k5, 0, none⟩) 4 4), .val (.pointer (some ⟨k5, 3, none⟩)), .val (.string d), .val (rcd x y z d), .new 23 #[.int .i64 0, .int .i64 0, .int .i64 0, .string ⟨#[]⟩], .put 16 #[.int .i64 x, .int .i64 y, .int .i64 z, .string d]] (by kernel_rfl) (by kernel_rfl) (fun G => by first | (simp only [finAct, Act.put, Plan.value, List.setIfInBounds_toArray, List.set_cons_zero, List.set_cons_succ]; rfl) | (simp only [finAct, Act.put, Plan.value, List.setIfInBounds_toArray, List.set_cons_zero, List.set_cons_succ, Nat.zero_add, Nat.reduceAdd]; rfl)) ?_ ?_
  · refine ⟨?_, ?_, ?_, ?_, ?_, ?_, ?_, ?_, ?_, ?_, ?_, ?_, ?_, ?_, ?_, ?_, ?_, ?_, trivial⟩ <;> first | (intro G; refine ⟨by kernel_rfl, fun u T z hu hG hj hb => ?_⟩; cases hj; obtain ⟨hbc, hbf, hbz⟩ := blk_cells hb; refine ⟨_, ?_, ((((GrL.of_gr (Gr.refl _)).set _ _ (Or.inr (by simp))).set _ _ (Or.inr (by simp))).set _ _ (Or.inr (by simp))).set _ _ (Or.inr (by simp)), put_four hb⟩; go_simp; done) | (first | exact trivial | (intro G; first | (refine ⟨by kernel_rfl, fun u hu => ?_⟩; obtain ⟨hc, hf, hz⟩ := hu.cells; go_simp; first | exact ⟨rfl, Gr.refl _⟩ | skip) | (refine ⟨by kernel_rfl, fun u T z hu hG hj hb => ?_⟩; cases hj; obtain ⟨hbc, hbf, hbz⟩ := blk_cells hb; first | (refine ⟨_, ?_, ((GrL.of_gr (Gr.refl _)).set _ _ (Or.inr (by simp))).set _ _ (Or.inr (by simp)), put_two hb⟩; go_simp; done) | (refine ⟨_, ?_, (GrL.of_gr (Gr.refl _)).set _ _ (Or.inr (by simp)), put_one hb⟩; go_simp; done)) | (refine ⟨by kernel_rfl, fun u => ?_⟩; go_simp; done) | (show _ = false; kernel_rfl)))
    · exact NA.out _ (g2.trans hu)
    · exact NB.out _ (g2.trans hu)
    · exact NC.out _ (g2.trans hu)
  · intro G u hg hb hd
    have b16 : u.heap[G 16]? = some (.cells #[.int .i64 x, .int .i64 y, .int .i64 z, .string d] 23 (0, 0)) := (hb 16 _ _ rfl).2
    have bo := hg.heap bx2
    have gu := g2.trans hg
    clear hb hd cr fr' zr br2 bx2
    generalize G 16 = p16 at *
    obtain ⟨cy, fy, zy⟩ := blk_cells b16
    go_simp
    go_wp2_with fail
    refine (FO.out _).mono ?_
    rintro e w5 ⟨rfl, hg5⟩
    have b16' := hg5.heap b16
    have bo' := hg5.heap bo
    have g5 := gu.trans hg5
    clear cy fy zy b16 bo gu hg5
    obtain ⟨cy, fy, zy⟩ := blk_cells b16'
    obtain ⟨co, fo, zo⟩ := blk_cells bo'
    cases ok
    · go_wp2
      exact bodyPost_ret (v := .tuple #[rcd 0 0 0 ⟨#[]⟩, .int .i64 4]) (by simp [results, Tryz.results11, go_sem, *]) rfl ⟨by simp, (by repeat (first | exact Gr.refl _ | assumption | refine Gr.alloc ?_ _ | refine Gr.drew ?_ | refine Gr.drewN ?_ _ | refine Gr.set ?_ _ _ (by first | (simp; done) | (simp; omega)) | refine Gr.trans ?_ (by assumption)))⟩
    · go_wp2
      exact bodyPost_ret (v := .tuple #[rcd x y z d, .int .i64 0]) (by simp [results, Tryz.results11, go_sem, *]) rfl ⟨by simp, (by repeat (first | exact Gr.refl _ | assumption | refine Gr.alloc ?_ _ | refine Gr.drew ?_ | refine Gr.drewN ?_ _ | refine Gr.set ?_ _ _ (by first | (simp; done) | (simp; omega)) | refine Gr.trans ?_ (by assumption)))⟩
theorem split_le (sep : ByteArray) (save : Nat) : ∀ (k : Nat) (s : ByteArray), ∀ x ∈ Lib.splitB sep save k s, x.size ≤ s.size
  | 0, s, x, hx => by
    rw [Lib.splitB_zero] at hx
    simp at hx
    subst hx
    omega
  | k + 1, s, x, hx => by
    unfold Lib.splitB at hx
    split at hx
    · simp at hx
      subst hx
      omega
    · rcases List.mem_cons.1 hx with rfl | hx
      · rw [ByteArray.size_extract]
        omega
      · have := split_le sep save k _ x hx
        rw [ByteArray.size_extract] at this
        omega
theorem ReadRecord_any (n : Int) (s : ByteArray) (w : World) (hs : s.size ≤ 100000) (tw : TW w) :
    Calls Tryz.prog 11 #[.int .i64 n, .string s] w fun e w' => e = .returned (.tuple #[(rdR n s).1, .int .i64 (rdR n s).2]) ∧ Gr w w' := by
  by_cases h : (decide (n = 3) || decide (n = 5)) = true
  · have hb : -1000000 ≤ n ∧ n ≤ 1000000 := by simp at h; omega
    have hne : ¬ (decide (n = 3) || decide (n = 5)) = false := by simp [h]
    by_cases hl : (lineW s).length < 4
    · have e : rdR n s = (rcd 0 0 0 ⟨#[]⟩, 4) := by
        unfold rdR
        rw [if_neg hne]
        split
        · rename_i he
          rw [he] at hl
          simp at hl
        · rfl
      rw [e]
      exact ReadRecord_few n s w h hs tw hl
    · have hz := Lib.splitB_length_le ⟨#[32]⟩ 0 (min 4 (s.size + 1) - 1) s
      have hl2 : (lineW s).length = 4 := by
        have : (lineW s).length ≤ min 4 (s.size + 1) - 1 + 1 := hz
        omega
      have hz3 : 3 ≤ s.size := by
        have : (lineW s).length ≤ min 4 (s.size + 1) - 1 + 1 := hz
        omega
      have hm : ∀ x ∈ lineW s, x.size ≤ s.size := fun x hx => split_le _ _ _ _ x hx
      match hw : lineW s, hl2 with
      | [a, b, c, d], _ =>
        rw [hw] at hm
        have := ReadRecord_four n s a b c d w hb.1 hb.2 h hs tw hw hz3 (by have := hm a (by simp); omega) (by have := hm b (by simp); omega) (by have := hm c (by simp); omega) (by have := hm d (by simp); omega) _ _ _ rfl rfl rfl _ rfl
        refine this.mono fun e w' ⟨h1, h2⟩ => ⟨?_, h2⟩
        rw [h1]
        unfold rdR
        rw [if_neg hne, hw]
        dsimp only
        cases formedB n (numV a.data.toList) (numV b.data.toList) (numV c.data.toList) d <;> rfl
  · have h' : (decide (n = 3) || decide (n = 5)) = false := by simpa using h
    have e : rdR n s = (rcd 0 0 0 ⟨#[]⟩, 1) := by unfold rdR; rw [if_pos h']
    rw [e]
    exact ReadRecord_nocount n s w h'
end
section
open Go.RowKit Go.Shelf
theorem byte_cases (c : UInt8) : ∀ l : List UInt8, c ∉ l ∨ ∃ a m, c ∉ a ∧ l = a ++ c :: m
  | [] => .inl (by simp)
  | b :: l => by
    by_cases h : b = c
    · exact .inr ⟨[], l, by simp, by simp [h]⟩
    · rcases byte_cases c l with h1 | ⟨a, m, h1, h2⟩
      · exact .inl (by simp [h1, Ne.symm h])
      · exact .inr ⟨b :: a, m, by simp [h1, Ne.symm h], by simp [h2]⟩
theorem splitK_no {c : UInt8} {l : List UInt8} (k : Nat) (h : c ∉ l) : Lib.splitK [c] 0 k l = [l] := by
  cases k with
  | zero => rfl
  | succ k =>
    unfold Lib.splitK
    rw [indexc_no c l h]
    rfl
theorem splitK_at {c : UInt8} {a m : List UInt8} (k : Nat) (h : c ∉ a) : Lib.splitK [c] 0 (k + 1) (a ++ c :: m) = a :: Lib.splitK [c] 0 k m := by
  unfold Lib.splitK
  rw [indexc_at c a m h]
  have e : ((a.length : Int) == -1) = false := beq_eq_false_iff_ne.2 (by omega)
  rw [e, if_neg (by simp)]
  have e1 : ((a.length : Int)).toNat = a.length := by simp
  have e2 : (a ++ c :: m).take (a.length + 0) = a := by simp
  have e3 : (a ++ c :: m).drop (a.length + ([c] : List UInt8).length) = m := by
    rw [← List.drop_drop, List.drop_left]
    rfl
  rw [e1, e2, e3]
  cases k <;> rfl
theorem splitK_four {c : UInt8} {l a b d t : List UInt8} (h : Lib.splitK [c] 0 3 l = [a, b, d, t]) : l = a ++ c :: (b ++ c :: (d ++ c :: t)) ∧ c ∉ a ∧ c ∉ b ∧ c ∉ d := by
  rcases byte_cases c l with h1 | ⟨a', m, h1, rfl⟩
  · rw [splitK_no 3 h1] at h
    simp at h
  rw [splitK_at 2 h1] at h
  simp only [List.cons.injEq] at h
  obtain ⟨rfl, h⟩ := h
  rcases byte_cases c m with h2 | ⟨b', m', h2, rfl⟩
  · rw [splitK_no 2 h2] at h
    simp at h
  rw [splitK_at 1 h2] at h
  simp only [List.cons.injEq] at h
  obtain ⟨rfl, h⟩ := h
  rcases byte_cases c m' with h3 | ⟨d', m'', h3, rfl⟩
  · rw [splitK_no 1 h3] at h
    simp at h
  rw [splitK_at 0 h3] at h
  change d' :: [m''] = [d, t] at h
  simp only [List.cons.injEq, and_true] at h
  obtain ⟨rfl, rfl⟩ := h
  exact ⟨rfl, h1, h2, h3⟩
theorem splitK_four_of {c : UInt8} {a b d t : List UInt8} (h1 : c ∉ a) (h2 : c ∉ b) (h3 : c ∉ d) : Lib.splitK [c] 0 3 (a ++ c :: (b ++ c :: (d ++ c :: t))) = [a, b, d, t] := by
  rw [splitK_at 2 h1, splitK_at 1 h2, splitK_at 0 h3]
  rfl
/-- at most this many words -/
theorem splitK_len {sep : List UInt8} : ∀ (k : Nat) (l : List UInt8), (Lib.splitK sep 0 k l).length ≤ k + 1
  | 0, l => by simp [Lib.splitK]
  | k + 1, l => by
    unfold Lib.splitK
    split
    · simp
    · have := splitK_len (sep := sep) k (l.drop ((Lib.index l sep).toNat + sep.length))
      simp only [List.length_cons]
      omega
theorem dec_no32 (n : Nat) : (32 : UInt8) ∉ Lib.decDigits n := fun h => by
  have := dec_digits n n (Nat.le_refl _) _ h
  have e : (32 : UInt8).toNat = 32 := rfl
  omega
theorem dec_lenK : ∀ (k n : Nat), n < 10 ^ (k + 1) → (Lib.decDigits n).length ≤ k + 1
  | 0, n, h => by rw [Lib.decDigits, dif_pos (by omega)]; simp
  | k + 1, n, h => by
    rw [Lib.decDigits]
    split
    · simp
    · have := dec_lenK k (n / 10) (by rw [Nat.pow_succ] at h; omega)
      simp only [List.length_append, List.length_cons, List.length_nil]
      omega
theorem dec_all (n : Nat) : (Lib.decDigits n).all isDig = true := by
  rw [List.all_eq_true]
  intro c hc
  have := dec_digits n n (Nat.le_refl _) c hc
  unfold isDig
  simp [this.1, this.2]
theorem valI_dec : ∀ (k n : Nat), n ≤ k → valI (Lib.decDigits n) = n
  | 0, n, h => by
    obtain rfl : n = 0 := by omega
    decide +kernel
  | k + 1, n, h => by
    by_cases h10 : n < 10
    · rw [Lib.decDigits, dif_pos h10]
      unfold valI
      simp only [List.foldl_cons, List.foldl_nil, u8 (show 48 + n < 256 by omega)]
      omega
    · rw [Lib.decDigits, dif_neg h10]
      have ih := valI_dec k (n / 10) (by omega)
      unfold valI at ih ⊢
      rw [List.foldl_append, ih]
      simp only [List.foldl_cons, List.foldl_nil, u8 (show 48 + n % 10 < 256 by omega)]
      omega
theorem valV_dec (n : Nat) (h : n ≤ 9999999) : valV (Lib.decDigits n) = n := by
  have h1 := dec_lenK 6 n (by omega)
  have h2 : 1 ≤ (Lib.decDigits n).length := by
    obtain ⟨c, l, e, _⟩ := dec_cons n
    rw [e]; simp
  unfold valV
  rw [if_pos ⟨h2, h1, dec_all n⟩]
  exact valI_dec n n (Nat.le_refl _)
theorem numV_dec (n : Nat) (h : n ≤ 1000000000) : numV (Lib.decDigits n) = n := by
  have e : Lib.itoa (n : Int) = Lib.decDigits n := Lib.itoa_nonneg n
  have := atoi_itoa n (by omega) (by omega)
  unfold numV
  rw [e] at this
  rw [this]
  simp only [e, if_true]
theorem numV_back {l : List UInt8} {x : Nat} (h : numV l = x) : l = Lib.decDigits x := by
  unfold numV at h
  split at h
  · split at h
    · subst h
      rename_i hl
      rw [← Lib.itoa_nonneg, hl]
    · omega
  · omega
theorem plainB_ne {t : ByteArray} (h : plainB t = true) : t.data.toList ≠ [] := by
  intro e
  unfold plainB at h
  have : t.size = 0 := by
    have : t.size = t.data.toList.length := rfl
    rw [this, e]; rfl
  simp [this] at h
theorem recL_form {s k d : Nat} {t : ByteArray} (h : t.data.toList ≠ []) : recL s k d t = Lib.decDigits s ++ 32 :: (Lib.decDigits k ++ 32 :: (Lib.decDigits d ++ 32 :: t.data.toList)) := by
  unfold recL toldW
  rw [if_neg h]
  simp only [List.map_cons, List.map_nil, Lib.itoa_nonneg, List.cons_append, List.nil_append]
  unfold Lib.join
  simp [List.intercalate, List.intersperse]
/-- a record that may be written, and its line -/
structure IsRec (n : Int) (l : List UInt8) (s k d : Nat) (t : ByteArray) : Prop where
  f : formedB n s k d t = true
  e : l = Lib.decDigits s ++ 32 :: (Lib.decDigits k ++ 32 :: (Lib.decDigits d ++ 32 :: t.data.toList))
  s9 : s ≤ 100000
  k9 : k ≤ 100000
  d9 : d ≤ 100000
theorem formed_nat {n s k d : Int} {t : ByteArray} (hn : n ≤ 5) (h : formedB n s k d t = true) : ∃ s' k' d' : Nat, s = s' ∧ k = k' ∧ d = d' ∧ s' ≤ 100000 ∧ k' ≤ 100000 ∧ d' ≤ 100000 ∧ t.data.toList ≠ [] := by
  unfold formedB at h
  simp only [Bool.and_eq_true, decide_eq_true_eq] at h
  obtain ⟨⟨⟨⟨a1, a2⟩, a3, a4⟩, a5, a6⟩, hp⟩ := h
  exact ⟨s.toNat, k.toNat, d.toNat, by omega, by omega, by omega, by omega, by omega, by omega, plainB_ne hp⟩
theorem isRec_of {n s k d : Int} {t : ByteArray} (hn : n ≤ 5) (h : formedB n s k d t = true) : ∃ s' k' d' : Nat, s = s' ∧ k = k' ∧ d = d' ∧ IsRec n (recL s k d t) s' k' d' t := by
  obtain ⟨s', k', d', rfl, rfl, rfl, h1, h2, h3, h4⟩ := formed_nat hn h
  exact ⟨s', k', d', rfl, rfl, rfl, h, recL_form h4, h1, h2, h3⟩
theorem IsRec.line {n : Int} {l : List UInt8} {s k d : Nat} {t : ByteArray} (h : IsRec n l s k d t) (hn : n ≤ 5) : l = recL s k d t := by
  obtain ⟨_, _, _, _, _, _, _, _, _, h4⟩ := formed_nat hn h.f
  rw [h.e, recL_form h4]
theorem bytes_ext {a b : ByteArray} (h : a.data.toList = b.data.toList) : a = b := by
  apply ByteArray.ext
  exact Array.toList_inj.1 h
/-- what loft.ReadRecord returns, by what the line is -/
theorem rdR_rec {n : Int} {s : ByteArray} {a b c : Nat} {t : ByteArray} (hc : (decide (n = 3) || decide (n = 5)) = true) (h : IsRec n s.data.toList a b c t) : rdR n s = (rcd a b c t, 0) := by
  have hz : 3 ≤ s.size := by
    have e : s.size = s.data.toList.length := rfl
    rw [e, h.e]
    simp only [List.length_append, List.length_cons]
    omega
  have e0 : min 4 (s.size + 1) - 1 = 3 := by omega
  have e1 : (lineW s).map (·.data.toList) = [Lib.decDigits a, Lib.decDigits b, Lib.decDigits c, t.data.toList] := by
    unfold lineW
    rw [e0, Lib.splitB_data, h.e]
    exact splitK_four_of (dec_no32 _) (dec_no32 _) (dec_no32 _)
  unfold rdR
  rw [if_neg (by simp [hc])]
  generalize lineW s = ws at e1
  have hl : ws.length = 4 := by simpa using congrArg List.length e1
  match ws, hl with
  | [x, y, z, u], _ =>
    simp only [List.map_cons, List.map_nil, List.cons.injEq, and_true] at e1
    obtain ⟨h1, h2, h3, h4⟩ := e1
    obtain rfl := bytes_ext h4
    simp only [h1, h2, h3, numV_dec a (by have := h.s9; omega), numV_dec b (by have := h.k9; omega), numV_dec c (by have := h.d9; omega), h.f, if_true]
theorem rdR_no {n : Int} {s : ByteArray} (hn : n ≤ 5) (hc : (decide (n = 3) || decide (n = 5)) = true) (h : ∀ a b c t, ¬ IsRec n s.data.toList a b c t) : rdR n s = (rcd 0 0 0 ⟨#[]⟩, 4) := by
  unfold rdR
  rw [if_neg (by simp [hc])]
  split
  · rename_i x y z u hl
    split
    · rename_i hf
      exfalso
      obtain ⟨a, b, c, ha, hb, hcc, h1, h2, h3, h4⟩ := formed_nat hn hf
      have e0 : min 4 (s.size + 1) - 1 = 3 := by
        have := Lib.splitB_length_le ⟨#[32]⟩ 0 (min 4 (s.size + 1) - 1) s
        unfold lineW at hl
        rw [hl] at this
        simp at this
        omega
      have e1 : (lineW s).map (·.data.toList) = [x.data.toList, y.data.toList, z.data.toList, u.data.toList] := by rw [hl]; rfl
      unfold lineW at e1
      rw [e0, Lib.splitB_data] at e1
      obtain ⟨e2, -, -, -⟩ := splitK_four e1
      rw [numV_back ha, numV_back hb, numV_back hcc] at e2
      rw [ha, hb, hcc] at hf
      exact h a b c u ⟨hf, e2, h1, h2, h3⟩
    · rfl
  · rfl
/-- what the reference's ReadRecord returns -/
def refR (n : Int) (s : ByteArray) : Value × Int := if (decide (n = 3) || decide (n = 5)) = false then (rcd 0 0 0 ⟨#[]⟩, 1) else
  if (recOk n (valV (Lib.cut s.data.toList [32]).1) (valV (Lib.cut (Lib.cut s.data.toList [32]).2.1 [32]).1) (valV (Lib.cut (Lib.cut (Lib.cut s.data.toList [32]).2.1 [32]).2.1 [32]).1) ⟨(Lib.cut (Lib.cut (Lib.cut s.data.toList [32]).2.1 [32]).2.1 [32]).2.1.toArray⟩) = true ∧
    recL (valV (Lib.cut s.data.toList [32]).1) (valV (Lib.cut (Lib.cut s.data.toList [32]).2.1 [32]).1) (valV (Lib.cut (Lib.cut (Lib.cut s.data.toList [32]).2.1 [32]).2.1 [32]).1) ⟨(Lib.cut (Lib.cut (Lib.cut s.data.toList [32]).2.1 [32]).2.1 [32]).2.1.toArray⟩ = s.data.toList
  then (rcd (valV (Lib.cut s.data.toList [32]).1) (valV (Lib.cut (Lib.cut s.data.toList [32]).2.1 [32]).1) (valV (Lib.cut (Lib.cut (Lib.cut s.data.toList [32]).2.1 [32]).2.1 [32]).1) ⟨(Lib.cut (Lib.cut (Lib.cut s.data.toList [32]).2.1 [32]).2.1 [32]).2.1.toArray⟩, 0)
  else (rcd 0 0 0 ⟨#[]⟩, 4)
theorem refR_rec {n : Int} {s : ByteArray} {a b c : Nat} {t : ByteArray} (hn : n ≤ 5) (hc : (decide (n = 3) || decide (n = 5)) = true) (h : IsRec n s.data.toList a b c t) : refR n s = (rcd a b c t, 0) := by
  have e1 : Lib.cut s.data.toList [32] = (Lib.decDigits a, Lib.decDigits b ++ 32 :: (Lib.decDigits c ++ 32 :: t.data.toList), true) := by rw [h.e]; exact cutc_at (dec_no32 _)
  have e2 : Lib.cut (Lib.decDigits b ++ 32 :: (Lib.decDigits c ++ 32 :: t.data.toList)) [32] = (Lib.decDigits b, Lib.decDigits c ++ 32 :: t.data.toList, true) := cutc_at (dec_no32 _)
  have e3 : Lib.cut (Lib.decDigits c ++ 32 :: t.data.toList) [32] = (Lib.decDigits c, t.data.toList, true) := cutc_at (dec_no32 _)
  have et : (⟨t.data.toList.toArray⟩ : ByteArray) = t := by rw [Array.toArray_toList]
  have hl := h.line hn
  have hok : recOk n a b c t = true := by unfold recOk; rw [hc, h.f]; rfl
  unfold refR
  rw [if_neg (by simp [hc])]
  simp only [e1, e2, e3, valV_dec a (by have := h.s9; omega), valV_dec b (by have := h.k9; omega), valV_dec c (by have := h.d9; omega), et]
  rw [if_pos ⟨hok, hl.symm⟩]
theorem refR_no {n : Int} {s : ByteArray} (hn : n ≤ 5) (hc : (decide (n = 3) || decide (n = 5)) = true) (h : ∀ a b c t, ¬ IsRec n s.data.toList a b c t) : refR n s = (rcd 0 0 0 ⟨#[]⟩, 4) := by
  unfold refR
  rw [if_neg (by simp [hc])]
  generalize valV (Lib.cut s.data.toList [32]).1 = x
  generalize valV (Lib.cut (Lib.cut s.data.toList [32]).2.1 [32]).1 = y
  generalize valV (Lib.cut (Lib.cut (Lib.cut s.data.toList [32]).2.1 [32]).2.1 [32]).1 = z
  generalize (⟨(Lib.cut (Lib.cut (Lib.cut s.data.toList [32]).2.1 [32]).2.1 [32]).2.1.toArray⟩ : ByteArray) = u
  refine if_neg fun ⟨h1, h2⟩ => ?_
  unfold recOk at h1
  rw [Bool.and_eq_true] at h1
  obtain ⟨a, b, c, rfl, rfl, rfl, hr⟩ := isRec_of hn h1.2
  rw [h2] at hr
  exact h _ _ _ _ hr
theorem rd_cases (n : Int) (s : ByteArray) : ((decide (n = 3) || decide (n = 5)) = false ∧ rdR n s = (rcd 0 0 0 ⟨#[]⟩, 1) ∧ refR n s = (rcd 0 0 0 ⟨#[]⟩, 1)) ∨ (rdR n s = (rcd 0 0 0 ⟨#[]⟩, 4) ∧ refR n s = (rcd 0 0 0 ⟨#[]⟩, 4)) ∨
    ∃ a b c : Int, ∃ t, rdR n s = (rcd a b c t, 0) ∧ refR n s = (rcd a b c t, 0) ∧ recOk n a b c t = true ∧ recL a b c t = s.data.toList ∧ t.size ≤ s.size := by
  by_cases hc : (decide (n = 3) || decide (n = 5)) = true
  · right
    have hn : n ≤ 5 := by simp at hc; omega
    by_cases h : ∃ a b c t, IsRec n s.data.toList a b c t
    · obtain ⟨a, b, c, t, h⟩ := h
      refine .inr ⟨a, b, c, t, rdR_rec hc h, refR_rec hn hc h, by unfold recOk; rw [hc, h.f]; rfl, (h.line hn).symm, ?_⟩
      have e : s.size = s.data.toList.length := rfl
      have e' : t.size = t.data.toList.length := rfl
      rw [e, e', h.e]
      simp only [List.length_append, List.length_cons]
      omega
    · have h' : ∀ a b c t, ¬ IsRec n s.data.toList a b c t := fun a b c t hh => h ⟨a, b, c, t, hh⟩
      exact .inl ⟨rdR_no hn hc h', refR_no hn hc h'⟩
  · have hf : (decide (n = 3) || decide (n = 5)) = false := by simpa using hc
    refine .inl ⟨hf, ?_, ?_⟩
    · unfold rdR; rw [if_pos hf]
    · unfold refR; rw [if_pos hf]
theorem rd_back {n s k d : Int} {t : ByteArray} (h : recOk n s k d t = true) : rdR n ⟨(recL s k d t).toArray⟩ = (rcd s k d t, 0) := by
  unfold recOk at h
  rw [Bool.and_eq_true] at h
  have hn : n ≤ 5 := by have := h.1; simp at this; omega
  obtain ⟨a, b, c, rfl, rfl, rfl, hr⟩ := isRec_of hn h.2
  exact rdR_rec h.1 hr
end
section
open Go.RowKit Go.Shelf
theorem many_le {n : Int} (h : (decide (n = 3) || decide (n = 5)) = true) : n ≤ 5 ∧ -1000000 ≤ n ∧ n ≤ 1000000 := by
  simp at h; omega
set_option maxRecDepth 100000 in
set_option maxHeartbeats 4000000 in
theorem rWriteRecord_any (n s k d : Int) (t : ByteArray) (w : World) (ht : t.size ≤ 100000) :
    Calls Tryz.prog 10 #[.int .i64 n, rcd s k d t] w fun e w' => e = .returned (.tuple #[sv (recT n s k d t), .int .i64 (recE n s k d t)]) ∧ Gr w w' := by
  have IC := Lib.hid (fun w => Many_any n w)
  have FO := Lib.hid (fun (hb : (decide (n = 3) || decide (n = 5)) = true) (w : World) => rformed_any n s k d t w (many_le hb).2.1 (many_le hb).2.2 ht)
  have bx := heap_alloc_self w (.cells #[.int .i64 s, .int .i64 k, .int .i64 d, .string t] 23)
  have g0 : Gr w (w.alloc (.cells #[.int .i64 s, .int .i64 k, .int .i64 d, .string t] 23)) := (Gr.refl w).alloc _
  have RT : recT n s k d t = if (decide (n = 3) || decide (n = 5)) && formedB n s k d t then recL s k d t else [] := rfl
  have RE : recE n s k d t = if (decide (n = 3) || decide (n = 5)) && formedB n s k d t then 0 else 1 := rfl
  have NT := Lib.hid (fun (hb : (decide (n = 3) || decide (n = 5)) = true) (hf : formedB n s k d t = true) => formed_nat (many_le hb).1 hf)
  rw [RT, RE]
  obtain ⟨L, hL⟩ : ∃ L, recL s k d t = L := ⟨_, rfl⟩
  rw [hL]
  have HL := Lib.hid hL
  generalize (decide (n = 3) || decide (n = 5)) = b1 at *
  generalize formedB n s k d t = b2 at *
  clear RT RE hL
  go_enter Tryz.func10, Tryz.ntmps10
  go_wp2_with fail
  refine (IC.out _).mono ?_
  rintro e w1 ⟨rfl, hg1⟩
  have bx1 := hg1.heap bx
  have g1 := g0.trans hg1
  clear hg1 g0 bx IC
  obtain ⟨cx, fx, zx⟩ := blk_cells bx1
  cases b1
  · go_wp2
    exact bodyPost_ret (v := .tuple #[.string ⟨#[]⟩, .int .i64 1]) (by simp [results, Tryz.results10, go_sem]) rfl ⟨by simp, g1⟩
  · go_wp2_with fail
    refine (FO.out (by trivial) _).mono ?_
    rintro e w2 ⟨rfl, hg2⟩
    have bx2 := hg2.heap bx1
    have g2 := g1.trans hg2
    clear hg2 g1 bx1 cx fx zx FO
    obtain ⟨cx, fx, zx⟩ := blk_cells bx2
    cases b2
    · go_wp2
      exact bodyPost_ret (v := .tuple #[.string ⟨#[]⟩, .int .i64 1]) (by simp [results, Tryz.results10, go_sem]) rfl ⟨by simp, g2⟩
    · obtain ⟨s', k', d', rfl, rfl, rfl, h1, h2, h3, h4⟩ := NT.out (by trivial) (by trivial)
      have HL2 := Lib.hid (recL_form (s := s') (k := k') (d := d') h4)
      rw [HL.out] at HL2
      clear NT HL h4
      have hd1 := dec_len20 s' (by omega)
      have hd2 := dec_len20 k' (by omega)
      have hd3 := dec_len20 d' (by omega)
      have DG := Lib.hid (fun w => digits_any s' w (by omega))
      have RW := Lib.hid (fun (b cap : Nat) (w : World) (hb : b < w.heap.size) (hc : ∀ j (h : j < 2), w.cell? ⟨b, j, none⟩ = some (.int .i64 ([k', d'][j] : Nat))) => Row_any (Lib.decDigits s') [k', d'] b cap w hb (by omega) (by simp) (fun x hx => by simp at hx; omega) hc)
      have eR : rowL (Lib.decDigits s') [k', d'] = Lib.decDigits s' ++ 32 :: Lib.decDigits k' ++ 32 :: Lib.decDigits d' := rfl
      obtain ⟨R, hR⟩ : ∃ R, rowL (Lib.decDigits s') [k', d'] = R := ⟨_, rfl⟩
      rw [hR] at RW eR
      have hRl : R.length ≤ 1000 := by rw [eR]; simp only [List.length_append, List.length_cons]; omega
      have EQ := Lib.hid (show (⟨R.toArray⟩ ++ ⟨#[32]⟩ ++ t : ByteArray) = ⟨L.toArray⟩ by rw [HL2.out, eR]; apply ByteArray.ext; simp)
      clear hR eR HL2 hd1 hd2 hd3
      generalize Lib.decDigits s' = DS at *
      have l1 : ¬ 9223372036854775807 < R.length + 1 := by omega
      have l2 : ¬ 9223372036854775807 < R.length + 1 + t.size := by omega
      clear ht h1 h2 h3
      go_wp2_with fail
      generalize w.heap.size = px at *
      refine wp_region_steps [.val (.pointer (some ⟨px, 0, none⟩)), .val (.int .i64 s'), .val (.string ⟨DS.toArray⟩), .val (.pointer (some ⟨px, 1, none⟩)), .val (.int .i64 k'), .val (.pointer (some ⟨px, 2, none⟩)), .val (.int .i64 d'), .sat (fun v u => ∃ g, v = .slice (some ⟨g, 0, none⟩) 2 2 ∧ u.heap[g]? = some (.cells #[.int .i64 k', .int .i64 d'] 3 (0, 0))),
        .val (.string ⟨R.toArray⟩), .val (.string (⟨R.toArray⟩ ++ ⟨#[32]⟩)), .val (.pointer (some ⟨px, 3, none⟩)), .val (.string t), .val (.string (⟨R.toArray⟩ ++ ⟨#[32]⟩ ++ t)), .val (.string (⟨R.toArray⟩ ++ ⟨#[32]⟩ ++ t)), .val (.int .i64 0)] (by kernel_rfl) (by kernel_rfl) (fun V => by first | (simp only [finS, Step.isLater, Bool.false_eq_true, if_false, Act.put, Step.value, List.setIfInBounds_toArray, List.set_cons_zero, List.set_cons_succ]; rfl) | (simp only [finS, Step.isLater, Bool.false_eq_true, if_false, if_true, Act.put, Step.value, List.setIfInBounds_toArray, List.set_cons_zero, List.set_cons_succ, Nat.zero_add, Nat.reduceAdd]; rfl)) ?_ ?_
      · refine ⟨?_, ?_, ?_, ?_, ?_, ?_, ?_, ?_, ?_, ?_, ?_, ?_, ?_, ?_, ?_, trivial⟩ <;> (first | exact trivial | (refine ⟨(by intro v u u1 h g; obtain ⟨b, rfl, h⟩ := h; exact ⟨b, rfl, g.heap h⟩), ?_⟩; intro V u hu hk; refine ⟨by kernel_rfl, ?_⟩; go_simp; exact ⟨⟨_, rfl, heap_alloc_self _ _⟩, (Gr.refl _).alloc _⟩) | (refine ⟨(by intro v u u1 h g; first | exact ownsRow_g h g | exact st_and h g | exact h), ?_⟩; intro V u hu hk; refine ⟨by kernel_rfl, turn_owes (by kernel_rfl) ?_⟩; obtain ⟨hc, hf, hz⟩ := hu.cells; go_simp; skip) | (refine ⟨(by intro v u u1 h g; first | exact ownsRow_g h g | exact st_and h g | exact h), ?_⟩; intro V u hu hk; refine ⟨by kernel_rfl, ?_⟩; obtain ⟨hc, hf, hz⟩ := hu.cells; go_simp; skip) | (intro V u hu hk; refine ⟨by kernel_rfl, ?_⟩; obtain ⟨hc, hf, hz⟩ := hu.cells; go_simp; first | exact ⟨rfl, Gr.refl _⟩ | skip) | (intro V u hu hk; show _ = false; kernel_rfl))
        · exact DG.out _
        · obtain ⟨g, hv, hb⟩ := hk 7 _ rfl (by kernel_rfl)
          rw [hv]
          obtain ⟨cg, fg, zg⟩ := blk_cells hb
          refine RW.out g 2 _ (heap_lt hb) (fun j hj => ?_)
          rw [cg j]
          match j, hj with
          | 0, _ => rfl
          | 1, _ => rfl
      · intro V u hg hs
        go_simp
        go_wp2
        rw [EQ.out]
        exact bodyPost_ret (v := .tuple #[sv L, .int .i64 0]) (by simp [results, Tryz.results10, go_sem]) rfl ⟨by simp, g2.trans hg⟩
theorem cut_len (l : List UInt8) (c : UInt8) : (Lib.cut l [c]).1.length ≤ l.length ∧ (Lib.cut l [c]).2.1.length ≤ l.length := by
  unfold Lib.cut
  split
  · simp
    omega
  · simp
theorem neq_rec_self (a b c : Int) (t : ByteArray) (w : World) : (binOp .neq 23 (rcd a b c t) (rcd a b c t)).run Tryz.prog w = .ok (.bool false) w := by
  go_simp
set_option maxRecDepth 100000 in
set_option maxHeartbeats 4000000 in
theorem rReadRecord_nocount (n : Int) (s : ByteArray) (w : World) (h : (decide (n = 3) || decide (n = 5)) = false) :
    Calls Tryz.prog 12 #[.int .i64 n, .string s] w fun e w' => e = .returned (.tuple #[rcd 0 0 0 ⟨#[]⟩, .int .i64 1]) ∧ Gr w w' := by
  have IC := Lib.hid (fun w => Many_any n w)
  rw [h] at IC
  clear h
  have bx := heap_alloc_self w (.cells #[.int .i64 0, .int .i64 0, .int .i64 0, .string ⟨#[]⟩] 23)
  have g0 : Gr w (w.alloc (.cells #[.int .i64 0, .int .i64 0, .int .i64 0, .string ⟨#[]⟩] 23)) := (Gr.refl w).alloc _
  go_enter Tryz.func12, Tryz.ntmps12
  go_wp2_with fail
  refine (IC.out _).mono ?_
  rintro e w1 ⟨rfl, hg1⟩
  have bx1 := hg1.heap bx
  have g1 := g0.trans hg1
  clear hg1 g0 bx IC
  obtain ⟨cx, fx, zx⟩ := blk_cells bx1
  go_wp2
  exact bodyPost_ret (v := .tuple #[rcd 0 0 0 ⟨#[]⟩, .int .i64 1]) (by simp [results, Tryz.results12, go_sem, *]) rfl ⟨rfl, (by repeat (first | exact Gr.refl _ | assumption | refine Gr.alloc ?_ _ | refine Gr.drew ?_ | refine Gr.drewN ?_ _ | refine Gr.set ?_ _ _ (by first | (simp; done) | (simp; omega)) | refine Gr.trans ?_ (by assumption)))⟩
set_option maxRecDepth 100000 in
set_option maxHeartbeats 4000000 in
theorem rReadRecord_yes (n : Int) (s : ByteArray) (w : World) (h : (decide (n = 3) || decide (n = 5)) = true) (hs : s.size ≤ 1000) :
    Calls Tryz.prog 12 #[.int .i64 n, .string s] w fun e w' => e = .returned (.tuple #[(refR n s).1, .int .i64 (refR n s).2]) ∧ Gr w w' := by
  have IC := Lib.hid (fun w => Many_any n w)
  rw [h] at IC
  have RR : refR n s = if (recOk n (valV (Lib.cut s.data.toList [32]).1) (valV (Lib.cut (Lib.cut s.data.toList [32]).2.1 [32]).1) (valV (Lib.cut (Lib.cut (Lib.cut s.data.toList [32]).2.1 [32]).2.1 [32]).1) ⟨(Lib.cut (Lib.cut (Lib.cut s.data.toList [32]).2.1 [32]).2.1 [32]).2.1.toArray⟩) = true ∧
      recL (valV (Lib.cut s.data.toList [32]).1) (valV (Lib.cut (Lib.cut s.data.toList [32]).2.1 [32]).1) (valV (Lib.cut (Lib.cut (Lib.cut s.data.toList [32]).2.1 [32]).2.1 [32]).1) ⟨(Lib.cut (Lib.cut (Lib.cut s.data.toList [32]).2.1 [32]).2.1 [32]).2.1.toArray⟩ = s.data.toList
    then (rcd (valV (Lib.cut s.data.toList [32]).1) (valV (Lib.cut (Lib.cut s.data.toList [32]).2.1 [32]).1) (valV (Lib.cut (Lib.cut (Lib.cut s.data.toList [32]).2.1 [32]).2.1 [32]).1) ⟨(Lib.cut (Lib.cut (Lib.cut s.data.toList [32]).2.1 [32]).2.1 [32]).2.1.toArray⟩, 0)
    else (rcd 0 0 0 ⟨#[]⟩, 4) := by unfold refR; rw [if_neg (by simp [h])]
  rw [RR]
  clear RR h
  have hsl : s.data.toList.length ≤ 1000 := hs
  have l1 := cut_len s.data.toList 32
  have C1 := Lib.hid (fun w => rcut_any s 32 w (by omega))
  obtain ⟨⟨a, r1, x1⟩, h1⟩ : ∃ q, Lib.cut s.data.toList [32] = q := ⟨_, rfl⟩
  rw [h1] at C1 l1
  rw [h1]
  dsimp only at C1 l1 ⊢
  have l2 := cut_len r1 32
  have C2 := Lib.hid (fun w => rcut_any ⟨r1.toArray⟩ 32 w (by show r1.length ≤ 100000; omega))
  change Hid (∀ w, Calls Tryz.prog 60 #[.string ⟨r1.toArray⟩, .int .u8 32] w fun e w' => e = .returned (.tuple #[.string ⟨(Lib.cut r1 [32]).1.toArray⟩, .string ⟨(Lib.cut r1 [32]).2.1.toArray⟩, .bool (Lib.cut r1 [32]).2.2]) ∧ Gr w w') at C2
  obtain ⟨⟨b, r2, x2⟩, h2⟩ : ∃ q, Lib.cut r1 [32] = q := ⟨_, rfl⟩
  rw [h2] at C2 l2
  rw [h2]
  dsimp only at C2 l2 ⊢
  have l3 := cut_len r2 32
  have C3 := Lib.hid (fun w => rcut_any ⟨r2.toArray⟩ 32 w (by show r2.length ≤ 100000; omega))
  change Hid (∀ w, Calls Tryz.prog 60 #[.string ⟨r2.toArray⟩, .int .u8 32] w fun e w' => e = .returned (.tuple #[.string ⟨(Lib.cut r2 [32]).1.toArray⟩, .string ⟨(Lib.cut r2 [32]).2.1.toArray⟩, .bool (Lib.cut r2 [32]).2.2]) ∧ Gr w w') at C3
  obtain ⟨⟨c, t, x3⟩, h3⟩ : ∃ q, Lib.cut r2 [32] = q := ⟨_, rfl⟩
  rw [h3] at C3 l3
  rw [h3]
  dsimp only at C3 l3 ⊢
  change Hid (∀ w, Calls Tryz.prog 60 #[.string s, .int .u8 32] w fun e w' => e = .returned (.tuple #[.string ⟨a.toArray⟩, .string ⟨r1.toArray⟩, .bool x1]) ∧ Gr w w') at C1
  have V1 := Lib.hid (fun w => rvalue_any ⟨a.toArray⟩ w (by show a.length ≤ 100000; omega))
  have V2 := Lib.hid (fun w => rvalue_any ⟨b.toArray⟩ w (by show b.length ≤ 100000; omega))
  have V3 := Lib.hid (fun w => rvalue_any ⟨c.toArray⟩ w (by show c.length ≤ 100000; omega))
  change Hid (∀ w, Calls Tryz.prog 61 #[.string ⟨a.toArray⟩] w fun e w' => e = .returned (.int .i64 (valV a)) ∧ Gr w w') at V1
  change Hid (∀ w, Calls Tryz.prog 61 #[.string ⟨b.toArray⟩] w fun e w' => e = .returned (.int .i64 (valV b)) ∧ Gr w w') at V2
  change Hid (∀ w, Calls Tryz.prog 61 #[.string ⟨c.toArray⟩] w fun e w' => e = .returned (.int .i64 (valV c)) ∧ Gr w w') at V3
  generalize valV a = x at *
  generalize valV b = y at *
  generalize valV c = z at *
  obtain ⟨tb, htb⟩ : ∃ tb : ByteArray, (⟨t.toArray⟩ : ByteArray) = tb := ⟨_, rfl⟩
  have htl : tb.size ≤ 100000 := by rw [← htb]; show t.length ≤ 100000; omega
  rw [htb] at C3
  rw [htb]
  have WR := Lib.hid (fun w => rWriteRecord_any n x y z tb w htl)
  have eqs : s.toList = s.data.toList := ByteArray.toList_eq s
  obtain ⟨sl, hsl2⟩ : ∃ sl, s.data.toList = sl := ⟨_, rfl⟩
  rw [hsl2] at eqs
  rw [hsl2]
  obtain ⟨T, hT⟩ : ∃ T, recT n x y z tb = T := ⟨_, rfl⟩
  obtain ⟨E, hE⟩ : ∃ E, recE n x y z tb = E := ⟨_, rfl⟩
  rw [hT, hE] at WR
  have HH : Hid ((recOk n x y z tb = true → T = recL x y z tb ∧ E = 0) ∧ (recOk n x y z tb = false → E = 1)) := Lib.hid ⟨fun hq => by
    unfold recT at hT; unfold recE at hE
    rw [if_pos hq] at hT hE
    exact ⟨hT.symm, hE.symm⟩, fun hq => by
    unfold recE at hE
    rw [if_neg (by simp [hq])] at hE
    exact hE.symm⟩
  clear hT hE htb l1 l2 l3 h1 h2 h3 hs hsl hsl2 htl
  generalize recOk n x y z tb = q at *
  generalize recL x y z tb = L at *
  obtain ⟨rv, hrv⟩ : ∃ rv : Value × Int, (if q = true ∧ L = sl then (rcd x y z tb, 0) else (rcd 0 0 0 ⟨#[]⟩, 4)) = rv := ⟨_, rfl⟩
  rw [hrv]
  have HR := Lib.hid hrv
  clear hrv
  have bx := heap_alloc_self w (.cells #[.int .i64 0, .int .i64 0, .int .i64 0, .string ⟨#[]⟩] 23)
  have g0 : Gr w (w.alloc (.cells #[.int .i64 0, .int .i64 0, .int .i64 0, .string ⟨#[]⟩] 23)) := (Gr.refl w).alloc _
  go_enter Tryz.func12, Tryz.ntmps12
  go_wp2_with fail
  refine (IC.out _).mono ?_
  rintro e w1 ⟨rfl, hg1⟩
  have bx1 := hg1.heap bx
  have g1 := g0.trans hg1
  clear hg1 g0 bx IC
  obtain ⟨cx, fx, zx⟩ := blk_cells bx1
  go_wp2_with fail
  refine (C1.out _).mono ?_
  rintro e w2 ⟨rfl, hg2⟩
  have bx2 := hg2.heap bx1
  have g2 := g1.trans hg2
  clear hg2 bx1 cx fx zx C1 g1
  go_wp2_with fail
  refine (C2.out _).mono ?_
  rintro e w3 ⟨rfl, hg3⟩
  have bx3 := hg3.heap bx2
  have g3 := g2.trans hg3
  clear hg3 bx2 C2 g2
  go_wp2_with fail
  refine (C3.out _).mono ?_
  rintro e w4 ⟨rfl, hg4⟩
  have bx4 := hg4.heap bx3
  have g4 := g3.trans hg4
  clear hg4 bx3 C3 g3
  go_wp2_with fail
  refine (V1.out _).mono ?_
  rintro e w5 ⟨rfl, hg5⟩
  have bx5 := hg5.heap bx4
  have g5 := g4.trans hg5
  clear hg5 bx4 V1 g4
  go_wp2_with fail
  refine (V2.out _).mono ?_
  rintro e w6 ⟨rfl, hg6⟩
  have bx6 := hg6.heap bx5
  have g6 := g5.trans hg6
  clear hg6 bx5 V2 g5
  go_wp2_with fail
  refine (V3.out _).mono ?_
  rintro e w7 ⟨rfl, hg7⟩
  have bx7 := hg7.heap bx6
  have g7 := g6.trans hg7
  clear hg7 bx6 V3 g6
  have by7 := heap_alloc_self w7 (.cells #[.int .i64 x, .int .i64 y, .int .i64 z, .string tb] 23)
  go_wp2_with fail
  refine (WR.out _).mono ?_
  rintro e w8 ⟨rfl, hg8⟩
  have bx8 := hg8.heap (((Gr.refl w7).alloc _).heap bx7)
  have by8 := hg8.heap by7
  have g8 := (g7.alloc _).trans hg8
  clear hg8 bx7 by7 WR g7
  generalize w7.heap.size = p7 at *
  obtain ⟨cx, fx, zx⟩ := blk_cells bx8
  obtain ⟨cy, fy, zy⟩ := blk_cells by8
  cases q
  · obtain rfl : E = 1 := HH.out.2 rfl
    clear HH
    go_wp2_with fail
    exact bodyPost_ret (v := .tuple #[rcd 0 0 0 ⟨#[]⟩, .int .i64 4]) (by simp [results, Tryz.results12, go_sem, *]) rfl ⟨by rw [← HR.out, if_neg (by simp)], (by repeat (first | exact Gr.refl _ | assumption | refine Gr.alloc ?_ _ | refine Gr.drew ?_ | refine Gr.drewN ?_ _ | refine Gr.set ?_ _ _ (by first | (simp; done) | (simp; omega)) | refine Gr.trans ?_ (by assumption)))⟩
  · obtain ⟨rfl, rfl⟩ := HH.out.1 rfl
    clear HH
    by_cases hT : T = sl
    · have hc : (T == s.toList) = true := by rw [eqs]; exact beq_iff_eq.2 hT
      obtain rfl : rv = (rcd x y z tb, 0) := by rw [← HR.out, if_pos ⟨rfl, hT⟩]
      clear hT eqs HR
      go_wp2_with fail
      exact bodyPost_ret (v := .tuple #[rcd x y z tb, .int .i64 0]) (by simp [results, Tryz.results12, go_sem, *]) rfl ⟨rfl, (by repeat (first | exact Gr.refl _ | assumption | refine Gr.alloc ?_ _ | refine Gr.drew ?_ | refine Gr.drewN ?_ _ | refine Gr.set ?_ _ _ (by first | (simp; done) | (simp; omega)) | refine Gr.trans ?_ (by assumption)))⟩
    · have hc : (T == s.toList) = false := by rw [eqs]; exact beq_eq_false_iff_ne.2 hT
      obtain rfl : rv = (rcd 0 0 0 ⟨#[]⟩, 4) := by rw [← HR.out, if_neg (by simp [hT])]
      clear hT eqs HR
      go_wp2_with fail
      exact bodyPost_ret (v := .tuple #[rcd 0 0 0 ⟨#[]⟩, .int .i64 4]) (by simp [results, Tryz.results12, go_sem, *]) rfl ⟨rfl, (by repeat (first | exact Gr.refl _ | assumption | refine Gr.alloc ?_ _ | refine Gr.drew ?_ | refine Gr.drewN ?_ _ | refine Gr.set ?_ _ _ (by first | (simp; done) | (simp; omega)) | refine Gr.trans ?_ (by assumption)))⟩
theorem rReadRecord_any (n : Int) (s : ByteArray) (w : World) (hs : s.size ≤ 1000) :
    Calls Tryz.prog 12 #[.int .i64 n, .string s] w fun e w' => e = .returned (.tuple #[(refR n s).1, .int .i64 (refR n s).2]) ∧ Gr w w' := by
  by_cases h : (decide (n = 3) || decide (n = 5)) = true
  · exact rReadRecord_yes n s w h hs
  · have h' : (decide (n = 3) || decide (n = 5)) = false := by simpa using h
    have e : refR n s = (rcd 0 0 0 ⟨#[]⟩, 1) := by unfold refR; rw [if_pos h']
    rw [e]
    exact rReadRecord_nocount n s w h'
end
end Go.Proofs.YthmimjofdmnakaaGreatDoor
