/- strickleref09: HaveOf. -/
import Derived.Test.YthmimjofdmnakaaGreatDoorJRMrg
namespace Go.Proofs.YthmimjofdmnakaaGreatDoor
open Go.RowKit Go.Shelf Go.Lib
/-- how many records of a branch -/
def cnN (l : List Rc) (s : Int) : Int := ((ofR l s).length : Int)
def cnA (l : List Rc) : Array Value := #[.int .i64 (cnN l 0), .int .i64 (cnN l 1), .int .i64 (cnN l 2), .int .i64 (cnN l 3), .int .i64 (cnN l 4)]
theorem cnA_at (l : List Rc) {s : Nat} (h : s < 5) : (cnA l)[s]? = some (.int .i64 (cnN l s)) := by
  match s, h with
  | 0, _ => rfl
  | 1, _ => rfl
  | 2, _ => rfl
  | 3, _ => rfl
  | 4, _ => rfl
theorem cnN_step {l : List Rc} {i : Nat} (hi : i < l.length) (s : Int) : cnN (l.take (i+1)) s = if l[i].s = s then cnN (l.take i) s + 1 else cnN (l.take i) s := by
  unfold cnN
  split
  · rename_i h
    rw [ofR_yes hi h, List.length_append]
    simp
  · rename_i h
    rw [ofR_no hi h]
theorem cnA_step {l : List Rc} {i : Nat} (hi : i < l.length) {s : Nat} (h5 : s < 5) (hs : l[i].s = s) : (cnA (l.take i)).setIfInBounds s (.int .i64 (cnN (l.take i) s + 1)) = cnA (l.take (i+1)) := by
  unfold cnA
  simp only [cnN_step hi, hs]
  match s, h5 with
  | 0, _ => simp
  | 1, _ => simp
  | 2, _ => simp
  | 3, _ => simp
  | 4, _ => simp
theorem cnN_le (l : List Rc) (s : Int) : 0 ≤ cnN l s ∧ cnN l s ≤ l.length := by
  unfold cnN
  have := ofR_le l s
  omega
set_option maxRecDepth 100000 in
set_option maxHeartbeats 8000000 in
theorem HaveOf_any (v : Value) (l : List Rc) (w : World) (hv : RecsAt w v l) (hl : l.length ≤ 1000) (hs : ∀ j (hj : j < l.length), 0 ≤ l[j].s ∧ l[j].s ≤ 4) :
    Calls Tryz.prog 25 #[v] w fun e w' => e = .returned (havV (cnN l 0) (cnN l 1) (cnN l 2) (cnN l 3) (cnN l 4)) ∧ Gr w w' := by
  obtain ⟨al, cl, rfl, hcl, hcell⟩ := hv
  have HC := Lib.hid hcell
  have HS := Lib.hid hs
  have bx := heap_alloc_self w (.cells #[.int .i64 0, .int .i64 0, .int .i64 0, .int .i64 0, .int .i64 0] 35)
  have by_ := heap_alloc_self (w.alloc (.cells #[.int .i64 0, .int .i64 0, .int .i64 0, .int .i64 0, .int .i64 0] 35)) (.cells #[.int .i64 0, .int .i64 0, .int .i64 0, .int .i64 0, .int .i64 0] 35)
  have bx := ((Gr.refl _).alloc (.cells #[.int .i64 0, .int .i64 0, .int .i64 0, .int .i64 0, .int .i64 0] 35)).heap bx
  have g0 : Gr w ((w.alloc (.cells #[.int .i64 0, .int .i64 0, .int .i64 0, .int .i64 0, .int .i64 0] 35)).alloc (.cells #[.int .i64 0, .int .i64 0, .int .i64 0, .int .i64 0, .int .i64 0] 35)) := ((Gr.refl w).alloc _).alloc _
  simp only [World.size_alloc] at by_
  clear hcell hs
  go_enter Tryz.func25, Tryz.ntmps25
  go_wp2
  generalize (w.alloc (.cells #[.int .i64 0, .int .i64 0, .int .i64 0, .int .i64 0, .int .i64 0] 35)).alloc (.cells #[.int .i64 0, .int .i64 0, .int .i64 0, .int .i64 0, .int .i64 0] 35) = W at *
  obtain ⟨p1, hp1⟩ : ∃ p, w.heap.size = p := ⟨_, rfl⟩
  obtain ⟨p2, hp2⟩ : ∃ p, p1 + 1 = p := ⟨_, rfl⟩
  rw [hp1, hp2] at by_
  rw [hp1] at bx
  simp only [hp1, hp2]
  have HP1 := Lib.hid hp1
  have HP2 := Lib.hid hp2
  clear hp1 hp2
  go_loopw [4] (fun q wr => ∃ i : Nat, q = .int .i64 i ∧ i ≤ l.length ∧ GrL [p1, p2] W wr ∧ Hid (wr.heap[p1]? = some (.cells #[.int .i64 0, .int .i64 0, .int .i64 0, .int .i64 0, .int .i64 0] 35 (0, 0)) ∧ wr.heap[p2]? = some (.cells (cnA (l.take i)) 35 (0, 0)))) (fun q _ => l.length - (intOf q).toNat)
  case atStart => exact ⟨0, rfl, by omega, GrL.of_gr (Gr.refl _), Lib.hid ⟨bx, by_⟩⟩
  case round =>
    obtain ⟨i, rfl, hi, gr, HB⟩ := hrel
    by_cases hil : i < l.length
    · have hil' : (i : Int) < l.length := by omega
      have hi0 : (0 : Int) ≤ i := by omega
      obtain ⟨g, o, rfl, hgl, c0, c1, c2, c3⟩ := HC.out i hil
      have hs := HS.out i hil
      obtain ⟨s, hsn⟩ : ∃ s : Nat, l[i].s = s := ⟨l[i].s.toNat, by omega⟩
      have hs5 : s < 5 := by omega
      have hs5' : (s : Int) < 5 := by omega
      have hs0 : (0 : Int) ≤ s := by omega
      have ST := Lib.hid (cnA_step hil hs5 hsn)
      rw [hsn] at c0
      have hcn := cnN_le (l.take i) s
      have hlt : (l.take i).length ≤ 1000 := by rw [List.length_take]; omega
      have hgW : g < W.heap.size := Nat.lt_of_lt_of_le hgl g0.b.size
      have hgb := gr.block g hgW (by have := HP1.out; have := HP2.out; simp; omega)
      have e0 := (World.cell?_of_block (a := ⟨g, o + i * 4, none⟩) hgb).trans ((g0.cells.1 g _ hgl).trans c0)
      have hzg : g < wr.heap.size := Nat.lt_of_lt_of_le hgW gr.size
      have b1 := HB.out.1
      have b2 := HB.out.2
      have d0 := ((blk_cells b2).1 s).trans (cnA_at (l.take i) hs5)
      have hz2 := (blk_cells b2).2.2
      obtain ⟨N, hN⟩ : ∃ N, cnN (l.take i) s = N := ⟨_, rfl⟩
      rw [hN] at d0 ST hcn
      have hNw : IntKind.i64.wrap (N + 1) = N + 1 := IntWalk.i64_in _ (by omega)
      have HN := Lib.hid hN
      clear c0 c1 c2 c3 hN hgb hs hsn
      go_wp2_with fail
      refine wp_region_stepsL [16] [.val (.slice (some ⟨g, o, none⟩) l.length cl), .val (.int .i64 i), .val (.pointer (some ⟨g, o + i * 4, none⟩)), .val (.pointer (some ⟨g, o + i * 4, none⟩)), .val (.int .i64 s), .val (.slice (some ⟨g, o, none⟩) l.length cl), .val (.int .i64 i), .val (.pointer (some ⟨g, o + i * 4, none⟩)), .val (.pointer (some ⟨g, o + i * 4, none⟩)), .val (.int .i64 s),
        .val (.pointer (some ⟨p2, 0, none⟩)), .val (.pointer (some ⟨p2, s, none⟩)), .val (.int .i64 N), .val (.int .i64 (N + 1)), .val (.pointer (some ⟨p2, 0, none⟩)), .val (.pointer (some ⟨p2, s, none⟩)), .later] (by kernel_rfl) (by kernel_rfl) (fun V => by first | (simp only [finS, Step.isLater, Bool.false_eq_true, if_false, if_true, Act.put, Step.value, List.setIfInBounds_toArray, List.set_cons_zero, List.set_cons_succ]; rfl) | (simp only [finS, Step.isLater, Bool.false_eq_true, if_false, if_true, Act.put, Step.value, List.setIfInBounds_toArray, List.set_cons_zero, List.set_cons_succ, Nat.zero_add, Nat.reduceAdd]; rfl)) ?_ ?_
      · refine ⟨?_, ?_, ?_, ?_, ?_, ?_, ?_, ?_, ?_, ?_, ?_, ?_, ?_, ?_, ?_, ?_, ?_, trivial⟩ <;> (first | exact trivial | (refine ⟨(by intro v u u1 h g; obtain ⟨b, rfl, h⟩ := h; exact ⟨b, rfl, g.heap h⟩), ?_⟩; intro V u hu hk; refine ⟨by kernel_rfl, ?_⟩; go_simp; exact ⟨⟨_, rfl, heap_alloc_self _ _⟩, (Gr.refl _).alloc _⟩) | (refine ⟨(by intro v u u1 h g; first | exact ownsRow_g h g | exact st_and h g | exact h), ?_⟩; intro V u hu hk; refine ⟨by kernel_rfl, turn_owes (by kernel_rfl) ?_⟩; obtain ⟨hc, hf, hz⟩ := hu.cells; go_simp; skip) | (refine ⟨(by intro v u u1 h g; first | exact ownsRow_g h g | exact st_and h g | exact h), ?_⟩; intro V u hu hk; refine ⟨by kernel_rfl, ?_⟩; obtain ⟨hc, hf, hz⟩ := hu.cells; go_simp; skip) | (intro V u hu hk; refine ⟨by kernel_rfl, ?_⟩; obtain ⟨hc, hf, hz⟩ := hu.cells; go_simp; first | exact ⟨rfl, Gr.refl _⟩ | skip) | (intro V u hu hk; show _ = false; kernel_rfl))
      · intro V u hg hsx
        have b1' := hg.heap b1
        have b2' := hg.heap b2
        have d0' := (hg.cells.1 p2 s hz2).trans d0
        have f0' := (blk_cells b2').2.1 s
        have z2' := (blk_cells b2').2.2
        have G2 := gr.trans (GrL.of_gr (l := [p1, p2]) hg)
        have e2 := put_at b2' s (.int .i64 (N + 1))
        rw [ST.out] at e2
        have G3 : GrL [p1, p2] W (u.setCell ⟨p2, s, none⟩ (.int .i64 (N + 1))) := GrL.set G2 _ _ (Or.inr (by simp))
        have e1 : (u.setCell ⟨p2, s, none⟩ (.int .i64 (N + 1))).heap[p1]? = some (.cells #[.int .i64 0, .int .i64 0, .int .i64 0, .int .i64 0, .int .i64 0] 35 (0, 0)) :=
          ((GrL.set (l := [p2]) (GrL.of_gr (Gr.refl u)) ⟨p2, s, none⟩ (.int .i64 (N + 1)) (Or.inr (by simp))).block p1 (heap_lt b1') (by have := HP2.out; simp; omega)).trans b1'
        have HB2 := Lib.hid (And.intro e1 e2)
        clear e1 e2 b1 b2 b1' b2' d0 hz2 G2 hg hsx
        refine ⟨⟨none, _, _, _, _, _⟩, rfl, rfl, ?_⟩
        go_simp
        refine Lones.fin ?_
        go_simp
        go_wp2
        refine ⟨⟨i + 1, by simp, by omega, G3, HB2⟩, by simp [intOf]; omega⟩
    · have hil' : ¬ (i : Int) < l.length := by omega
      obtain rfl : i = l.length := by omega
      have b1 := HB.out.1
      have b2 := HB.out.2
      rw [List.take_length] at b2
      unfold cnA at b2
      obtain ⟨cx, fx, zx⟩ := blk_cells b1
      obtain ⟨cy, fy, zy⟩ := blk_cells b2
      have hne : p1 ≠ p2 := by have := HP2.out; omega
      go_wp2
      have e := put_at (put_at (put_at (put_at (put_at b1 0 (.int .i64 (cnN l 0))) 1 (.int .i64 (cnN l 1))) 2 (.int .i64 (cnN l 2))) 3 (.int .i64 (cnN l 3))) 4 (.int .i64 (cnN l 4))
      replace e : _ = some (Obj.cells #[.int .i64 (cnN l 0), .int .i64 (cnN l 1), .int .i64 (cnN l 2), .int .i64 (cnN l 3), .int .i64 (cnN l 4)] 35 (0, 0)) := e
      have G : ∀ k v u, GrL [p1, p2] W u → GrL [p1, p2] W (u.setCell ⟨p1, k, none⟩ v) := fun k v u h => GrL.set h _ _ (Or.inr (by simp))
      have G5 := GrL.gr g0 (G 4 (.int .i64 (cnN l 4)) _ (G 3 (.int .i64 (cnN l 3)) _ (G 2 (.int .i64 (cnN l 2)) _ (G 1 (.int .i64 (cnN l 1)) _ (G 0 (.int .i64 (cnN l 0)) _ gr))))) (fun k hk => by
        have := HP1.out
        have := HP2.out
        simp at hk
        omega)
      exact bodyPost_ret (v := havV (cnN l 0) (cnN l 1) (cnN l 2) (cnN l 3) (cnN l 4)) (results_cell_row Tryz.results25 _ _ p1 _ _ _ _ rfl e Tryz.underlying35 rfl (by kernel_rfl)) rfl ⟨rfl, G5⟩
end Go.Proofs.YthmimjofdmnakaaGreatDoor
