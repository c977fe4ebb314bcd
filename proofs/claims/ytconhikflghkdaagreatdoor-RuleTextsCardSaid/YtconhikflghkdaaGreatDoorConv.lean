/- rule/near.go: convergents. -/
import Derived.Test.YtconhikflghkdaaGreatDoorRangeP
import Derived.Test.YtconhikflghkdaaGreatDoorMath
import Derived.Test.YtconhikflghkdaaGreatDoorPlan
namespace Go.Proofs.YtconhikflghkdaaGreatDoor
open Go.RowKit Go.Shelf
attribute [local go_sem] Oper.semAt_some
abbrev encF (p : Int × Int) : Array Value := #[fr p.1 p.2]
/-- the blocks of convergents$1: yield, was, now -/
structure CvB (by' bw bn : Nat) (l : Nat) (s : Int × Int × Int × Int) (W : World) : Prop where
  y : W.heap[by']? = some (.cells #[.func (.yield l) #[] #[]] 115 (0, 0))
  w : W.heap[bw]? = some (.cells #[.int .i64 s.2.2.1, .int .i64 s.2.2.2] 65 (0, 0))
  n : W.heap[bn]? = some (.cells #[.int .i64 s.1, .int .i64 s.2.1] 65 (0, 0))
set_option maxRecDepth 100000 in
set_option maxHeartbeats 2000000 in
theorem conv_iter (Bl gT : Nat) (lbT : Array Value) (own : List Nat) (ts : List Int) (w : World) (hBl : w.cell? ⟨Bl, 0, none⟩ = some (.func (.func gT) #[] lbT)) (hown : ∀ b ∈ own, b < w.heap.size)
    (eg : ∀ args w, (callFunc gT args).run Tryz.prog w = .ok (.enter gT args) w) (hit : IterP Tryz.prog gT lbT own (fun x : Int => #[.int .i64 x]) ts w) (hcb : Rm.CB ts) :
    IterP Tryz.prog 84 #[.pointer (some ⟨Bl, 0, none⟩)] own encF (Rm.cv ts) w := fun n l J Jx W hg hJ hJx hY h0 => by
  have lBl := World.block_lt_of_cell? _ _ hBl
  have hBW : W.cell? ⟨Bl, 0, none⟩ = some (.func (.func gT) #[] lbT) := (hg.cells.1 _ _ lBl).trans hBl
  have lBW := World.block_lt_of_cell? _ _ hBW
  have lB0 : Bl < W.heap.size := lBW
  have lB1 : Bl < W.heap.size + 1 := by omega
  have lB2 : Bl < W.heap.size + 1 + 1 := by omega
  have HIT := Lib.hid (fun W2 (g2 : Gr W W2) => (fun n l J Jx W3 g3 => hit n l J Jx W3 (hg.trans (g2.trans g3)) : IterP Tryz.prog gT lbT own (fun x : Int => #[.int .i64 x]) ts W2))
  have HY := Lib.hid hY
  have HJ := Lib.hid hJ
  have HX := Lib.hid hJx
  have H0 := Lib.hid h0
  have EG := Lib.hid eg
  clear hit hY hJ hJx h0 eg
  refine callsIn_of_wp_marks Tryz.func84 rfl trivial ?_ rfl
  simp only [Tryz.ntmps84, List.size_toArray, List.length_cons, List.length_nil, Nat.reduceAdd, Nat.reduceSub, Array.replicate_succ, Array.replicate_zero, List.push_toArray, List.append_toArray, List.nil_append, List.cons_append]
  gi_wp2
  have gl : Gr W (((W.alloc (Obj.cells #[.func (.yield l) #[] #[]] 115)).alloc (Obj.cells #[.int .i64 0, .int .i64 1] 65)).alloc (Obj.cells #[.int .i64 1, .int .i64 0] 65)) := (((Gr.refl W).alloc _).alloc _).alloc _
  have C0 : CvB W.heap.size (W.heap.size + 1) (W.heap.size + 1 + 1) l (Rm.cs []) (((W.alloc (Obj.cells #[.func (.yield l) #[] #[]] 115)).alloc (Obj.cells #[.int .i64 0, .int .i64 1] 65)).alloc (Obj.cells #[.int .i64 1, .int .i64 0] 65)) := by
    refine ⟨?_, ?_, ?_⟩
    · exact Gr.heap (((Gr.refl _).alloc _).alloc _) (heap_alloc_self W _)
    · have := heap_alloc_self (W.alloc (Obj.cells #[.func (.yield l) #[] #[]] 115)) (Obj.cells #[.int .i64 0, .int .i64 1] 65)
      rw [World.size_alloc] at this
      exact Gr.heap ((Gr.refl _).alloc _) this
    · have := heap_alloc_self ((W.alloc (Obj.cells #[.func (.yield l) #[] #[]] 115)).alloc (Obj.cells #[.int .i64 0, .int .i64 1] 65)) (Obj.cells #[.int .i64 1, .int .i64 0] 65)
      rw [World.size_alloc, World.size_alloc] at this
      exact this
  have zl : (((W.alloc (Obj.cells #[.func (.yield l) #[] #[]] 115)).alloc (Obj.cells #[.int .i64 0, .int .i64 1] 65)).alloc (Obj.cells #[.int .i64 1, .int .i64 0] 65)).heap.size = W.heap.size + 3 := by simp
  generalize hW3 : (((W.alloc (Obj.cells #[.func (.yield l) #[] #[]] 115)).alloc (Obj.cells #[.int .i64 0, .int .i64 1] 65)).alloc (Obj.cells #[.int .i64 1, .int .i64 0] 65)) = W3 at *
  clear hW3
  have lown : ∀ b ∈ own, b < W.heap.size := fun b hb => Nat.lt_of_lt_of_le (hown b hb) hg.b.size
  refine range_lawP (gf := gT) (lb := lbT) rfl EG.out own (fun x : Int => #[.int .i64 x]) ts (fun b hb => by have := lown b hb; omega) (HIT.out W3 gl) (fun _ => rfl)
    (fun pv pre Wx => J ([W.heap.size, W.heap.size + 1, W.heap.size + 1 + 1, W3.heap.size, W3.heap.size + 1] ++ pv) (Rm.cv pre) Wx ∧ CvB W.heap.size (W.heap.size + 1) (W.heap.size + 1 + 1) l (Rm.cs pre) Wx ∧ (∀ b ∈ pv, W.heap.size + 5 ≤ b ∧ b < Wx.heap.size) ∧ W.heap.size + 5 ≤ Wx.heap.size)
    (fun c Wx => c = .ret ∧ Jx Wx) ?hI ?hIx ?h0
    (fun x a1 _ => a1 = { tmps := #[.func (.yield l) #[] #[], .pointer (some ⟨Bl, 0, none⟩), .pointer (some ⟨W.heap.size, 0, none⟩), .pointer (some ⟨W.heap.size + 1, 0, none⟩), .pointer (some ⟨W.heap.size + 1 + 1, 0, none⟩), .int .i64 x, fr 0 1, fr 1 0, .func (.func gT) #[] lbT, .int .i64 x, undef, undef, undef, undef, undef, undef, undef, undef, undef, undef, undef, undef, undef, undef, undef, undef, undef, undef, undef, undef], defers := [] }) (fun _ _ _ _ _ _ h _ _ => h) ?assign ?body ?done ?stop
  case hI =>
    rintro pv pre W1 W2 bs ⟨hj, hc, hp, hz⟩ g hbs
    refine ⟨HJ.out _ _ _ _ hj (g.mono fun b hb => ?_), ?_, fun b hb => ⟨(hp b hb).1, Nat.lt_of_lt_of_le (hp b hb).2 g.size⟩, Nat.le_trans hz g.size⟩
    · rcases hbs b hb with h | ⟨rfl, _⟩
      · rcases List.mem_append.1 h with h | h <;> simp [h]
      · simp
    · have nb : ∀ k, W.heap.size ≤ k → k < W.heap.size + 3 → k ∉ bs := fun k k1 k2 hk => by
        rcases hbs k hk with h | ⟨h, _⟩
        · rcases List.mem_append.1 h with h | h
          · have := lown k h; omega
          · have := (hp k h).1; omega
        · omega
      exact ⟨g.heap hc.y (nb _ (by omega) (by omega)), g.heap hc.w (nb _ (by omega) (by omega)), g.heap hc.n (nb _ (by omega) (by omega))⟩
  case hIx =>
    exact fun c W1 W2 b hx hb ho g => ⟨hx.1, HX.out W1 W2 b hx.2 (by omega) ho g⟩
  case h0 =>
    rintro pv W1 g hz hp
    refine ⟨H0.out _ W1 (gl.trans g) ?_, ⟨g.heap C0.y, g.heap C0.w, g.heap C0.n⟩, fun b hb => by have := hp b hb; omega, by omega⟩
    intro b hb
    rcases List.mem_append.1 hb with hb | hb
    · simp at hb; omega
    · have := hp b hb; omega
  case assign =>
    intro m l' pv pre x Wx K _ hK
    gi_wp2
    exact hK _ _ (Gr.refl _) rfl
  case body =>
    rintro m l' pv pre x a1 Wx ⟨hj, hc, hp, hz⟩ hpre rfl
    have B := hcb pre x hpre
    obtain ⟨yc, yf, yz⟩ := blk_cells hc.y
    obtain ⟨wc, wf, wz⟩ := blk_cells hc.w
    obtain ⟨nc, nf, nz⟩ := blk_cells hc.n
    generalize hs : Rm.cs pre = s at *
    obtain ⟨pn, pd, qn, qd⟩ := s
    obtain ⟨b1, b2, b3, b4, b5, b6, b7, b8⟩ := B
    dsimp only at *
    have HS := Lib.hid hs
    clear hs
    have q1 : IntKind.i64.wrap (x*pn) = x*pn := IntWalk.i64_in _ (by omega)
    have q2 : IntKind.i64.wrap (x*pd) = x*pd := IntWalk.i64_in _ (by omega)
    have q3 : IntKind.i64.wrap (x*pn + qn) = x*pn + qn := IntWalk.i64_in _ (by omega)
    have q4 : IntKind.i64.wrap (x*pd + qd) = x*pd + qd := IntWalk.i64_in _ (by omega)
    have n12 : W.heap.size + 1 ≠ W.heap.size + 1 + 1 := by omega
    gi_wp2_with fail
    refine wpIn_region_planS [.val (fr pn pd), .val (.int .i64 x), .val (.pointer (some ⟨W.heap.size + 1 + 1, 0, none⟩)), .val (.int .i64 pn), .val (.int .i64 (x*pn)), .val (.pointer (some ⟨W.heap.size + 1, 0, none⟩)), .val (.int .i64 qn), .val (.int .i64 (x*pn+qn)), .val (.int .i64 x), .val (.pointer (some ⟨W.heap.size + 1 + 1, 1, none⟩)), .val (.int .i64 pd), .val (.int .i64 (x*pd)), .val (.pointer (some ⟨W.heap.size + 1, 1, none⟩)), .val (.int .i64 qd), .val (.int .i64 (x*pd+qd)), .val (fr (x*pn+qn) (x*pd+qd)), .val undef, .val undef] [(16, W.heap.size + 1, 65, #[.int .i64 qn, .int .i64 qd], #[.int .i64 pn, .int .i64 pd]), (17, W.heap.size + 1 + 1, 65, #[.int .i64 pn, .int .i64 pd], #[.int .i64 (x*pn+qn), .int .i64 (x*pd+qd)])] (by kernel_rfl) (by kernel_rfl) (by simp only [finAct, Act.put, Plan.value, List.setIfInBounds_toArray, List.set_cons_zero, List.set_cons_succ]; rfl) ?_ ?_ ?_ ?_ ?_ ?_
    · simp
    · simp
    · simp
    · intro y hy
      simp only [List.mem_cons, List.not_mem_nil, or_false] at hy
      rcases hy with rfl | rfl
      · exact hc.w
      · exact hc.n
    · refine ⟨?_, ?_, ?_, ?_, ?_, ?_, ?_, ?_, ?_, ?_, ?_, ?_, ?_, ?_, ?_, ?_, ?_, ?_, trivial⟩
      all_goals first
        | (change ∀ u, _ → _ → (_ = Result.ok (Next.value _) u)
           intro u hu h
           have h17 := h (17, W.heap.size + 1 + 1, 65, #[.int .i64 pn, .int .i64 pd], #[.int .i64 (x*pn+qn), .int .i64 (x*pd+qd)]) (by simp) (by kernel_rfl)
           obtain ⟨c17, _, _⟩ := blk_cells h17
           clear h
           go_simp
           done)
        | (change ∀ u, _ → _ → (_ = Result.ok (Next.value _) u)
           intro u hu h
           have h16 := h (16, W.heap.size + 1, 65, #[.int .i64 qn, .int .i64 qd], #[.int .i64 pn, .int .i64 pd]) (by simp) (by kernel_rfl)
           obtain ⟨c16, _, _⟩ := blk_cells h16
           clear h
           go_simp
           done)
        | (change ∀ u, _ → _ → ∃ u', _ ∧ _ ∧ _
           intro u hu h
           obtain ⟨ch, fh, _⟩ := blk_cells h
           refine ⟨_, ?_, ((GrL.of_gr (Gr.refl _)).set _ _ (Or.inr (by simp))).set _ _ (Or.inr (by simp)), put_two h⟩
           go_simp
           done)
    · intro u hu hs2
      clear q1 q2 q3 q4
      have k16 := hs2 (16, W.heap.size + 1, 65, #[.int .i64 qn, .int .i64 qd], #[.int .i64 pn, .int .i64 pd]) (by simp)
      have k17 := hs2 (17, W.heap.size + 1 + 1, 65, #[.int .i64 pn, .int .i64 pd], #[.int .i64 (x*pn+qn), .int .i64 (x*pd+qd)]) (by simp)
      dsimp only at k16 k17
      have hu' : GrL [W.heap.size + 1, W.heap.size + 1 + 1] Wx u := hu
      have ky := hu'.heap hc.y (by simp; omega)
      have hju := HJ.out _ _ _ _ hj (hu'.mono (fun b hb => by simp only [List.mem_cons, List.not_mem_nil, or_false] at hb; rcases hb with rfl | rfl <;> simp))
      have hzu := hu'.size
      obtain ⟨fn, tmps, assign, body, hy, hR⟩ := HY.out (m-1) _ (Rm.cv pre) (x*pn+qn, x*pd+qd) u hju (by
        intro b hb
        simp only [List.mem_append, List.mem_cons, List.not_mem_nil, or_false] at hb
        rcases hb with h | (rfl | rfl | rfl | rfl | rfl) | h
        · have := lown b h; omega
        · omega
        · omega
        · omega
        · omega
        · omega
        · have := (hp b h).2; omega) (by
        have e : Rm.cv (pre ++ [x]) = Rm.cv pre ++ [(x*pn+qn, x*pd+qd)] := by rw [Rm.cv_snoc, HS.out]
        rw [← e]; exact Rm.cv_prefix hpre)
      clear hs2 hu yc yf yz wc wf wz nc nf nz
      obtain ⟨yc, yf, yz⟩ := blk_cells ky
      obtain ⟨wc, wf, wz⟩ := blk_cells k16
      obtain ⟨nc, nf, nz⟩ := blk_cells k17
      have hxp : Rm.cs (pre ++ [x]) = (x*pn+qn, x*pd+qd, pn, pd) := by rw [Rm.cs_snoc, HS.out]
      have HXP := Lib.hid hxp
      have hcv : Rm.cv (pre ++ [x]) = Rm.cv pre ++ [(x*pn+qn, x*pd+qd)] := by rw [Rm.cv_snoc, HS.out]
      have HCV := Lib.hid hcv
      clear hxp hcv
      have lft : ∀ w2 : World, (∀ b ∈ own ++ ([W.heap.size, W.heap.size + 1, W.heap.size + 1 + 1, W3.heap.size, W3.heap.size + 1] ++ pv), w2.heap[b]? = u.heap[b]?) → Left (W3.heap.size :: (W3.heap.size + 1) :: (own ++ pv)) Wx w2 := by
        intro w2 hk b hb
        have hb' : b ∈ own ++ ([W.heap.size, W.heap.size + 1, W.heap.size + 1 + 1, W3.heap.size, W3.heap.size + 1] ++ pv) := by
          simp only [List.mem_cons, List.mem_append] at hb ⊢
          rcases hb with rfl | rfl | hb | hb <;> simp [*]
        have hlt : b < Wx.heap.size ∧ b ∉ [W.heap.size + 1, W.heap.size + 1 + 1] := by
          simp only [List.mem_cons, List.mem_append, List.not_mem_nil, or_false] at hb ⊢
          rcases hb with rfl | rfl | hb | hb
          · omega
          · omega
          · have := lown b hb; omega
          · have := hp b hb; omega
        exact (hk b hb').trans (hu'.block b hlt.1 hlt.2)
      gi_wp2_with fail
      refine ⟨fun h => absurd h (by simp [Fence.wide]), hR.mono ?_⟩
      rintro e w2 (⟨rfl, hj2, hk2⟩ | ⟨rfl, hx, hk2⟩ | ⟨ch, rfl, hp⟩)
      · gi_wp2
        refine ⟨lft w2 hk2, by rw [HCV.out]; exact hj2, ?_, ?_, ?_⟩
        · rw [HXP.out]
          exact ⟨(hk2 _ (by simp)).trans ky, (hk2 _ (by simp)).trans k16, (hk2 _ (by simp)).trans k17⟩
        · intro b hb
          refine ⟨(hp b hb).1, ?_⟩
          have e := hk2 b (by simp [hb])
          have hbu : b < u.heap.size := by have := (hp b hb).2; omega
          rw [Array.getElem?_eq_getElem hbu] at e
          exact (Array.getElem?_eq_some_iff.1 e).1
        · have e := hk2 (W3.heap.size + 1) (by simp)
          have hbu : W3.heap.size + 1 < u.heap.size := by omega
          rw [Array.getElem?_eq_getElem hbu] at e
          have := (Array.getElem?_eq_some_iff.1 e).1
          omega
      · gi_wp2
        exact ⟨lft w2 hk2, rfl, hx⟩
      · exact hp.elim
  case done =>
    rintro D pv Wx rfl ⟨hj, hc, hp, hz⟩ hK
    gi_wp2
    refine ⟨by simp, .inl ⟨_, _, rfl, run_takeDeferred hK, ?_⟩⟩
    refine ⟨_, results_none rfl _ _ _, .inl ⟨rfl, .inl ⟨_, HJ.out _ _ _ _ hj ((GrL.putObj Wx W3.heap.size (.deferred none)).mono ?_)⟩⟩⟩
    simp
  case stop =>
    rintro D c Wx rfl ⟨rfl, hx⟩ hK
    gi_wp2
    refine ⟨by simp, .inl ⟨_, _, rfl, run_takeDeferred hK, ?_⟩⟩
    refine ⟨_, results_none rfl _ _ _, .inl ⟨rfl, .inr (HX.out _ _ _ hx (by omega) ⟨_, hK, rfl⟩ (GrL.putObj Wx W3.heap.size (.deferred none)))⟩⟩
end Go.Proofs.YtconhikflghkdaaGreatDoor
