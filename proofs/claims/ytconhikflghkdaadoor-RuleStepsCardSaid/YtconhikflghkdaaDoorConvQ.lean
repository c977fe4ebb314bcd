/- slices.Values; rule/near.go: convergents, over whatever rounds: numbers are put into 64 bits; a round may give up. -/
import Derived.Test.YtconhikflghkdaaDoorRangeQ
import Derived.Test.YtconhikflghkdaaDoorConv
import Derived.Test.YtconhikflghkdaaDoorMathF
namespace Go.Proofs.YtconhikflghkdaaDoor
open Go.RowKit Go.Shelf
attribute [local go_sem] Oper.semAt_some
abbrev wr (x : Int) : Int := IntKind.i64.wrap x
set_option maxRecDepth 100000 in
set_option maxHeartbeats 1000000 in
theorem values_iter (Bs b off cap : Nat) (xs : List Int) (w : World) (hB : w.heap[Bs]? = some (.cells #[.slice (some ⟨b, off, none⟩) xs.length cap] 61 (0, 0))) (hb : b < w.heap.size)
    (hc : ∀ j, j < xs.length → w.cell? ⟨b, off + j, none⟩ = some (.int .i64 (xs.getD j 0))) (hlen : xs.length ≤ 1000) :
    IterQ Tryd.prog 142 #[.pointer (some ⟨Bs, 0, none⟩)] [Bs, b] [] (fun x : Int => #[.int .i64 x]) xs w := fun n l J Jx Jp W hg hJ _ _ hY h0 => by
  have hBW := hg.heap hB
  have hbW : b < W.heap.size := Nat.lt_of_lt_of_le hb hg.b.size
  have hcW : ∀ j, j < xs.length → W.cell? ⟨b, off + j, none⟩ = some (.int .i64 (xs.getD j 0)) := fun j hj => (hg.cells.1 _ _ hb).trans (hc j hj)
  have H0 := h0 [] W (Gr.refl _) (by simp)
  have HY := Lib.hid hY
  have HJ := Lib.hid hJ
  clear hc hY hJ h0 hg hB hb
  obtain ⟨bc, bf, bz⟩ := blk_cells hBW
  refine callsIn_of_wp Tryd.func142 rfl trivial ?_ rfl
  simp only [Tryd.ntmps142, List.size_toArray, List.length_cons, List.length_nil, Nat.reduceAdd, Nat.reduceSub, Array.replicate_succ, Array.replicate_zero, List.push_toArray, List.append_toArray, List.nil_append, List.cons_append]
  gi_wp2
  gi_loopw [7] (fun p wr => ∃ k : Nat, p = .int .i64 k ∧ k ≤ xs.length ∧ wr.heap[Bs]? = W.heap[Bs]? ∧ wr.heap[b]? = W.heap[b]? ∧ J [] (xs.take k) wr) (fun p _ => xs.length - (intOf p).toNat)
  case atStart => exact ⟨0, rfl, by omega, rfl, rfl, by simpa using H0⟩
  case round =>
    obtain ⟨k, rfl, hk, e1, e2, hj⟩ := hrel
    have lB : Bs < wr.heap.size := heap_lt (e1.trans hBW)
    have lb : b < wr.heap.size := by
      rw [Array.getElem?_eq_getElem hbW] at e2
      exact (Array.getElem?_eq_some_iff.1 e2).1
    by_cases hkl : k < xs.length
    · have hx : wr.cell? ⟨b, off + k, none⟩ = some (.int .i64 (xs.getD k 0)) := (World.cell?_of_block e2).trans (hcW k hkl)
      have ht : xs.take k ++ [xs.getD k 0] = xs.take (k+1) := by
        rw [Rm.getD_el hkl, List.take_succ_eq_append_getElem hkl]
      obtain ⟨fn, tmps, assign, body, hy, hR⟩ := HY.out (n-1) [] (xs.take k) (xs.getD k 0) wr hj (by
        intro c hc
        simp only [List.append_nil, List.mem_cons, List.not_mem_nil, or_false] at hc
        rcases hc with rfl | rfl <;> assumption) (by rw [ht]; exact List.take_prefix _ _)
      rw [ht] at hR
      generalize xs.getD k 0 = x at *
      gi_wp2_with fail
      refine ⟨fun h => absurd h (by simp [Fence.wide]), hR.mono ?_⟩
      rintro e w2 (⟨rfl, hj2, hk2⟩ | ⟨rfl, hx2, _⟩ | ⟨ch, rfl, hp, _⟩)
      · gi_wp2
        go_roundw
        case rel => exact ⟨k+1, by go_num, by omega, (hk2 _ (by simp)).trans e1, (hk2 _ (by simp)).trans e2, hj2⟩
        case measure => simp only [intOf]; omega
      · gi_wp2
        go_end0
        exact .inl ⟨rfl, .inr hx2⟩
      · exact ⟨rfl, .inr ⟨ch, rfl, hp⟩⟩
    · have ek : k = xs.length := by omega
      subst ek
      gi_wp2
      go_end0
      exact .inl ⟨rfl, .inl ⟨[], by simpa using hj⟩⟩
set_option maxRecDepth 100000 in
set_option maxHeartbeats 2000000 in
theorem conv_iterQ (Bl gT : Nat) (lbT : Array Value) (rd own : List Nat) (ts : List Int) (w : World) (hBl : w.cell? ⟨Bl, 0, none⟩ = some (.func (.func gT) #[] lbT)) (hown : ∀ b ∈ rd ++ own, b < w.heap.size)
    (eg : ∀ args w, (callFunc gT args).run Tryd.prog w = .ok (.enter gT args) w) (hit : IterQ Tryd.prog gT lbT rd own (fun x : Int => #[.int .i64 x]) ts w) :
    IterQ Tryd.prog 141 #[.pointer (some ⟨Bl, 0, none⟩)] rd own encF (Rm.cwv wr ts) w := fun n l J Jx Jp W hg hJ hJx hJp hY h0 => by
  have lBl := World.block_lt_of_cell? _ _ hBl
  have hBW : W.cell? ⟨Bl, 0, none⟩ = some (.func (.func gT) #[] lbT) := (hg.cells.1 _ _ lBl).trans hBl
  have lBW := World.block_lt_of_cell? _ _ hBW
  have lB0 : Bl < W.heap.size := lBW
  have lB1 : Bl < W.heap.size + 1 := by omega
  have lB2 : Bl < W.heap.size + 1 + 1 := by omega
  have HIT := Lib.hid (fun W2 (g2 : Gr W W2) => (fun n l J Jx Jp W3 g3 => hit n l J Jx Jp W3 (hg.trans (g2.trans g3)) : IterQ Tryd.prog gT lbT rd own (fun x : Int => #[.int .i64 x]) ts W2))
  have HY := Lib.hid hY
  have HJ := Lib.hid hJ
  have HX := Lib.hid hJx
  have HP := Lib.hid hJp
  have H0 := Lib.hid h0
  have EG := Lib.hid eg
  clear hit hY hJ hJx hJp h0 eg
  refine callsIn_of_wpG Tryd.func141 rfl ?_
  simp only [Tryd.ntmps141, List.size_toArray, List.length_cons, List.length_nil, Nat.reduceAdd, Nat.reduceSub, Array.replicate_succ, Array.replicate_zero, List.push_toArray, List.append_toArray, List.nil_append, List.cons_append]
  refine wpG.seq (wpG.of ?_)
  gi_wp2
  refine wpG.seq (wpG.of ?_)
  gi_wp2
  refine wpG.seq (wpG.of ?_)
  gi_wp2
  refine wpG.block ?_
  have gl : Gr W (((W.alloc (Obj.cells #[.func (.yield l) #[] #[]] 104)).alloc (Obj.cells #[.int .i64 0, .int .i64 1] 73)).alloc (Obj.cells #[.int .i64 1, .int .i64 0] 73)) := (((Gr.refl W).alloc _).alloc _).alloc _
  have C0 : CvB W.heap.size (W.heap.size + 1) (W.heap.size + 1 + 1) l (Rm.cws wr []) (((W.alloc (Obj.cells #[.func (.yield l) #[] #[]] 104)).alloc (Obj.cells #[.int .i64 0, .int .i64 1] 73)).alloc (Obj.cells #[.int .i64 1, .int .i64 0] 73)) := by
    refine ⟨?_, ?_, ?_⟩
    · exact Gr.heap (((Gr.refl _).alloc _).alloc _) (heap_alloc_self W _)
    · have := heap_alloc_self (W.alloc (Obj.cells #[.func (.yield l) #[] #[]] 104)) (Obj.cells #[.int .i64 0, .int .i64 1] 73)
      rw [World.size_alloc] at this
      exact Gr.heap ((Gr.refl _).alloc _) this
    · have := heap_alloc_self ((W.alloc (Obj.cells #[.func (.yield l) #[] #[]] 104)).alloc (Obj.cells #[.int .i64 0, .int .i64 1] 73)) (Obj.cells #[.int .i64 1, .int .i64 0] 73)
      rw [World.size_alloc, World.size_alloc] at this
      exact this
  have zl : (((W.alloc (Obj.cells #[.func (.yield l) #[] #[]] 104)).alloc (Obj.cells #[.int .i64 0, .int .i64 1] 73)).alloc (Obj.cells #[.int .i64 1, .int .i64 0] 73)).heap.size = W.heap.size + 3 := by simp
  generalize hW3 : (((W.alloc (Obj.cells #[.func (.yield l) #[] #[]] 104)).alloc (Obj.cells #[.int .i64 0, .int .i64 1] 73)).alloc (Obj.cells #[.int .i64 1, .int .i64 0] 73)) = W3 at *
  clear hW3
  have lown : ∀ b ∈ rd ++ own, b < W.heap.size := fun b hb => Nat.lt_of_lt_of_le (hown b hb) hg.b.size
  refine range_lawQ Tryd.func141 (gf := gT) (lb := lbT) rfl EG.out rd own (fun x : Int => #[.int .i64 x]) ts (fun b hb => by have := lown b hb; omega) (HIT.out W3 gl) (fun _ => rfl)
    (fun pv pre Wx => J ([W.heap.size, W.heap.size + 1, W.heap.size + 1 + 1, W3.heap.size, W3.heap.size + 1] ++ pv) (Rm.cwv wr pre) Wx ∧ CvB W.heap.size (W.heap.size + 1) (W.heap.size + 1 + 1) l (Rm.cws wr pre) Wx ∧ (∀ b ∈ pv, W.heap.size + 5 ≤ b ∧ b < Wx.heap.size) ∧ W.heap.size + 5 ≤ Wx.heap.size)
    (fun c Wx => c = .ret ∧ Jx Wx) (fun ch Wx => Jp ch Wx) ?hI ?hIx ?hIp ?h0
    (fun x a1 _ => a1 = { tmps := #[.func (.yield l) #[] #[], .pointer (some ⟨Bl, 0, none⟩), .pointer (some ⟨W.heap.size, 0, none⟩), .pointer (some ⟨W.heap.size + 1, 0, none⟩), .pointer (some ⟨W.heap.size + 1 + 1, 0, none⟩), .int .i64 x, fr 0 1, fr 1 0, .func (.func gT) #[] lbT, .int .i64 x, undef, undef, undef, undef, undef, undef, undef, undef, undef, undef, undef, undef, undef, undef, undef, undef, undef, undef, undef, undef], defers := [] }) (fun _ _ _ _ _ _ h _ _ => h) ?assign ?body ?done ?stop ?pan
  case hI =>
    rintro pv pre W1 W2 bs ⟨hj, hc, hp, hz⟩ g hbs
    refine ⟨HJ.out _ _ _ _ hj (g.mono fun b hb => ?_), ?_, fun b hb => ⟨(hp b hb).1, Nat.lt_of_lt_of_le (hp b hb).2 g.size⟩, Nat.le_trans hz g.size⟩
    · rcases hbs b hb with h | ⟨rfl, _⟩
      · rcases List.mem_append.1 h with h | h <;> simp [h]
      · simp
    · have nb : ∀ k, W.heap.size ≤ k → k < W.heap.size + 3 → k ∉ bs := fun k k1 k2 hk => by
        rcases hbs k hk with h | ⟨h, _⟩
        · rcases List.mem_append.1 h with h | h
          · have := lown k (by simp [h]); omega
          · have := (hp k h).1; omega
        · omega
      exact ⟨g.heap hc.y (nb _ (by omega) (by omega)), g.heap hc.w (nb _ (by omega) (by omega)), g.heap hc.n (nb _ (by omega) (by omega))⟩
  case hIx =>
    exact fun c W1 W2 b hx hb ho g => ⟨hx.1, HX.out W1 W2 b hx.2 (by omega) ho g⟩
  case hIp =>
    exact fun ch W1 W2 b hx hb ho g => HP.out ch W1 W2 b hx (by omega) ho g
  case h0 =>
    rintro pv W1 g hz hp
    refine ⟨H0.out _ W1 (gl.trans g) ?_, ⟨g.heap C0.y, g.heap C0.w, g.heap C0.n⟩, fun b hb => by have := hp b hb; omega, by omega⟩
    intro b hb
    rcases List.mem_append.1 hb with hb | hb
    · simp at hb; omega
    · have := hp b hb; omega
  case assign =>
    intro m l' pv pre x Wx K _ hK
    gi_wp2
    exact hK _ _ (Gr.refl _) rfl
  case body =>
    rintro m l' pv pre x a1 Wx ⟨hj, hc, hp, hz⟩ hpre rfl
    obtain ⟨yc, yf, yz⟩ := blk_cells hc.y
    obtain ⟨wc, wf, wz⟩ := blk_cells hc.w
    obtain ⟨nc, nf, nz⟩ := blk_cells hc.n
    generalize hs : Rm.cws wr pre = s at *
    obtain ⟨pn, pd, qn, qd⟩ := s
    dsimp only at *
    have HS := Lib.hid hs
    clear hs
    obtain ⟨m1, q1⟩ : ∃ m, IntKind.i64.wrap (x*pn) = m := ⟨_, rfl⟩
    obtain ⟨m2, q2⟩ : ∃ m, IntKind.i64.wrap (x*pd) = m := ⟨_, rfl⟩
    obtain ⟨m3, q3⟩ : ∃ m, IntKind.i64.wrap (m1 + qn) = m := ⟨_, rfl⟩
    obtain ⟨m4, q4⟩ : ∃ m, IntKind.i64.wrap (m2 + qd) = m := ⟨_, rfl⟩
    have HQ := Lib.hid (And.intro q1 (And.intro q2 (And.intro q3 q4)))
    have n12 : W.heap.size + 1 ≠ W.heap.size + 1 + 1 := by omega
    gi_wp2_with fail
    refine wpIn_region_planS [.val (fr pn pd), .val (.int .i64 x), .val (.pointer (some ⟨W.heap.size + 1 + 1, 0, none⟩)), .val (.int .i64 pn), .val (.int .i64 m1), .val (.pointer (some ⟨W.heap.size + 1, 0, none⟩)), .val (.int .i64 qn), .val (.int .i64 m3), .val (.int .i64 x), .val (.pointer (some ⟨W.heap.size + 1 + 1, 1, none⟩)), .val (.int .i64 pd), .val (.int .i64 m2), .val (.pointer (some ⟨W.heap.size + 1, 1, none⟩)), .val (.int .i64 qd), .val (.int .i64 m4), .val (fr m3 m4), .val undef, .val undef] [(16, W.heap.size + 1, 73, #[.int .i64 qn, .int .i64 qd], #[.int .i64 pn, .int .i64 pd]), (17, W.heap.size + 1 + 1, 73, #[.int .i64 pn, .int .i64 pd], #[.int .i64 m3, .int .i64 m4])] (by kernel_rfl) (by kernel_rfl) (by simp only [finAct, Act.put, Plan.value, List.setIfInBounds_toArray, List.set_cons_zero, List.set_cons_succ]; rfl) ?_ ?_ ?_ ?_ ?_ ?_
    · simp
    · simp
    · simp
    · intro y hy
      simp only [List.mem_cons, List.not_mem_nil, or_false] at hy
      rcases hy with rfl | rfl
      · exact hc.w
      · exact hc.n
    · refine ⟨?_, ?_, ?_, ?_, ?_, ?_, ?_, ?_, ?_, ?_, ?_, ?_, ?_, ?_, ?_, ?_, ?_, ?_, trivial⟩
      all_goals first
        | (change ∀ u, _ → _ → (_ = Result.ok (Next.value _) u)
           intro u hu h
           have h17 := h (17, W.heap.size + 1 + 1, 73, #[.int .i64 pn, .int .i64 pd], #[.int .i64 m3, .int .i64 m4]) (by simp) (by kernel_rfl)
           obtain ⟨c17, _, _⟩ := blk_cells h17
           clear h
           go_simp
           done)
        | (change ∀ u, _ → _ → (_ = Result.ok (Next.value _) u)
           intro u hu h
           have h16 := h (16, W.heap.size + 1, 73, #[.int .i64 qn, .int .i64 qd], #[.int .i64 pn, .int .i64 pd]) (by simp) (by kernel_rfl)
           obtain ⟨c16, _, _⟩ := blk_cells h16
           clear h
           go_simp
           done)
        | (change ∀ u, _ → _ → ∃ u', _ ∧ _ ∧ _
           intro u hu h
           obtain ⟨ch, fh, _⟩ := blk_cells h
           refine ⟨_, ?_, ((GrL.of_gr (Gr.refl _)).set _ _ (Or.inr (by simp))).set _ _ (Or.inr (by simp)), put_two h⟩
           go_simp
           done)
    · intro u hu hs2
      clear q1 q2 q3 q4
      have k16 := hs2 (16, W.heap.size + 1, 73, #[.int .i64 qn, .int .i64 qd], #[.int .i64 pn, .int .i64 pd]) (by simp)
      have k17 := hs2 (17, W.heap.size + 1 + 1, 73, #[.int .i64 pn, .int .i64 pd], #[.int .i64 m3, .int .i64 m4]) (by simp)
      dsimp only at k16 k17
      have hu' : GrL [W.heap.size + 1, W.heap.size + 1 + 1] Wx u := hu
      have ky := hu'.heap hc.y (by simp; omega)
      have hju := HJ.out _ _ _ _ hj (hu'.mono (fun b hb => by simp only [List.mem_cons, List.not_mem_nil, or_false] at hb; rcases hb with rfl | rfl <;> simp))
      have hzu := hu'.size
      obtain ⟨fn, tmps, assign, body, hy, hR⟩ := HY.out (m-1) _ (Rm.cwv wr pre) (m3, m4) u hju (by
        intro b hb
        simp only [List.mem_append, List.mem_cons, List.not_mem_nil, or_false] at hb
        rcases hb with h | h | (rfl | rfl | rfl | rfl | rfl) | h
        · have := lown b (by simp [h]); omega
        · have := lown b (by simp [h]); omega
        · omega
        · omega
        · omega
        · omega
        · omega
        · have := (hp b h).2; omega) (by
        have e : Rm.cwv wr (pre ++ [x]) = Rm.cwv wr pre ++ [(m3, m4)] := by rw [Rm.cwv_snoc, HS.out]; simp only [wr, HQ.out.1, HQ.out.2.1, HQ.out.2.2.1, HQ.out.2.2.2]
        rw [← e]; exact Rm.cwv_prefix wr hpre)
      clear hs2 hu yc yf yz wc wf wz nc nf nz
      obtain ⟨yc, yf, yz⟩ := blk_cells ky
      obtain ⟨wc, wf, wz⟩ := blk_cells k16
      obtain ⟨nc, nf, nz⟩ := blk_cells k17
      have hxp : Rm.cws wr (pre ++ [x]) = (m3, m4, pn, pd) := by rw [Rm.cws_snoc, HS.out]; simp only [wr, HQ.out.1, HQ.out.2.1, HQ.out.2.2.1, HQ.out.2.2.2]
      have HXP := Lib.hid hxp
      have hcv : Rm.cwv wr (pre ++ [x]) = Rm.cwv wr pre ++ [(m3, m4)] := by rw [Rm.cwv_snoc, HS.out]; simp only [wr, HQ.out.1, HQ.out.2.1, HQ.out.2.2.1, HQ.out.2.2.2]
      have HCV := Lib.hid hcv
      clear hxp hcv
      have lft : ∀ w2 : World, (∀ b ∈ rd ++ (own ++ ([W.heap.size, W.heap.size + 1, W.heap.size + 1 + 1, W3.heap.size, W3.heap.size + 1] ++ pv)), w2.heap[b]? = u.heap[b]?) → Left (W3.heap.size :: (W3.heap.size + 1) :: (rd ++ (own ++ pv))) Wx w2 := by
        intro w2 hk b hb
        have hb' : b ∈ rd ++ (own ++ ([W.heap.size, W.heap.size + 1, W.heap.size + 1 + 1, W3.heap.size, W3.heap.size + 1] ++ pv)) := by
          simp only [List.mem_cons, List.mem_append] at hb ⊢
          rcases hb with rfl | rfl | hb | hb | hb <;> simp [*]
        have hlt : b < Wx.heap.size ∧ b ∉ [W.heap.size + 1, W.heap.size + 1 + 1] := by
          simp only [List.mem_cons, List.mem_append, List.not_mem_nil, or_false] at hb ⊢
          rcases hb with rfl | rfl | hb | hb | hb
          · omega
          · omega
          · have := lown b (by simp [hb]); omega
          · have := lown b (by simp [hb]); omega
          · have := hp b hb; omega
        exact (hk b hb').trans (hu'.block b hlt.1 hlt.2)
      gi_wp2_with fail
      refine ⟨fun h => absurd h (by simp [Fence.wide]), hR.mono ?_⟩
      rintro e w2 (⟨rfl, hj2, hk2⟩ | ⟨rfl, hx, hk2⟩ | ⟨ch, rfl, hpp, hk2⟩)
      · gi_wp2
        refine ⟨lft w2 hk2, by rw [HCV.out]; exact hj2, ?_, ?_, ?_⟩
        · rw [HXP.out]
          exact ⟨(hk2 _ (by simp)).trans ky, (hk2 _ (by simp)).trans k16, (hk2 _ (by simp)).trans k17⟩
        · intro b hb
          refine ⟨(hp b hb).1, ?_⟩
          have e := hk2 b (by simp [hb])
          have hbu : b < u.heap.size := by have := (hp b hb).2; omega
          rw [Array.getElem?_eq_getElem hbu] at e
          exact (Array.getElem?_eq_some_iff.1 e).1
        · have e := hk2 (W3.heap.size + 1) (by simp)
          have hbu : W3.heap.size + 1 < u.heap.size := by omega
          rw [Array.getElem?_eq_getElem hbu] at e
          have := (Array.getElem?_eq_some_iff.1 e).1
          omega
      · gi_wp2
        exact ⟨lft w2 hk2, rfl, hx⟩
      · exact ⟨rfl, lft w2 hk2, hpp⟩
  case done =>
    rintro D pv Wx rfl ⟨hj, hc, hp, hz⟩ hK
    gi_wp2
    refine ⟨by simp, .inl ⟨_, _, rfl, run_takeDeferred hK, ?_⟩⟩
    refine ⟨_, results_none rfl _ _ _, .inl ⟨rfl, .inl ⟨_, HJ.out _ _ _ _ hj ((GrL.putObj Wx W3.heap.size (.deferred none)).mono ?_)⟩⟩⟩
    simp
  case stop =>
    rintro D c Wx rfl ⟨rfl, hx⟩ hK
    gi_wp2
    refine ⟨by simp, .inl ⟨_, _, rfl, run_takeDeferred hK, ?_⟩⟩
    refine ⟨_, results_none rfl _ _ _, .inl ⟨rfl, .inr (HX.out _ _ _ hx (by omega) ⟨_, hK, rfl⟩ (GrL.putObj Wx W3.heap.size (.deferred none)))⟩⟩
  case pan =>
    rintro D ch Wx rfl hx hK
    refine ⟨by simp, .inl ⟨_, _, rfl, run_takeDeferred hK, ?_⟩⟩
    exact .inr ⟨ch, rfl, HP.out _ _ _ _ hx (by omega) ⟨_, hK, rfl⟩ (GrL.putObj Wx W3.heap.size (.deferred none))⟩
end Go.Proofs.YtconhikflghkdaaDoor
