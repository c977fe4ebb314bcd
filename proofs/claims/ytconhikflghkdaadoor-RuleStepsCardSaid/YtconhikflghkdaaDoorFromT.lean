/- rule/near.go: FromTerms. -/
import Derived.Test.YtconhikflghkdaaDoorConvQ
import Derived.Test.YtconhikflghkdaaDoorNeigh
namespace Go.Proofs.YtconhikflghkdaaDoor
open Go.RowKit Go.Shelf
attribute [local go_sem] Oper.semAt_some
set_option maxHeartbeats 400000 in
theorem values_any (p : Option Addr) (len cap : Nat) (w : World) :
    Calls Tryd.prog 125 #[.slice p len cap] w fun e w' => e = .returned (.func (.func 142) #[] #[.pointer (some ⟨w.heap.size, 0, none⟩)]) ∧ w' = w.alloc (.cells #[.slice p len cap] 61) := by
  have hmf : ∀ (fn : Fn) (first cap : Array Value) (w : World), (Instr.makeFunc fn first cap).run Tryd.prog w = .ok (.func fn first cap) w := fun _ _ _ _ => rfl
  go_enter Tryd.func125, Tryd.ntmps125
  go_wp2
  go_ret
  exact ⟨rfl, rfl⟩
/-- what the loop of FromTerms keeps -/
structure FtI (w : World) (z : Nat) (pv : List Nat) (pre : List (Int × Int)) (W : World) : Prop where
  l : W.heap[w.heap.size]? = some (.cells #[.int .i64 (lastOr pre).1, .int .i64 (lastOr pre).2] 73 (0, 0))
  g : Gr w W
  p : ∀ b ∈ pv, z ≤ b
  d : ∀ y ∈ pre, y.2 ≤ 1000000
  z : z ≤ W.heap.size
theorem wr_ok : Rm.Wok wr := fun x h1 h2 => IntWalk.i64_in x (by omega)
theorem lastOr_eq (l : List (Int × Int)) : lastOr l = l.getLastD (0, 0) := rfl
/-- what FromTerms$1 does -/
def FtPost (l : List Int) (bo : Nat) (w : World) (e : Ending) (w' : World) : Prop :=
  (decide ((Rm.back l).2 ≤ 1000000) && Rm.okR (Rm.back l).1 (Rm.back l).2) = true ∧ e = .returned (.tuple #[]) ∧ GrL [bo] w w' ∧ Two bo (Rm.redN (Rm.back l).1 (Rm.back l).2) (Rm.redD (Rm.back l).1 (Rm.back l).2) w' ∨
  (decide ((Rm.back l).2 ≤ 1000000) && Rm.okR (Rm.back l).1 (Rm.back l).2) = false ∧ e = .panicked [{ v := giv 10, recovered := false }] ∧ Gr w w'
theorem ft_facts {l : List Int} (h : Rm.ftOk l = true) : l.length ≤ 40 ∧ Hid (((∀ y ∈ Rm.cwv wr l, y.2 ≤ 1000000) ↔ (Rm.back l).2 ≤ 1000000) ∧ ((Rm.back l).2 ≤ 1000000 → lastOr (Rm.cwv wr l) = Rm.back l ∧ 1 ≤ (Rm.back l).2 ∧ -2000000000000000 ≤ (Rm.back l).1 ∧ (Rm.back l).1 ≤ 2000000000000000)) := by
  obtain ⟨L1, L2⟩ := Rm.from_loop wr_ok h
  obtain ⟨a, t, rfl, ht, _, _, _⟩ := Rm.ftOk_parts h
  refine ⟨by simp; omega, Lib.hid ⟨L1, fun hd => ?_⟩⟩
  obtain ⟨e, hy⟩ := L2 hd
  have hl := Rm.cv_last (l := a :: t) (by simp)
  refine ⟨by rw [e]; exact hl, ?_⟩
  have hm : Rm.back (a :: t) ∈ Rm.cv (a :: t) := by
    rw [← hl]
    have hne : Rm.cv (a :: t) ≠ [] := by intro h; have := congrArg List.length h; rw [Rm.cv_length] at this; simp at this
    rw [List.getLastD_eq_getLast?, List.getLast?_eq_some_getLast hne]
    exact List.getLast_mem hne
  exact (hy _ hm).2
theorem GrL.drop {w w' : World} {l m : List Nat} (h : GrL (l ++ m) w w') (hm : ∀ i ∈ m, w.heap.size ≤ i) : GrL l w w' :=
  ⟨h.os, h.tape, h.output, h.size, fun k hk hn => h.block k hk (fun hc => by
    rcases List.mem_append.1 hc with hc | hc
    · exact hn hc
    · have := hm k hc; omega), trivial⟩
set_option maxRecDepth 100000 in
set_option maxHeartbeats 4000000 in
theorem FromTerms1_in (m bl bo b off cap : Nat) (l : List Int) (w : World) (hbl : w.cell? ⟨bl, 0, none⟩ = some (.slice (some ⟨b, off, none⟩) l.length cap)) (hb : b < w.heap.size)
    (hc : ∀ j, j < l.length → w.cell? ⟨b, off + j, none⟩ = some (.int .i64 (l.getD j 0))) (hbo : Two0 bo w) (hok : Rm.ftOk l = true) :
    CallsIn Fence.wide m Tryd.prog 123 #[.pointer (some ⟨bl, 0, none⟩), .pointer (some ⟨bo, 0, none⟩)] w (FtPost l bo w) := by
  obtain ⟨hlen, LL⟩ := ft_facts hok
  clear hok
  have hlt : bl < w.heap.size := World.block_lt_of_cell? w _ hbl
  obtain ⟨⟨x0, y0, k0, k1⟩, f0, f1⟩ := hbo
  have hlo : bo < w.heap.size := World.block_lt_of_cell? w _ k0
  refine callsIn_of_wpG Tryd.func123 rfl ?_
  simp only [Tryd.ntmps123, List.size_toArray, List.length_cons, List.length_nil, Nat.reduceAdd, Nat.reduceSub, Array.replicate_succ, Array.replicate_zero, List.push_toArray, List.append_toArray, List.nil_append, List.cons_append]
  refine wpG.seq (wpG.of ?_)
  gi_wp2
  refine wpG.seq (wpG.seq (wpG.of ?_))
  gi_wp2_with fail
  refine ⟨trivial, fun h => absurd h (by simp [Fence.wide]), (callsIn_wide.2 (values_any _ _ _ _)).mono ?_⟩
  rintro e w1 ⟨rfl, rfl⟩
  gi_wp2_with fail
  refine ⟨trivial, fun h => absurd h (by simp [Fence.wide]), (callsIn_wide.2 (convergents_any _ _ _)).mono ?_⟩
  rintro e w1 ⟨rfl, rfl⟩
  gi_wp2_with fail
  refine wpG.block ?_
  obtain ⟨W, hW⟩ : ∃ W, (((w.alloc (Obj.cells #[.int .i64 0, .int .i64 0] 73)).alloc (Obj.cells #[.slice (some ⟨b, off, none⟩) l.length cap] 61)).alloc (Obj.cells #[.func (.func 142) #[] #[.pointer (some ⟨w.heap.size + 1, 0, none⟩)]] 113)) = W := ⟨_, rfl⟩
  have gl : Gr w W := by rw [← hW]; exact (((Gr.refl w).alloc _).alloc _).alloc _
  have zl : W.heap.size = w.heap.size + 3 := by rw [← hW]; simp
  have h2 : W.heap[w.heap.size]? = some (.cells #[.int .i64 0, .int .i64 0] 73 (0, 0)) := by
    rw [← hW]; exact Gr.heap (((Gr.refl _).alloc _).alloc _) (heap_alloc_self w _)
  have hs : W.heap[w.heap.size + 1]? = some (.cells #[.slice (some ⟨b, off, none⟩) l.length cap] 61 (0, 0)) := by
    have := heap_alloc_self (w.alloc (Obj.cells #[.int .i64 0, .int .i64 0] 73)) (Obj.cells #[.slice (some ⟨b, off, none⟩) l.length cap] 61)
    rw [World.size_alloc] at this
    rw [← hW]; exact Gr.heap ((Gr.refl _).alloc _) this
  have hf : W.heap[w.heap.size + 1 + 1]? = some (.cells #[.func (.func 142) #[] #[.pointer (some ⟨w.heap.size + 1, 0, none⟩)]] 113 (0, 0)) := by
    have := heap_alloc_self ((w.alloc (Obj.cells #[.int .i64 0, .int .i64 0] 73)).alloc (Obj.cells #[.slice (some ⟨b, off, none⟩) l.length cap] 61)) (Obj.cells #[.func (.func 142) #[] #[.pointer (some ⟨w.heap.size + 1, 0, none⟩)]] 113)
    rw [World.size_alloc, World.size_alloc] at this
    rw [← hW]; exact this
  try rw [hW]
  clear hW
  have hcW : ∀ j, j < l.length → W.cell? ⟨b, off + j, none⟩ = some (.int .i64 (l.getD j 0)) := fun j hj => (gl.cells.1 _ _ hb).trans (hc j hj)
  have IV := values_iter (w.heap.size + 1) b off cap l W hs (by omega) hcW (by omega)
  have IC := conv_iterQ (w.heap.size + 1 + 1) 142 #[.pointer (some ⟨w.heap.size + 1, 0, none⟩)] [w.heap.size + 1, b] [] l W ((blk_cells hf).1 0) (by simp; omega) (enters_of Tryd.func142 rfl rfl) IV
  clear IV hs hf hcW hc
  refine range_lawQ Tryd.func123 (gf := 141) (lb := #[.pointer (some ⟨w.heap.size + 1 + 1, 0, none⟩)]) rfl (enters_of Tryd.func141 rfl rfl) [w.heap.size + 1, b] [] encF (Rm.cwv wr l) (by simp; omega) IC (fun _ => rfl)
    (FtI w (W.heap.size + 2)) (fun _ _ => False) (fun ch Wx => ch = [{ v := giv 10, recovered := false }] ∧ Gr w Wx ∧ ∃ y ∈ Rm.cwv wr l, ¬ y.2 ≤ 1000000) ?hI (fun _ _ _ _ h _ _ _ => h.elim) ?hIp ?h0
    (fun y a1 Wx => ∃ k, W.heap.size + 2 ≤ k ∧ Wx.heap[k]? = some (.cells #[.int .i64 y.1, .int .i64 y.2] 73 (0, 0)) ∧ a1 = { tmps := #[.pointer (some ⟨bl, 0, none⟩), .pointer (some ⟨bo, 0, none⟩), .pointer (some ⟨w.heap.size, 0, none⟩), .pointer (some ⟨k, 0, none⟩), fr 0 0, .slice (some ⟨b, off, none⟩) l.length cap, .func (.func 142) #[] #[.pointer (some ⟨w.heap.size + 1, 0, none⟩)], .func (.func 141) #[] #[.pointer (some ⟨w.heap.size + 1 + 1, 0, none⟩)], fr y.1 y.2, undef, undef, undef, undef, undef, undef, undef], defers := [] }) ?hA ?assign ?body ?done (fun _ _ _ _ h _ => h.elim) ?pan
  case hI =>
    rintro pv pre W1 W2 bs hi g hbs
    have nb : ∀ k ∈ bs, w.heap.size < k := fun k hk => by
      rcases hbs k hk with h | ⟨h, _⟩
      · have := hi.p k (by simpa using h); omega
      · omega
    exact ⟨g.heap hi.l (fun h => by have := nb _ h; omega), GrL.gr hi.g g (fun k hk => by have := nb k hk; omega), hi.p, hi.d, Nat.le_trans hi.z g.size⟩
  case hIp =>
    rintro ch W1 W2 k ⟨h1, h2, h3⟩ hk _ g
    exact ⟨h1, GrL.gr h2 g (by simp; omega), h3⟩
  case h0 =>
    intro pv W1 g hz hp
    exact ⟨g.heap h2, gl.trans g, fun k hk => (hp k hk).1, by simp, hz⟩
  case hA =>
    rintro y a1 W1 W2 l' o ⟨k, hk, hc, ha⟩ ho g
    exact ⟨k, hk, g.heap hc (fun h => by simp at h; subst h; rw [hc] at ho; cases ho), ha⟩
  case assign =>
    intro m l' pv pre y Wx K hi hK
    gi_wp2
    exact hK _ _ ((Gr.refl _).alloc _) ⟨Wx.heap.size, by have := hi.g.b.size; have := hi.z; omega, heap_alloc_self Wx _, rfl⟩
  case body =>
    rintro m l' pv pre y a1 Wx hi hpre ⟨k, hk, hkc, rfl⟩
    obtain ⟨c3, f3, z3⟩ := blk_cells hkc
    obtain ⟨c2, f2, z2⟩ := blk_cells hi.l
    obtain ⟨y1, y2⟩ := y
    dsimp only at *
    by_cases hy : y2 ≤ 1000000
    · gi_wp2_with fail
      refine ⟨trivial, fun h => absurd h (by simp [Fence.wide]), (callsIn_wide.2 (need_ok _ _)).mono ?_⟩
      rintro e w1 ⟨rfl, rfl⟩
      gi_wp2
      have hz := hi.z
      refine ⟨fun c hc => ?_, ?_, gr_set2 _ _ _ hi.g (Nat.le_refl _), zl ▸ hi.p, ?_, ?_⟩
      · have hne : c ≠ w.heap.size := fun e => by
          subst e
          simp only [List.mem_cons] at hc
          rcases hc with h | h | h | h | h
          · omega
          · omega
          · omega
          · omega
          · have := hi.p _ h; omega
        rw [Below.heap_setCell _ ⟨w.heap.size, 1, none⟩ _ c hne, Below.heap_setCell _ ⟨w.heap.size, 0, none⟩ _ c hne]
      · rw [lastOr_snoc]; exact put_two hi.l
      · intro y hm
        rcases List.mem_append.1 hm with hm | hm
        · exact hi.d y hm
        · simp at hm; subst hm; exact hy
      · have : Wx.heap.size ≤ ((Wx.setCell ⟨w.heap.size, 0, none⟩ (.int .i64 y1)).setCell ⟨w.heap.size, 1, none⟩ (.int .i64 y2)).heap.size := (((GrL.of_gr (Gr.refl Wx)).set (l := [w.heap.size]) ⟨w.heap.size, 0, none⟩ _ (Or.inr (by simp))).set ⟨w.heap.size, 1, none⟩ _ (Or.inr (by simp))).size
        omega
    · gi_wp2_with fail
      refine ⟨trivial, fun h => absurd h (by simp [Fence.wide]), (callsIn_wide.2 (need_no _ _)).mono ?_⟩
      rintro e w1 ⟨rfl, rfl⟩
      gi_wp2
      exact ⟨rfl, fun _ _ => rfl, rfl, hi.g, y1, y2, hpre.subset (by simp), by omega⟩
  case done =>
    rintro D pv Wx rfl hi hK
    have hD := LL.out.1.1 hi.d
    obtain ⟨e1, b1, b2, b3⟩ := LL.out.2 hD
    have hl2 := hi.l
    rw [e1] at hl2
    obtain ⟨c2, f2, z2⟩ := blk_cells hl2
    have ho0 : Wx.cell? ⟨bo, 0, none⟩ = some (.int .i64 x0) := (hi.g.cells.1 _ _ hlo).trans k0
    have ho1 : Wx.cell? ⟨bo, 1, none⟩ = some (.int .i64 y0) := (hi.g.cells.1 _ _ hlo).trans k1
    have hp0 : Wx.frozen? ⟨bo, 0, none⟩ = false := (hi.g.cells.2.1 _ _ hlo).trans f0
    have hp1 : Wx.frozen? ⟨bo, 1, none⟩ = false := (hi.g.cells.2.1 _ _ hlo).trans f1
    have gw := hi.g
    generalize hbk : Rm.back l = bk at *
    obtain ⟨N, D⟩ := bk
    dsimp only at *
    have HB := Lib.hid (And.intro hbk hD)
    clear LL IC hi hl2 e1 hbk k0 k1 f0 f1
    refine wpG.of (n := m) ?_
    cases ho : Rm.okR N D
    · gi_wp2_with fail
      refine ⟨trivial, fun h => absurd h (by simp [Fence.wide]), (callsIn_wide.2 (told_no N D _ (by omega) (by omega) (by omega) (by omega) ho)).mono ?_⟩
      rintro e w1 ⟨rfl, hg1⟩
      gi_wp2
      refine ⟨by simp, .inl ⟨_, _, rfl, run_takeDeferred (hg1.heap (zl ▸ hK)), ?_⟩⟩
      exact .inr ⟨by rw [HB.out.1]; simp [ho], rfl, GrL.gr (gw.trans hg1) (GrL.putObj w1 (w.heap.size+3) (.deferred none)) (by simp)⟩
    · gi_wp2_with fail
      refine ⟨trivial, fun h => absurd h (by simp [Fence.wide]), (callsIn_wide.2 (told_ok N D _ (by omega) (by omega) (by omega) (by omega) ho)).mono ?_⟩
      rintro e w1 ⟨rfl, hg1⟩
      have lbo := World.block_lt_of_cell? _ _ ho0
      have q0 := (hg1.cells.1 bo 0 lbo).trans ho0
      have q1 := (hg1.cells.1 bo 1 lbo).trans ho1
      have q2 := (hg1.cells.2.1 bo 0 lbo).trans hp0
      have q3 := (hg1.cells.2.1 bo 1 lbo).trans hp1
      clear ho0 ho1 hp0 hp1 c2 f2 z2
      gi_wp2
      have hD3 := hg1.heap (zl ▸ hK)
      refine ⟨by simp, .inl ⟨_, _, rfl, run_takeDeferred (keep2 bo _ _ hD3 (by omega)), ?_⟩⟩
      refine ⟨_, results_none rfl _ _ _, .inl ⟨by rw [HB.out.1]; simp [ho, hD], rfl, ?_, ?_⟩⟩
      · refine GrL.drop (m := [w.heap.size + 3]) ?_ (by simp)
        refine GrL.trans ?_ ((GrL.putObj _ _ _).mono (by simp))
        exact ((GrL.of_gr (gw.trans hg1)).set _ _ (Or.inr (by simp))).set _ _ (Or.inr (by simp))
      · have e : ∀ (W : World) (o : Nat), (W.putObj (w.heap.size + 3) (.deferred none)).cell? ⟨bo, o, none⟩ = W.cell? ⟨bo, o, none⟩ := fun W o => World.cell?_of_block (World.putObj_heap_other (by show bo ≠ w.heap.size + 3; omega))
        rw [HB.out.1]
        constructor
        · rw [e]; simp [go_sem, q0]
        · rw [e]; simp [go_sem, q1]
  case pan =>
    rintro D ch Wx rfl ⟨rfl, hg, y, hy, hyd⟩ hK
    refine ⟨by simp, .inl ⟨_, _, rfl, run_takeDeferred hK, ?_⟩⟩
    have hnd : ¬ (Rm.back l).2 ≤ 1000000 := fun h => hyd (LL.out.1.2 h y hy)
    exact .inr ⟨by simp [hnd], rfl, GrL.gr hg (GrL.putObj Wx W.heap.size (.deferred none)) (by simp; omega)⟩
theorem ft_bad {l : List Int} {k : Nat} (hk : k < l.length) (h : Rm.okAt l.length k (l.getD k 0) = false) : Rm.ftN l = 0 ∧ Rm.ftD l = 0 ∧ Rm.ftE l = 1 := by
  have : Rm.ftOk l = false := by
    cases hf : Rm.ftOk l with
    | false => rfl
    | true =>
      simp only [Rm.ftOk, Bool.and_eq_true] at hf
      have := Rm.okT_iff.1 hf.2 k hk
      rw [h] at this
      cases this
  simp [Rm.ftN, Rm.ftD, Rm.ftE, this]
theorem okT_step {l : List Int} {k : Nat} (hok : ∀ j, j < k → Rm.okAt l.length j (l.getD j 0) = true) (h : Rm.okAt l.length k (l.getD k 0) = true) : ∀ j, j < k + 1 → Rm.okAt l.length j (l.getD j 0) = true := fun j hj => by
  by_cases e : j < k
  · exact hok j e
  · obtain rfl : j = k := by omega
    exact h
theorem ft_good {l : List Int} (h1 : 1 ≤ l.length) (h2 : l.length ≤ 40) (h : ∀ k, k < l.length → Rm.okAt l.length k (l.getD k 0) = true) : Rm.ftOk l = true := by
  simp only [Rm.ftOk, Bool.and_eq_true, decide_eq_true_eq]
  exact ⟨⟨h1, h2⟩, Rm.okT_iff.2 h⟩
set_option maxHeartbeats 1000000 in
theorem FromTerms_len (p : Option Addr) (len cap : Nat) (w : World) (h : (decide ((1 : Int) ≤ len) && decide ((len : Int) ≤ 40)) = false) :
    Calls Tryd.prog 67 #[.slice p len cap] w fun e w' => e = .returned (.tuple #[fr 0 0, .int .i64 1]) ∧ Gr w w' := by
  go_enter Tryd.func67, Tryd.ntmps67
  go_wp2_with (go_at_call 80; refine (in_any _ _ _ _).mono ?_; rintro e w' ⟨rfl, rfl⟩)
  exact bodyPost_ret (v := .tuple #[fr 0 0, .int .i64 1]) (by simp [results, Tryd.results67, go_sem]) rfl ⟨rfl, (by repeat (first | exact Gr.refl _ | assumption | refine Gr.alloc ?_ _ | refine Gr.drew ?_ | refine Gr.drewN ?_ _ | refine Gr.set ?_ _ _ (by first | (simp; done) | (simp; omega)) | refine Gr.trans ?_ (by assumption)))⟩
set_option maxRecDepth 100000 in
set_option maxHeartbeats 2000000 in
theorem FromTerms_go (b off cap : Nat) (l : List Int) (w : World) (hb : b < w.heap.size) (hc : ∀ j, j < l.length → w.cell? ⟨b, off + j, none⟩ = some (.int .i64 (l.getD j 0))) (hl1 : 1 ≤ l.length) (hl2 : l.length ≤ 40) :
    Calls Tryd.prog 67 #[.slice (some ⟨b, off, none⟩) l.length cap] w fun e w' => e = .returned (.tuple #[fr (Rm.ftN l) (Rm.ftD l), .int .i64 (Rm.ftE l)]) ∧ Gr w w' := by
  have hmf : ∀ (fn : Fn) (first cap : Array Value) (w : World), (Instr.makeFunc fn first cap).run Tryd.prog w = .ok (.func fn first cap) w := fun _ _ _ _ => rfl
  have hin : (decide ((1 : Int) ≤ l.length) && decide ((l.length : Int) ≤ 40)) = true := by simp; omega
  have BAD := Lib.hid (fun (k : Nat) (hk : k < l.length) (h : Rm.okAt l.length k (l.getD k 0) = false) => ft_bad hk h)
  have GOOD := Lib.hid (fun (h : ∀ k, k < l.length → Rm.okAt l.length k (l.getD k 0) = true) => ft_good hl1 hl2 h)
  go_enter Tryd.func67, Tryd.ntmps67
  go_wp2_with (go_at_call 80; refine (in_any _ _ _ _).mono ?_; rintro e w' ⟨rfl, rfl⟩)
  have gW : Gr w ((w.alloc (.cells #[.slice (some ⟨b, off, none⟩) l.length cap] 61)).alloc (.cells #[.int .i64 0, .int .i64 0] 23)) := ((Gr.refl w).alloc _).alloc _
  have h1 : ((w.alloc (.cells #[.slice (some ⟨b, off, none⟩) l.length cap] 61)).alloc (.cells #[.int .i64 0, .int .i64 0] 23)).heap[w.heap.size]? = some (.cells #[.slice (some ⟨b, off, none⟩) l.length cap] 61 (0, 0)) := Gr.heap ((Gr.refl _).alloc _) (heap_alloc_self w _)
  have h2 : ((w.alloc (.cells #[.slice (some ⟨b, off, none⟩) l.length cap] 61)).alloc (.cells #[.int .i64 0, .int .i64 0] 23)).heap[w.heap.size + 1]? = some (.cells #[.int .i64 0, .int .i64 0] 23 (0, 0)) := by
    have := heap_alloc_self (w.alloc (.cells #[.slice (some ⟨b, off, none⟩) l.length cap] 61)) (.cells #[.int .i64 0, .int .i64 0] 23)
    rwa [World.size_alloc] at this
  have zW : ((w.alloc (.cells #[.slice (some ⟨b, off, none⟩) l.length cap] 61)).alloc (.cells #[.int .i64 0, .int .i64 0] 23)).heap.size = w.heap.size + 2 := by simp
  generalize hW : ((w.alloc (.cells #[.slice (some ⟨b, off, none⟩) l.length cap] 61)).alloc (.cells #[.int .i64 0, .int .i64 0] 23)) = W at *
  clear hW
  have hc : ∀ j, j < l.length → W.cell? ⟨b, off + j, none⟩ = some (.int .i64 (l.getD j 0)) := fun j hj => (gW.cells.1 _ _ hb).trans (hc j hj)
  obtain ⟨c1, f1, z1⟩ := blk_cells h1
  obtain ⟨c2, f2, z2⟩ := blk_cells h2
  go_loop [16] (fun i => ∃ k : Nat, i = .int .i64 k ∧ k ≤ l.length ∧ Hid (∀ j, j < k → Rm.okAt l.length j (l.getD j 0) = true)) (fun i => l.length - (intOf i).toNat)
  case atStart => exact ⟨0, rfl, by omega, Lib.hid (fun j hj => by omega)⟩
  case round =>
    obtain ⟨k, rfl, hk, hok⟩ := hrel
    by_cases hkl : k < l.length
    · have hx := hc k hkl
      have OK : Hid (Rm.okAt l.length k (l.getD k 0) = (decide ((if k = 0 then -1000000000 else if k + 1 = l.length then 2 else 1) ≤ l.getD k 0) && decide (l.getD k 0 ≤ 1000000000))) := Lib.hid rfl
      have NX := Lib.hid (fun h => okT_step hok.out h)
      have BK := Lib.hid (BAD.out k hkl)
      clear hc BAD GOOD hok
      generalize l.getD k 0 = x at *
      by_cases h0 : k = 0
      · subst h0
        simp only [Nat.add_zero] at hx
        cases hin2 : (decide ((-1000000000 : Int) ≤ x) && decide (x ≤ 1000000000))
        · obtain ⟨e1, e2, e3⟩ := BK.out (by rw [OK.out]; simpa using hin2)
          go_wp2_with (go_at_call 80; refine (in_any _ _ _ _).mono ?_; rintro e w' ⟨rfl, rfl⟩)
          rw [e1, e2, e3]
          exact bodyPost_ret (v := .tuple #[fr 0 0, .int .i64 1]) (by simp [results, Tryd.results67, go_sem, c2]) rfl ⟨rfl, (by repeat (first | exact Gr.refl _ | assumption | refine Gr.alloc ?_ _ | refine Gr.drew ?_ | refine Gr.drewN ?_ _ | refine Gr.set ?_ _ _ (by first | (simp; done) | (simp; omega)) | refine Gr.trans ?_ (by assumption)))⟩
        · have hok' : Hid (∀ j, j < 0 + 1 → Rm.okAt l.length j (l.getD j 0) = true) := Lib.hid (NX.out (by rw [OK.out]; simpa using hin2))
          go_wp2_with (go_at_call 80; refine (in_any _ _ _ _).mono ?_; rintro e w' ⟨rfl, rfl⟩)
          go_round
          case rel => exact ⟨0+1, by go_num, by omega, hok'⟩
          case measure => simp only [intOf]; omega
      · obtain ⟨j, rfl⟩ : ∃ j, k = j + 1 := ⟨k - 1, by omega⟩
        by_cases hl : j + 1 + 1 = l.length
        · cases hin2 : (decide ((2 : Int) ≤ x) && decide (x ≤ 1000000000))
          · obtain ⟨e1, e2, e3⟩ := BK.out (by rw [OK.out, if_neg h0, if_pos hl]; exact hin2)
            go_wp2_with (go_at_call 80; refine (in_any _ _ _ _).mono ?_; rintro e w' ⟨rfl, rfl⟩)
            rw [e1, e2, e3]
            exact bodyPost_ret (v := .tuple #[fr 0 0, .int .i64 1]) (by simp [results, Tryd.results67, go_sem, c2]) rfl ⟨rfl, (by repeat (first | exact Gr.refl _ | assumption | refine Gr.alloc ?_ _ | refine Gr.drew ?_ | refine Gr.drewN ?_ _ | refine Gr.set ?_ _ _ (by first | (simp; done) | (simp; omega)) | refine Gr.trans ?_ (by assumption)))⟩
          · have hok' : Hid (∀ i, i < j + 1 + 1 → Rm.okAt l.length i (l.getD i 0) = true) := Lib.hid (NX.out (by rw [OK.out, if_neg h0, if_pos hl]; exact hin2))
            go_wp2_with (go_at_call 80; refine (in_any _ _ _ _).mono ?_; rintro e w' ⟨rfl, rfl⟩)
            go_round
            case rel => exact ⟨j+1+1, by go_num, by omega, hok'⟩
            case measure => simp only [intOf]; omega
        · cases hin2 : (decide ((1 : Int) ≤ x) && decide (x ≤ 1000000000))
          · obtain ⟨e1, e2, e3⟩ := BK.out (by rw [OK.out, if_neg h0, if_neg hl]; exact hin2)
            go_wp2_with (go_at_call 80; refine (in_any _ _ _ _).mono ?_; rintro e w' ⟨rfl, rfl⟩)
            rw [e1, e2, e3]
            exact bodyPost_ret (v := .tuple #[fr 0 0, .int .i64 1]) (by simp [results, Tryd.results67, go_sem, c2]) rfl ⟨rfl, (by repeat (first | exact Gr.refl _ | assumption | refine Gr.alloc ?_ _ | refine Gr.drew ?_ | refine Gr.drewN ?_ _ | refine Gr.set ?_ _ _ (by first | (simp; done) | (simp; omega)) | refine Gr.trans ?_ (by assumption)))⟩
          · have hok' : Hid (∀ i, i < j + 1 + 1 → Rm.okAt l.length i (l.getD i 0) = true) := Lib.hid (NX.out (by rw [OK.out, if_neg h0, if_neg hl]; exact hin2))
            go_wp2_with (go_at_call 80; refine (in_any _ _ _ _).mono ?_; rintro e w' ⟨rfl, rfl⟩)
            go_round
            case rel => exact ⟨j+1+1, by go_num, by omega, hok'⟩
            case measure => simp only [intOf]; omega
    · obtain rfl : k = l.length := by omega
      have hf := GOOD.out (fun j hj => hok.out j hj)
      clear BAD GOOD hok
      have FT := Lib.hid (fun (w1 : World) h1 h2 h3 h4 => callsIn_wide.1 (FromTerms1_in 9 w.heap.size (w.heap.size + 2) b off cap l w1 h1 h2 h3 h4 hf))
      have g3 : Gr w (W.alloc (.cells #[.int .i64 0, .int .i64 0] 23)) := gW.alloc _
      have z3 : (W.alloc (.cells #[.int .i64 0, .int .i64 0] 23)).heap.size = w.heap.size + 3 := by simp [zW]
      have n2 := heap_alloc_self W (.cells #[.int .i64 0, .int .i64 0] 23)
      rw [zW] at n2
      have g4 : Gr W ((W.alloc (.cells #[.int .i64 0, .int .i64 0] 23)).alloc (.cells #[.int .i64 0] 24)) := ((Gr.refl W).alloc _).alloc _
      have FT2 := Lib.hid (FT.out _ (by rw [g4.cells.1 _ _ z1]; exact c1 0) (by have := g4.b.size; omega) (fun j hj => (g4.cells.1 _ _ (by omega)).trans (hc j hj)) (by
        obtain ⟨q1, q2, q3⟩ := blk_cells (Gr.heap ((Gr.refl _).alloc (.cells #[.int .i64 0] 24)) n2)
        exact ⟨⟨0, 0, q1 0, q1 1⟩, q2 0, q2 1⟩))
      clear FT c1 f1 hc h1 hb
      cases hcond : (decide ((Rm.back l).2 ≤ 1000000) && Rm.okR (Rm.back l).1 (Rm.back l).2)
      · have E3 : Rm.ftN l = 0 ∧ Rm.ftD l = 0 ∧ Rm.ftE l = 10 := by
          simp only [Rm.ftN, Rm.ftD, Rm.ftE, hf, Bool.true_and, if_true]
          by_cases hd : (Rm.back l).2 ≤ 1000000
          · have ho : Rm.okR (Rm.back l).1 (Rm.back l).2 = false := by simpa [hd] using hcond
            simp [hd, (Rm.made_no ho).1, (Rm.made_no ho).2.1, (Rm.made_no ho).2.2]
          · simp [hd]
        have HE := Lib.hid E3
        have HC := Lib.hid hcond
        clear E3 hcond
        go_wp2_with fail
        refine (tried_no 123 _ [] 10 _ (by simp) (enters_of Tryd.func123 (by kernel_rfl) rfl) ?_).mono ?_
        · refine FT2.out.mono ?_
          rintro e w' (⟨h, _⟩ | ⟨h, rfl, hg⟩)
          · rw [HC.out] at h; cases h
          · exact ⟨rfl, GrL.of_gr hg⟩
        · rintro e w1 ⟨rfl, hg1⟩
          have gw1 : Gr w w1 := GrL.gr g3 hg1 (by simp)
          have k2 := hg1.heap (Gr.heap ((Gr.refl _).alloc _) h2) (by simp)
          have k3 := hg1.heap n2 (by simp)
          clear f2 c2 z2 g3 n2 h2
          obtain ⟨c2, f2, z2⟩ := blk_cells k2
          obtain ⟨c3, f3, z3'⟩ := blk_cells k3
          go_wp2
          have HE := HE.out
          rw [HE.1, HE.2.1, HE.2.2]
          exact bodyPost_ret (v := .tuple #[fr (0) (0), .int .i64 10]) (by simp [results, Tryd.results67, go_sem, c2]) rfl ⟨rfl, (gw1.set _ _ (by first | (simp; done) | (simp; omega) | omega)).set _ _ (by first | (simp; done) | (simp; omega) | omega)⟩
      · have ho : Rm.okR (Rm.back l).1 (Rm.back l).2 = true ∧ (Rm.back l).2 ≤ 1000000 := by simpa [and_comm] using hcond
        have E3 : Rm.ftN l = Rm.redN (Rm.back l).1 (Rm.back l).2 ∧ Rm.ftD l = Rm.redD (Rm.back l).1 (Rm.back l).2 ∧ Rm.ftE l = 0 := by
          simp only [Rm.ftN, Rm.ftD, Rm.ftE, hf, Bool.true_and, if_true]
          obtain ⟨ho, hd⟩ := ho
          simp [hd, (Rm.made_yes ho).1, (Rm.made_yes ho).2.1, (Rm.made_yes ho).2.2]
        have HE := Lib.hid E3
        have HC := Lib.hid hcond
        clear E3 hcond ho
        go_wp2_with fail
        refine (tried_ok 123 _ [w.heap.size + 2] (Two (w.heap.size + 2) (Rm.redN (Rm.back l).1 (Rm.back l).2) (Rm.redD (Rm.back l).1 (Rm.back l).2)) _ (by simp; omega) (enters_of Tryd.func123 (by kernel_rfl) rfl) ?_).mono ?_
        · refine FT2.out.mono ?_
          rintro e w' (⟨_, rfl, hg, ht⟩ | ⟨h, _⟩)
          · exact ⟨rfl, hg, ht⟩
          · rw [HC.out] at h; cases h
        · rintro e w1 ⟨rfl, hg1, w0, ⟨t1, t2⟩, hg2⟩
          generalize Rm.redN (Rm.back l).1 (Rm.back l).2 = N at *
          generalize Rm.redD (Rm.back l).1 (Rm.back l).2 = D at *
          have gw1 : Gr w w1 := GrL.gr g3 hg1 (by simp)
          have k2 := hg1.heap (Gr.heap ((Gr.refl _).alloc _) h2) (by simp)
          have s1 := ((hg2.at (Nat.le_refl _)).1 (w.heap.size + 2) 0 (World.block_lt_of_cell? _ _ t1) (by simp; omega)).trans t1
          have s2 := ((hg2.at (Nat.le_refl _)).1 (w.heap.size + 2) 1 (World.block_lt_of_cell? _ _ t1) (by simp; omega)).trans t2
          clear f2 c2 z2 t1 t2 hg2 g3 n2 h2
          obtain ⟨c2, f2, z2⟩ := blk_cells k2
          go_wp2
          have HE := HE.out
          rw [HE.1, HE.2.1, HE.2.2]
          exact bodyPost_ret (v := .tuple #[fr (N) (D), .int .i64 0]) (by simp [results, Tryd.results67, go_sem, c2]) rfl ⟨rfl, (gw1.set _ _ (by first | (simp; done) | (simp; omega) | omega)).set _ _ (by first | (simp; done) | (simp; omega) | omega)⟩
/-- a row of numbers that can be read -/
def IRow (W : World) (v : Value) (xs : List Int) : Prop := (xs = [] ∧ ∃ p cap, v = .slice p 0 cap) ∨ ∃ b off cap, v = .slice (some ⟨b, off, none⟩) xs.length cap ∧ xs.length ≤ cap ∧ b < W.heap.size ∧ ∀ j, j < xs.length → W.cell? ⟨b, off + j, none⟩ = some (.int .i64 (xs.getD j 0))
theorem IRow.gr {W W' : World} {v : Value} {xs : List Int} (h : IRow W v xs) (g : Gr W W') : IRow W' v xs := by
  rcases h with h | ⟨b, off, cap, e, hl, hb, hc⟩
  · exact .inl h
  · exact .inr ⟨b, off, cap, e, hl, Nat.lt_of_lt_of_le hb g.b.size, fun j hj => (g.cells.1 _ _ hb).trans (hc j hj)⟩
theorem IRow.slice {W : World} {v : Value} {xs : List Int} (h : IRow W v xs) : ∃ p cap, v = .slice p xs.length cap := by
  rcases h with ⟨rfl, p, cap, rfl⟩ | ⟨b, off, cap, e, _⟩
  · exact ⟨p, cap, rfl⟩
  · exact ⟨_, _, e⟩
theorem FromTerms_any (v : Value) (l : List Int) (w : World) (hr : IRow w v l) (hbig : l.length ≤ 1000000) :
    Calls Tryd.prog 67 #[v] w fun e w' => e = .returned (.tuple #[fr (Rm.ftN l) (Rm.ftD l), .int .i64 (Rm.ftE l)]) ∧ Gr w w' := by
  by_cases h : 1 ≤ l.length ∧ l.length ≤ 40
  · rcases hr with ⟨rfl, _⟩ | ⟨b, off, cap, rfl, _, hb, hc⟩
    · simp at h
    · exact FromTerms_go b off cap l w hb hc h.1 h.2
  · obtain ⟨p, cap, rfl⟩ := hr.slice
    have hf : Rm.ftOk l = false := by
      cases e : Rm.ftOk l with
      | false => rfl
      | true =>
        simp only [Rm.ftOk, Bool.and_eq_true, decide_eq_true_eq] at e
        exact absurd e.1 h
    have e : Rm.ftN l = 0 ∧ Rm.ftD l = 0 ∧ Rm.ftE l = 1 := by simp [Rm.ftN, Rm.ftD, Rm.ftE, hf]
    rw [e.1, e.2.1, e.2.2]
    refine FromTerms_len p l.length cap w ?_
    have : ¬ (1 ≤ (l.length : Int) ∧ (l.length : Int) ≤ 40) := by omega
    simpa using this
end Go.Proofs.YtconhikflghkdaaDoor
