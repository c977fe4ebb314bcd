/- rule/near.go: neighbours, Neighbours. -/
import Derived.Test.YtconhikflghkdaaGreatDoorConv
import Derived.Test.YtconhikflghkdaaGreatDoorTerms
import Derived.Test.YtconhikflghkdaaGreatDoorMath
namespace Go.Proofs.YtconhikflghkdaaGreatDoor
open Go.RowKit Go.Shelf
attribute [local go_sem] Oper.semAt_some
set_option maxHeartbeats 400000 in
theorem convergents_any (g : Nat) (lb : Array Value) (w : World) :
    Calls Tryz.prog 64 #[.func (.func g) #[] lb] w fun e w' => e = .returned (.func (.func 84) #[] #[.pointer (some ⟨w.heap.size, 0, none⟩)]) ∧ w' = w.alloc (.cells #[.func (.func g) #[] lb] 74) := by
  have hmf : ∀ (fn : Fn) (first cap : Array Value) (w : World), (Instr.makeFunc fn first cap).run Tryz.prog w = .ok (.func fn first cap) w := fun _ _ _ _ => rfl
  go_enter Tryz.func64, Tryz.ntmps64
  go_wp2
  go_ret
  exact ⟨rfl, rfl⟩
/-- the last one, or none -/
def lastOr (l : List (Int × Int)) : Int × Int := l.getLastD (0, 0)
theorem lastOr_snoc (l : List (Int × Int)) (x : Int × Int) : lastOr (l ++ [x]) = x := by simp [lastOr]
theorem lastOr_cv {P : List Int} (h : P ≠ []) : lastOr (Rm.cv P) = ((Rm.cs P).1, (Rm.cs P).2.1) := by
  obtain ⟨Q, t, rfl⟩ : ∃ Q t, P = Q ++ [t] := ⟨P.dropLast, P.getLast h, (List.dropLast_concat_getLast h).symm⟩
  rw [Rm.cv_snoc, Rm.cs_snoc, lastOr_snoc]
theorem snoc_unique {α : Type} {p q : List α} {x : α} (h : p ++ [x] <+: q ++ [x]) (hp : x ∉ q) : p = q := by
  rcases List.prefix_concat_iff.1 h with h | h
  · exact (List.append_inj' h rfl).1
  · exact absurd (h.subset (by simp)) hp
/-- what the loop of neighbours keeps -/
structure NgI (w : World) (a b : Int) (pv : List Nat) (pre : List (Int × Int)) (W : World) : Prop where
  x : W.heap[w.heap.size]? = some (.cells #[.int .i64 a, .int .i64 b] 65 (0, 0))
  l : W.heap[w.heap.size + 1]? = some (.cells #[.int .i64 (lastOr pre).1, .int .i64 (lastOr pre).2] 65 (0, 0))
  h : W.heap[w.heap.size + 1 + 1]? = some (.cells #[.int .i64 0, .int .i64 0] 65 (0, 0))
  g : Gr w W
  p : ∀ b ∈ pv, w.heap.size + 5 ≤ b ∧ b < W.heap.size
  n : (a, b) ∉ pre
  z : w.heap.size + 7 ≤ W.heap.size
theorem NgI.store {w W : World} {a b y1 y2 : Int} {pv : List Nat} {pre : List (Int × Int)} (h : NgI w a b pv pre W) (hn : (y1, y2) ≠ (a, b)) :
    NgI w a b pv (pre ++ [(y1, y2)]) ((W.setCell ⟨w.heap.size + 1, 0, none⟩ (.int .i64 y1)).setCell ⟨w.heap.size + 1, 1, none⟩ (.int .i64 y2)) := by
  have g : GrL [w.heap.size + 1] W ((W.setCell ⟨w.heap.size + 1, 0, none⟩ (.int .i64 y1)).setCell ⟨w.heap.size + 1, 1, none⟩ (.int .i64 y2)) := ((GrL.of_gr (Gr.refl W)).set (l := [w.heap.size + 1]) ⟨w.heap.size + 1, 0, none⟩ _ (Or.inr (by simp))).set ⟨w.heap.size + 1, 1, none⟩ _ (Or.inr (by simp))
  refine ⟨g.heap h.x (by simp), ?_, g.heap h.h (by simp), ((h.g.set ⟨w.heap.size + 1, 0, none⟩ _ (by simp)).set ⟨w.heap.size + 1, 1, none⟩ _ (by simp)), fun k hk => ⟨(h.p k hk).1, Nat.lt_of_lt_of_le (h.p k hk).2 g.size⟩, ?_, Nat.le_trans h.z g.size⟩
  · rw [lastOr_snoc]
    exact put_two h.l
  · intro hm
    rcases List.mem_append.1 hm with hm | hm
    · exact h.n hm
    · simp at hm; exact hn (by simp [hm])
theorem keep2 {W : World} {b : Nat} {o : Obj} (c : Nat) (x y : Value) (h : W.heap[b]? = some o) (hn : b ≠ c) : ((W.setCell ⟨c, 0, none⟩ x).setCell ⟨c, 1, none⟩ y).heap[b]? = some o :=
  (((GrL.of_gr (Gr.refl W)).set (l := [c]) ⟨c, 0, none⟩ x (Or.inr (by simp))).set ⟨c, 1, none⟩ y (Or.inr (by simp))).heap h (by simp [hn])
theorem drewn {W : World} {b : Nat} {o : Obj} (h : W.heap[b]? = some o) : W.drew.heap[b]? = some o := h
theorem gr_set2 {w W : World} (c : Nat) (x y : Value) (h : Gr w W) (hc : w.heap.size ≤ c) : Gr w ((W.setCell ⟨c, 0, none⟩ x).setCell ⟨c, 1, none⟩ y) := (h.set _ _ hc).set _ _ hc
set_option maxRecDepth 100000 in
set_option maxHeartbeats 4000000 in
theorem neighbours_in (m : Nat) (a b : Int) (w : World) (h : Rm.okF a b = true) (hb : 2 ≤ b) :
    CallsIn Fence.wide m Tryz.prog 35 #[fr a b] w fun e w' => e = .returned (.tuple #[fr (Rm.bkN a b (b-1)) (Rm.bkD a b (b-1)), fr (Rm.bhN a b (b-1)) (Rm.bhD a b (b-1))]) ∧ Gr w w' := by
  have hmf : ∀ (fn : Fn) (first cap : Array Value) (w : World), (Instr.makeFunc fn first cap).run Tryz.prog w = .ok (.func fn first cap) w := fun _ _ _ _ => rfl
  obtain ⟨x1, x2, x3, x4, x5⟩ := Rm.okF_iff.1 h
  obtain ⟨hCB, P, t, s, hP, hci⟩ := Rm.conv_last x1 x2 x3 x4 x5
  refine callsIn_of_wp_marks Tryz.func35 rfl trivial ?_ rfl
  simp only [Tryz.ntmps35, List.size_toArray, List.length_cons, List.length_nil, Nat.reduceAdd, Nat.reduceSub, Array.replicate_succ, Array.replicate_zero, List.push_toArray, List.append_toArray, List.nil_append, List.cons_append]
  gi_wp2_with fail
  refine ⟨trivial, fun h => absurd h (by simp [Fence.wide]), (callsIn_wide.2 (terms_any _ _ _)).mono ?_⟩
  rintro e w1 ⟨rfl, rfl⟩
  gi_wp2_with fail
  refine ⟨trivial, fun h => absurd h (by simp [Fence.wide]), (callsIn_wide.2 (convergents_any _ _ _)).mono ?_⟩
  rintro e w1 ⟨rfl, rfl⟩
  gi_wp2_with fail
  have gl : Gr w (((((w.alloc (Obj.cells #[.int .i64 a, .int .i64 b] 65)).alloc (Obj.cells #[.int .i64 0, .int .i64 0] 65)).alloc (Obj.cells #[.int .i64 0, .int .i64 0] 65)).alloc (Obj.cells #[.int .i64 a, .int .i64 b] 65)).alloc (Obj.cells #[.func (.func 67) #[] #[.pointer (some ⟨w.heap.size + 1 + 1 + 1, 0, none⟩)]] 74)) := (((((Gr.refl w).alloc _).alloc _).alloc _).alloc _).alloc _
  obtain ⟨W, hW⟩ : ∃ W, (((((w.alloc (Obj.cells #[.int .i64 a, .int .i64 b] 65)).alloc (Obj.cells #[.int .i64 0, .int .i64 0] 65)).alloc (Obj.cells #[.int .i64 0, .int .i64 0] 65)).alloc (Obj.cells #[.int .i64 a, .int .i64 b] 65)).alloc (Obj.cells #[.func (.func 67) #[] #[.pointer (some ⟨w.heap.size + 1 + 1 + 1, 0, none⟩)]] 74)) = W := ⟨_, rfl⟩
  have zl : W.heap.size = w.heap.size + 5 := by rw [← hW]; simp
  have hx : W.heap[w.heap.size]? = some (.cells #[.int .i64 a, .int .i64 b] 65 (0, 0)) := by
    rw [← hW]; exact Gr.heap (((((Gr.refl _).alloc _).alloc _).alloc _).alloc _) (heap_alloc_self w _)
  have hl : W.heap[w.heap.size + 1]? = some (.cells #[.int .i64 0, .int .i64 0] 65 (0, 0)) := by
    have := heap_alloc_self (w.alloc (Obj.cells #[.int .i64 a, .int .i64 b] 65)) (Obj.cells #[.int .i64 0, .int .i64 0] 65)
    rw [World.size_alloc] at this
    rw [← hW]; exact Gr.heap ((((Gr.refl _).alloc _).alloc _).alloc _) this
  have hh : W.heap[w.heap.size + 1 + 1]? = some (.cells #[.int .i64 0, .int .i64 0] 65 (0, 0)) := by
    have := heap_alloc_self ((w.alloc (Obj.cells #[.int .i64 a, .int .i64 b] 65)).alloc (Obj.cells #[.int .i64 0, .int .i64 0] 65)) (Obj.cells #[.int .i64 0, .int .i64 0] 65)
    rw [World.size_alloc, World.size_alloc] at this
    rw [← hW]; exact Gr.heap (((Gr.refl _).alloc _).alloc _) this
  have ht : W.heap[w.heap.size + 1 + 1 + 1]? = some (.cells #[.int .i64 a, .int .i64 b] 65 (0, 0)) := by
    have := heap_alloc_self (((w.alloc (Obj.cells #[.int .i64 a, .int .i64 b] 65)).alloc (Obj.cells #[.int .i64 0, .int .i64 0] 65)).alloc (Obj.cells #[.int .i64 0, .int .i64 0] 65)) (Obj.cells #[.int .i64 a, .int .i64 b] 65)
    rw [World.size_alloc, World.size_alloc, World.size_alloc] at this
    rw [← hW]; exact Gr.heap ((Gr.refl _).alloc _) this
  have hc : W.heap[w.heap.size + 1 + 1 + 1 + 1]? = some (.cells #[.func (.func 67) #[] #[.pointer (some ⟨w.heap.size + 1 + 1 + 1, 0, none⟩)]] 74 (0, 0)) := by
    have := heap_alloc_self ((((w.alloc (Obj.cells #[.int .i64 a, .int .i64 b] 65)).alloc (Obj.cells #[.int .i64 0, .int .i64 0] 65)).alloc (Obj.cells #[.int .i64 0, .int .i64 0] 65)).alloc (Obj.cells #[.int .i64 a, .int .i64 b] 65)) (Obj.cells #[.func (.func 67) #[] #[.pointer (some ⟨w.heap.size + 1 + 1 + 1, 0, none⟩)]] 74)
    rw [World.size_alloc, World.size_alloc, World.size_alloc, World.size_alloc] at this
    rw [← hW]; exact this
  rw [hW] at gl ⊢
  clear hW
  have IT := (terms_iter (w.heap.size + 1 + 1 + 1) 65 a b W ht x1 x2 x3 x4).p
  have IC := conv_iter (w.heap.size + 1 + 1 + 1 + 1) 67 #[.pointer (some ⟨w.heap.size + 1 + 1 + 1, 0, none⟩)] [w.heap.size + 1 + 1 + 1] (Rm.tm a b) W ((blk_cells hc).1 0) (by simp; omega) (enters_of Tryz.func67 rfl rfl) IT hCB
  have ecv : Rm.cv (Rm.tm a b) = Rm.cv P ++ [(a, b)] := by rw [hP, hci.end]
  have nP : (a, b) ∉ Rm.cv P := fun hm => by have := hci.lt _ hm; simp at this
  have hnb := hci.nb hb
  have hPn : P ≠ [] := fun e => by subst e; have := hci.nil; omega
  have eP := lastOr_cv hPn
  rw [ecv] at IC
  have C3 := Lib.hid (And.intro hci.sg (And.intro hnb (And.intro eP (And.intro hci.pb (And.intro hci.qp.1 hci.p0)))))
  have HN := Lib.hid nP
  clear hCB hP hci ecv nP hnb hPn eP IT hc ht
  refine range_lawP (gf := 84) (lb := #[.pointer (some ⟨w.heap.size + 1 + 1 + 1 + 1, 0, none⟩)]) rfl (enters_of Tryz.func84 rfl rfl) [w.heap.size + 1 + 1 + 1] encF (Rm.cv P ++ [(a, b)]) (by simp; omega) IC (fun _ => rfl)
    (NgI w a b) (fun c Wx => c = .exit 0 ∧ ∃ pre pv, NgI w a b pv pre Wx ∧ (pre ++ [(a, b)]) <+: Rm.cv P ++ [(a, b)]) ?hI ?hIx ?h0
    (fun y a1 Wx => ∃ k, W.heap.size + 2 ≤ k ∧ Wx.heap[k]? = some (.cells #[.int .i64 y.1, .int .i64 y.2] 65 (0, 0)) ∧ a1 = { tmps := #[fr a b, .pointer (some ⟨w.heap.size, 0, none⟩), .pointer (some ⟨w.heap.size + 1, 0, none⟩), .pointer (some ⟨w.heap.size + 1 + 1, 0, none⟩), .pointer (some ⟨k, 0, none⟩), fr a b, .func (.func 67) #[] #[.pointer (some ⟨w.heap.size + 1 + 1 + 1, 0, none⟩)], .func (.func 84) #[] #[.pointer (some ⟨w.heap.size + 1 + 1 + 1 + 1, 0, none⟩)], fr y.1 y.2, undef, undef, undef, undef, undef, undef, undef, undef, undef, undef, undef, undef, undef, undef, undef, undef, undef, undef, undef, undef, undef, undef, undef], defers := [] }) ?hA ?assign ?body ?done ?stop
  case hI =>
    rintro pv pre W1 W2 bs hi g hbs
    have nb : ∀ k, k < w.heap.size + 3 → k ∉ bs := fun k k2 hk => by
      rcases hbs k hk with h | ⟨h, _⟩
      · rcases List.mem_append.1 h with h | h
        · simp at h; omega
        · have := (hi.p k h).1; omega
      · omega
    refine ⟨g.heap hi.x (nb _ (by omega)), g.heap hi.l (nb _ (by omega)), g.heap hi.h (nb _ (by omega)), ?_, fun k hk => ⟨(hi.p k hk).1, Nat.lt_of_lt_of_le (hi.p k hk).2 g.size⟩, hi.n, Nat.le_trans hi.z g.size⟩
    exact ⟨⟨g.os.trans hi.g.b.os, g.tape.trans hi.g.b.tape, g.output.trans hi.g.b.output, Nat.le_trans hi.g.b.size g.size, fun k hk => (g.block k (Nat.lt_of_lt_of_le hk hi.g.b.size) (nb k (by omega))).trans (hi.g.b.block k hk)⟩, trivial⟩
  case hIx =>
    rintro c W1 W2 k ⟨rfl, pre, pv, hi, hp⟩ hk _ g
    have nb : ∀ j, j < w.heap.size + 3 → j ∉ [k] := fun j hj h => by simp at h; omega
    refine ⟨rfl, pre, pv, ⟨g.heap hi.x (nb _ (by omega)), g.heap hi.l (nb _ (by omega)), g.heap hi.h (nb _ (by omega)), ?_, fun k hk => ⟨(hi.p k hk).1, Nat.lt_of_lt_of_le (hi.p k hk).2 g.size⟩, hi.n, Nat.le_trans hi.z g.size⟩, hp⟩
    exact ⟨⟨g.os.trans hi.g.b.os, g.tape.trans hi.g.b.tape, g.output.trans hi.g.b.output, Nat.le_trans hi.g.b.size g.size, fun k hk => (g.block k (Nat.lt_of_lt_of_le hk hi.g.b.size) (nb k (by omega))).trans (hi.g.b.block k hk)⟩, trivial⟩
  case h0 =>
    intro pv W1 g hz hp
    exact ⟨g.heap hx, g.heap hl, g.heap hh, gl.trans g, fun k hk => by have := hp k hk; omega, by simp, by omega⟩
  case hA =>
    rintro y a1 W1 W2 l o ⟨k, hk, hc, ha⟩ ho g
    exact ⟨k, hk, g.heap hc (fun h => by simp at h; subst h; rw [hc] at ho; cases ho), ha⟩
  case assign =>
    intro m l pv pre y Wx K hi hK
    gi_wp2
    exact hK _ _ ((Gr.refl _).alloc _) ⟨Wx.heap.size, by have := hi.g.b.size; have := hi.z; omega, heap_alloc_self Wx _, rfl⟩
  case body =>
    rintro m l pv pre y a1 Wx hi hpre ⟨k, hk, hkc, rfl⟩
    obtain ⟨c1, f1, z1⟩ := blk_cells hi.x
    obtain ⟨c2, f2, z2⟩ := blk_cells hi.l
    obtain ⟨c3, f3, z3⟩ := blk_cells hkc
    obtain ⟨y1, y2⟩ := y
    dsimp only at *
    have hz := hi.z
    have lft : ∀ p q : Value, Left (W.heap.size :: (W.heap.size + 1) :: ([w.heap.size + 1 + 1 + 1] ++ pv)) Wx ((Wx.setCell ⟨w.heap.size + 1, 0, none⟩ p).setCell ⟨w.heap.size + 1, 1, none⟩ q) := fun p q b hb => by
      have hbn : b < Wx.heap.size ∧ b ≠ w.heap.size + 1 := by
        simp only [List.mem_cons, List.mem_append, List.not_mem_nil, or_false] at hb
        rcases hb with rfl | rfl | rfl | hb
        · omega
        · omega
        · omega
        · have := hi.p b hb; omega
      exact (((GrL.of_gr (Gr.refl Wx)).set (l := [w.heap.size + 1]) ⟨w.heap.size + 1, 0, none⟩ p (Or.inr (by simp))).set ⟨w.heap.size + 1, 1, none⟩ q (Or.inr (by simp))).block b hbn.1 (by simp [hbn.2])
    by_cases hu : y1 = a
    · subst hu
      by_cases hv : y2 = b
      · subst hv
        gi_wp2_with fail
        exact ⟨fun _ _ => rfl, rfl, pre, pv, hi, hpre⟩
      · gi_wp2_with fail
        exact ⟨lft _ _, hi.store (fun e => hv (by simpa using e))⟩
    · gi_wp2_with fail
      exact ⟨lft _ _, hi.store (fun e => hu (by simp at e; exact e.1))⟩
  case done =>
    rintro D pv Wx rfl hi hK
    exact absurd (by simp) hi.n
  case stop =>
    rintro D c Wx rfl ⟨rfl, pre, pv, hi, hp⟩ hK
    have e := snoc_unique hp HN.out
    subst e
    obtain ⟨hsg, hnb, eP, hpb, hqp, hp0⟩ := C3.out
    obtain ⟨c1, f1, z1⟩ := blk_cells hi.x
    obtain ⟨c2, f2, z2⟩ := blk_cells hi.l
    obtain ⟨c3, f3, z3⟩ := blk_cells hi.h
    simp only [eP] at c2 f2
    clear C3 IC
    generalize (Rm.cs P).1 = p at *
    generalize (Rm.cs P).2.1 = q at *
    dsimp only at *
    have q1 : IntKind.i64.wrap (a - p) = a - p := IntWalk.i64_in _ (by omega)
    have q2 : IntKind.i64.wrap (b - q) = b - q := IntWalk.i64_in _ (by omega)
    obtain ⟨m1, m2⟩ := Rm.mul_bound (a := p) (b := b - q) (A := 1000000001) (B := 1000000) (by omega) (by omega) (by omega) (by omega) (by omega)
    obtain ⟨m3, m4⟩ := Rm.mul_bound (a := a - p) (b := q) (A := 2000000001) (B := 1000000) (by omega) (by omega) (by omega) (by omega) (by omega)
    have CR := Lib.hid (fun w => cross_any p q (a-p) (b-q) w (by omega) (by omega) (by omega) (by omega))
    have gw := (hi.g.set ⟨w.heap.size + 1 + 1, 0, none⟩ (.int .i64 (a-p)) (by simp; omega)).set ⟨w.heap.size + 1 + 1, 1, none⟩ (.int .i64 (b-q)) (by simp; omega)
    have gx : GrL [w.heap.size + 1 + 1] Wx ((Wx.setCell ⟨w.heap.size + 1 + 1, 0, none⟩ (.int .i64 (a-p))).setCell ⟨w.heap.size + 1 + 1, 1, none⟩ (.int .i64 (b-q))) := ((GrL.of_gr (Gr.refl Wx)).set (l := [w.heap.size + 1 + 1]) ⟨w.heap.size + 1 + 1, 0, none⟩ _ (Or.inr (by simp))).set ⟨w.heap.size + 1 + 1, 1, none⟩ _ (Or.inr (by simp))
    have hl' := hi.l
    rw [eP] at hl'
    dsimp only at hl'
    have GW := Lib.hid (And.intro gw (And.intro (gx.heap hi.x (by simp; omega)) (And.intro (gx.heap hl' (by simp)) (And.intro (put_two (x := .int .i64 (a-p)) (y := .int .i64 (b-q)) hi.h) (gx.heap hK (by simp; omega))))))
    have lz : w.heap.size + 1 + 1 < Wx.heap.size := by have := hi.z; omega
    clear hK m1 m2 m3 m4 gw gx hl'
    have hz := hi.z
    rcases hsg with rfl | rfl
    · obtain ⟨k1, k2, k3, k4⟩ := Rm.bk_eq (by omega) (by omega) (hnb.1 rfl).brk
      have ke : p*(b-q)-(a-p)*q = 1 := by have := (hnb.1 rfl).bd1; grind
      have CR' := CR.out
      rw [ke] at CR'
      have KK := Lib.hid (And.intro k1 (And.intro k2 (And.intro k3 k4)))
      clear hnb CR k1 k2 k3 k4 ke
      gi_wp2_with fail
      refine ⟨trivial, fun h => absurd h (by simp [Fence.wide]), (callsIn_wide.2 (CR' _)).mono ?_⟩
      rintro e w2 ⟨rfl, hg2⟩
      obtain ⟨gw, gX, gL, gH, gD⟩ := GW.out
      clear c1 c2 c3 f1 f2 f3 z1 z2 z3 hi
      obtain ⟨c1, f1, z1⟩ := blk_cells (hg2.heap gX)
      obtain ⟨c2, f2, z2⟩ := blk_cells (hg2.heap gL)
      obtain ⟨c3, f3, z3⟩ := blk_cells (hg2.heap gH)
      have gD2 := Lib.hid (hg2.heap gD)
      have G2 := Lib.hid (And.intro (gw.trans hg2) (And.intro (hg2.heap gL) (hg2.heap gH)))
      clear gX gL gH gD gw hg2
      gi_wp2_with (gi_region)
      obtain ⟨g2, gL, gH⟩ := G2.out
      have gD := gD2.out
      rw [zl] at gD
      have kL := (keep2 (w.heap.size + 1 + 1) (.int .i64 p) (.int .i64 q) (put_two (x := .int .i64 (a-p)) (y := .int .i64 (b-q)) (keep2 (w.heap.size + 1 + 1) (.int .i64 p) (.int .i64 q) (put_two (x := .int .i64 (a-p)) (y := .int .i64 (b-q)) gL) (by omega))) (by omega))
      have kH := (put_two (x := .int .i64 p) (y := .int .i64 q) (keep2 (w.heap.size + 1) (.int .i64 (a-p)) (.int .i64 (b-q)) (put_two (x := .int .i64 p) (y := .int .i64 q) (keep2 (w.heap.size + 1) (.int .i64 (a-p)) (.int .i64 (b-q)) gH (by omega))) (by omega)))
      have kD := (keep2 (w.heap.size + 1 + 1) (.int .i64 p) (.int .i64 q) (keep2 (w.heap.size + 1) (.int .i64 (a-p)) (.int .i64 (b-q)) (keep2 (w.heap.size + 1 + 1) (.int .i64 p) (.int .i64 q) (keep2 (w.heap.size + 1) (.int .i64 (a-p)) (.int .i64 (b-q)) gD (by omega)) (by omega)) (by omega)) (by omega))
      have gw := (gr_set2 (w.heap.size + 1 + 1) (.int .i64 p) (.int .i64 q) (gr_set2 (w.heap.size + 1) (.int .i64 (a-p)) (.int .i64 (b-q)) (gr_set2 (w.heap.size + 1 + 1) (.int .i64 p) (.int .i64 q) (gr_set2 (w.heap.size + 1) (.int .i64 (a-p)) (.int .i64 (b-q)) g2 (by omega)) (by omega)) (by omega)) (by omega))
      have kD' := drewn kD
      refine ⟨by simp, .inl ⟨_, _, rfl, run_takeDeferred kD', ?_⟩⟩
      have fL := (GrL.putObj _ (w.heap.size + 5) (.deferred none)).heap (drewn kL) (by simp)
      have fH := (GrL.putObj _ (w.heap.size + 5) (.deferred none)).heap (drewn kH) (by simp)
      obtain ⟨e1, f1, z1⟩ := blk_cells fL
      obtain ⟨e2, f2, z2⟩ := blk_cells fH
      obtain ⟨k1, k2, k3, k4⟩ := KK.out
      have GP := GrL.gr gw.drew (GrL.putObj _ (w.heap.size + 5) (.deferred none)) (by simp)
      clear hmf lz GW KK HN CR' gD2 G2
      refine ⟨.tuple #[fr (a-p) (b-q), fr p q], ?_, by rw [k1, k2, k3, k4], GP⟩
      generalize World.putObj _ (w.heap.size + 5) _ = Wf at *
      simp [results, Tryz.results35, go_sem, e1, e2]
    · obtain ⟨k1, k2, k3, k4⟩ := Rm.bk_eq (by omega) (by omega) (hnb.2 rfl).brk
      have ke : p*(b-q)-(a-p)*q = -1 := by have := (hnb.2 rfl).ad1; grind
      have CR' := CR.out
      rw [ke] at CR'
      have KK := Lib.hid (And.intro k1 (And.intro k2 (And.intro k3 k4)))
      clear hnb CR k1 k2 k3 k4 ke
      gi_wp2_with fail
      refine ⟨trivial, fun h => absurd h (by simp [Fence.wide]), (callsIn_wide.2 (CR' _)).mono ?_⟩
      rintro e w2 ⟨rfl, hg2⟩
      obtain ⟨gw, gX, gL, gH, gD⟩ := GW.out
      clear c1 c2 c3 f1 f2 f3 z1 z2 z3 hi
      obtain ⟨c1, f1, z1⟩ := blk_cells (hg2.heap gX)
      obtain ⟨c2, f2, z2⟩ := blk_cells (hg2.heap gL)
      obtain ⟨c3, f3, z3⟩ := blk_cells (hg2.heap gH)
      have gD2 := Lib.hid (hg2.heap gD)
      have G2 := Lib.hid (And.intro (gw.trans hg2) (And.intro (hg2.heap gL) (hg2.heap gH)))
      clear gX gL gH gD gw hg2
      gi_wp2_with (gi_region)
      obtain ⟨g2, gL, gH⟩ := G2.out
      have gD := gD2.out
      rw [zl] at gD
      have kL := (keep2 (w.heap.size + 1 + 1) (.int .i64 (a-p)) (.int .i64 (b-q)) (put_two (x := .int .i64 p) (y := .int .i64 q) gL) (by omega))
      have kH := (put_two (x := .int .i64 (a-p)) (y := .int .i64 (b-q)) (keep2 (w.heap.size + 1) (.int .i64 p) (.int .i64 q) gH (by omega)))
      have kD := (keep2 (w.heap.size + 1 + 1) (.int .i64 (a-p)) (.int .i64 (b-q)) (keep2 (w.heap.size + 1) (.int .i64 p) (.int .i64 q) gD (by omega)) (by omega))
      have gw := (gr_set2 (w.heap.size + 1 + 1) (.int .i64 (a-p)) (.int .i64 (b-q)) (gr_set2 (w.heap.size + 1) (.int .i64 p) (.int .i64 q) g2 (by omega)) (by omega))
      have kD' := drewn kD
      refine ⟨by simp, .inl ⟨_, _, rfl, run_takeDeferred kD', ?_⟩⟩
      have fL := (GrL.putObj _ (w.heap.size + 5) (.deferred none)).heap (drewn kL) (by simp)
      have fH := (GrL.putObj _ (w.heap.size + 5) (.deferred none)).heap (drewn kH) (by simp)
      obtain ⟨e1, f1, z1⟩ := blk_cells fL
      obtain ⟨e2, f2, z2⟩ := blk_cells fH
      obtain ⟨k1, k2, k3, k4⟩ := KK.out
      have GP := GrL.gr gw.drew (GrL.putObj _ (w.heap.size + 5) (.deferred none)) (by simp)
      clear hmf lz GW KK HN CR' gD2 G2
      refine ⟨.tuple #[fr p q, fr (a-p) (b-q)], ?_, by rw [k1, k2, k3, k4], GP⟩
      generalize World.putObj _ (w.heap.size + 5) _ = Wf at *
      simp [results, Tryz.results35, go_sem, e1, e2]
end Go.Proofs.YtconhikflghkdaaGreatDoor
