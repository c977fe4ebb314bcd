/- rule/shrink.go: Both. -/
import Derived.Test.YtconhikflghkdaaDoorTwiced
import Derived.Test.YtconhikflghkdaaDoorNeigh
namespace Go.Proofs.YtconhikflghkdaaDoor
open Go.RowKit Go.Shelf
attribute [local go_sem] Oper.semAt_some
theorem cell_put {u : World} {g i : Nat} {c : Array Value} {T : TypeId} (s : Value) (hv : u.heap[g]? = some (.cells c T (0, 0))) : (u.setCell ⟨g, i, none⟩ s).heap[g]? = some (.cells (c.setIfInBounds i s) T (0, 0)) := by
  have : (u.setCell ⟨g, i, none⟩ s).heap = u.heap.modify g fun | .cells c elem fr => .cells (c.setIfInBounds i s) elem fr | o => o := rfl
  rw [this, Array.getElem?_modify]
  simp [hv]
theorem put_lo {u : World} {g : Nat} {x0 y0 z t x y : Value} {T : TypeId} (h : u.heap[g]? = some (.cells #[x0, y0, z, t] T (0, 0))) : ((u.setCell ⟨g, 0, none⟩ x).setCell ⟨g, 1, none⟩ y).heap[g]? = some (.cells #[x, y, z, t] T (0, 0)) := by
  simpa using cell_put (i := 1) y (cell_put (i := 0) x h)
theorem put_hi {u : World} {g : Nat} {x0 y0 z t x y : Value} {T : TypeId} (h : u.heap[g]? = some (.cells #[z, t, x0, y0] T (0, 0))) : ((u.setCell ⟨g, 2, none⟩ x).setCell ⟨g, 3, none⟩ y).heap[g]? = some (.cells #[z, t, x, y] T (0, 0)) := by
  simpa using cell_put (i := 3) y (cell_put (i := 2) x h)
theorem keep_at {W : World} {b : Nat} {o : Obj} (c i j : Nat) (x y : Value) (h : W.heap[b]? = some o) (hn : b ≠ c) : ((W.setCell ⟨c, i, none⟩ x).setCell ⟨c, j, none⟩ y).heap[b]? = some o :=
  (((GrL.of_gr (Gr.refl W)).set (l := [c]) ⟨c, i, none⟩ x (Or.inr (by simp))).set ⟨c, j, none⟩ y (Or.inr (by simp))).heap h (by simp [hn])
theorem gr_at {w W : World} (c i j : Nat) (x y : Value) (h : Gr w W) (hc : w.heap.size ≤ c) : Gr w ((W.setCell ⟨c, i, none⟩ x).setCell ⟨c, j, none⟩ y) := (h.set _ _ hc).set _ _ hc
/-- Both: its error, its parts -/
def boL (a b a' b' : Int) : Int × Int := if 0 < a'*b - a*b' then (a', b') else (a, b)
def boM (c d c' d' : Int) : Int × Int := if c'*d - c*d' < 0 then (c', d') else (c, d)
def boX (a b c d a' b' c' d' : Int) : Int := (boL a b a' b').1 * (boM c d c' d').2 - (boM c d c' d').1 * (boL a b a' b').2
def boE (a b c d a' b' c' d' : Int) : Int := if ruOk a b c d && ruOk a' b' c' d' then (if 0 < boX a b c d a' b' c' d' then 5 else 0) else 1
def boV (a b c d a' b' c' d' x : Int) : Int := if boE a b c d a' b' c' d' = 0 then x else 0
/-- two steps of More -/
theorem frac_bd {a b c d : Int} (h : RuB a b c d) : -1000000000 ≤ a ∧ a ≤ 1000 ∧ 1 ≤ b ∧ b ≤ 1000 ∧ -1000000000 ≤ c ∧ c ≤ 1000 ∧ 1 ≤ d ∧ d ≤ 1000 := by
  have := h.a0; have := h.b1; have := h.b2; have := h.c0; have := h.d1; have := h.d2; have := h.ab; have := h.cd; omega
theorem cross_bd {x y z t : Int} (h1 : 0 ≤ x) (h2 : x ≤ 1000) (h3 : 1 ≤ y) (h4 : y ≤ 1000) (h5 : 0 ≤ z) (h6 : z ≤ 1000) (h7 : 1 ≤ t) (h8 : t ≤ 1000) : -1000000 ≤ x*t ∧ x*t ≤ 1000000 ∧ -1000000 ≤ z*y ∧ z*y ≤ 1000000 := by
  have p := Rm.mul_bound (a := x) (b := t) (A := 1000) (B := 1000) (by omega) (by omega) (by omega) (by omega) h8
  have q := Rm.mul_bound (a := z) (b := y) (A := 1000) (B := 1000) (by omega) (by omega) (by omega) (by omega) h4
  omega
set_option maxRecDepth 100000 in
set_option maxHeartbeats 4000000 in
theorem Both_bad (a b c d a' b' c' d' : Int) (w : World) (h : (ruOk a b c d && ruOk a' b' c' d') = false) :
    Calls Tryd.prog 58 #[ru a b c d, ru a' b' c' d'] w fun e w' => e = .returned (.tuple #[ru 0 0 0 0, .int .i64 1]) ∧ Gr w w' := by
  have C1 := Lib.hid (fun w => CheckRule_any a b c d w)
  have C2 := Lib.hid (fun w => CheckRule_any a' b' c' d' w)
  cases h1 : ruOk a b c d
  · rw [h1, Rm.err_false rfl] at C1
    clear h h1 C2
    go_enter Tryd.func58, Tryd.ntmps58
    go_wp2_with fail
    have G := Gr.refl w
    have b2 := heap_alloc_self w (.cells #[.int .i64 a, .int .i64 b, .int .i64 c, .int .i64 d] 34)
    replace G := G.alloc (.cells #[.int .i64 a, .int .i64 b, .int .i64 c, .int .i64 d] 34)
    replace b2 := ((Gr.refl _).alloc (.cells #[.int .i64 (a'), .int .i64 (b'), .int .i64 (c'), .int .i64 (d')] 34)).heap b2
    have b3 := heap_alloc_self (w.alloc (.cells #[.int .i64 a, .int .i64 b, .int .i64 c, .int .i64 d] 34)) (.cells #[.int .i64 (a'), .int .i64 (b'), .int .i64 (c'), .int .i64 (d')] 34)
    replace G := G.alloc (.cells #[.int .i64 (a'), .int .i64 (b'), .int .i64 (c'), .int .i64 (d')] 34)
    replace b2 := ((Gr.refl _).alloc (.cells #[.int .i64 0, .int .i64 0, .int .i64 0, .int .i64 0] 34)).heap b2
    replace b3 := ((Gr.refl _).alloc (.cells #[.int .i64 0, .int .i64 0, .int .i64 0, .int .i64 0] 34)).heap b3
    have b4 := heap_alloc_self ((w.alloc (.cells #[.int .i64 a, .int .i64 b, .int .i64 c, .int .i64 d] 34)).alloc (.cells #[.int .i64 (a'), .int .i64 (b'), .int .i64 (c'), .int .i64 (d')] 34)) (.cells #[.int .i64 0, .int .i64 0, .int .i64 0, .int .i64 0] 34)
    replace G := G.alloc (.cells #[.int .i64 0, .int .i64 0, .int .i64 0, .int .i64 0] 34)
    replace b2 := ((Gr.refl _).alloc (.cells #[.int .i64 a, .int .i64 b, .int .i64 c, .int .i64 d, .int .i64 (a'), .int .i64 (b'), .int .i64 (c'), .int .i64 (d')] 34)).heap b2
    replace b3 := ((Gr.refl _).alloc (.cells #[.int .i64 a, .int .i64 b, .int .i64 c, .int .i64 d, .int .i64 (a'), .int .i64 (b'), .int .i64 (c'), .int .i64 (d')] 34)).heap b3
    replace b4 := ((Gr.refl _).alloc (.cells #[.int .i64 a, .int .i64 b, .int .i64 c, .int .i64 d, .int .i64 (a'), .int .i64 (b'), .int .i64 (c'), .int .i64 (d')] 34)).heap b4
    have b11 := heap_alloc_self (((w.alloc (.cells #[.int .i64 a, .int .i64 b, .int .i64 c, .int .i64 d] 34)).alloc (.cells #[.int .i64 (a'), .int .i64 (b'), .int .i64 (c'), .int .i64 (d')] 34)).alloc (.cells #[.int .i64 0, .int .i64 0, .int .i64 0, .int .i64 0] 34)) (.cells #[.int .i64 a, .int .i64 b, .int .i64 c, .int .i64 d, .int .i64 (a'), .int .i64 (b'), .int .i64 (c'), .int .i64 (d')] 34)
    replace G := G.alloc (.cells #[.int .i64 a, .int .i64 b, .int .i64 c, .int .i64 d, .int .i64 (a'), .int .i64 (b'), .int .i64 (c'), .int .i64 (d')] 34)
    generalize hW : ((((w.alloc (.cells #[.int .i64 a, .int .i64 b, .int .i64 c, .int .i64 d] 34)).alloc (.cells #[.int .i64 (a'), .int .i64 (b'), .int .i64 (c'), .int .i64 (d')] 34)).alloc (.cells #[.int .i64 0, .int .i64 0, .int .i64 0, .int .i64 0] 34)).alloc (.cells #[.int .i64 a, .int .i64 b, .int .i64 c, .int .i64 d, .int .i64 (a'), .int .i64 (b'), .int .i64 (c'), .int .i64 (d')] 34)) = W1 at *
    simp only [World.size_alloc] at b3
    simp only [World.size_alloc] at b4
    simp only [World.size_alloc] at b11
    have w0 : w.heap.size ≤ w.heap.size := Nat.le_refl _
    obtain ⟨p11, hp11⟩ : ∃ p11, w.heap.size + 1 + 1 + 1 = p11 := ⟨_, rfl⟩
    obtain ⟨p4, hp4⟩ : ∃ p4, w.heap.size + 1 + 1 = p4 := ⟨_, rfl⟩
    obtain ⟨p3, hp3⟩ : ∃ p3, w.heap.size + 1 = p3 := ⟨_, rfl⟩
    obtain ⟨p2, hp2⟩ : ∃ p2, w.heap.size = p2 := ⟨_, rfl⟩
    rw [hp11] at b11
    rw [hp4] at b4
    rw [hp3] at b3
    rw [hp2] at b2
    try simp only [hp11]
    try simp only [hp4]
    try simp only [hp3]
    try simp only [hp2]
    have s2 : w.heap.size ≤ p2 := by omega
    have n2_3 : ¬ p2 = p3 := by omega
    have n3_2 : ¬ p3 = p2 := by omega
    have s3 : w.heap.size ≤ p3 := by omega
    have n2_4 : ¬ p2 = p4 := by omega
    have n4_2 : ¬ p4 = p2 := by omega
    have n3_4 : ¬ p3 = p4 := by omega
    have n4_3 : ¬ p4 = p3 := by omega
    have s4 : w.heap.size ≤ p4 := by omega
    have n2_11 : ¬ p2 = p11 := by omega
    have n11_2 : ¬ p11 = p2 := by omega
    have n3_11 : ¬ p3 = p11 := by omega
    have n11_3 : ¬ p11 = p3 := by omega
    have n4_11 : ¬ p4 = p11 := by omega
    have n11_4 : ¬ p11 = p4 := by omega
    have s11 : w.heap.size ≤ p11 := by omega
    clear  w0
    clear hp2
    clear hp3
    clear hp4
    clear hp11
    clear hW
    go_loopw [13] (fun i wr => ∃ k : Nat, k ≤ 2 ∧ i = .int .i64 k ∧ k = 0 ∧ wr.heap[p2]? = some (.cells #[.int .i64 a, .int .i64 b, .int .i64 c, .int .i64 d] 34 (0, 0)) ∧ wr.heap[p3]? = some (.cells #[.int .i64 (a'), .int .i64 (b'), .int .i64 (c'), .int .i64 (d')] 34 (0, 0)) ∧ wr.heap[p4]? = some (.cells #[.int .i64 0, .int .i64 0, .int .i64 0, .int .i64 0] 34 (0, 0)) ∧ wr.heap[p11]? = some (.cells #[.int .i64 a, .int .i64 b, .int .i64 c, .int .i64 d, .int .i64 (a'), .int .i64 (b'), .int .i64 (c'), .int .i64 (d')] 34 (0, 0)) ∧ Gr w wr) (fun i _ => 2 - (intOf i).toNat)
    case atStart => exact ⟨0, by omega, rfl, rfl, b2, b3, b4, b11, G⟩
    case round =>
      obtain ⟨k, hk, rfl, hk0, r2, r3, r4, r11, G⟩ := hrel
      clear b2 b3 b4 b11
      have b2 := r2
      clear r2
      have b3 := r3
      clear r3
      have b4 := r4
      clear r4
      have b11 := r11
      clear r11
      subst hk0
      obtain ⟨c2, f2, z2⟩ := blk_cells b2
      obtain ⟨c3, f3, z3⟩ := blk_cells b3
      obtain ⟨c4, f4, z4⟩ := blk_cells b4
      obtain ⟨c11, f11, z11⟩ := blk_cells b11
      have z0 : w.heap.size ≤ wr.heap.size := G.b.size
      go_wp2_with fail
      clear c2 f2 c3 f3 c4 f4 c11 f11
      replace b2 := ((Gr.refl _).alloc (.cells #[.int .i64 a, .int .i64 b, .int .i64 c, .int .i64 d] 34)).heap b2
      replace b3 := ((Gr.refl _).alloc (.cells #[.int .i64 a, .int .i64 b, .int .i64 c, .int .i64 d] 34)).heap b3
      replace b4 := ((Gr.refl _).alloc (.cells #[.int .i64 a, .int .i64 b, .int .i64 c, .int .i64 d] 34)).heap b4
      replace b11 := ((Gr.refl _).alloc (.cells #[.int .i64 a, .int .i64 b, .int .i64 c, .int .i64 d] 34)).heap b11
      have b7 := heap_alloc_self wr (.cells #[.int .i64 a, .int .i64 b, .int .i64 c, .int .i64 d] 34)
      replace G := G.alloc (.cells #[.int .i64 a, .int .i64 b, .int .i64 c, .int .i64 d] 34)
      generalize hW : (wr.alloc (.cells #[.int .i64 a, .int .i64 b, .int .i64 c, .int .i64 d] 34)) = W11 at *
      have o2 : p2 < wr.heap.size := z2
      have o3 : p3 < wr.heap.size := z3
      have o4 : p4 < wr.heap.size := z4
      have o11 : p11 < wr.heap.size := z11
      have w0 : w.heap.size ≤ wr.heap.size := z0
      obtain ⟨p7, hp7⟩ : ∃ p7, wr.heap.size = p7 := ⟨_, rfl⟩
      rw [hp7] at b7
      try simp only [hp7]
      have n2_7 : ¬ p2 = p7 := by omega
      have n7_2 : ¬ p7 = p2 := by omega
      have n3_7 : ¬ p3 = p7 := by omega
      have n7_3 : ¬ p7 = p3 := by omega
      have n4_7 : ¬ p4 = p7 := by omega
      have n7_4 : ¬ p7 = p4 := by omega
      have n11_7 : ¬ p11 = p7 := by omega
      have n7_11 : ¬ p7 = p11 := by omega
      have s7 : w.heap.size ≤ p7 := by omega
      clear o2 o3 o4 o11 w0
      clear hp7
      clear hW
      clear z2 z3 z4 z11 z0
      refine (C1.out _).mono ?_
      rintro e w11 ⟨rfl, g11⟩
      obtain ⟨c2, f2, z2⟩ := blk_cells (g11.heap b2)
      obtain ⟨c3, f3, z3⟩ := blk_cells (g11.heap b3)
      obtain ⟨c4, f4, z4⟩ := blk_cells (g11.heap b4)
      obtain ⟨c11, f11, z11⟩ := blk_cells (g11.heap b11)
      obtain ⟨c7, f7, z7⟩ := blk_cells (g11.heap b7)
      have z0 : w.heap.size ≤ w11.heap.size := (Gr.trans G g11).b.size
      go_wp2_with fail
      clear c2 f2 c3 f3 c4 f4 c11 f11 c7 f7
      replace b2 := g11.heap b2
      replace b3 := g11.heap b3
      replace b4 := g11.heap b4
      replace b11 := g11.heap b11
      replace b7 := g11.heap b7
      have G := G.trans g11
      clear z2 z3 z4 z11 z7 z0
      clear g11
      obtain ⟨c2, f2, z2⟩ := blk_cells b2
      obtain ⟨c3, f3, z3⟩ := blk_cells b3
      obtain ⟨c4, f4, z4⟩ := blk_cells b4
      obtain ⟨c11, f11, z11⟩ := blk_cells b11
      obtain ⟨c7, f7, z7⟩ := blk_cells b7
      exact bodyPost_ret (v := .tuple #[ru 0 0 0 0, .int .i64 1]) (by simp [results, Tryd.results58, go_sem, *]) rfl ⟨rfl, (by repeat (first | exact Gr.refl _ | assumption | refine Gr.alloc ?_ _ | refine Gr.drew ?_ | refine Gr.drewN ?_ _ | refine Gr.set ?_ _ _ (by first | (simp; done) | (simp; omega)) | refine Gr.trans ?_ (by assumption)))⟩
  · rw [h1, Bool.true_and] at h
    rw [h1, Rm.err_true rfl] at C1
    rw [h, Rm.err_false rfl] at C2
    clear h h1
    go_enter Tryd.func58, Tryd.ntmps58
    go_wp2_with fail
    have G := Gr.refl w
    have b2 := heap_alloc_self w (.cells #[.int .i64 a, .int .i64 b, .int .i64 c, .int .i64 d] 34)
    replace G := G.alloc (.cells #[.int .i64 a, .int .i64 b, .int .i64 c, .int .i64 d] 34)
    replace b2 := ((Gr.refl _).alloc (.cells #[.int .i64 (a'), .int .i64 (b'), .int .i64 (c'), .int .i64 (d')] 34)).heap b2
    have b3 := heap_alloc_self (w.alloc (.cells #[.int .i64 a, .int .i64 b, .int .i64 c, .int .i64 d] 34)) (.cells #[.int .i64 (a'), .int .i64 (b'), .int .i64 (c'), .int .i64 (d')] 34)
    replace G := G.alloc (.cells #[.int .i64 (a'), .int .i64 (b'), .int .i64 (c'), .int .i64 (d')] 34)
    replace b2 := ((Gr.refl _).alloc (.cells #[.int .i64 0, .int .i64 0, .int .i64 0, .int .i64 0] 34)).heap b2
    replace b3 := ((Gr.refl _).alloc (.cells #[.int .i64 0, .int .i64 0, .int .i64 0, .int .i64 0] 34)).heap b3
    have b4 := heap_alloc_self ((w.alloc (.cells #[.int .i64 a, .int .i64 b, .int .i64 c, .int .i64 d] 34)).alloc (.cells #[.int .i64 (a'), .int .i64 (b'), .int .i64 (c'), .int .i64 (d')] 34)) (.cells #[.int .i64 0, .int .i64 0, .int .i64 0, .int .i64 0] 34)
    replace G := G.alloc (.cells #[.int .i64 0, .int .i64 0, .int .i64 0, .int .i64 0] 34)
    replace b2 := ((Gr.refl _).alloc (.cells #[.int .i64 a, .int .i64 b, .int .i64 c, .int .i64 d, .int .i64 (a'), .int .i64 (b'), .int .i64 (c'), .int .i64 (d')] 34)).heap b2
    replace b3 := ((Gr.refl _).alloc (.cells #[.int .i64 a, .int .i64 b, .int .i64 c, .int .i64 d, .int .i64 (a'), .int .i64 (b'), .int .i64 (c'), .int .i64 (d')] 34)).heap b3
    replace b4 := ((Gr.refl _).alloc (.cells #[.int .i64 a, .int .i64 b, .int .i64 c, .int .i64 d, .int .i64 (a'), .int .i64 (b'), .int .i64 (c'), .int .i64 (d')] 34)).heap b4
    have b11 := heap_alloc_self (((w.alloc (.cells #[.int .i64 a, .int .i64 b, .int .i64 c, .int .i64 d] 34)).alloc (.cells #[.int .i64 (a'), .int .i64 (b'), .int .i64 (c'), .int .i64 (d')] 34)).alloc (.cells #[.int .i64 0, .int .i64 0, .int .i64 0, .int .i64 0] 34)) (.cells #[.int .i64 a, .int .i64 b, .int .i64 c, .int .i64 d, .int .i64 (a'), .int .i64 (b'), .int .i64 (c'), .int .i64 (d')] 34)
    replace G := G.alloc (.cells #[.int .i64 a, .int .i64 b, .int .i64 c, .int .i64 d, .int .i64 (a'), .int .i64 (b'), .int .i64 (c'), .int .i64 (d')] 34)
    generalize hW : ((((w.alloc (.cells #[.int .i64 a, .int .i64 b, .int .i64 c, .int .i64 d] 34)).alloc (.cells #[.int .i64 (a'), .int .i64 (b'), .int .i64 (c'), .int .i64 (d')] 34)).alloc (.cells #[.int .i64 0, .int .i64 0, .int .i64 0, .int .i64 0] 34)).alloc (.cells #[.int .i64 a, .int .i64 b, .int .i64 c, .int .i64 d, .int .i64 (a'), .int .i64 (b'), .int .i64 (c'), .int .i64 (d')] 34)) = W1 at *
    simp only [World.size_alloc] at b3
    simp only [World.size_alloc] at b4
    simp only [World.size_alloc] at b11
    have w0 : w.heap.size ≤ w.heap.size := Nat.le_refl _
    obtain ⟨p11, hp11⟩ : ∃ p11, w.heap.size + 1 + 1 + 1 = p11 := ⟨_, rfl⟩
    obtain ⟨p4, hp4⟩ : ∃ p4, w.heap.size + 1 + 1 = p4 := ⟨_, rfl⟩
    obtain ⟨p3, hp3⟩ : ∃ p3, w.heap.size + 1 = p3 := ⟨_, rfl⟩
    obtain ⟨p2, hp2⟩ : ∃ p2, w.heap.size = p2 := ⟨_, rfl⟩
    rw [hp11] at b11
    rw [hp4] at b4
    rw [hp3] at b3
    rw [hp2] at b2
    try simp only [hp11]
    try simp only [hp4]
    try simp only [hp3]
    try simp only [hp2]
    have s2 : w.heap.size ≤ p2 := by omega
    have n2_3 : ¬ p2 = p3 := by omega
    have n3_2 : ¬ p3 = p2 := by omega
    have s3 : w.heap.size ≤ p3 := by omega
    have n2_4 : ¬ p2 = p4 := by omega
    have n4_2 : ¬ p4 = p2 := by omega
    have n3_4 : ¬ p3 = p4 := by omega
    have n4_3 : ¬ p4 = p3 := by omega
    have s4 : w.heap.size ≤ p4 := by omega
    have n2_11 : ¬ p2 = p11 := by omega
    have n11_2 : ¬ p11 = p2 := by omega
    have n3_11 : ¬ p3 = p11 := by omega
    have n11_3 : ¬ p11 = p3 := by omega
    have n4_11 : ¬ p4 = p11 := by omega
    have n11_4 : ¬ p11 = p4 := by omega
    have s11 : w.heap.size ≤ p11 := by omega
    clear  w0
    clear hp2
    clear hp3
    clear hp4
    clear hp11
    clear hW
    go_loopw [13] (fun i wr => ∃ k : Nat, k ≤ 2 ∧ i = .int .i64 k ∧ k ≤ 1 ∧ wr.heap[p2]? = some (.cells #[.int .i64 a, .int .i64 b, .int .i64 c, .int .i64 d] 34 (0, 0)) ∧ wr.heap[p3]? = some (.cells #[.int .i64 (a'), .int .i64 (b'), .int .i64 (c'), .int .i64 (d')] 34 (0, 0)) ∧ wr.heap[p4]? = some (.cells #[.int .i64 0, .int .i64 0, .int .i64 0, .int .i64 0] 34 (0, 0)) ∧ wr.heap[p11]? = some (.cells #[.int .i64 a, .int .i64 b, .int .i64 c, .int .i64 d, .int .i64 (a'), .int .i64 (b'), .int .i64 (c'), .int .i64 (d')] 34 (0, 0)) ∧ Gr w wr) (fun i _ => 2 - (intOf i).toNat)
    case atStart => exact ⟨0, by omega, rfl, by omega, b2, b3, b4, b11, G⟩
    case round =>
      obtain ⟨k, hk, rfl, hk0, r2, r3, r4, r11, G⟩ := hrel
      clear b2 b3 b4 b11
      have b2 := r2
      clear r2
      have b3 := r3
      clear r3
      have b4 := r4
      clear r4
      have b11 := r11
      clear r11
      rcases (show k = 0 ∨ k = 1 by omega) with rfl | rfl
      · obtain ⟨c2, f2, z2⟩ := blk_cells b2
        obtain ⟨c3, f3, z3⟩ := blk_cells b3
        obtain ⟨c4, f4, z4⟩ := blk_cells b4
        obtain ⟨c11, f11, z11⟩ := blk_cells b11
        have z0 : w.heap.size ≤ wr.heap.size := G.b.size
        go_wp2_with fail
        clear c2 f2 c3 f3 c4 f4 c11 f11
        replace b2 := ((Gr.refl _).alloc (.cells #[.int .i64 a, .int .i64 b, .int .i64 c, .int .i64 d] 34)).heap b2
        replace b3 := ((Gr.refl _).alloc (.cells #[.int .i64 a, .int .i64 b, .int .i64 c, .int .i64 d] 34)).heap b3
        replace b4 := ((Gr.refl _).alloc (.cells #[.int .i64 a, .int .i64 b, .int .i64 c, .int .i64 d] 34)).heap b4
        replace b11 := ((Gr.refl _).alloc (.cells #[.int .i64 a, .int .i64 b, .int .i64 c, .int .i64 d] 34)).heap b11
        have b7 := heap_alloc_self wr (.cells #[.int .i64 a, .int .i64 b, .int .i64 c, .int .i64 d] 34)
        replace G := G.alloc (.cells #[.int .i64 a, .int .i64 b, .int .i64 c, .int .i64 d] 34)
        generalize hW : (wr.alloc (.cells #[.int .i64 a, .int .i64 b, .int .i64 c, .int .i64 d] 34)) = W11 at *
        have o2 : p2 < wr.heap.size := z2
        have o3 : p3 < wr.heap.size := z3
        have o4 : p4 < wr.heap.size := z4
        have o11 : p11 < wr.heap.size := z11
        have w0 : w.heap.size ≤ wr.heap.size := z0
        obtain ⟨p7, hp7⟩ : ∃ p7, wr.heap.size = p7 := ⟨_, rfl⟩
        rw [hp7] at b7
        try simp only [hp7]
        have n2_7 : ¬ p2 = p7 := by omega
        have n7_2 : ¬ p7 = p2 := by omega
        have n3_7 : ¬ p3 = p7 := by omega
        have n7_3 : ¬ p7 = p3 := by omega
        have n4_7 : ¬ p4 = p7 := by omega
        have n7_4 : ¬ p7 = p4 := by omega
        have n11_7 : ¬ p11 = p7 := by omega
        have n7_11 : ¬ p7 = p11 := by omega
        have s7 : w.heap.size ≤ p7 := by omega
        clear o2 o3 o4 o11 w0
        clear hp7
        clear hW
        clear z2 z3 z4 z11 z0
        refine (C1.out _).mono ?_
        rintro e w11 ⟨rfl, g11⟩
        obtain ⟨c2, f2, z2⟩ := blk_cells (g11.heap b2)
        obtain ⟨c3, f3, z3⟩ := blk_cells (g11.heap b3)
        obtain ⟨c4, f4, z4⟩ := blk_cells (g11.heap b4)
        obtain ⟨c11, f11, z11⟩ := blk_cells (g11.heap b11)
        obtain ⟨c7, f7, z7⟩ := blk_cells (g11.heap b7)
        have z0 : w.heap.size ≤ w11.heap.size := (Gr.trans G g11).b.size
        go_wp2_with fail
        clear c2 f2 c3 f3 c4 f4 c11 f11 c7 f7
        replace b2 := g11.heap b2
        replace b3 := g11.heap b3
        replace b4 := g11.heap b4
        replace b11 := g11.heap b11
        replace b7 := g11.heap b7
        have G := G.trans g11
        clear z2 z3 z4 z11 z7 z0
        clear g11
        go_roundw
        case rel => exact ⟨1, by omega, by go_num, by omega, b2, b3, b4, b11, G⟩
        case measure => simp [intOf]
      · obtain ⟨c2, f2, z2⟩ := blk_cells b2
        obtain ⟨c3, f3, z3⟩ := blk_cells b3
        obtain ⟨c4, f4, z4⟩ := blk_cells b4
        obtain ⟨c11, f11, z11⟩ := blk_cells b11
        have z0 : w.heap.size ≤ wr.heap.size := G.b.size
        go_wp2_with fail
        clear c2 f2 c3 f3 c4 f4 c11 f11
        replace b2 := ((Gr.refl _).alloc (.cells #[.int .i64 (a'), .int .i64 (b'), .int .i64 (c'), .int .i64 (d')] 34)).heap b2
        replace b3 := ((Gr.refl _).alloc (.cells #[.int .i64 (a'), .int .i64 (b'), .int .i64 (c'), .int .i64 (d')] 34)).heap b3
        replace b4 := ((Gr.refl _).alloc (.cells #[.int .i64 (a'), .int .i64 (b'), .int .i64 (c'), .int .i64 (d')] 34)).heap b4
        replace b11 := ((Gr.refl _).alloc (.cells #[.int .i64 (a'), .int .i64 (b'), .int .i64 (c'), .int .i64 (d')] 34)).heap b11
        have b7 := heap_alloc_self wr (.cells #[.int .i64 (a'), .int .i64 (b'), .int .i64 (c'), .int .i64 (d')] 34)
        replace G := G.alloc (.cells #[.int .i64 (a'), .int .i64 (b'), .int .i64 (c'), .int .i64 (d')] 34)
        generalize hW : (wr.alloc (.cells #[.int .i64 (a'), .int .i64 (b'), .int .i64 (c'), .int .i64 (d')] 34)) = W11 at *
        have o2 : p2 < wr.heap.size := z2
        have o3 : p3 < wr.heap.size := z3
        have o4 : p4 < wr.heap.size := z4
        have o11 : p11 < wr.heap.size := z11
        have w0 : w.heap.size ≤ wr.heap.size := z0
        obtain ⟨p7, hp7⟩ : ∃ p7, wr.heap.size = p7 := ⟨_, rfl⟩
        rw [hp7] at b7
        try simp only [hp7]
        have n2_7 : ¬ p2 = p7 := by omega
        have n7_2 : ¬ p7 = p2 := by omega
        have n3_7 : ¬ p3 = p7 := by omega
        have n7_3 : ¬ p7 = p3 := by omega
        have n4_7 : ¬ p4 = p7 := by omega
        have n7_4 : ¬ p7 = p4 := by omega
        have n11_7 : ¬ p11 = p7 := by omega
        have n7_11 : ¬ p7 = p11 := by omega
        have s7 : w.heap.size ≤ p7 := by omega
        clear o2 o3 o4 o11 w0
        clear hp7
        clear hW
        clear z2 z3 z4 z11 z0
        refine (C2.out _).mono ?_
        rintro e w11 ⟨rfl, g11⟩
        obtain ⟨c2, f2, z2⟩ := blk_cells (g11.heap b2)
        obtain ⟨c3, f3, z3⟩ := blk_cells (g11.heap b3)
        obtain ⟨c4, f4, z4⟩ := blk_cells (g11.heap b4)
        obtain ⟨c11, f11, z11⟩ := blk_cells (g11.heap b11)
        obtain ⟨c7, f7, z7⟩ := blk_cells (g11.heap b7)
        have z0 : w.heap.size ≤ w11.heap.size := (Gr.trans G g11).b.size
        go_wp2_with fail
        clear c2 f2 c3 f3 c4 f4 c11 f11 c7 f7
        replace b2 := g11.heap b2
        replace b3 := g11.heap b3
        replace b4 := g11.heap b4
        replace b11 := g11.heap b11
        replace b7 := g11.heap b7
        have G := G.trans g11
        clear z2 z3 z4 z11 z7 z0
        clear g11
        obtain ⟨c2, f2, z2⟩ := blk_cells b2
        obtain ⟨c3, f3, z3⟩ := blk_cells b3
        obtain ⟨c4, f4, z4⟩ := blk_cells b4
        obtain ⟨c11, f11, z11⟩ := blk_cells b11
        obtain ⟨c7, f7, z7⟩ := blk_cells b7
        exact bodyPost_ret (v := .tuple #[ru 0 0 0 0, .int .i64 1]) (by simp [results, Tryd.results58, go_sem, *]) rfl ⟨rfl, (by repeat (first | exact Gr.refl _ | assumption | refine Gr.alloc ?_ _ | refine Gr.drew ?_ | refine Gr.drewN ?_ _ | refine Gr.set ?_ _ _ (by first | (simp; done) | (simp; omega)) | refine Gr.trans ?_ (by assumption)))⟩
set_option maxRecDepth 100000 in
set_option maxHeartbeats 4000000 in
theorem Both_go (a b c d a' b' c' d' L1 L2 M1 M2 : Int) (w : World) (h1 : ruOk a b c d = true) (h2 : ruOk a' b' c' d' = true) (hL : boL a b a' b' = (L1, L2)) (hM : boM c d c' d' = (M1, M2)) (u1 : -1000000 ≤ a'*b ∧ a'*b ≤ 1000000 ∧ -1000000 ≤ a*b' ∧ a*b' ≤ 1000000) (u2 : -1000000 ≤ c'*d ∧ c'*d ≤ 1000000 ∧ -1000000 ≤ c*d' ∧ c*d' ≤ 1000000) (u3 : -1000000 ≤ L1*M2 ∧ L1*M2 ≤ 1000000 ∧ -1000000 ≤ M1*L2 ∧ M1*L2 ≤ 1000000) :
    Calls Tryd.prog 58 #[ru a b c d, ru a' b' c' d'] w fun e w' => e = .returned (.tuple #[ru (if 0 < L1*M2 - M1*L2 then 0 else L1) (if 0 < L1*M2 - M1*L2 then 0 else L2) (if 0 < L1*M2 - M1*L2 then 0 else M1) (if 0 < L1*M2 - M1*L2 then 0 else M2), .int .i64 (if 0 < L1*M2 - M1*L2 then 5 else 0)]) ∧ Gr w w' := by
  have C1 := Lib.hid (fun w => CheckRule_any a b c d w)
  have C2 := Lib.hid (fun w => CheckRule_any a' b' c' d' w)
  rw [h1, Rm.err_true rfl] at C1
  rw [h2, Rm.err_true rfl] at C2
  have MA := Lib.hid (fun w => cross_any a' b' a b w (by omega) (by omega) (by omega) (by omega))
  have MB := Lib.hid (fun w => cross_any c' d' c d w (by omega) (by omega) (by omega) (by omega))
  have MC := Lib.hid (fun w => cross_any L1 L2 M1 M2 w (by omega) (by omega) (by omega) (by omega))
  have OF := Lib.hid (fun a b w => of_any a b w)
  clear h1 h2 u1 u2 u3
  generalize hX : a'*b - a*b' = X at *
  generalize hY : c'*d - c*d' = Y at *
  go_enter Tryd.func58, Tryd.ntmps58
  go_wp2_with fail
  have G := Gr.refl w
  have b2 := heap_alloc_self w (.cells #[.int .i64 a, .int .i64 b, .int .i64 c, .int .i64 d] 34)
  replace G := G.alloc (.cells #[.int .i64 a, .int .i64 b, .int .i64 c, .int .i64 d] 34)
  replace b2 := ((Gr.refl _).alloc (.cells #[.int .i64 (a'), .int .i64 (b'), .int .i64 (c'), .int .i64 (d')] 34)).heap b2
  have b3 := heap_alloc_self (w.alloc (.cells #[.int .i64 a, .int .i64 b, .int .i64 c, .int .i64 d] 34)) (.cells #[.int .i64 (a'), .int .i64 (b'), .int .i64 (c'), .int .i64 (d')] 34)
  replace G := G.alloc (.cells #[.int .i64 (a'), .int .i64 (b'), .int .i64 (c'), .int .i64 (d')] 34)
  replace b2 := ((Gr.refl _).alloc (.cells #[.int .i64 0, .int .i64 0, .int .i64 0, .int .i64 0] 34)).heap b2
  replace b3 := ((Gr.refl _).alloc (.cells #[.int .i64 0, .int .i64 0, .int .i64 0, .int .i64 0] 34)).heap b3
  have b4 := heap_alloc_self ((w.alloc (.cells #[.int .i64 a, .int .i64 b, .int .i64 c, .int .i64 d] 34)).alloc (.cells #[.int .i64 (a'), .int .i64 (b'), .int .i64 (c'), .int .i64 (d')] 34)) (.cells #[.int .i64 0, .int .i64 0, .int .i64 0, .int .i64 0] 34)
  replace G := G.alloc (.cells #[.int .i64 0, .int .i64 0, .int .i64 0, .int .i64 0] 34)
  replace b2 := ((Gr.refl _).alloc (.cells #[.int .i64 a, .int .i64 b, .int .i64 c, .int .i64 d, .int .i64 (a'), .int .i64 (b'), .int .i64 (c'), .int .i64 (d')] 34)).heap b2
  replace b3 := ((Gr.refl _).alloc (.cells #[.int .i64 a, .int .i64 b, .int .i64 c, .int .i64 d, .int .i64 (a'), .int .i64 (b'), .int .i64 (c'), .int .i64 (d')] 34)).heap b3
  replace b4 := ((Gr.refl _).alloc (.cells #[.int .i64 a, .int .i64 b, .int .i64 c, .int .i64 d, .int .i64 (a'), .int .i64 (b'), .int .i64 (c'), .int .i64 (d')] 34)).heap b4
  have b11 := heap_alloc_self (((w.alloc (.cells #[.int .i64 a, .int .i64 b, .int .i64 c, .int .i64 d] 34)).alloc (.cells #[.int .i64 (a'), .int .i64 (b'), .int .i64 (c'), .int .i64 (d')] 34)).alloc (.cells #[.int .i64 0, .int .i64 0, .int .i64 0, .int .i64 0] 34)) (.cells #[.int .i64 a, .int .i64 b, .int .i64 c, .int .i64 d, .int .i64 (a'), .int .i64 (b'), .int .i64 (c'), .int .i64 (d')] 34)
  replace G := G.alloc (.cells #[.int .i64 a, .int .i64 b, .int .i64 c, .int .i64 d, .int .i64 (a'), .int .i64 (b'), .int .i64 (c'), .int .i64 (d')] 34)
  generalize hW : ((((w.alloc (.cells #[.int .i64 a, .int .i64 b, .int .i64 c, .int .i64 d] 34)).alloc (.cells #[.int .i64 (a'), .int .i64 (b'), .int .i64 (c'), .int .i64 (d')] 34)).alloc (.cells #[.int .i64 0, .int .i64 0, .int .i64 0, .int .i64 0] 34)).alloc (.cells #[.int .i64 a, .int .i64 b, .int .i64 c, .int .i64 d, .int .i64 (a'), .int .i64 (b'), .int .i64 (c'), .int .i64 (d')] 34)) = W1 at *
  simp only [World.size_alloc] at b3
  simp only [World.size_alloc] at b4
  simp only [World.size_alloc] at b11
  have w0 : w.heap.size ≤ w.heap.size := Nat.le_refl _
  obtain ⟨p11, hp11⟩ : ∃ p11, w.heap.size + 1 + 1 + 1 = p11 := ⟨_, rfl⟩
  obtain ⟨p4, hp4⟩ : ∃ p4, w.heap.size + 1 + 1 = p4 := ⟨_, rfl⟩
  obtain ⟨p3, hp3⟩ : ∃ p3, w.heap.size + 1 = p3 := ⟨_, rfl⟩
  obtain ⟨p2, hp2⟩ : ∃ p2, w.heap.size = p2 := ⟨_, rfl⟩
  rw [hp11] at b11
  rw [hp4] at b4
  rw [hp3] at b3
  rw [hp2] at b2
  try simp only [hp11]
  try simp only [hp4]
  try simp only [hp3]
  try simp only [hp2]
  have s2 : w.heap.size ≤ p2 := by omega
  have n2_3 : ¬ p2 = p3 := by omega
  have n3_2 : ¬ p3 = p2 := by omega
  have s3 : w.heap.size ≤ p3 := by omega
  have n2_4 : ¬ p2 = p4 := by omega
  have n4_2 : ¬ p4 = p2 := by omega
  have n3_4 : ¬ p3 = p4 := by omega
  have n4_3 : ¬ p4 = p3 := by omega
  have s4 : w.heap.size ≤ p4 := by omega
  have n2_11 : ¬ p2 = p11 := by omega
  have n11_2 : ¬ p11 = p2 := by omega
  have n3_11 : ¬ p3 = p11 := by omega
  have n11_3 : ¬ p11 = p3 := by omega
  have n4_11 : ¬ p4 = p11 := by omega
  have n11_4 : ¬ p11 = p4 := by omega
  have s11 : w.heap.size ≤ p11 := by omega
  clear  w0
  clear hp2
  clear hp3
  clear hp4
  clear hp11
  clear hW
  go_loopw [13] (fun i wr => ∃ k : Nat, k ≤ 2 ∧ i = .int .i64 k ∧ wr.heap[p2]? = some (.cells #[.int .i64 a, .int .i64 b, .int .i64 c, .int .i64 d] 34 (0, 0)) ∧ wr.heap[p3]? = some (.cells #[.int .i64 (a'), .int .i64 (b'), .int .i64 (c'), .int .i64 (d')] 34 (0, 0)) ∧ wr.heap[p4]? = some (.cells #[.int .i64 0, .int .i64 0, .int .i64 0, .int .i64 0] 34 (0, 0)) ∧ wr.heap[p11]? = some (.cells #[.int .i64 a, .int .i64 b, .int .i64 c, .int .i64 d, .int .i64 (a'), .int .i64 (b'), .int .i64 (c'), .int .i64 (d')] 34 (0, 0)) ∧ Gr w wr) (fun i _ => 2 - (intOf i).toNat)
  case atStart => exact ⟨0, by omega, rfl, b2, b3, b4, b11, G⟩
  case round =>
    obtain ⟨k, hk, rfl, r2, r3, r4, r11, G⟩ := hrel
    clear b2 b3 b4 b11
    have b2 := r2
    clear r2
    have b3 := r3
    clear r3
    have b4 := r4
    clear r4
    have b11 := r11
    clear r11
    rcases (show k = 0 ∨ k = 1 ∨ k = 2 by omega) with rfl | rfl | rfl
    · clear C2 MA MB MC hL hM hX hY
      obtain ⟨c2, f2, z2⟩ := blk_cells b2
      obtain ⟨c3, f3, z3⟩ := blk_cells b3
      obtain ⟨c4, f4, z4⟩ := blk_cells b4
      obtain ⟨c11, f11, z11⟩ := blk_cells b11
      have z0 : w.heap.size ≤ wr.heap.size := G.b.size
      go_wp2_with fail
      clear c2 f2 c3 f3 c4 f4 c11 f11
      replace b2 := ((Gr.refl _).alloc (.cells #[.int .i64 a, .int .i64 b, .int .i64 c, .int .i64 d] 34)).heap b2
      replace b3 := ((Gr.refl _).alloc (.cells #[.int .i64 a, .int .i64 b, .int .i64 c, .int .i64 d] 34)).heap b3
      replace b4 := ((Gr.refl _).alloc (.cells #[.int .i64 a, .int .i64 b, .int .i64 c, .int .i64 d] 34)).heap b4
      replace b11 := ((Gr.refl _).alloc (.cells #[.int .i64 a, .int .i64 b, .int .i64 c, .int .i64 d] 34)).heap b11
      have b7 := heap_alloc_self wr (.cells #[.int .i64 a, .int .i64 b, .int .i64 c, .int .i64 d] 34)
      replace G := G.alloc (.cells #[.int .i64 a, .int .i64 b, .int .i64 c, .int .i64 d] 34)
      generalize hW : (wr.alloc (.cells #[.int .i64 a, .int .i64 b, .int .i64 c, .int .i64 d] 34)) = W11 at *
      have o2 : p2 < wr.heap.size := z2
      have o3 : p3 < wr.heap.size := z3
      have o4 : p4 < wr.heap.size := z4
      have o11 : p11 < wr.heap.size := z11
      have w0 : w.heap.size ≤ wr.heap.size := z0
      obtain ⟨p7, hp7⟩ : ∃ p7, wr.heap.size = p7 := ⟨_, rfl⟩
      rw [hp7] at b7
      try simp only [hp7]
      have n2_7 : ¬ p2 = p7 := by omega
      have n7_2 : ¬ p7 = p2 := by omega
      have n3_7 : ¬ p3 = p7 := by omega
      have n7_3 : ¬ p7 = p3 := by omega
      have n4_7 : ¬ p4 = p7 := by omega
      have n7_4 : ¬ p7 = p4 := by omega
      have n11_7 : ¬ p11 = p7 := by omega
      have n7_11 : ¬ p7 = p11 := by omega
      have s7 : w.heap.size ≤ p7 := by omega
      clear o2 o3 o4 o11 w0
      clear hp7
      clear hW
      clear z2 z3 z4 z11 z0
      refine (C1.out _).mono ?_
      rintro e w11 ⟨rfl, g11⟩
      obtain ⟨c2, f2, z2⟩ := blk_cells (g11.heap b2)
      obtain ⟨c3, f3, z3⟩ := blk_cells (g11.heap b3)
      obtain ⟨c4, f4, z4⟩ := blk_cells (g11.heap b4)
      obtain ⟨c11, f11, z11⟩ := blk_cells (g11.heap b11)
      obtain ⟨c7, f7, z7⟩ := blk_cells (g11.heap b7)
      have z0 : w.heap.size ≤ w11.heap.size := (Gr.trans G g11).b.size
      go_wp2_with fail
      clear c2 f2 c3 f3 c4 f4 c11 f11 c7 f7
      replace b2 := g11.heap b2
      replace b3 := g11.heap b3
      replace b4 := g11.heap b4
      replace b11 := g11.heap b11
      replace b7 := g11.heap b7
      have G := G.trans g11
      clear z2 z3 z4 z11 z7 z0
      clear g11
      go_roundw
      case rel => exact ⟨1, by omega, by go_num, b2, b3, b4, b11, G⟩
      case measure => simp [intOf]
    · clear C1 MA MB MC hL hM hX hY
      obtain ⟨c2, f2, z2⟩ := blk_cells b2
      obtain ⟨c3, f3, z3⟩ := blk_cells b3
      obtain ⟨c4, f4, z4⟩ := blk_cells b4
      obtain ⟨c11, f11, z11⟩ := blk_cells b11
      have z0 : w.heap.size ≤ wr.heap.size := G.b.size
      go_wp2_with fail
      clear c2 f2 c3 f3 c4 f4 c11 f11
      replace b2 := ((Gr.refl _).alloc (.cells #[.int .i64 (a'), .int .i64 (b'), .int .i64 (c'), .int .i64 (d')] 34)).heap b2
      replace b3 := ((Gr.refl _).alloc (.cells #[.int .i64 (a'), .int .i64 (b'), .int .i64 (c'), .int .i64 (d')] 34)).heap b3
      replace b4 := ((Gr.refl _).alloc (.cells #[.int .i64 (a'), .int .i64 (b'), .int .i64 (c'), .int .i64 (d')] 34)).heap b4
      replace b11 := ((Gr.refl _).alloc (.cells #[.int .i64 (a'), .int .i64 (b'), .int .i64 (c'), .int .i64 (d')] 34)).heap b11
      have b7 := heap_alloc_self wr (.cells #[.int .i64 (a'), .int .i64 (b'), .int .i64 (c'), .int .i64 (d')] 34)
      replace G := G.alloc (.cells #[.int .i64 (a'), .int .i64 (b'), .int .i64 (c'), .int .i64 (d')] 34)
      generalize hW : (wr.alloc (.cells #[.int .i64 (a'), .int .i64 (b'), .int .i64 (c'), .int .i64 (d')] 34)) = W11 at *
      have o2 : p2 < wr.heap.size := z2
      have o3 : p3 < wr.heap.size := z3
      have o4 : p4 < wr.heap.size := z4
      have o11 : p11 < wr.heap.size := z11
      have w0 : w.heap.size ≤ wr.heap.size := z0
      obtain ⟨p7, hp7⟩ : ∃ p7, wr.heap.size = p7 := ⟨_, rfl⟩
      rw [hp7] at b7
      try simp only [hp7]
      have n2_7 : ¬ p2 = p7 := by omega
      have n7_2 : ¬ p7 = p2 := by omega
      have n3_7 : ¬ p3 = p7 := by omega
      have n7_3 : ¬ p7 = p3 := by omega
      have n4_7 : ¬ p4 = p7 := by omega
      have n7_4 : ¬ p7 = p4 := by omega
      have n11_7 : ¬ p11 = p7 := by omega
      have n7_11 : ¬ p7 = p11 := by omega
      have s7 : w.heap.size ≤ p7 := by omega
      clear o2 o3 o4 o11 w0
      clear hp7
      clear hW
      clear z2 z3 z4 z11 z0
      refine (C2.out _).mono ?_
      rintro e w11 ⟨rfl, g11⟩
      obtain ⟨c2, f2, z2⟩ := blk_cells (g11.heap b2)
      obtain ⟨c3, f3, z3⟩ := blk_cells (g11.heap b3)
      obtain ⟨c4, f4, z4⟩ := blk_cells (g11.heap b4)
      obtain ⟨c11, f11, z11⟩ := blk_cells (g11.heap b11)
      obtain ⟨c7, f7, z7⟩ := blk_cells (g11.heap b7)
      have z0 : w.heap.size ≤ w11.heap.size := (Gr.trans G g11).b.size
      go_wp2_with fail
      clear c2 f2 c3 f3 c4 f4 c11 f11 c7 f7
      replace b2 := g11.heap b2
      replace b3 := g11.heap b3
      replace b4 := g11.heap b4
      replace b11 := g11.heap b11
      replace b7 := g11.heap b7
      have G := G.trans g11
      clear z2 z3 z4 z11 z7 z0
      clear g11
      go_roundw
      case rel => exact ⟨2, by omega, by go_num, b2, b3, b4, b11, G⟩
      case measure => simp [intOf]
    · clear C1 C2
      by_cases kL : 0 < X
      · have eL : a' = L1 ∧ b' = L2 := by unfold boL at hL; rw [hX, if_pos kL, Prod.mk.injEq] at hL; exact hL
        obtain ⟨rfl, rfl⟩ := eL
        clear hL
        by_cases kM : Y < 0
        · have eM : c' = M1 ∧ d' = M2 := by unfold boM at hM; rw [hY, if_pos kM, Prod.mk.injEq] at hM; exact hM
          obtain ⟨rfl, rfl⟩ := eM
          clear hM hX hY
          generalize hZ : a'*d' - c'*b' = Z at *
          have HZ := Lib.hid hZ
          clear hZ
          by_cases kZ : 0 < Z
          · have KZ := Lib.hid kZ
            obtain ⟨c2, f2, z2⟩ := blk_cells b2
            obtain ⟨c3, f3, z3⟩ := blk_cells b3
            obtain ⟨c4, f4, z4⟩ := blk_cells b4
            obtain ⟨c11, f11, z11⟩ := blk_cells b11
            go_upto_region 8 with (fail)
            clear c2 f2 z2 c3 f3 z3 c4 f4 z4 c11 f11 z11
            obtain ⟨c2, f2, z2⟩ := blk_cells b2
            obtain ⟨c3, f3, z3⟩ := blk_cells b3
            obtain ⟨c4, f4, z4⟩ := blk_cells b4
            obtain ⟨c11, f11, z11⟩ := blk_cells b11
            refine wp_region_plan [.val (.pointer (some ⟨p3, 0, none⟩)), .val (fr (a') (b')), .val (fr (a') (b')), .val (.pointer (some ⟨p2, 0, none⟩)), .val (fr (a) (b)), .val (fr (a) (b)), .val (.int .i64 (X)), .val (.bool (decide (0 < X)))] (by kernel_rfl) (by kernel_rfl) (fun G => by first | (simp only [finAct, Act.put, Plan.value, List.setIfInBounds_toArray, List.set_cons_zero, List.set_cons_succ]; rfl) | (simp only [finAct, Act.put, Plan.value, List.setIfInBounds_toArray, List.set_cons_zero, List.set_cons_succ, Nat.zero_add, Nat.reduceAdd]; rfl)) ?_ ?_
            · refine ⟨?_, ?_, ?_, ?_, ?_, ?_, ?_, ?_, trivial⟩ <;> (first | exact trivial | (intro G; first | (refine ⟨by kernel_rfl, fun u hu => ?_⟩; obtain ⟨hc, hf, hz⟩ := hu.cells; go_simp; first | exact ⟨rfl, Gr.refl _⟩ | skip) | (refine ⟨by kernel_rfl, fun u T z hu hG hj hb => ?_⟩; cases hj; obtain ⟨hbc, hbf, hbz⟩ := blk_cells hb; first | (refine ⟨_, ?_, ((GrL.of_gr (Gr.refl _)).set _ _ (Or.inr (by simp))).set _ _ (Or.inr (by simp)), put_two hb⟩; go_simp; done) | (refine ⟨_, ?_, (GrL.of_gr (Gr.refl _)).set _ _ (Or.inr (by simp)), put_one hb⟩; go_simp; done)) | (refine ⟨by kernel_rfl, fun u => ?_⟩; go_simp; done) | (show _ = false; kernel_rfl)))
              · exact OF.out _ _ _
              · exact OF.out _ _ _
              · exact MA.out _
            intro _ U10 hg _ _
            clear c2 f2 z2 c3 f3 z3 c4 f4 z4 c11 f11 z11
            replace b2 := hg.heap b2
            replace b3 := hg.heap b3
            replace b4 := hg.heap b4
            replace b11 := hg.heap b11
            have G := G.trans hg
            clear hg
            obtain ⟨c2, f2, z2⟩ := blk_cells b2
            obtain ⟨c3, f3, z3⟩ := blk_cells b3
            obtain ⟨c4, f4, z4⟩ := blk_cells b4
            obtain ⟨c11, f11, z11⟩ := blk_cells b11
            go_upto_region 10 with (fail)
            clear c2 f2 z2 c3 f3 z3 c4 f4 z4 c11 f11 z11
            replace b2 := put_lo (x := .int .i64 a') (y := .int .i64 b') b2
            replace b3 := keep_at p2 0 1 (.int .i64 a') (.int .i64 b') b3 (by first | assumption | omega)
            replace b4 := keep_at p2 0 1 (.int .i64 a') (.int .i64 b') b4 (by first | assumption | omega)
            replace b11 := keep_at p2 0 1 (.int .i64 a') (.int .i64 b') b11 (by first | assumption | omega)
            replace G := gr_at p2 0 1 (.int .i64 a') (.int .i64 b') G (by omega)
            generalize hW : ((U10.setCell ⟨p2, 0, none⟩ (.int .i64 a')).setCell ⟨p2, 1, none⟩ (.int .i64 b')) = W12 at *
            clear hW
            obtain ⟨c2, f2, z2⟩ := blk_cells b2
            obtain ⟨c3, f3, z3⟩ := blk_cells b3
            obtain ⟨c4, f4, z4⟩ := blk_cells b4
            obtain ⟨c11, f11, z11⟩ := blk_cells b11
            refine wp_region_plan [.val (.pointer (some ⟨p3, 2, none⟩)), .val (fr (c') (d')), .val (fr (c') (d')), .val (.pointer (some ⟨p2, 2, none⟩)), .val (fr (c) (d)), .val (fr (c) (d)), .val (.int .i64 (Y)), .val (.bool (decide (Y < 0)))] (by kernel_rfl) (by kernel_rfl) (fun G => by first | (simp only [finAct, Act.put, Plan.value, List.setIfInBounds_toArray, List.set_cons_zero, List.set_cons_succ]; rfl) | (simp only [finAct, Act.put, Plan.value, List.setIfInBounds_toArray, List.set_cons_zero, List.set_cons_succ, Nat.zero_add, Nat.reduceAdd]; rfl)) ?_ ?_
            · refine ⟨?_, ?_, ?_, ?_, ?_, ?_, ?_, ?_, trivial⟩ <;> (first | exact trivial | (intro G; first | (refine ⟨by kernel_rfl, fun u hu => ?_⟩; obtain ⟨hc, hf, hz⟩ := hu.cells; go_simp; first | exact ⟨rfl, Gr.refl _⟩ | skip) | (refine ⟨by kernel_rfl, fun u T z hu hG hj hb => ?_⟩; cases hj; obtain ⟨hbc, hbf, hbz⟩ := blk_cells hb; first | (refine ⟨_, ?_, ((GrL.of_gr (Gr.refl _)).set _ _ (Or.inr (by simp))).set _ _ (Or.inr (by simp)), put_two hb⟩; go_simp; done) | (refine ⟨_, ?_, (GrL.of_gr (Gr.refl _)).set _ _ (Or.inr (by simp)), put_one hb⟩; go_simp; done)) | (refine ⟨by kernel_rfl, fun u => ?_⟩; go_simp; done) | (show _ = false; kernel_rfl)))
              · exact OF.out _ _ _
              · exact OF.out _ _ _
              · exact MB.out _
            intro _ U12 hg _ _
            clear c2 f2 z2 c3 f3 z3 c4 f4 z4 c11 f11 z11
            replace b2 := hg.heap b2
            replace b3 := hg.heap b3
            replace b4 := hg.heap b4
            replace b11 := hg.heap b11
            have G := G.trans hg
            clear hg
            obtain ⟨c2, f2, z2⟩ := blk_cells b2
            obtain ⟨c3, f3, z3⟩ := blk_cells b3
            obtain ⟨c4, f4, z4⟩ := blk_cells b4
            obtain ⟨c11, f11, z11⟩ := blk_cells b11
            go_upto_region 12 with (fail)
            clear c2 f2 z2 c3 f3 z3 c4 f4 z4 c11 f11 z11
            replace b2 := put_hi (x := .int .i64 c') (y := .int .i64 d') b2
            replace b3 := keep_at p2 2 3 (.int .i64 c') (.int .i64 d') b3 (by first | assumption | omega)
            replace b4 := keep_at p2 2 3 (.int .i64 c') (.int .i64 d') b4 (by first | assumption | omega)
            replace b11 := keep_at p2 2 3 (.int .i64 c') (.int .i64 d') b11 (by first | assumption | omega)
            replace G := gr_at p2 2 3 (.int .i64 c') (.int .i64 d') G (by omega)
            generalize hW : ((U12.setCell ⟨p2, 2, none⟩ (.int .i64 c')).setCell ⟨p2, 3, none⟩ (.int .i64 d')) = W14 at *
            clear hW
            obtain ⟨c2, f2, z2⟩ := blk_cells b2
            obtain ⟨c3, f3, z3⟩ := blk_cells b3
            obtain ⟨c4, f4, z4⟩ := blk_cells b4
            obtain ⟨c11, f11, z11⟩ := blk_cells b11
            refine wp_region_plan [.val (.pointer (some ⟨p2, 0, none⟩)), .val (fr (a') (b')), .val (fr (a') (b')), .val (.pointer (some ⟨p2, 2, none⟩)), .val (fr (c') (d')), .val (fr (c') (d')), .val (.int .i64 (Z)), .val (.bool (decide (0 < Z)))] (by kernel_rfl) (by kernel_rfl) (fun G => by first | (simp only [finAct, Act.put, Plan.value, List.setIfInBounds_toArray, List.set_cons_zero, List.set_cons_succ]; rfl) | (simp only [finAct, Act.put, Plan.value, List.setIfInBounds_toArray, List.set_cons_zero, List.set_cons_succ, Nat.zero_add, Nat.reduceAdd]; rfl)) ?_ ?_
            · refine ⟨?_, ?_, ?_, ?_, ?_, ?_, ?_, ?_, trivial⟩ <;> (first | exact trivial | (intro G; first | (refine ⟨by kernel_rfl, fun u hu => ?_⟩; obtain ⟨hc, hf, hz⟩ := hu.cells; go_simp; first | exact ⟨rfl, Gr.refl _⟩ | skip) | (refine ⟨by kernel_rfl, fun u T z hu hG hj hb => ?_⟩; cases hj; obtain ⟨hbc, hbf, hbz⟩ := blk_cells hb; first | (refine ⟨_, ?_, ((GrL.of_gr (Gr.refl _)).set _ _ (Or.inr (by simp))).set _ _ (Or.inr (by simp)), put_two hb⟩; go_simp; done) | (refine ⟨_, ?_, (GrL.of_gr (Gr.refl _)).set _ _ (Or.inr (by simp)), put_one hb⟩; go_simp; done)) | (refine ⟨by kernel_rfl, fun u => ?_⟩; go_simp; done) | (show _ = false; kernel_rfl)))
              · exact OF.out _ _ _
              · exact OF.out _ _ _
              · exact MC.out _
            intro _ U14 hg _ _
            clear c2 f2 z2 c3 f3 z3 c4 f4 z4 c11 f11 z11
            replace b2 := hg.heap b2
            replace b3 := hg.heap b3
            replace b4 := hg.heap b4
            replace b11 := hg.heap b11
            have G := G.trans hg
            clear hg
            obtain ⟨c2, f2, z2⟩ := blk_cells b2
            obtain ⟨c3, f3, z3⟩ := blk_cells b3
            obtain ⟨c4, f4, z4⟩ := blk_cells b4
            obtain ⟨c11, f11, z11⟩ := blk_cells b11
            go_wp2
            all_goals first | exact bodyPost_ret (v := .tuple #[ru 0 0 0 0, .int .i64 5]) (by simp [results, Tryd.results58, go_sem, *]) rfl ⟨rfl, (by repeat (first | exact Gr.refl _ | assumption | refine Gr.alloc ?_ _ | refine Gr.drew ?_ | refine Gr.drewN ?_ _ | refine Gr.set ?_ _ _ (by first | (simp; done) | (simp; omega)) | refine Gr.trans ?_ (by assumption)))⟩ | (exfalso; have := HZ.out; have := KZ.out; omega)
          · have KZ := Lib.hid kZ
            obtain ⟨c2, f2, z2⟩ := blk_cells b2
            obtain ⟨c3, f3, z3⟩ := blk_cells b3
            obtain ⟨c4, f4, z4⟩ := blk_cells b4
            obtain ⟨c11, f11, z11⟩ := blk_cells b11
            go_upto_region 8 with (fail)
            clear c2 f2 z2 c3 f3 z3 c4 f4 z4 c11 f11 z11
            obtain ⟨c2, f2, z2⟩ := blk_cells b2
            obtain ⟨c3, f3, z3⟩ := blk_cells b3
            obtain ⟨c4, f4, z4⟩ := blk_cells b4
            obtain ⟨c11, f11, z11⟩ := blk_cells b11
            refine wp_region_plan [.val (.pointer (some ⟨p3, 0, none⟩)), .val (fr (a') (b')), .val (fr (a') (b')), .val (.pointer (some ⟨p2, 0, none⟩)), .val (fr (a) (b)), .val (fr (a) (b)), .val (.int .i64 (X)), .val (.bool (decide (0 < X)))] (by kernel_rfl) (by kernel_rfl) (fun G => by first | (simp only [finAct, Act.put, Plan.value, List.setIfInBounds_toArray, List.set_cons_zero, List.set_cons_succ]; rfl) | (simp only [finAct, Act.put, Plan.value, List.setIfInBounds_toArray, List.set_cons_zero, List.set_cons_succ, Nat.zero_add, Nat.reduceAdd]; rfl)) ?_ ?_
            · refine ⟨?_, ?_, ?_, ?_, ?_, ?_, ?_, ?_, trivial⟩ <;> (first | exact trivial | (intro G; first | (refine ⟨by kernel_rfl, fun u hu => ?_⟩; obtain ⟨hc, hf, hz⟩ := hu.cells; go_simp; first | exact ⟨rfl, Gr.refl _⟩ | skip) | (refine ⟨by kernel_rfl, fun u T z hu hG hj hb => ?_⟩; cases hj; obtain ⟨hbc, hbf, hbz⟩ := blk_cells hb; first | (refine ⟨_, ?_, ((GrL.of_gr (Gr.refl _)).set _ _ (Or.inr (by simp))).set _ _ (Or.inr (by simp)), put_two hb⟩; go_simp; done) | (refine ⟨_, ?_, (GrL.of_gr (Gr.refl _)).set _ _ (Or.inr (by simp)), put_one hb⟩; go_simp; done)) | (refine ⟨by kernel_rfl, fun u => ?_⟩; go_simp; done) | (show _ = false; kernel_rfl)))
              · exact OF.out _ _ _
              · exact OF.out _ _ _
              · exact MA.out _
            intro _ U10 hg _ _
            clear c2 f2 z2 c3 f3 z3 c4 f4 z4 c11 f11 z11
            replace b2 := hg.heap b2
            replace b3 := hg.heap b3
            replace b4 := hg.heap b4
            replace b11 := hg.heap b11
            have G := G.trans hg
            clear hg
            obtain ⟨c2, f2, z2⟩ := blk_cells b2
            obtain ⟨c3, f3, z3⟩ := blk_cells b3
            obtain ⟨c4, f4, z4⟩ := blk_cells b4
            obtain ⟨c11, f11, z11⟩ := blk_cells b11
            go_upto_region 10 with (fail)
            clear c2 f2 z2 c3 f3 z3 c4 f4 z4 c11 f11 z11
            replace b2 := put_lo (x := .int .i64 a') (y := .int .i64 b') b2
            replace b3 := keep_at p2 0 1 (.int .i64 a') (.int .i64 b') b3 (by first | assumption | omega)
            replace b4 := keep_at p2 0 1 (.int .i64 a') (.int .i64 b') b4 (by first | assumption | omega)
            replace b11 := keep_at p2 0 1 (.int .i64 a') (.int .i64 b') b11 (by first | assumption | omega)
            replace G := gr_at p2 0 1 (.int .i64 a') (.int .i64 b') G (by omega)
            generalize hW : ((U10.setCell ⟨p2, 0, none⟩ (.int .i64 a')).setCell ⟨p2, 1, none⟩ (.int .i64 b')) = W12 at *
            clear hW
            obtain ⟨c2, f2, z2⟩ := blk_cells b2
            obtain ⟨c3, f3, z3⟩ := blk_cells b3
            obtain ⟨c4, f4, z4⟩ := blk_cells b4
            obtain ⟨c11, f11, z11⟩ := blk_cells b11
            refine wp_region_plan [.val (.pointer (some ⟨p3, 2, none⟩)), .val (fr (c') (d')), .val (fr (c') (d')), .val (.pointer (some ⟨p2, 2, none⟩)), .val (fr (c) (d)), .val (fr (c) (d)), .val (.int .i64 (Y)), .val (.bool (decide (Y < 0)))] (by kernel_rfl) (by kernel_rfl) (fun G => by first | (simp only [finAct, Act.put, Plan.value, List.setIfInBounds_toArray, List.set_cons_zero, List.set_cons_succ]; rfl) | (simp only [finAct, Act.put, Plan.value, List.setIfInBounds_toArray, List.set_cons_zero, List.set_cons_succ, Nat.zero_add, Nat.reduceAdd]; rfl)) ?_ ?_
            · refine ⟨?_, ?_, ?_, ?_, ?_, ?_, ?_, ?_, trivial⟩ <;> (first | exact trivial | (intro G; first | (refine ⟨by kernel_rfl, fun u hu => ?_⟩; obtain ⟨hc, hf, hz⟩ := hu.cells; go_simp; first | exact ⟨rfl, Gr.refl _⟩ | skip) | (refine ⟨by kernel_rfl, fun u T z hu hG hj hb => ?_⟩; cases hj; obtain ⟨hbc, hbf, hbz⟩ := blk_cells hb; first | (refine ⟨_, ?_, ((GrL.of_gr (Gr.refl _)).set _ _ (Or.inr (by simp))).set _ _ (Or.inr (by simp)), put_two hb⟩; go_simp; done) | (refine ⟨_, ?_, (GrL.of_gr (Gr.refl _)).set _ _ (Or.inr (by simp)), put_one hb⟩; go_simp; done)) | (refine ⟨by kernel_rfl, fun u => ?_⟩; go_simp; done) | (show _ = false; kernel_rfl)))
              · exact OF.out _ _ _
              · exact OF.out _ _ _
              · exact MB.out _
            intro _ U12 hg _ _
            clear c2 f2 z2 c3 f3 z3 c4 f4 z4 c11 f11 z11
            replace b2 := hg.heap b2
            replace b3 := hg.heap b3
            replace b4 := hg.heap b4
            replace b11 := hg.heap b11
            have G := G.trans hg
            clear hg
            obtain ⟨c2, f2, z2⟩ := blk_cells b2
            obtain ⟨c3, f3, z3⟩ := blk_cells b3
            obtain ⟨c4, f4, z4⟩ := blk_cells b4
            obtain ⟨c11, f11, z11⟩ := blk_cells b11
            go_upto_region 12 with (fail)
            clear c2 f2 z2 c3 f3 z3 c4 f4 z4 c11 f11 z11
            replace b2 := put_hi (x := .int .i64 c') (y := .int .i64 d') b2
            replace b3 := keep_at p2 2 3 (.int .i64 c') (.int .i64 d') b3 (by first | assumption | omega)
            replace b4 := keep_at p2 2 3 (.int .i64 c') (.int .i64 d') b4 (by first | assumption | omega)
            replace b11 := keep_at p2 2 3 (.int .i64 c') (.int .i64 d') b11 (by first | assumption | omega)
            replace G := gr_at p2 2 3 (.int .i64 c') (.int .i64 d') G (by omega)
            generalize hW : ((U12.setCell ⟨p2, 2, none⟩ (.int .i64 c')).setCell ⟨p2, 3, none⟩ (.int .i64 d')) = W14 at *
            clear hW
            obtain ⟨c2, f2, z2⟩ := blk_cells b2
            obtain ⟨c3, f3, z3⟩ := blk_cells b3
            obtain ⟨c4, f4, z4⟩ := blk_cells b4
            obtain ⟨c11, f11, z11⟩ := blk_cells b11
            refine wp_region_plan [.val (.pointer (some ⟨p2, 0, none⟩)), .val (fr (a') (b')), .val (fr (a') (b')), .val (.pointer (some ⟨p2, 2, none⟩)), .val (fr (c') (d')), .val (fr (c') (d')), .val (.int .i64 (Z)), .val (.bool (decide (0 < Z)))] (by kernel_rfl) (by kernel_rfl) (fun G => by first | (simp only [finAct, Act.put, Plan.value, List.setIfInBounds_toArray, List.set_cons_zero, List.set_cons_succ]; rfl) | (simp only [finAct, Act.put, Plan.value, List.setIfInBounds_toArray, List.set_cons_zero, List.set_cons_succ, Nat.zero_add, Nat.reduceAdd]; rfl)) ?_ ?_
            · refine ⟨?_, ?_, ?_, ?_, ?_, ?_, ?_, ?_, trivial⟩ <;> (first | exact trivial | (intro G; first | (refine ⟨by kernel_rfl, fun u hu => ?_⟩; obtain ⟨hc, hf, hz⟩ := hu.cells; go_simp; first | exact ⟨rfl, Gr.refl _⟩ | skip) | (refine ⟨by kernel_rfl, fun u T z hu hG hj hb => ?_⟩; cases hj; obtain ⟨hbc, hbf, hbz⟩ := blk_cells hb; first | (refine ⟨_, ?_, ((GrL.of_gr (Gr.refl _)).set _ _ (Or.inr (by simp))).set _ _ (Or.inr (by simp)), put_two hb⟩; go_simp; done) | (refine ⟨_, ?_, (GrL.of_gr (Gr.refl _)).set _ _ (Or.inr (by simp)), put_one hb⟩; go_simp; done)) | (refine ⟨by kernel_rfl, fun u => ?_⟩; go_simp; done) | (show _ = false; kernel_rfl)))
              · exact OF.out _ _ _
              · exact OF.out _ _ _
              · exact MC.out _
            intro _ U14 hg _ _
            clear c2 f2 z2 c3 f3 z3 c4 f4 z4 c11 f11 z11
            replace b2 := hg.heap b2
            replace b3 := hg.heap b3
            replace b4 := hg.heap b4
            replace b11 := hg.heap b11
            have G := G.trans hg
            clear hg
            obtain ⟨c2, f2, z2⟩ := blk_cells b2
            obtain ⟨c3, f3, z3⟩ := blk_cells b3
            obtain ⟨c4, f4, z4⟩ := blk_cells b4
            obtain ⟨c11, f11, z11⟩ := blk_cells b11
            go_wp2
            all_goals first | exact bodyPost_ret (v := .tuple #[ru a' b' c' d', .int .i64 0]) (by simp [results, Tryd.results58, go_sem, *]) rfl ⟨rfl, (by repeat (first | exact Gr.refl _ | assumption | refine Gr.alloc ?_ _ | refine Gr.drew ?_ | refine Gr.drewN ?_ _ | refine Gr.set ?_ _ _ (by first | (simp; done) | (simp; omega)) | refine Gr.trans ?_ (by assumption)))⟩ | (exfalso; have := HZ.out; have := KZ.out; omega)
        · have eM : c = M1 ∧ d = M2 := by unfold boM at hM; rw [hY, if_neg kM, Prod.mk.injEq] at hM; exact hM
          obtain ⟨rfl, rfl⟩ := eM
          clear hM hX hY
          generalize hZ : a'*d - c*b' = Z at *
          have HZ := Lib.hid hZ
          clear hZ
          by_cases kZ : 0 < Z
          · have KZ := Lib.hid kZ
            obtain ⟨c2, f2, z2⟩ := blk_cells b2
            obtain ⟨c3, f3, z3⟩ := blk_cells b3
            obtain ⟨c4, f4, z4⟩ := blk_cells b4
            obtain ⟨c11, f11, z11⟩ := blk_cells b11
            go_upto_region 8 with (fail)
            clear c2 f2 z2 c3 f3 z3 c4 f4 z4 c11 f11 z11
            obtain ⟨c2, f2, z2⟩ := blk_cells b2
            obtain ⟨c3, f3, z3⟩ := blk_cells b3
            obtain ⟨c4, f4, z4⟩ := blk_cells b4
            obtain ⟨c11, f11, z11⟩ := blk_cells b11
            refine wp_region_plan [.val (.pointer (some ⟨p3, 0, none⟩)), .val (fr (a') (b')), .val (fr (a') (b')), .val (.pointer (some ⟨p2, 0, none⟩)), .val (fr (a) (b)), .val (fr (a) (b)), .val (.int .i64 (X)), .val (.bool (decide (0 < X)))] (by kernel_rfl) (by kernel_rfl) (fun G => by first | (simp only [finAct, Act.put, Plan.value, List.setIfInBounds_toArray, List.set_cons_zero, List.set_cons_succ]; rfl) | (simp only [finAct, Act.put, Plan.value, List.setIfInBounds_toArray, List.set_cons_zero, List.set_cons_succ, Nat.zero_add, Nat.reduceAdd]; rfl)) ?_ ?_
            · refine ⟨?_, ?_, ?_, ?_, ?_, ?_, ?_, ?_, trivial⟩ <;> (first | exact trivial | (intro G; first | (refine ⟨by kernel_rfl, fun u hu => ?_⟩; obtain ⟨hc, hf, hz⟩ := hu.cells; go_simp; first | exact ⟨rfl, Gr.refl _⟩ | skip) | (refine ⟨by kernel_rfl, fun u T z hu hG hj hb => ?_⟩; cases hj; obtain ⟨hbc, hbf, hbz⟩ := blk_cells hb; first | (refine ⟨_, ?_, ((GrL.of_gr (Gr.refl _)).set _ _ (Or.inr (by simp))).set _ _ (Or.inr (by simp)), put_two hb⟩; go_simp; done) | (refine ⟨_, ?_, (GrL.of_gr (Gr.refl _)).set _ _ (Or.inr (by simp)), put_one hb⟩; go_simp; done)) | (refine ⟨by kernel_rfl, fun u => ?_⟩; go_simp; done) | (show _ = false; kernel_rfl)))
              · exact OF.out _ _ _
              · exact OF.out _ _ _
              · exact MA.out _
            intro _ U10 hg _ _
            clear c2 f2 z2 c3 f3 z3 c4 f4 z4 c11 f11 z11
            replace b2 := hg.heap b2
            replace b3 := hg.heap b3
            replace b4 := hg.heap b4
            replace b11 := hg.heap b11
            have G := G.trans hg
            clear hg
            obtain ⟨c2, f2, z2⟩ := blk_cells b2
            obtain ⟨c3, f3, z3⟩ := blk_cells b3
            obtain ⟨c4, f4, z4⟩ := blk_cells b4
            obtain ⟨c11, f11, z11⟩ := blk_cells b11
            go_upto_region 10 with (fail)
            clear c2 f2 z2 c3 f3 z3 c4 f4 z4 c11 f11 z11
            replace b2 := put_lo (x := .int .i64 a') (y := .int .i64 b') b2
            replace b3 := keep_at p2 0 1 (.int .i64 a') (.int .i64 b') b3 (by first | assumption | omega)
            replace b4 := keep_at p2 0 1 (.int .i64 a') (.int .i64 b') b4 (by first | assumption | omega)
            replace b11 := keep_at p2 0 1 (.int .i64 a') (.int .i64 b') b11 (by first | assumption | omega)
            replace G := gr_at p2 0 1 (.int .i64 a') (.int .i64 b') G (by omega)
            generalize hW : ((U10.setCell ⟨p2, 0, none⟩ (.int .i64 a')).setCell ⟨p2, 1, none⟩ (.int .i64 b')) = W12 at *
            clear hW
            obtain ⟨c2, f2, z2⟩ := blk_cells b2
            obtain ⟨c3, f3, z3⟩ := blk_cells b3
            obtain ⟨c4, f4, z4⟩ := blk_cells b4
            obtain ⟨c11, f11, z11⟩ := blk_cells b11
            refine wp_region_plan [.val (.pointer (some ⟨p3, 2, none⟩)), .val (fr (c') (d')), .val (fr (c') (d')), .val (.pointer (some ⟨p2, 2, none⟩)), .val (fr (c) (d)), .val (fr (c) (d)), .val (.int .i64 (Y)), .val (.bool (decide (Y < 0)))] (by kernel_rfl) (by kernel_rfl) (fun G => by first | (simp only [finAct, Act.put, Plan.value, List.setIfInBounds_toArray, List.set_cons_zero, List.set_cons_succ]; rfl) | (simp only [finAct, Act.put, Plan.value, List.setIfInBounds_toArray, List.set_cons_zero, List.set_cons_succ, Nat.zero_add, Nat.reduceAdd]; rfl)) ?_ ?_
            · refine ⟨?_, ?_, ?_, ?_, ?_, ?_, ?_, ?_, trivial⟩ <;> (first | exact trivial | (intro G; first | (refine ⟨by kernel_rfl, fun u hu => ?_⟩; obtain ⟨hc, hf, hz⟩ := hu.cells; go_simp; first | exact ⟨rfl, Gr.refl _⟩ | skip) | (refine ⟨by kernel_rfl, fun u T z hu hG hj hb => ?_⟩; cases hj; obtain ⟨hbc, hbf, hbz⟩ := blk_cells hb; first | (refine ⟨_, ?_, ((GrL.of_gr (Gr.refl _)).set _ _ (Or.inr (by simp))).set _ _ (Or.inr (by simp)), put_two hb⟩; go_simp; done) | (refine ⟨_, ?_, (GrL.of_gr (Gr.refl _)).set _ _ (Or.inr (by simp)), put_one hb⟩; go_simp; done)) | (refine ⟨by kernel_rfl, fun u => ?_⟩; go_simp; done) | (show _ = false; kernel_rfl)))
              · exact OF.out _ _ _
              · exact OF.out _ _ _
              · exact MB.out _
            intro _ U12 hg _ _
            clear c2 f2 z2 c3 f3 z3 c4 f4 z4 c11 f11 z11
            replace b2 := hg.heap b2
            replace b3 := hg.heap b3
            replace b4 := hg.heap b4
            replace b11 := hg.heap b11
            have G := G.trans hg
            clear hg
            obtain ⟨c2, f2, z2⟩ := blk_cells b2
            obtain ⟨c3, f3, z3⟩ := blk_cells b3
            obtain ⟨c4, f4, z4⟩ := blk_cells b4
            obtain ⟨c11, f11, z11⟩ := blk_cells b11
            go_upto_region 12 with (fail)
            clear c2 f2 z2 c3 f3 z3 c4 f4 z4 c11 f11 z11
            obtain ⟨c2, f2, z2⟩ := blk_cells b2
            obtain ⟨c3, f3, z3⟩ := blk_cells b3
            obtain ⟨c4, f4, z4⟩ := blk_cells b4
            obtain ⟨c11, f11, z11⟩ := blk_cells b11
            refine wp_region_plan [.val (.pointer (some ⟨p2, 0, none⟩)), .val (fr (a') (b')), .val (fr (a') (b')), .val (.pointer (some ⟨p2, 2, none⟩)), .val (fr (c) (d)), .val (fr (c) (d)), .val (.int .i64 (Z)), .val (.bool (decide (0 < Z)))] (by kernel_rfl) (by kernel_rfl) (fun G => by first | (simp only [finAct, Act.put, Plan.value, List.setIfInBounds_toArray, List.set_cons_zero, List.set_cons_succ]; rfl) | (simp only [finAct, Act.put, Plan.value, List.setIfInBounds_toArray, List.set_cons_zero, List.set_cons_succ, Nat.zero_add, Nat.reduceAdd]; rfl)) ?_ ?_
            · refine ⟨?_, ?_, ?_, ?_, ?_, ?_, ?_, ?_, trivial⟩ <;> (first | exact trivial | (intro G; first | (refine ⟨by kernel_rfl, fun u hu => ?_⟩; obtain ⟨hc, hf, hz⟩ := hu.cells; go_simp; first | exact ⟨rfl, Gr.refl _⟩ | skip) | (refine ⟨by kernel_rfl, fun u T z hu hG hj hb => ?_⟩; cases hj; obtain ⟨hbc, hbf, hbz⟩ := blk_cells hb; first | (refine ⟨_, ?_, ((GrL.of_gr (Gr.refl _)).set _ _ (Or.inr (by simp))).set _ _ (Or.inr (by simp)), put_two hb⟩; go_simp; done) | (refine ⟨_, ?_, (GrL.of_gr (Gr.refl _)).set _ _ (Or.inr (by simp)), put_one hb⟩; go_simp; done)) | (refine ⟨by kernel_rfl, fun u => ?_⟩; go_simp; done) | (show _ = false; kernel_rfl)))
              · exact OF.out _ _ _
              · exact OF.out _ _ _
              · exact MC.out _
            intro _ U13 hg _ _
            clear c2 f2 z2 c3 f3 z3 c4 f4 z4 c11 f11 z11
            replace b2 := hg.heap b2
            replace b3 := hg.heap b3
            replace b4 := hg.heap b4
            replace b11 := hg.heap b11
            have G := G.trans hg
            clear hg
            obtain ⟨c2, f2, z2⟩ := blk_cells b2
            obtain ⟨c3, f3, z3⟩ := blk_cells b3
            obtain ⟨c4, f4, z4⟩ := blk_cells b4
            obtain ⟨c11, f11, z11⟩ := blk_cells b11
            go_wp2
            all_goals first | exact bodyPost_ret (v := .tuple #[ru 0 0 0 0, .int .i64 5]) (by simp [results, Tryd.results58, go_sem, *]) rfl ⟨rfl, (by repeat (first | exact Gr.refl _ | assumption | refine Gr.alloc ?_ _ | refine Gr.drew ?_ | refine Gr.drewN ?_ _ | refine Gr.set ?_ _ _ (by first | (simp; done) | (simp; omega)) | refine Gr.trans ?_ (by assumption)))⟩ | (exfalso; have := HZ.out; have := KZ.out; omega)
          · have KZ := Lib.hid kZ
            obtain ⟨c2, f2, z2⟩ := blk_cells b2
            obtain ⟨c3, f3, z3⟩ := blk_cells b3
            obtain ⟨c4, f4, z4⟩ := blk_cells b4
            obtain ⟨c11, f11, z11⟩ := blk_cells b11
            go_upto_region 8 with (fail)
            clear c2 f2 z2 c3 f3 z3 c4 f4 z4 c11 f11 z11
            obtain ⟨c2, f2, z2⟩ := blk_cells b2
            obtain ⟨c3, f3, z3⟩ := blk_cells b3
            obtain ⟨c4, f4, z4⟩ := blk_cells b4
            obtain ⟨c11, f11, z11⟩ := blk_cells b11
            refine wp_region_plan [.val (.pointer (some ⟨p3, 0, none⟩)), .val (fr (a') (b')), .val (fr (a') (b')), .val (.pointer (some ⟨p2, 0, none⟩)), .val (fr (a) (b)), .val (fr (a) (b)), .val (.int .i64 (X)), .val (.bool (decide (0 < X)))] (by kernel_rfl) (by kernel_rfl) (fun G => by first | (simp only [finAct, Act.put, Plan.value, List.setIfInBounds_toArray, List.set_cons_zero, List.set_cons_succ]; rfl) | (simp only [finAct, Act.put, Plan.value, List.setIfInBounds_toArray, List.set_cons_zero, List.set_cons_succ, Nat.zero_add, Nat.reduceAdd]; rfl)) ?_ ?_
            · refine ⟨?_, ?_, ?_, ?_, ?_, ?_, ?_, ?_, trivial⟩ <;> (first | exact trivial | (intro G; first | (refine ⟨by kernel_rfl, fun u hu => ?_⟩; obtain ⟨hc, hf, hz⟩ := hu.cells; go_simp; first | exact ⟨rfl, Gr.refl _⟩ | skip) | (refine ⟨by kernel_rfl, fun u T z hu hG hj hb => ?_⟩; cases hj; obtain ⟨hbc, hbf, hbz⟩ := blk_cells hb; first | (refine ⟨_, ?_, ((GrL.of_gr (Gr.refl _)).set _ _ (Or.inr (by simp))).set _ _ (Or.inr (by simp)), put_two hb⟩; go_simp; done) | (refine ⟨_, ?_, (GrL.of_gr (Gr.refl _)).set _ _ (Or.inr (by simp)), put_one hb⟩; go_simp; done)) | (refine ⟨by kernel_rfl, fun u => ?_⟩; go_simp; done) | (show _ = false; kernel_rfl)))
              · exact OF.out _ _ _
              · exact OF.out _ _ _
              · exact MA.out _
            intro _ U10 hg _ _
            clear c2 f2 z2 c3 f3 z3 c4 f4 z4 c11 f11 z11
            replace b2 := hg.heap b2
            replace b3 := hg.heap b3
            replace b4 := hg.heap b4
            replace b11 := hg.heap b11
            have G := G.trans hg
            clear hg
            obtain ⟨c2, f2, z2⟩ := blk_cells b2
            obtain ⟨c3, f3, z3⟩ := blk_cells b3
            obtain ⟨c4, f4, z4⟩ := blk_cells b4
            obtain ⟨c11, f11, z11⟩ := blk_cells b11
            go_upto_region 10 with (fail)
            clear c2 f2 z2 c3 f3 z3 c4 f4 z4 c11 f11 z11
            replace b2 := put_lo (x := .int .i64 a') (y := .int .i64 b') b2
            replace b3 := keep_at p2 0 1 (.int .i64 a') (.int .i64 b') b3 (by first | assumption | omega)
            replace b4 := keep_at p2 0 1 (.int .i64 a') (.int .i64 b') b4 (by first | assumption | omega)
            replace b11 := keep_at p2 0 1 (.int .i64 a') (.int .i64 b') b11 (by first | assumption | omega)
            replace G := gr_at p2 0 1 (.int .i64 a') (.int .i64 b') G (by omega)
            generalize hW : ((U10.setCell ⟨p2, 0, none⟩ (.int .i64 a')).setCell ⟨p2, 1, none⟩ (.int .i64 b')) = W12 at *
            clear hW
            obtain ⟨c2, f2, z2⟩ := blk_cells b2
            obtain ⟨c3, f3, z3⟩ := blk_cells b3
            obtain ⟨c4, f4, z4⟩ := blk_cells b4
            obtain ⟨c11, f11, z11⟩ := blk_cells b11
            refine wp_region_plan [.val (.pointer (some ⟨p3, 2, none⟩)), .val (fr (c') (d')), .val (fr (c') (d')), .val (.pointer (some ⟨p2, 2, none⟩)), .val (fr (c) (d)), .val (fr (c) (d)), .val (.int .i64 (Y)), .val (.bool (decide (Y < 0)))] (by kernel_rfl) (by kernel_rfl) (fun G => by first | (simp only [finAct, Act.put, Plan.value, List.setIfInBounds_toArray, List.set_cons_zero, List.set_cons_succ]; rfl) | (simp only [finAct, Act.put, Plan.value, List.setIfInBounds_toArray, List.set_cons_zero, List.set_cons_succ, Nat.zero_add, Nat.reduceAdd]; rfl)) ?_ ?_
            · refine ⟨?_, ?_, ?_, ?_, ?_, ?_, ?_, ?_, trivial⟩ <;> (first | exact trivial | (intro G; first | (refine ⟨by kernel_rfl, fun u hu => ?_⟩; obtain ⟨hc, hf, hz⟩ := hu.cells; go_simp; first | exact ⟨rfl, Gr.refl _⟩ | skip) | (refine ⟨by kernel_rfl, fun u T z hu hG hj hb => ?_⟩; cases hj; obtain ⟨hbc, hbf, hbz⟩ := blk_cells hb; first | (refine ⟨_, ?_, ((GrL.of_gr (Gr.refl _)).set _ _ (Or.inr (by simp))).set _ _ (Or.inr (by simp)), put_two hb⟩; go_simp; done) | (refine ⟨_, ?_, (GrL.of_gr (Gr.refl _)).set _ _ (Or.inr (by simp)), put_one hb⟩; go_simp; done)) | (refine ⟨by kernel_rfl, fun u => ?_⟩; go_simp; done) | (show _ = false; kernel_rfl)))
              · exact OF.out _ _ _
              · exact OF.out _ _ _
              · exact MB.out _
            intro _ U12 hg _ _
            clear c2 f2 z2 c3 f3 z3 c4 f4 z4 c11 f11 z11
            replace b2 := hg.heap b2
            replace b3 := hg.heap b3
            replace b4 := hg.heap b4
            replace b11 := hg.heap b11
            have G := G.trans hg
            clear hg
            obtain ⟨c2, f2, z2⟩ := blk_cells b2
            obtain ⟨c3, f3, z3⟩ := blk_cells b3
            obtain ⟨c4, f4, z4⟩ := blk_cells b4
            obtain ⟨c11, f11, z11⟩ := blk_cells b11
            go_upto_region 12 with (fail)
            clear c2 f2 z2 c3 f3 z3 c4 f4 z4 c11 f11 z11
            obtain ⟨c2, f2, z2⟩ := blk_cells b2
            obtain ⟨c3, f3, z3⟩ := blk_cells b3
            obtain ⟨c4, f4, z4⟩ := blk_cells b4
            obtain ⟨c11, f11, z11⟩ := blk_cells b11
            refine wp_region_plan [.val (.pointer (some ⟨p2, 0, none⟩)), .val (fr (a') (b')), .val (fr (a') (b')), .val (.pointer (some ⟨p2, 2, none⟩)), .val (fr (c) (d)), .val (fr (c) (d)), .val (.int .i64 (Z)), .val (.bool (decide (0 < Z)))] (by kernel_rfl) (by kernel_rfl) (fun G => by first | (simp only [finAct, Act.put, Plan.value, List.setIfInBounds_toArray, List.set_cons_zero, List.set_cons_succ]; rfl) | (simp only [finAct, Act.put, Plan.value, List.setIfInBounds_toArray, List.set_cons_zero, List.set_cons_succ, Nat.zero_add, Nat.reduceAdd]; rfl)) ?_ ?_
            · refine ⟨?_, ?_, ?_, ?_, ?_, ?_, ?_, ?_, trivial⟩ <;> (first | exact trivial | (intro G; first | (refine ⟨by kernel_rfl, fun u hu => ?_⟩; obtain ⟨hc, hf, hz⟩ := hu.cells; go_simp; first | exact ⟨rfl, Gr.refl _⟩ | skip) | (refine ⟨by kernel_rfl, fun u T z hu hG hj hb => ?_⟩; cases hj; obtain ⟨hbc, hbf, hbz⟩ := blk_cells hb; first | (refine ⟨_, ?_, ((GrL.of_gr (Gr.refl _)).set _ _ (Or.inr (by simp))).set _ _ (Or.inr (by simp)), put_two hb⟩; go_simp; done) | (refine ⟨_, ?_, (GrL.of_gr (Gr.refl _)).set _ _ (Or.inr (by simp)), put_one hb⟩; go_simp; done)) | (refine ⟨by kernel_rfl, fun u => ?_⟩; go_simp; done) | (show _ = false; kernel_rfl)))
              · exact OF.out _ _ _
              · exact OF.out _ _ _
              · exact MC.out _
            intro _ U13 hg _ _
            clear c2 f2 z2 c3 f3 z3 c4 f4 z4 c11 f11 z11
            replace b2 := hg.heap b2
            replace b3 := hg.heap b3
            replace b4 := hg.heap b4
            replace b11 := hg.heap b11
            have G := G.trans hg
            clear hg
            obtain ⟨c2, f2, z2⟩ := blk_cells b2
            obtain ⟨c3, f3, z3⟩ := blk_cells b3
            obtain ⟨c4, f4, z4⟩ := blk_cells b4
            obtain ⟨c11, f11, z11⟩ := blk_cells b11
            go_wp2
            all_goals first | exact bodyPost_ret (v := .tuple #[ru a' b' c d, .int .i64 0]) (by simp [results, Tryd.results58, go_sem, *]) rfl ⟨rfl, (by repeat (first | exact Gr.refl _ | assumption | refine Gr.alloc ?_ _ | refine Gr.drew ?_ | refine Gr.drewN ?_ _ | refine Gr.set ?_ _ _ (by first | (simp; done) | (simp; omega)) | refine Gr.trans ?_ (by assumption)))⟩ | (exfalso; have := HZ.out; have := KZ.out; omega)
      · have eL : a = L1 ∧ b = L2 := by unfold boL at hL; rw [hX, if_neg kL, Prod.mk.injEq] at hL; exact hL
        obtain ⟨rfl, rfl⟩ := eL
        clear hL
        by_cases kM : Y < 0
        · have eM : c' = M1 ∧ d' = M2 := by unfold boM at hM; rw [hY, if_pos kM, Prod.mk.injEq] at hM; exact hM
          obtain ⟨rfl, rfl⟩ := eM
          clear hM hX hY
          generalize hZ : a*d' - c'*b = Z at *
          have HZ := Lib.hid hZ
          clear hZ
          by_cases kZ : 0 < Z
          · have KZ := Lib.hid kZ
            obtain ⟨c2, f2, z2⟩ := blk_cells b2
            obtain ⟨c3, f3, z3⟩ := blk_cells b3
            obtain ⟨c4, f4, z4⟩ := blk_cells b4
            obtain ⟨c11, f11, z11⟩ := blk_cells b11
            go_upto_region 8 with (fail)
            clear c2 f2 z2 c3 f3 z3 c4 f4 z4 c11 f11 z11
            obtain ⟨c2, f2, z2⟩ := blk_cells b2
            obtain ⟨c3, f3, z3⟩ := blk_cells b3
            obtain ⟨c4, f4, z4⟩ := blk_cells b4
            obtain ⟨c11, f11, z11⟩ := blk_cells b11
            refine wp_region_plan [.val (.pointer (some ⟨p3, 0, none⟩)), .val (fr (a') (b')), .val (fr (a') (b')), .val (.pointer (some ⟨p2, 0, none⟩)), .val (fr (a) (b)), .val (fr (a) (b)), .val (.int .i64 (X)), .val (.bool (decide (0 < X)))] (by kernel_rfl) (by kernel_rfl) (fun G => by first | (simp only [finAct, Act.put, Plan.value, List.setIfInBounds_toArray, List.set_cons_zero, List.set_cons_succ]; rfl) | (simp only [finAct, Act.put, Plan.value, List.setIfInBounds_toArray, List.set_cons_zero, List.set_cons_succ, Nat.zero_add, Nat.reduceAdd]; rfl)) ?_ ?_
            · refine ⟨?_, ?_, ?_, ?_, ?_, ?_, ?_, ?_, trivial⟩ <;> (first | exact trivial | (intro G; first | (refine ⟨by kernel_rfl, fun u hu => ?_⟩; obtain ⟨hc, hf, hz⟩ := hu.cells; go_simp; first | exact ⟨rfl, Gr.refl _⟩ | skip) | (refine ⟨by kernel_rfl, fun u T z hu hG hj hb => ?_⟩; cases hj; obtain ⟨hbc, hbf, hbz⟩ := blk_cells hb; first | (refine ⟨_, ?_, ((GrL.of_gr (Gr.refl _)).set _ _ (Or.inr (by simp))).set _ _ (Or.inr (by simp)), put_two hb⟩; go_simp; done) | (refine ⟨_, ?_, (GrL.of_gr (Gr.refl _)).set _ _ (Or.inr (by simp)), put_one hb⟩; go_simp; done)) | (refine ⟨by kernel_rfl, fun u => ?_⟩; go_simp; done) | (show _ = false; kernel_rfl)))
              · exact OF.out _ _ _
              · exact OF.out _ _ _
              · exact MA.out _
            intro _ U10 hg _ _
            clear c2 f2 z2 c3 f3 z3 c4 f4 z4 c11 f11 z11
            replace b2 := hg.heap b2
            replace b3 := hg.heap b3
            replace b4 := hg.heap b4
            replace b11 := hg.heap b11
            have G := G.trans hg
            clear hg
            obtain ⟨c2, f2, z2⟩ := blk_cells b2
            obtain ⟨c3, f3, z3⟩ := blk_cells b3
            obtain ⟨c4, f4, z4⟩ := blk_cells b4
            obtain ⟨c11, f11, z11⟩ := blk_cells b11
            go_upto_region 10 with (fail)
            clear c2 f2 z2 c3 f3 z3 c4 f4 z4 c11 f11 z11
            obtain ⟨c2, f2, z2⟩ := blk_cells b2
            obtain ⟨c3, f3, z3⟩ := blk_cells b3
            obtain ⟨c4, f4, z4⟩ := blk_cells b4
            obtain ⟨c11, f11, z11⟩ := blk_cells b11
            refine wp_region_plan [.val (.pointer (some ⟨p3, 2, none⟩)), .val (fr (c') (d')), .val (fr (c') (d')), .val (.pointer (some ⟨p2, 2, none⟩)), .val (fr (c) (d)), .val (fr (c) (d)), .val (.int .i64 (Y)), .val (.bool (decide (Y < 0)))] (by kernel_rfl) (by kernel_rfl) (fun G => by first | (simp only [finAct, Act.put, Plan.value, List.setIfInBounds_toArray, List.set_cons_zero, List.set_cons_succ]; rfl) | (simp only [finAct, Act.put, Plan.value, List.setIfInBounds_toArray, List.set_cons_zero, List.set_cons_succ, Nat.zero_add, Nat.reduceAdd]; rfl)) ?_ ?_
            · refine ⟨?_, ?_, ?_, ?_, ?_, ?_, ?_, ?_, trivial⟩ <;> (first | exact trivial | (intro G; first | (refine ⟨by kernel_rfl, fun u hu => ?_⟩; obtain ⟨hc, hf, hz⟩ := hu.cells; go_simp; first | exact ⟨rfl, Gr.refl _⟩ | skip) | (refine ⟨by kernel_rfl, fun u T z hu hG hj hb => ?_⟩; cases hj; obtain ⟨hbc, hbf, hbz⟩ := blk_cells hb; first | (refine ⟨_, ?_, ((GrL.of_gr (Gr.refl _)).set _ _ (Or.inr (by simp))).set _ _ (Or.inr (by simp)), put_two hb⟩; go_simp; done) | (refine ⟨_, ?_, (GrL.of_gr (Gr.refl _)).set _ _ (Or.inr (by simp)), put_one hb⟩; go_simp; done)) | (refine ⟨by kernel_rfl, fun u => ?_⟩; go_simp; done) | (show _ = false; kernel_rfl)))
              · exact OF.out _ _ _
              · exact OF.out _ _ _
              · exact MB.out _
            intro _ U11 hg _ _
            clear c2 f2 z2 c3 f3 z3 c4 f4 z4 c11 f11 z11
            replace b2 := hg.heap b2
            replace b3 := hg.heap b3
            replace b4 := hg.heap b4
            replace b11 := hg.heap b11
            have G := G.trans hg
            clear hg
            obtain ⟨c2, f2, z2⟩ := blk_cells b2
            obtain ⟨c3, f3, z3⟩ := blk_cells b3
            obtain ⟨c4, f4, z4⟩ := blk_cells b4
            obtain ⟨c11, f11, z11⟩ := blk_cells b11
            go_upto_region 12 with (fail)
            clear c2 f2 z2 c3 f3 z3 c4 f4 z4 c11 f11 z11
            replace b2 := put_hi (x := .int .i64 c') (y := .int .i64 d') b2
            replace b3 := keep_at p2 2 3 (.int .i64 c') (.int .i64 d') b3 (by first | assumption | omega)
            replace b4 := keep_at p2 2 3 (.int .i64 c') (.int .i64 d') b4 (by first | assumption | omega)
            replace b11 := keep_at p2 2 3 (.int .i64 c') (.int .i64 d') b11 (by first | assumption | omega)
            replace G := gr_at p2 2 3 (.int .i64 c') (.int .i64 d') G (by omega)
            generalize hW : ((U11.setCell ⟨p2, 2, none⟩ (.int .i64 c')).setCell ⟨p2, 3, none⟩ (.int .i64 d')) = W13 at *
            clear hW
            obtain ⟨c2, f2, z2⟩ := blk_cells b2
            obtain ⟨c3, f3, z3⟩ := blk_cells b3
            obtain ⟨c4, f4, z4⟩ := blk_cells b4
            obtain ⟨c11, f11, z11⟩ := blk_cells b11
            refine wp_region_plan [.val (.pointer (some ⟨p2, 0, none⟩)), .val (fr (a) (b)), .val (fr (a) (b)), .val (.pointer (some ⟨p2, 2, none⟩)), .val (fr (c') (d')), .val (fr (c') (d')), .val (.int .i64 (Z)), .val (.bool (decide (0 < Z)))] (by kernel_rfl) (by kernel_rfl) (fun G => by first | (simp only [finAct, Act.put, Plan.value, List.setIfInBounds_toArray, List.set_cons_zero, List.set_cons_succ]; rfl) | (simp only [finAct, Act.put, Plan.value, List.setIfInBounds_toArray, List.set_cons_zero, List.set_cons_succ, Nat.zero_add, Nat.reduceAdd]; rfl)) ?_ ?_
            · refine ⟨?_, ?_, ?_, ?_, ?_, ?_, ?_, ?_, trivial⟩ <;> (first | exact trivial | (intro G; first | (refine ⟨by kernel_rfl, fun u hu => ?_⟩; obtain ⟨hc, hf, hz⟩ := hu.cells; go_simp; first | exact ⟨rfl, Gr.refl _⟩ | skip) | (refine ⟨by kernel_rfl, fun u T z hu hG hj hb => ?_⟩; cases hj; obtain ⟨hbc, hbf, hbz⟩ := blk_cells hb; first | (refine ⟨_, ?_, ((GrL.of_gr (Gr.refl _)).set _ _ (Or.inr (by simp))).set _ _ (Or.inr (by simp)), put_two hb⟩; go_simp; done) | (refine ⟨_, ?_, (GrL.of_gr (Gr.refl _)).set _ _ (Or.inr (by simp)), put_one hb⟩; go_simp; done)) | (refine ⟨by kernel_rfl, fun u => ?_⟩; go_simp; done) | (show _ = false; kernel_rfl)))
              · exact OF.out _ _ _
              · exact OF.out _ _ _
              · exact MC.out _
            intro _ U13 hg _ _
            clear c2 f2 z2 c3 f3 z3 c4 f4 z4 c11 f11 z11
            replace b2 := hg.heap b2
            replace b3 := hg.heap b3
            replace b4 := hg.heap b4
            replace b11 := hg.heap b11
            have G := G.trans hg
            clear hg
            obtain ⟨c2, f2, z2⟩ := blk_cells b2
            obtain ⟨c3, f3, z3⟩ := blk_cells b3
            obtain ⟨c4, f4, z4⟩ := blk_cells b4
            obtain ⟨c11, f11, z11⟩ := blk_cells b11
            go_wp2
            all_goals first | exact bodyPost_ret (v := .tuple #[ru 0 0 0 0, .int .i64 5]) (by simp [results, Tryd.results58, go_sem, *]) rfl ⟨rfl, (by repeat (first | exact Gr.refl _ | assumption | refine Gr.alloc ?_ _ | refine Gr.drew ?_ | refine Gr.drewN ?_ _ | refine Gr.set ?_ _ _ (by first | (simp; done) | (simp; omega)) | refine Gr.trans ?_ (by assumption)))⟩ | (exfalso; have := HZ.out; have := KZ.out; omega)
          · have KZ := Lib.hid kZ
            obtain ⟨c2, f2, z2⟩ := blk_cells b2
            obtain ⟨c3, f3, z3⟩ := blk_cells b3
            obtain ⟨c4, f4, z4⟩ := blk_cells b4
            obtain ⟨c11, f11, z11⟩ := blk_cells b11
            go_upto_region 8 with (fail)
            clear c2 f2 z2 c3 f3 z3 c4 f4 z4 c11 f11 z11
            obtain ⟨c2, f2, z2⟩ := blk_cells b2
            obtain ⟨c3, f3, z3⟩ := blk_cells b3
            obtain ⟨c4, f4, z4⟩ := blk_cells b4
            obtain ⟨c11, f11, z11⟩ := blk_cells b11
            refine wp_region_plan [.val (.pointer (some ⟨p3, 0, none⟩)), .val (fr (a') (b')), .val (fr (a') (b')), .val (.pointer (some ⟨p2, 0, none⟩)), .val (fr (a) (b)), .val (fr (a) (b)), .val (.int .i64 (X)), .val (.bool (decide (0 < X)))] (by kernel_rfl) (by kernel_rfl) (fun G => by first | (simp only [finAct, Act.put, Plan.value, List.setIfInBounds_toArray, List.set_cons_zero, List.set_cons_succ]; rfl) | (simp only [finAct, Act.put, Plan.value, List.setIfInBounds_toArray, List.set_cons_zero, List.set_cons_succ, Nat.zero_add, Nat.reduceAdd]; rfl)) ?_ ?_
            · refine ⟨?_, ?_, ?_, ?_, ?_, ?_, ?_, ?_, trivial⟩ <;> (first | exact trivial | (intro G; first | (refine ⟨by kernel_rfl, fun u hu => ?_⟩; obtain ⟨hc, hf, hz⟩ := hu.cells; go_simp; first | exact ⟨rfl, Gr.refl _⟩ | skip) | (refine ⟨by kernel_rfl, fun u T z hu hG hj hb => ?_⟩; cases hj; obtain ⟨hbc, hbf, hbz⟩ := blk_cells hb; first | (refine ⟨_, ?_, ((GrL.of_gr (Gr.refl _)).set _ _ (Or.inr (by simp))).set _ _ (Or.inr (by simp)), put_two hb⟩; go_simp; done) | (refine ⟨_, ?_, (GrL.of_gr (Gr.refl _)).set _ _ (Or.inr (by simp)), put_one hb⟩; go_simp; done)) | (refine ⟨by kernel_rfl, fun u => ?_⟩; go_simp; done) | (show _ = false; kernel_rfl)))
              · exact OF.out _ _ _
              · exact OF.out _ _ _
              · exact MA.out _
            intro _ U10 hg _ _
            clear c2 f2 z2 c3 f3 z3 c4 f4 z4 c11 f11 z11
            replace b2 := hg.heap b2
            replace b3 := hg.heap b3
            replace b4 := hg.heap b4
            replace b11 := hg.heap b11
            have G := G.trans hg
            clear hg
            obtain ⟨c2, f2, z2⟩ := blk_cells b2
            obtain ⟨c3, f3, z3⟩ := blk_cells b3
            obtain ⟨c4, f4, z4⟩ := blk_cells b4
            obtain ⟨c11, f11, z11⟩ := blk_cells b11
            go_upto_region 10 with (fail)
            clear c2 f2 z2 c3 f3 z3 c4 f4 z4 c11 f11 z11
            obtain ⟨c2, f2, z2⟩ := blk_cells b2
            obtain ⟨c3, f3, z3⟩ := blk_cells b3
            obtain ⟨c4, f4, z4⟩ := blk_cells b4
            obtain ⟨c11, f11, z11⟩ := blk_cells b11
            refine wp_region_plan [.val (.pointer (some ⟨p3, 2, none⟩)), .val (fr (c') (d')), .val (fr (c') (d')), .val (.pointer (some ⟨p2, 2, none⟩)), .val (fr (c) (d)), .val (fr (c) (d)), .val (.int .i64 (Y)), .val (.bool (decide (Y < 0)))] (by kernel_rfl) (by kernel_rfl) (fun G => by first | (simp only [finAct, Act.put, Plan.value, List.setIfInBounds_toArray, List.set_cons_zero, List.set_cons_succ]; rfl) | (simp only [finAct, Act.put, Plan.value, List.setIfInBounds_toArray, List.set_cons_zero, List.set_cons_succ, Nat.zero_add, Nat.reduceAdd]; rfl)) ?_ ?_
            · refine ⟨?_, ?_, ?_, ?_, ?_, ?_, ?_, ?_, trivial⟩ <;> (first | exact trivial | (intro G; first | (refine ⟨by kernel_rfl, fun u hu => ?_⟩; obtain ⟨hc, hf, hz⟩ := hu.cells; go_simp; first | exact ⟨rfl, Gr.refl _⟩ | skip) | (refine ⟨by kernel_rfl, fun u T z hu hG hj hb => ?_⟩; cases hj; obtain ⟨hbc, hbf, hbz⟩ := blk_cells hb; first | (refine ⟨_, ?_, ((GrL.of_gr (Gr.refl _)).set _ _ (Or.inr (by simp))).set _ _ (Or.inr (by simp)), put_two hb⟩; go_simp; done) | (refine ⟨_, ?_, (GrL.of_gr (Gr.refl _)).set _ _ (Or.inr (by simp)), put_one hb⟩; go_simp; done)) | (refine ⟨by kernel_rfl, fun u => ?_⟩; go_simp; done) | (show _ = false; kernel_rfl)))
              · exact OF.out _ _ _
              · exact OF.out _ _ _
              · exact MB.out _
            intro _ U11 hg _ _
            clear c2 f2 z2 c3 f3 z3 c4 f4 z4 c11 f11 z11
            replace b2 := hg.heap b2
            replace b3 := hg.heap b3
            replace b4 := hg.heap b4
            replace b11 := hg.heap b11
            have G := G.trans hg
            clear hg
            obtain ⟨c2, f2, z2⟩ := blk_cells b2
            obtain ⟨c3, f3, z3⟩ := blk_cells b3
            obtain ⟨c4, f4, z4⟩ := blk_cells b4
            obtain ⟨c11, f11, z11⟩ := blk_cells b11
            go_upto_region 12 with (fail)
            clear c2 f2 z2 c3 f3 z3 c4 f4 z4 c11 f11 z11
            replace b2 := put_hi (x := .int .i64 c') (y := .int .i64 d') b2
            replace b3 := keep_at p2 2 3 (.int .i64 c') (.int .i64 d') b3 (by first | assumption | omega)
            replace b4 := keep_at p2 2 3 (.int .i64 c') (.int .i64 d') b4 (by first | assumption | omega)
            replace b11 := keep_at p2 2 3 (.int .i64 c') (.int .i64 d') b11 (by first | assumption | omega)
            replace G := gr_at p2 2 3 (.int .i64 c') (.int .i64 d') G (by omega)
            generalize hW : ((U11.setCell ⟨p2, 2, none⟩ (.int .i64 c')).setCell ⟨p2, 3, none⟩ (.int .i64 d')) = W13 at *
            clear hW
            obtain ⟨c2, f2, z2⟩ := blk_cells b2
            obtain ⟨c3, f3, z3⟩ := blk_cells b3
            obtain ⟨c4, f4, z4⟩ := blk_cells b4
            obtain ⟨c11, f11, z11⟩ := blk_cells b11
            refine wp_region_plan [.val (.pointer (some ⟨p2, 0, none⟩)), .val (fr (a) (b)), .val (fr (a) (b)), .val (.pointer (some ⟨p2, 2, none⟩)), .val (fr (c') (d')), .val (fr (c') (d')), .val (.int .i64 (Z)), .val (.bool (decide (0 < Z)))] (by kernel_rfl) (by kernel_rfl) (fun G => by first | (simp only [finAct, Act.put, Plan.value, List.setIfInBounds_toArray, List.set_cons_zero, List.set_cons_succ]; rfl) | (simp only [finAct, Act.put, Plan.value, List.setIfInBounds_toArray, List.set_cons_zero, List.set_cons_succ, Nat.zero_add, Nat.reduceAdd]; rfl)) ?_ ?_
            · refine ⟨?_, ?_, ?_, ?_, ?_, ?_, ?_, ?_, trivial⟩ <;> (first | exact trivial | (intro G; first | (refine ⟨by kernel_rfl, fun u hu => ?_⟩; obtain ⟨hc, hf, hz⟩ := hu.cells; go_simp; first | exact ⟨rfl, Gr.refl _⟩ | skip) | (refine ⟨by kernel_rfl, fun u T z hu hG hj hb => ?_⟩; cases hj; obtain ⟨hbc, hbf, hbz⟩ := blk_cells hb; first | (refine ⟨_, ?_, ((GrL.of_gr (Gr.refl _)).set _ _ (Or.inr (by simp))).set _ _ (Or.inr (by simp)), put_two hb⟩; go_simp; done) | (refine ⟨_, ?_, (GrL.of_gr (Gr.refl _)).set _ _ (Or.inr (by simp)), put_one hb⟩; go_simp; done)) | (refine ⟨by kernel_rfl, fun u => ?_⟩; go_simp; done) | (show _ = false; kernel_rfl)))
              · exact OF.out _ _ _
              · exact OF.out _ _ _
              · exact MC.out _
            intro _ U13 hg _ _
            clear c2 f2 z2 c3 f3 z3 c4 f4 z4 c11 f11 z11
            replace b2 := hg.heap b2
            replace b3 := hg.heap b3
            replace b4 := hg.heap b4
            replace b11 := hg.heap b11
            have G := G.trans hg
            clear hg
            obtain ⟨c2, f2, z2⟩ := blk_cells b2
            obtain ⟨c3, f3, z3⟩ := blk_cells b3
            obtain ⟨c4, f4, z4⟩ := blk_cells b4
            obtain ⟨c11, f11, z11⟩ := blk_cells b11
            go_wp2
            all_goals first | exact bodyPost_ret (v := .tuple #[ru a b c' d', .int .i64 0]) (by simp [results, Tryd.results58, go_sem, *]) rfl ⟨rfl, (by repeat (first | exact Gr.refl _ | assumption | refine Gr.alloc ?_ _ | refine Gr.drew ?_ | refine Gr.drewN ?_ _ | refine Gr.set ?_ _ _ (by first | (simp; done) | (simp; omega)) | refine Gr.trans ?_ (by assumption)))⟩ | (exfalso; have := HZ.out; have := KZ.out; omega)
        · have eM : c = M1 ∧ d = M2 := by unfold boM at hM; rw [hY, if_neg kM, Prod.mk.injEq] at hM; exact hM
          obtain ⟨rfl, rfl⟩ := eM
          clear hM hX hY
          generalize hZ : a*d - c*b = Z at *
          have HZ := Lib.hid hZ
          clear hZ
          by_cases kZ : 0 < Z
          · have KZ := Lib.hid kZ
            obtain ⟨c2, f2, z2⟩ := blk_cells b2
            obtain ⟨c3, f3, z3⟩ := blk_cells b3
            obtain ⟨c4, f4, z4⟩ := blk_cells b4
            obtain ⟨c11, f11, z11⟩ := blk_cells b11
            go_upto_region 8 with (fail)
            clear c2 f2 z2 c3 f3 z3 c4 f4 z4 c11 f11 z11
            obtain ⟨c2, f2, z2⟩ := blk_cells b2
            obtain ⟨c3, f3, z3⟩ := blk_cells b3
            obtain ⟨c4, f4, z4⟩ := blk_cells b4
            obtain ⟨c11, f11, z11⟩ := blk_cells b11
            refine wp_region_plan [.val (.pointer (some ⟨p3, 0, none⟩)), .val (fr (a') (b')), .val (fr (a') (b')), .val (.pointer (some ⟨p2, 0, none⟩)), .val (fr (a) (b)), .val (fr (a) (b)), .val (.int .i64 (X)), .val (.bool (decide (0 < X)))] (by kernel_rfl) (by kernel_rfl) (fun G => by first | (simp only [finAct, Act.put, Plan.value, List.setIfInBounds_toArray, List.set_cons_zero, List.set_cons_succ]; rfl) | (simp only [finAct, Act.put, Plan.value, List.setIfInBounds_toArray, List.set_cons_zero, List.set_cons_succ, Nat.zero_add, Nat.reduceAdd]; rfl)) ?_ ?_
            · refine ⟨?_, ?_, ?_, ?_, ?_, ?_, ?_, ?_, trivial⟩ <;> (first | exact trivial | (intro G; first | (refine ⟨by kernel_rfl, fun u hu => ?_⟩; obtain ⟨hc, hf, hz⟩ := hu.cells; go_simp; first | exact ⟨rfl, Gr.refl _⟩ | skip) | (refine ⟨by kernel_rfl, fun u T z hu hG hj hb => ?_⟩; cases hj; obtain ⟨hbc, hbf, hbz⟩ := blk_cells hb; first | (refine ⟨_, ?_, ((GrL.of_gr (Gr.refl _)).set _ _ (Or.inr (by simp))).set _ _ (Or.inr (by simp)), put_two hb⟩; go_simp; done) | (refine ⟨_, ?_, (GrL.of_gr (Gr.refl _)).set _ _ (Or.inr (by simp)), put_one hb⟩; go_simp; done)) | (refine ⟨by kernel_rfl, fun u => ?_⟩; go_simp; done) | (show _ = false; kernel_rfl)))
              · exact OF.out _ _ _
              · exact OF.out _ _ _
              · exact MA.out _
            intro _ U10 hg _ _
            clear c2 f2 z2 c3 f3 z3 c4 f4 z4 c11 f11 z11
            replace b2 := hg.heap b2
            replace b3 := hg.heap b3
            replace b4 := hg.heap b4
            replace b11 := hg.heap b11
            have G := G.trans hg
            clear hg
            obtain ⟨c2, f2, z2⟩ := blk_cells b2
            obtain ⟨c3, f3, z3⟩ := blk_cells b3
            obtain ⟨c4, f4, z4⟩ := blk_cells b4
            obtain ⟨c11, f11, z11⟩ := blk_cells b11
            go_upto_region 10 with (fail)
            clear c2 f2 z2 c3 f3 z3 c4 f4 z4 c11 f11 z11
            obtain ⟨c2, f2, z2⟩ := blk_cells b2
            obtain ⟨c3, f3, z3⟩ := blk_cells b3
            obtain ⟨c4, f4, z4⟩ := blk_cells b4
            obtain ⟨c11, f11, z11⟩ := blk_cells b11
            refine wp_region_plan [.val (.pointer (some ⟨p3, 2, none⟩)), .val (fr (c') (d')), .val (fr (c') (d')), .val (.pointer (some ⟨p2, 2, none⟩)), .val (fr (c) (d)), .val (fr (c) (d)), .val (.int .i64 (Y)), .val (.bool (decide (Y < 0)))] (by kernel_rfl) (by kernel_rfl) (fun G => by first | (simp only [finAct, Act.put, Plan.value, List.setIfInBounds_toArray, List.set_cons_zero, List.set_cons_succ]; rfl) | (simp only [finAct, Act.put, Plan.value, List.setIfInBounds_toArray, List.set_cons_zero, List.set_cons_succ, Nat.zero_add, Nat.reduceAdd]; rfl)) ?_ ?_
            · refine ⟨?_, ?_, ?_, ?_, ?_, ?_, ?_, ?_, trivial⟩ <;> (first | exact trivial | (intro G; first | (refine ⟨by kernel_rfl, fun u hu => ?_⟩; obtain ⟨hc, hf, hz⟩ := hu.cells; go_simp; first | exact ⟨rfl, Gr.refl _⟩ | skip) | (refine ⟨by kernel_rfl, fun u T z hu hG hj hb => ?_⟩; cases hj; obtain ⟨hbc, hbf, hbz⟩ := blk_cells hb; first | (refine ⟨_, ?_, ((GrL.of_gr (Gr.refl _)).set _ _ (Or.inr (by simp))).set _ _ (Or.inr (by simp)), put_two hb⟩; go_simp; done) | (refine ⟨_, ?_, (GrL.of_gr (Gr.refl _)).set _ _ (Or.inr (by simp)), put_one hb⟩; go_simp; done)) | (refine ⟨by kernel_rfl, fun u => ?_⟩; go_simp; done) | (show _ = false; kernel_rfl)))
              · exact OF.out _ _ _
              · exact OF.out _ _ _
              · exact MB.out _
            intro _ U11 hg _ _
            clear c2 f2 z2 c3 f3 z3 c4 f4 z4 c11 f11 z11
            replace b2 := hg.heap b2
            replace b3 := hg.heap b3
            replace b4 := hg.heap b4
            replace b11 := hg.heap b11
            have G := G.trans hg
            clear hg
            obtain ⟨c2, f2, z2⟩ := blk_cells b2
            obtain ⟨c3, f3, z3⟩ := blk_cells b3
            obtain ⟨c4, f4, z4⟩ := blk_cells b4
            obtain ⟨c11, f11, z11⟩ := blk_cells b11
            go_upto_region 12 with (fail)
            clear c2 f2 z2 c3 f3 z3 c4 f4 z4 c11 f11 z11
            obtain ⟨c2, f2, z2⟩ := blk_cells b2
            obtain ⟨c3, f3, z3⟩ := blk_cells b3
            obtain ⟨c4, f4, z4⟩ := blk_cells b4
            obtain ⟨c11, f11, z11⟩ := blk_cells b11
            refine wp_region_plan [.val (.pointer (some ⟨p2, 0, none⟩)), .val (fr (a) (b)), .val (fr (a) (b)), .val (.pointer (some ⟨p2, 2, none⟩)), .val (fr (c) (d)), .val (fr (c) (d)), .val (.int .i64 (Z)), .val (.bool (decide (0 < Z)))] (by kernel_rfl) (by kernel_rfl) (fun G => by first | (simp only [finAct, Act.put, Plan.value, List.setIfInBounds_toArray, List.set_cons_zero, List.set_cons_succ]; rfl) | (simp only [finAct, Act.put, Plan.value, List.setIfInBounds_toArray, List.set_cons_zero, List.set_cons_succ, Nat.zero_add, Nat.reduceAdd]; rfl)) ?_ ?_
            · refine ⟨?_, ?_, ?_, ?_, ?_, ?_, ?_, ?_, trivial⟩ <;> (first | exact trivial | (intro G; first | (refine ⟨by kernel_rfl, fun u hu => ?_⟩; obtain ⟨hc, hf, hz⟩ := hu.cells; go_simp; first | exact ⟨rfl, Gr.refl _⟩ | skip) | (refine ⟨by kernel_rfl, fun u T z hu hG hj hb => ?_⟩; cases hj; obtain ⟨hbc, hbf, hbz⟩ := blk_cells hb; first | (refine ⟨_, ?_, ((GrL.of_gr (Gr.refl _)).set _ _ (Or.inr (by simp))).set _ _ (Or.inr (by simp)), put_two hb⟩; go_simp; done) | (refine ⟨_, ?_, (GrL.of_gr (Gr.refl _)).set _ _ (Or.inr (by simp)), put_one hb⟩; go_simp; done)) | (refine ⟨by kernel_rfl, fun u => ?_⟩; go_simp; done) | (show _ = false; kernel_rfl)))
              · exact OF.out _ _ _
              · exact OF.out _ _ _
              · exact MC.out _
            intro _ U12 hg _ _
            clear c2 f2 z2 c3 f3 z3 c4 f4 z4 c11 f11 z11
            replace b2 := hg.heap b2
            replace b3 := hg.heap b3
            replace b4 := hg.heap b4
            replace b11 := hg.heap b11
            have G := G.trans hg
            clear hg
            obtain ⟨c2, f2, z2⟩ := blk_cells b2
            obtain ⟨c3, f3, z3⟩ := blk_cells b3
            obtain ⟨c4, f4, z4⟩ := blk_cells b4
            obtain ⟨c11, f11, z11⟩ := blk_cells b11
            go_wp2
            all_goals first | exact bodyPost_ret (v := .tuple #[ru 0 0 0 0, .int .i64 5]) (by simp [results, Tryd.results58, go_sem, *]) rfl ⟨rfl, (by repeat (first | exact Gr.refl _ | assumption | refine Gr.alloc ?_ _ | refine Gr.drew ?_ | refine Gr.drewN ?_ _ | refine Gr.set ?_ _ _ (by first | (simp; done) | (simp; omega)) | refine Gr.trans ?_ (by assumption)))⟩ | (exfalso; have := HZ.out; have := KZ.out; omega)
          · have KZ := Lib.hid kZ
            obtain ⟨c2, f2, z2⟩ := blk_cells b2
            obtain ⟨c3, f3, z3⟩ := blk_cells b3
            obtain ⟨c4, f4, z4⟩ := blk_cells b4
            obtain ⟨c11, f11, z11⟩ := blk_cells b11
            go_upto_region 8 with (fail)
            clear c2 f2 z2 c3 f3 z3 c4 f4 z4 c11 f11 z11
            obtain ⟨c2, f2, z2⟩ := blk_cells b2
            obtain ⟨c3, f3, z3⟩ := blk_cells b3
            obtain ⟨c4, f4, z4⟩ := blk_cells b4
            obtain ⟨c11, f11, z11⟩ := blk_cells b11
            refine wp_region_plan [.val (.pointer (some ⟨p3, 0, none⟩)), .val (fr (a') (b')), .val (fr (a') (b')), .val (.pointer (some ⟨p2, 0, none⟩)), .val (fr (a) (b)), .val (fr (a) (b)), .val (.int .i64 (X)), .val (.bool (decide (0 < X)))] (by kernel_rfl) (by kernel_rfl) (fun G => by first | (simp only [finAct, Act.put, Plan.value, List.setIfInBounds_toArray, List.set_cons_zero, List.set_cons_succ]; rfl) | (simp only [finAct, Act.put, Plan.value, List.setIfInBounds_toArray, List.set_cons_zero, List.set_cons_succ, Nat.zero_add, Nat.reduceAdd]; rfl)) ?_ ?_
            · refine ⟨?_, ?_, ?_, ?_, ?_, ?_, ?_, ?_, trivial⟩ <;> (first | exact trivial | (intro G; first | (refine ⟨by kernel_rfl, fun u hu => ?_⟩; obtain ⟨hc, hf, hz⟩ := hu.cells; go_simp; first | exact ⟨rfl, Gr.refl _⟩ | skip) | (refine ⟨by kernel_rfl, fun u T z hu hG hj hb => ?_⟩; cases hj; obtain ⟨hbc, hbf, hbz⟩ := blk_cells hb; first | (refine ⟨_, ?_, ((GrL.of_gr (Gr.refl _)).set _ _ (Or.inr (by simp))).set _ _ (Or.inr (by simp)), put_two hb⟩; go_simp; done) | (refine ⟨_, ?_, (GrL.of_gr (Gr.refl _)).set _ _ (Or.inr (by simp)), put_one hb⟩; go_simp; done)) | (refine ⟨by kernel_rfl, fun u => ?_⟩; go_simp; done) | (show _ = false; kernel_rfl)))
              · exact OF.out _ _ _
              · exact OF.out _ _ _
              · exact MA.out _
            intro _ U10 hg _ _
            clear c2 f2 z2 c3 f3 z3 c4 f4 z4 c11 f11 z11
            replace b2 := hg.heap b2
            replace b3 := hg.heap b3
            replace b4 := hg.heap b4
            replace b11 := hg.heap b11
            have G := G.trans hg
            clear hg
            obtain ⟨c2, f2, z2⟩ := blk_cells b2
            obtain ⟨c3, f3, z3⟩ := blk_cells b3
            obtain ⟨c4, f4, z4⟩ := blk_cells b4
            obtain ⟨c11, f11, z11⟩ := blk_cells b11
            go_upto_region 10 with (fail)
            clear c2 f2 z2 c3 f3 z3 c4 f4 z4 c11 f11 z11
            obtain ⟨c2, f2, z2⟩ := blk_cells b2
            obtain ⟨c3, f3, z3⟩ := blk_cells b3
            obtain ⟨c4, f4, z4⟩ := blk_cells b4
            obtain ⟨c11, f11, z11⟩ := blk_cells b11
            refine wp_region_plan [.val (.pointer (some ⟨p3, 2, none⟩)), .val (fr (c') (d')), .val (fr (c') (d')), .val (.pointer (some ⟨p2, 2, none⟩)), .val (fr (c) (d)), .val (fr (c) (d)), .val (.int .i64 (Y)), .val (.bool (decide (Y < 0)))] (by kernel_rfl) (by kernel_rfl) (fun G => by first | (simp only [finAct, Act.put, Plan.value, List.setIfInBounds_toArray, List.set_cons_zero, List.set_cons_succ]; rfl) | (simp only [finAct, Act.put, Plan.value, List.setIfInBounds_toArray, List.set_cons_zero, List.set_cons_succ, Nat.zero_add, Nat.reduceAdd]; rfl)) ?_ ?_
            · refine ⟨?_, ?_, ?_, ?_, ?_, ?_, ?_, ?_, trivial⟩ <;> (first | exact trivial | (intro G; first | (refine ⟨by kernel_rfl, fun u hu => ?_⟩; obtain ⟨hc, hf, hz⟩ := hu.cells; go_simp; first | exact ⟨rfl, Gr.refl _⟩ | skip) | (refine ⟨by kernel_rfl, fun u T z hu hG hj hb => ?_⟩; cases hj; obtain ⟨hbc, hbf, hbz⟩ := blk_cells hb; first | (refine ⟨_, ?_, ((GrL.of_gr (Gr.refl _)).set _ _ (Or.inr (by simp))).set _ _ (Or.inr (by simp)), put_two hb⟩; go_simp; done) | (refine ⟨_, ?_, (GrL.of_gr (Gr.refl _)).set _ _ (Or.inr (by simp)), put_one hb⟩; go_simp; done)) | (refine ⟨by kernel_rfl, fun u => ?_⟩; go_simp; done) | (show _ = false; kernel_rfl)))
              · exact OF.out _ _ _
              · exact OF.out _ _ _
              · exact MB.out _
            intro _ U11 hg _ _
            clear c2 f2 z2 c3 f3 z3 c4 f4 z4 c11 f11 z11
            replace b2 := hg.heap b2
            replace b3 := hg.heap b3
            replace b4 := hg.heap b4
            replace b11 := hg.heap b11
            have G := G.trans hg
            clear hg
            obtain ⟨c2, f2, z2⟩ := blk_cells b2
            obtain ⟨c3, f3, z3⟩ := blk_cells b3
            obtain ⟨c4, f4, z4⟩ := blk_cells b4
            obtain ⟨c11, f11, z11⟩ := blk_cells b11
            go_upto_region 12 with (fail)
            clear c2 f2 z2 c3 f3 z3 c4 f4 z4 c11 f11 z11
            obtain ⟨c2, f2, z2⟩ := blk_cells b2
            obtain ⟨c3, f3, z3⟩ := blk_cells b3
            obtain ⟨c4, f4, z4⟩ := blk_cells b4
            obtain ⟨c11, f11, z11⟩ := blk_cells b11
            refine wp_region_plan [.val (.pointer (some ⟨p2, 0, none⟩)), .val (fr (a) (b)), .val (fr (a) (b)), .val (.pointer (some ⟨p2, 2, none⟩)), .val (fr (c) (d)), .val (fr (c) (d)), .val (.int .i64 (Z)), .val (.bool (decide (0 < Z)))] (by kernel_rfl) (by kernel_rfl) (fun G => by first | (simp only [finAct, Act.put, Plan.value, List.setIfInBounds_toArray, List.set_cons_zero, List.set_cons_succ]; rfl) | (simp only [finAct, Act.put, Plan.value, List.setIfInBounds_toArray, List.set_cons_zero, List.set_cons_succ, Nat.zero_add, Nat.reduceAdd]; rfl)) ?_ ?_
            · refine ⟨?_, ?_, ?_, ?_, ?_, ?_, ?_, ?_, trivial⟩ <;> (first | exact trivial | (intro G; first | (refine ⟨by kernel_rfl, fun u hu => ?_⟩; obtain ⟨hc, hf, hz⟩ := hu.cells; go_simp; first | exact ⟨rfl, Gr.refl _⟩ | skip) | (refine ⟨by kernel_rfl, fun u T z hu hG hj hb => ?_⟩; cases hj; obtain ⟨hbc, hbf, hbz⟩ := blk_cells hb; first | (refine ⟨_, ?_, ((GrL.of_gr (Gr.refl _)).set _ _ (Or.inr (by simp))).set _ _ (Or.inr (by simp)), put_two hb⟩; go_simp; done) | (refine ⟨_, ?_, (GrL.of_gr (Gr.refl _)).set _ _ (Or.inr (by simp)), put_one hb⟩; go_simp; done)) | (refine ⟨by kernel_rfl, fun u => ?_⟩; go_simp; done) | (show _ = false; kernel_rfl)))
              · exact OF.out _ _ _
              · exact OF.out _ _ _
              · exact MC.out _
            intro _ U12 hg _ _
            clear c2 f2 z2 c3 f3 z3 c4 f4 z4 c11 f11 z11
            replace b2 := hg.heap b2
            replace b3 := hg.heap b3
            replace b4 := hg.heap b4
            replace b11 := hg.heap b11
            have G := G.trans hg
            clear hg
            obtain ⟨c2, f2, z2⟩ := blk_cells b2
            obtain ⟨c3, f3, z3⟩ := blk_cells b3
            obtain ⟨c4, f4, z4⟩ := blk_cells b4
            obtain ⟨c11, f11, z11⟩ := blk_cells b11
            go_wp2
            all_goals first | exact bodyPost_ret (v := .tuple #[ru a b c d, .int .i64 0]) (by simp [results, Tryd.results58, go_sem, *]) rfl ⟨rfl, (by repeat (first | exact Gr.refl _ | assumption | refine Gr.alloc ?_ _ | refine Gr.drew ?_ | refine Gr.drewN ?_ _ | refine Gr.set ?_ _ _ (by first | (simp; done) | (simp; omega)) | refine Gr.trans ?_ (by assumption)))⟩ | (exfalso; have := HZ.out; have := KZ.out; omega)
theorem Both_any (a b c d a' b' c' d' : Int) (w : World) :
    Calls Tryd.prog 58 #[ru a b c d, ru a' b' c' d'] w fun e w' => e = .returned (.tuple #[ru (boV a b c d a' b' c' d' (boL a b a' b').1) (boV a b c d a' b' c' d' (boL a b a' b').2) (boV a b c d a' b' c' d' (boM c d c' d').1) (boV a b c d a' b' c' d' (boM c d c' d').2), .int .i64 (boE a b c d a' b' c' d')]) ∧ Gr w w' := by
  cases h : (ruOk a b c d && ruOk a' b' c' d')
  · have e1 : boE a b c d a' b' c' d' = 1 := by simp only [boE, h]; rfl
    have e2 : ∀ x, boV a b c d a' b' c' d' x = 0 := fun x => by simp [boV, e1]
    rw [e1, e2, e2, e2, e2]
    exact Both_bad a b c d a' b' c' d' w h
  · have h' := h
    rw [Bool.and_eq_true] at h'
    have R1 := RuB.of h'.1
    have R2 := RuB.of h'.2
    have a1 := R1.a0; have a2 := R1.ab; have a3 := R1.b1; have a4 := R1.b2; have a5 := R1.c0; have a6 := R1.cd; have a7 := R1.d1; have a8 := R1.d2
    have c1 := R2.a0; have c2 := R2.ab; have c3 := R2.b1; have c4 := R2.b2; have c5 := R2.c0; have c6 := R2.cd; have c7 := R2.d1; have c8 := R2.d2
    have u1 := cross_bd c1 (show a' ≤ 1000 by omega) c3 c4 a1 (show a ≤ 1000 by omega) a3 a4
    have u2 := cross_bd c5 (show c' ≤ 1000 by omega) c7 c8 a5 (show c ≤ 1000 by omega) a7 a8
    obtain ⟨L1, L2, hL⟩ : ∃ L1 L2, boL a b a' b' = (L1, L2) := ⟨_, _, rfl⟩
    obtain ⟨M1, M2, hM⟩ : ∃ M1 M2, boM c d c' d' = (M1, M2) := ⟨_, _, rfl⟩
    have u3 : -1000000 ≤ L1*M2 ∧ L1*M2 ≤ 1000000 ∧ -1000000 ≤ M1*L2 ∧ M1*L2 ≤ 1000000 := by
      unfold boL at hL
      unfold boM at hM
      split at hL <;> split at hM <;> simp only [Prod.mk.injEq] at hL hM <;> obtain ⟨rfl, rfl⟩ := hL <;> obtain ⟨rfl, rfl⟩ := hM <;> exact cross_bd (by omega) (by omega) (by omega) (by omega) (by omega) (by omega) (by omega) (by omega)
    have eX : boX a b c d a' b' c' d' = L1*M2 - M1*L2 := by unfold boX; rw [hL, hM]
    rw [hL, hM]
    have e1 : boE a b c d a' b' c' d' = if 0 < L1*M2 - M1*L2 then 5 else 0 := by simp only [boE, h, eX, if_true]
    have e2 : ∀ x, boV a b c d a' b' c' d' x = if 0 < L1*M2 - M1*L2 then 0 else x := fun x => by
      unfold boV; rw [e1]; split <;> simp_all
    simp only [e2]
    rw [e1]
    exact Both_go a b c d a' b' c' d' L1 L2 M1 M2 w h'.1 h'.2 hL hM u1 u2 u3
end Go.Proofs.YtconhikflghkdaaDoor
