/- A range over an iterator that keeps blocks of its own: the law for the caller. -/
import Derived.Test.YtconhikflghkdaaGreatDoorIter
namespace Go.Proofs.YtconhikflghkdaaGreatDoor
open Go.RowKit Go.Shelf
theorem GrL.putObj (W : World) (l : Nat) (o : Obj) : GrL [l] W (W.putObj l o) :=
  ⟨rfl, rfl, rfl, by simp, fun k _ hk => World.putObj_heap_other (by simpa using hk), trivial⟩
theorem GrL.heap {bs : List Nat} {W W' : World} (g : GrL bs W W') {k : Nat} {o : Obj} (h : W.heap[k]? = some o) (hk : k ∉ bs) : W'.heap[k]? = some o := (g.block k (heap_lt h) hk).trans h
/-- what the body of a round changes: cells, none of the iterator's own -/
def Kept (own : List Nat) (W W' : World) : Prop := ∃ bs, GrL bs W W' ∧ ∀ b ∈ bs, b ∉ own ∧ ∃ c T f, W.heap[b]? = some (.cells c T f)
/-- how a round's body may be left -/
def bodyEnd {α : Type} (I : List α → World → Prop) (Ix : Code → World → Prop) (own : List Nat) (xs : List α) (W : World) : Exit → Act → World → Prop
  | .normal, _, W' => Kept own W W' ∧ I xs W'
  | .ret, _, W' => Kept own W W' ∧ Ix .ret W'
  | .exit id, _, W' => Kept own W W' ∧ Ix (.exit id) W'
  | .goto t, _, W' => Kept own W W' ∧ Ix (.goto t) W'
  | _, _, _ => False
/-- the contract of an iterator that keeps the blocks 'own' for itself, from the world w on -/
def Iter {α : Type} (P : Program) (gf : Nat) (lb : Array Value) (own : List Nat) (encs : α → Array Value) (xs : List α) (w : World) : Prop :=
  ∀ (n l : Nat) (J : List α → World → Prop) (Jx : World → Prop) (W : World), Gr w W → (∀ pre W W', J pre W → GrL own W W' → J pre W') →
    (∀ m pre x W, J pre W → (∀ b ∈ own, b < W.heap.size) → (pre ++ [x]) <+: xs → YieldAt Fence.wide m P l (encs x) W (RoundEnd (J (pre ++ [x])) Jx (fun _ _ => False) (fun W' => ∀ b ∈ own, W'.heap[b]? = W.heap[b]?))) →
    J [] W → CallsIn Fence.wide n P gf (#[.func (.yield l) #[] #[]] ++ lb) W (IterEnd (J xs) Jx (fun _ _ => False))
theorem loopOk {w W : World} {own : List Nat} (h : ∃ r, W.heap[w.heap.size + 1]? = some (.loop r)) : ∀ b ∈ [w.heap.size + 1], b ∈ own ∨ (w.heap.size ≤ b ∧ ∃ r, W.heap[b]? = some (.loop r)) := fun b hb => by
  obtain rfl : b = w.heap.size + 1 := by simpa using hb
  exact .inr ⟨by omega, h⟩
theorem range_law {P : Program} {α : Type} {g : Operand} {ps : Array Tmp} {assign body : Code} {Q : Exit → Act → World → Prop} {a : Act} {w : World} {n gf : Nat} {lb : Array Value}
    (hg : a.eval g = .func (.func gf) #[] lb) (eg : ∀ args w, (callFunc gf args).run P w = .ok (.enter gf args) w) (own : List Nat) (encs : α → Array Value) (xs : List α)
    (hown : ∀ b ∈ own, b < w.heap.size) (hit : Iter P gf lb own encs xs w) (hps : ∀ x, (encs x).size = ps.size)
    (I : List α → World → Prop) (Ix : Code → World → Prop)
    (hI : ∀ pre W W' (bs : List Nat), I pre W → GrL bs W W' → (∀ b ∈ bs, b ∈ own ∨ (w.heap.size ≤ b ∧ ∃ r, W.heap[b]? = some (.loop r))) → I pre W')
    (hIx : ∀ c W W' (bs : List Nat), Ix c W → GrL bs W W' → (∀ b ∈ bs, b ∈ own ∨ (w.heap.size ≤ b ∧ ∃ r, W.heap[b]? = some (.loop r))) → Ix c W')
    (h0 : I [] w) (A : α → Act → World → Prop) (hA : ∀ x a1 W W' l o, A x a1 W → W.heap[l]? = some (.loop o) → GrL [l] W W' → A x a1 W')
    (hassign : ∀ m l pre x W (K : Act → World → Prop), I pre W → (∀ a1 W1, Gr W W1 → A x a1 W1 → K a1 W1) →
      assign.wpIn (Fence.wide.inRound l) m P (Exit.then K (fun _ _ _ => False)) { tmps := (ps.zip (encs x)).foldl (fun t (p, v) => t.setIfInBounds p v) a.tmps, defers := [] } W)
    (hbody : ∀ m l pre x a1 W, I pre W → (pre ++ [x]) <+: xs → A x a1 W → body.wpIn (Fence.wide.inRound l) m P (bodyEnd I Ix own (pre ++ [x]) W) a1 W)
    (hdone : ∀ D W, w.heap.size ≤ D → I xs W → W.heap[D]? = some (.deferred (some [])) → Q .normal { a with defers := { target := .collected D, args := #[] } :: a.defers } W)
    (hstop : ∀ D c W, w.heap.size ≤ D → Ix c W → W.heap[D]? = some (.deferred (some [])) → c.wpIn Fence.wide n P Q { a with defers := { target := .collected D, args := #[] } :: a.defers } W) :
    (Code.rangeFunc g ps assign body).wpIn Fence.wide n P Q a w := by
  refine wpIn_rangeFunc fun fn _ => ?_
  have hroom : ∀ k, Fence.wide.depth.isSome = true → 1 ≤ k := fun k h => absurd h (by simp [Fence.wide])
  obtain ⟨rec, hrec⟩ : ∃ rec : LoopState → Option Code → Loop, rec = fun st pe => { state := st, pending := pe, fn, tmps := a.tmps, params := ps, assign, body, defers := w.heap.size } := ⟨_, rfl⟩
  obtain ⟨W1, hW1⟩ : ∃ W1, (w.alloc (.deferred (some []))).alloc (.loop (rec .ready none)) = W1 := ⟨_, rfl⟩
  have g1 : Gr w W1 := by rw [← hW1]; exact ((Gr.refl w).alloc _).alloc _
  have hL1 : W1.heap[w.heap.size + 1]? = some (.loop (rec .ready none)) := by
    rw [← hW1]
    have := heap_alloc_self (w.alloc (.deferred (some []))) (.loop (rec .ready none))
    rwa [World.size_alloc] at this
  have hD1 : W1.heap[w.heap.size]? = some (.deferred (some [])) := by
    rw [← hW1]; exact Gr.heap ((Gr.refl _).alloc _) (heap_alloc_self w _)
  have nown : ∀ b ∈ own, b ≠ w.heap.size ∧ b ≠ w.heap.size + 1 := fun b hb => by have := hown b hb; omega
  refine ⟨w.heap.size + 1, [{ target := .collected w.heap.size, args := #[] }], W1, { target := .fn (.func gf) lb, args := #[.func (.yield (w.heap.size + 1)) #[] #[]] }, W1, gf,
    #[.func (.yield (w.heap.size + 1)) #[] #[]] ++ lb, W1, ?_, ?_, fun _ _ => trivial, ?_, hroom n, ?_⟩
  · rw [← hW1, hrec]; exact run_enterLoop_outer _ _ _ _ _
  · simp only [resolve, hg]
    simp [go_sem]
  · simp [invoke, go_sem, eg]
  · refine (hit (n-1) (w.heap.size + 1) (fun pre W => I pre W ∧ W.heap[w.heap.size + 1]? = some (.loop (rec .ready none)) ∧ W.heap[w.heap.size]? = some (.deferred (some [])))
      (fun W => ∃ c, Ix c W ∧ W.heap[w.heap.size + 1]? = some (.loop (rec .done (some c))) ∧ W.heap[w.heap.size]? = some (.deferred (some []))) W1 g1 ?_ ?_ ⟨hI _ _ _ [] h0 (GrL.of_gr g1) (by simp), hL1, hD1⟩).mono ?_
    · rintro pre W W' ⟨hi, hl, hd⟩ g
      exact ⟨hI _ _ _ own hi g (fun b hb => .inl hb), g.heap hl (fun h => (nown _ h).2 rfl), g.heap hd (fun h => (nown _ h).1 rfl)⟩
    · rintro m pre x W ⟨hi, hl, hd⟩ hob hpre
      have hy := run_yield (P := P) (args := encs x) hl (by rw [hrec]; exact hps x)
      rw [hrec] at hy
      refine ⟨fn, _, assign, body, hy, roundIn_of_wpIn trivial (hassign m _ pre x W _ hi fun a1 Wa ga ha => ?_)⟩
      have hla := ga.heap hl
      have hda := ga.heap hd
      refine ⟨_, run_beginRound hla (by rw [hrec]), ?_⟩
      have g2 := GrL.putObj Wa (w.heap.size + 1) (.loop { rec .ready none with state := .busy })
      have hl2 : (Wa.putObj (w.heap.size + 1) (.loop { rec .ready none with state := .busy })).heap[w.heap.size + 1]? = some (.loop { rec .ready none with state := .busy }) := World.putObj_heap_same (heap_lt hla)
      have hd2 := g2.heap hda (by simp)
      have hi2 : I pre (Wa.putObj (w.heap.size + 1) (.loop { rec .ready none with state := .busy })) :=
        hI _ _ _ _ (hI _ _ _ [] hi (GrL.of_gr ga) (by simp)) g2 (loopOk ⟨_, hla⟩)
      have ha2 := hA x a1 _ _ _ _ ha hla g2
      generalize Wa.putObj (w.heap.size + 1) (.loop { rec .ready none with state := .busy }) = W2 at *
      refine wpIn_mono (hbody m _ pre x a1 W2 hi2 hpre ha2) ?_
      have fin : ∀ (jump : Option Code) (W3 : World), Kept own W2 W3 →
          ∃ W4, (Instr.endRound (w.heap.size + 1) jump).run P W3 = .ok (.bool jump.isNone) W4 ∧ GrL [w.heap.size + 1] W3 W4 ∧ (∃ r, W3.heap[w.heap.size + 1]? = some (.loop r)) ∧ W4.heap[w.heap.size + 1]? = some (.loop (rec (if jump.isNone then .ready else .done) jump)) ∧ W4.heap[w.heap.size]? = some (.deferred (some [])) ∧
            (∀ b ∈ own, W4.heap[b]? = W.heap[b]?) := fun jump W3 ⟨bs, g3, hbs⟩ => by
        have hl3 := g3.heap hl2 (fun h => by obtain ⟨_, c, T, f, hc⟩ := hbs _ h; simp_all)
        have hd3 := g3.heap hd2 (fun h => by obtain ⟨_, c, T, f, hc⟩ := hbs _ h; simp_all)
        have g4 := GrL.putObj W3 (w.heap.size + 1) (.loop { ({ rec .ready none with state := .busy } : Loop) with state := if jump.isNone then .ready else .done, pending := jump })
        refine ⟨_, run_endRound jump hl3, g4, ⟨_, hl3⟩, ?_, g4.heap hd3 (by simp), ?_⟩
        · rw [World.putObj_heap_same (heap_lt hl3), hrec]
        · intro b hb
          have b1 := hob b hb
          have b2 : b < Wa.heap.size := Nat.lt_of_lt_of_le b1 ga.b.size
          have b3 : b < W2.heap.size := Nat.lt_of_lt_of_le b2 g2.size
          have b4 : b < W3.heap.size := Nat.lt_of_lt_of_le b3 g3.size
          rw [g4.block b b4 (by have := nown b hb; simp; omega), g3.block b b3 (fun h => (hbs b h).1 hb), g2.block b b2 (by have := nown b hb; simp; omega), ga.b.block b b1]
      rintro e a3 W3 hp
      cases e with
      | normal =>
        obtain ⟨g3, hi3⟩ := hp
        obtain ⟨W4, hr, g4, hlp, hl4, hd4, ho4⟩ := fin none W3 g3
        exact ⟨_, _, hr, .inl ⟨rfl, ⟨hI _ _ _ _ hi3 g4 (loopOk hlp), hl4, hd4⟩, ho4⟩⟩
      | ret =>
        obtain ⟨g3, hi3⟩ := hp
        obtain ⟨W4, hr, g4, hlp, hl4, hd4, ho4⟩ := fin (some .ret) W3 g3
        exact ⟨_, _, hr, .inr (.inl ⟨rfl, ⟨.ret, hIx _ _ _ _ hi3 g4 (loopOk hlp), hl4, hd4⟩, ho4⟩)⟩
      | exit id =>
        obtain ⟨g3, hi3⟩ := hp
        obtain ⟨W4, hr, g4, hlp, hl4, hd4, ho4⟩ := fin (some (.exit id)) W3 g3
        exact ⟨_, _, hr, .inr (.inl ⟨rfl, ⟨.exit id, hIx _ _ _ _ hi3 g4 (loopOk hlp), hl4, hd4⟩, ho4⟩)⟩
      | goto t =>
        obtain ⟨g3, hi3⟩ := hp
        obtain ⟨W4, hr, g4, hlp, hl4, hd4, ho4⟩ := fin (some (.goto t)) W3 g3
        exact ⟨_, _, hr, .inr (.inl ⟨rfl, ⟨.goto t, hIx _ _ _ _ hi3 g4 (loopOk hlp), hl4, hd4⟩, ho4⟩)⟩
      | panic ch => exact hp.elim
      | outgrown => exact hp.elim
    · rintro e W2 (⟨rfl, (⟨hi, hl, hd⟩ | ⟨c, hi, hl, hd⟩)⟩ | ⟨ch, rfl, hf⟩)
      · have g := GrL.putObj W2 (w.heap.size + 1) (.loop { rec .ready none with state := .exhausted })
        refine ⟨none, _, ?_, hdone _ _ (Nat.le_refl _) (hI _ _ _ _ hi g (loopOk ⟨_, hl⟩)) (g.heap hd (by simp))⟩
        have := run_endLoop (P := P) hl (by rw [hrec]; simp)
        rw [hrec] at this ⊢
        exact this
      · have g := GrL.putObj W2 (w.heap.size + 1) (.loop { rec .done (some c) with state := .exhausted })
        refine ⟨some c, _, ?_, hstop _ c _ (Nat.le_refl _) (hIx _ _ _ _ hi g (loopOk ⟨_, hl⟩)) (g.heap hd (by simp))⟩
        have := run_endLoop (P := P) hl (by rw [hrec]; simp)
        rw [hrec] at this ⊢
        exact this
      · exact hf.elim
/-- terms$1 keeps the block of x for itself -/
theorem terms_iter (B : Nat) (T : TypeId) (a0 b0 : Int) (w : World) (hB : w.heap[B]? = some (.cells #[.int .i64 a0, .int .i64 b0] T (0, 0))) (x1 : -1000000000 ≤ a0) (x2 : a0 ≤ 1000000000) (x3 : 1 ≤ b0) (x4 : b0 ≤ 1000000) :
    Iter Tryz.prog 67 #[.pointer (some ⟨B, 0, none⟩)] [B] (fun x : Int => #[.int .i64 x]) (Rm.tm a0 b0) w := fun n l J Jx W g hJ hY h0 => by
  refine terms1_in n l B T a0 b0 J Jx (fun _ _ => False) hJ ?_ W (g.heap hB) h0 x1 x2 x3 x4
  intro m pre x W' hj hb hpre
  obtain ⟨fn, tmps, assign, body, hy, hR⟩ := hY m pre x W' hj (by simpa using hb) hpre
  exact ⟨fn, tmps, assign, body, hy, hR.mono fun e w' h => h.imp (fun ⟨h1, h2, h3⟩ => ⟨h1, h2, h3 B (by simp)⟩) (fun h => h.imp (fun ⟨h1, h2, h3⟩ => ⟨h1, h2, h3 B (by simp)⟩) id)⟩
end Go.Proofs.YtconhikflghkdaaGreatDoor
