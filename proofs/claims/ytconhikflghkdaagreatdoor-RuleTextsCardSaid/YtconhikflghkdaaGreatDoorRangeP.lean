/- A range over an iterator that makes blocks of its own when it begins: the law for the caller. -/
import Derived.Test.YtconhikflghkdaaGreatDoorRange
namespace Go.Proofs.YtconhikflghkdaaGreatDoor
open Go.RowKit Go.Shelf
/-- the contract of an iterator that keeps the blocks 'own' for itself, and others (pv) that it makes when it begins -/
def IterP {α : Type} (P : Program) (gf : Nat) (lb : Array Value) (own : List Nat) (encs : α → Array Value) (xs : List α) (w : World) : Prop :=
  ∀ (n l : Nat) (J : List Nat → List α → World → Prop) (Jx : World → Prop) (W : World), Gr w W → (∀ pv pre W W', J pv pre W → GrL (own ++ pv) W W' → J pv pre W') →
    (∀ W1 W2 b, Jx W1 → W.heap.size ≤ b → (∃ o : Obj, W1.heap[b]? = some o ∧ o.isCells = false) → GrL [b] W1 W2 → Jx W2) →
    (∀ m pv pre x W, J pv pre W → (∀ b ∈ own ++ pv, b < W.heap.size) → (pre ++ [x]) <+: xs → YieldAt Fence.wide m P l (encs x) W (RoundEnd (J pv (pre ++ [x])) Jx (fun _ _ => False) (fun W' => ∀ b ∈ own ++ pv, W'.heap[b]? = W.heap[b]?))) →
    (∀ pv W1, Gr W W1 → (∀ b ∈ pv, W.heap.size ≤ b ∧ b < W1.heap.size) → J pv [] W1) → CallsIn Fence.wide n P gf (#[.func (.yield l) #[] #[]] ++ lb) W (IterEnd (fun W' => ∃ pv, J pv xs W') Jx (fun _ _ => False))
theorem Iter.p {α : Type} {P : Program} {gf : Nat} {lb : Array Value} {own : List Nat} {encs : α → Array Value} {xs : List α} {w : World} (h : Iter P gf lb own encs xs w) : IterP P gf lb own encs xs w := fun n l J Jx W g hJ _ hY h0 => by
  refine (h n l (J []) Jx W g (fun pre W W' hj gl => hJ [] pre W W' hj (by simpa using gl)) (fun m pre x W hj hb hp => ?_) (h0 [] W (Gr.refl _) (by simp))).mono ?_
  · have := hY m [] pre x W hj (by simpa using hb) hp
    simpa using this
  · rintro e w' (⟨h1, h2⟩ | h2)
    · exact .inl ⟨h1, h2.imp (fun h => ⟨[], h⟩) id⟩
    · exact .inr h2
theorem loopOkP {w W : World} {own : List Nat} (h : ∃ r, W.heap[w.heap.size + 1]? = some (.loop r)) : ∀ b ∈ [w.heap.size + 1], b ∈ own ∨ (b = w.heap.size + 1 ∧ ∃ r, W.heap[b]? = some (.loop r)) := fun b hb => by
  obtain rfl : b = w.heap.size + 1 := by simpa using hb
  exact .inr ⟨rfl, h⟩
theorem notCells {W : World} {b : Nat} (h : ∃ r, W.heap[b]? = some (.loop r)) : ∃ o : Obj, W.heap[b]? = some o ∧ o.isCells = false := by
  obtain ⟨r, h⟩ := h
  exact ⟨_, h, rfl⟩
/-- the blocks that a round leaves alone -/
def Left (bs : List Nat) (W W' : World) : Prop := ∀ b ∈ bs, W'.heap[b]? = W.heap[b]?
/-- how a round's body may be left -/
def bodyEndP {α : Type} (I : List α → World → Prop) (Ix : Code → World → Prop) (bs : List Nat) (xs : List α) (W : World) : Exit → Act → World → Prop
  | .normal, _, W' => Left bs W W' ∧ I xs W'
  | .ret, _, W' => Left bs W W' ∧ Ix .ret W'
  | .exit id, _, W' => Left bs W W' ∧ Ix (.exit id) W'
  | .goto t, _, W' => Left bs W W' ∧ Ix (.goto t) W'
  | _, _, _ => False
theorem range_lawP {P : Program} {α : Type} {g : Operand} {ps : Array Tmp} {assign body : Code} {Q : Exit → Act → World → Prop} {a : Act} {w : World} {n gf : Nat} {lb : Array Value}
    (hg : a.eval g = .func (.func gf) #[] lb) (eg : ∀ args w, (callFunc gf args).run P w = .ok (.enter gf args) w) (own : List Nat) (encs : α → Array Value) (xs : List α)
    (hown : ∀ b ∈ own, b < w.heap.size) (hit : IterP P gf lb own encs xs w) (hps : ∀ x, (encs x).size = ps.size)
    (I : List Nat → List α → World → Prop) (Ix : Code → World → Prop)
    (hI : ∀ pv pre W W' (bs : List Nat), I pv pre W → GrL bs W W' → (∀ b ∈ bs, b ∈ own ++ pv ∨ (b = w.heap.size + 1 ∧ ∃ r, W.heap[b]? = some (.loop r))) → I pv pre W')
    (hIx : ∀ c W W' b, Ix c W → w.heap.size ≤ b → (∃ o : Obj, W.heap[b]? = some o ∧ o.isCells = false) → GrL [b] W W' → Ix c W')
    (h0 : ∀ pv W1, Gr w W1 → w.heap.size + 2 ≤ W1.heap.size → (∀ b ∈ pv, w.heap.size + 2 ≤ b ∧ b < W1.heap.size) → I pv [] W1) (A : α → Act → World → Prop) (hA : ∀ x a1 W W' l o, A x a1 W → W.heap[l]? = some (.loop o) → GrL [l] W W' → A x a1 W')
    (hassign : ∀ m l pv pre x W (K : Act → World → Prop), I pv pre W → (∀ a1 W1, Gr W W1 → A x a1 W1 → K a1 W1) →
      assign.wpIn (Fence.wide.inRound l) m P (Exit.then K (fun _ _ _ => False)) { tmps := (ps.zip (encs x)).foldl (fun t (p, v) => t.setIfInBounds p v) a.tmps, defers := [] } W)
    (hbody : ∀ m l pv pre x a1 W, I pv pre W → (pre ++ [x]) <+: xs → A x a1 W → body.wpIn (Fence.wide.inRound l) m P (bodyEndP (I pv) Ix (w.heap.size :: (w.heap.size + 1) :: (own ++ pv)) (pre ++ [x]) W) a1 W)
    (hdone : ∀ D pv W, D = w.heap.size → I pv xs W → W.heap[D]? = some (.deferred (some [])) → Q .normal { a with defers := { target := .collected D, args := #[] } :: a.defers } W)
    (hstop : ∀ D c W, D = w.heap.size → Ix c W → W.heap[D]? = some (.deferred (some [])) → c.wpIn Fence.wide n P Q { a with defers := { target := .collected D, args := #[] } :: a.defers } W) :
    (Code.rangeFunc g ps assign body).wpIn Fence.wide n P Q a w := by
  refine wpIn_rangeFunc fun fn _ => ?_
  have hroom : ∀ k, Fence.wide.depth.isSome = true → 1 ≤ k := fun k h => absurd h (by simp [Fence.wide])
  obtain ⟨rec, hrec⟩ : ∃ rec : LoopState → Option Code → Loop, rec = fun st pe => { state := st, pending := pe, fn, tmps := a.tmps, params := ps, assign, body, defers := w.heap.size } := ⟨_, rfl⟩
  obtain ⟨W1, hW1⟩ : ∃ W1, (w.alloc (.deferred (some []))).alloc (.loop (rec .ready none)) = W1 := ⟨_, rfl⟩
  have g1 : Gr w W1 := by rw [← hW1]; exact ((Gr.refl w).alloc _).alloc _
  have hL1 : W1.heap[w.heap.size + 1]? = some (.loop (rec .ready none)) := by
    rw [← hW1]
    have := heap_alloc_self (w.alloc (.deferred (some []))) (.loop (rec .ready none))
    rwa [World.size_alloc] at this
  have hD1 : W1.heap[w.heap.size]? = some (.deferred (some [])) := by
    rw [← hW1]; exact Gr.heap ((Gr.refl _).alloc _) (heap_alloc_self w _)
  have nown : ∀ b ∈ own, b ≠ w.heap.size ∧ b ≠ w.heap.size + 1 := fun b hb => by have := hown b hb; omega
  have z1 : W1.heap.size = w.heap.size + 2 := by rw [← hW1]; simp
  refine ⟨w.heap.size + 1, [{ target := .collected w.heap.size, args := #[] }], W1, { target := .fn (.func gf) lb, args := #[.func (.yield (w.heap.size + 1)) #[] #[]] }, W1, gf,
    #[.func (.yield (w.heap.size + 1)) #[] #[]] ++ lb, W1, ?_, ?_, fun _ _ => trivial, ?_, hroom n, ?_⟩
  · rw [← hW1, hrec]; exact run_enterLoop_outer _ _ _ _ _
  · simp only [resolve, hg]
    simp [go_sem]
  · simp [invoke, go_sem, eg]
  · refine (hit (n-1) (w.heap.size + 1) (fun pv pre W => I pv pre W ∧ (∀ b ∈ pv, w.heap.size + 2 ≤ b) ∧ W.heap[w.heap.size + 1]? = some (.loop (rec .ready none)) ∧ W.heap[w.heap.size]? = some (.deferred (some [])))
      (fun W => ∃ c, Ix c W ∧ W.heap[w.heap.size + 1]? = some (.loop (rec .done (some c))) ∧ W.heap[w.heap.size]? = some (.deferred (some []))) W1 g1 ?_ ?_ ?_ (fun pv Wv gv hpv => ⟨h0 pv Wv (g1.trans gv) (by have := gv.b.size; omega) (fun b hb => by have := hpv b hb; omega), fun b hb => by have := hpv b hb; omega, gv.heap hL1, gv.heap hD1⟩)).mono ?_
    · rintro pv pre W W' ⟨hi, hp, hl, hd⟩ g
      exact ⟨hI _ _ _ _ (own ++ pv) hi g (fun b hb => .inl hb), hp, g.heap hl (fun h => by rcases List.mem_append.1 h with h | h; exact (nown _ h).2 rfl; have := hp _ h; omega), g.heap hd (fun h => by rcases List.mem_append.1 h with h | h; exact (nown _ h).1 rfl; have := hp _ h; omega)⟩
    · rintro Wa Wb b ⟨c, hi, hl, hd⟩ hb ho g
      exact ⟨c, hIx _ _ _ _ hi (by omega) ho g, g.heap hl (by simp; omega), g.heap hd (by simp; omega)⟩
    · rintro m pv pre x W ⟨hi, hp, hl, hd⟩ hob hpre
      have nown' : ∀ b ∈ own ++ pv, b ≠ w.heap.size ∧ b ≠ w.heap.size + 1 := fun b hb => by
        rcases List.mem_append.1 hb with h | h
        · exact nown b h
        · have := hp b h; omega
      have hy := run_yield (P := P) (args := encs x) hl (by rw [hrec]; exact hps x)
      rw [hrec] at hy
      refine ⟨fn, _, assign, body, hy, roundIn_of_wpIn trivial (hassign m _ pv pre x W _ hi fun a1 Wa ga ha => ?_)⟩
      have hla := ga.heap hl
      have hda := ga.heap hd
      refine ⟨_, run_beginRound hla (by rw [hrec]), ?_⟩
      have g2 := GrL.putObj Wa (w.heap.size + 1) (.loop { rec .ready none with state := .busy })
      have hl2 : (Wa.putObj (w.heap.size + 1) (.loop { rec .ready none with state := .busy })).heap[w.heap.size + 1]? = some (.loop { rec .ready none with state := .busy }) := World.putObj_heap_same (heap_lt hla)
      have hd2 := g2.heap hda (by simp)
      have hi2 : I pv pre (Wa.putObj (w.heap.size + 1) (.loop { rec .ready none with state := .busy })) :=
        hI _ _ _ _ _ (hI _ _ _ _ [] hi (GrL.of_gr ga) (by simp)) g2 (loopOkP ⟨_, hla⟩)
      have ha2 := hA x a1 _ _ _ _ ha hla g2
      generalize Wa.putObj (w.heap.size + 1) (.loop { rec .ready none with state := .busy }) = W2 at *
      refine wpIn_mono (hbody m _ pv pre x a1 W2 hi2 hpre ha2) ?_
      have fin : ∀ (jump : Option Code) (W3 : World), Left (w.heap.size :: (w.heap.size + 1) :: (own ++ pv)) W2 W3 →
          ∃ W4, (Instr.endRound (w.heap.size + 1) jump).run P W3 = .ok (.bool jump.isNone) W4 ∧ GrL [w.heap.size + 1] W3 W4 ∧ (∃ r, W3.heap[w.heap.size + 1]? = some (.loop r)) ∧ W4.heap[w.heap.size + 1]? = some (.loop (rec (if jump.isNone then .ready else .done) jump)) ∧ W4.heap[w.heap.size]? = some (.deferred (some [])) ∧
            (∀ b ∈ own ++ pv, W4.heap[b]? = W.heap[b]?) := fun jump W3 g3 => by
        have hl3 := (g3 (w.heap.size + 1) (by simp)).trans hl2
        have hd3 := (g3 w.heap.size (by simp)).trans hd2
        have g4 := GrL.putObj W3 (w.heap.size + 1) (.loop { ({ rec .ready none with state := .busy } : Loop) with state := if jump.isNone then .ready else .done, pending := jump })
        refine ⟨_, run_endRound jump hl3, g4, ⟨_, hl3⟩, ?_, g4.heap hd3 (by simp), ?_⟩
        · rw [World.putObj_heap_same (heap_lt hl3), hrec]
        · intro b hb
          have b1 := hob b hb
          have b2 : b < Wa.heap.size := Nat.lt_of_lt_of_le b1 ga.b.size
          have b3 : b < W2.heap.size := Nat.lt_of_lt_of_le b2 g2.size
          have e3 : W3.heap[b]? = W2.heap[b]? := g3 b (by simp only [List.mem_cons]; exact .inr (.inr hb))
          have b4 : b < W3.heap.size := by
            rw [Array.getElem?_eq_getElem b3] at e3
            exact (Array.getElem?_eq_some_iff.1 e3).1
          rw [g4.block b b4 (by have := nown' b hb; simp; omega), e3, g2.block b b2 (by have := nown' b hb; simp; omega), ga.b.block b b1]
      rintro e a3 W3 hpp
      cases e with
      | normal =>
        obtain ⟨g3, hi3⟩ := hpp
        obtain ⟨W4, hr, g4, hlp, hl4, hd4, ho4⟩ := fin none W3 g3
        exact ⟨_, _, hr, .inl ⟨rfl, ⟨hI _ _ _ _ _ hi3 g4 (loopOkP hlp), hp, hl4, hd4⟩, ho4⟩⟩
      | ret =>
        obtain ⟨g3, hi3⟩ := hpp
        obtain ⟨W4, hr, g4, hlp, hl4, hd4, ho4⟩ := fin (some .ret) W3 g3
        exact ⟨_, _, hr, .inr (.inl ⟨rfl, ⟨.ret, hIx _ _ _ _ hi3 (by omega) (notCells hlp) g4, hl4, hd4⟩, ho4⟩)⟩
      | exit id =>
        obtain ⟨g3, hi3⟩ := hpp
        obtain ⟨W4, hr, g4, hlp, hl4, hd4, ho4⟩ := fin (some (.exit id)) W3 g3
        exact ⟨_, _, hr, .inr (.inl ⟨rfl, ⟨.exit id, hIx _ _ _ _ hi3 (by omega) (notCells hlp) g4, hl4, hd4⟩, ho4⟩)⟩
      | goto t =>
        obtain ⟨g3, hi3⟩ := hpp
        obtain ⟨W4, hr, g4, hlp, hl4, hd4, ho4⟩ := fin (some (.goto t)) W3 g3
        exact ⟨_, _, hr, .inr (.inl ⟨rfl, ⟨.goto t, hIx _ _ _ _ hi3 (by omega) (notCells hlp) g4, hl4, hd4⟩, ho4⟩)⟩
      | panic ch => exact hpp.elim
      | outgrown => exact hpp.elim
    · rintro e W2 (⟨rfl, (⟨pv, hi, _, hl, hd⟩ | ⟨c, hi, hl, hd⟩)⟩ | ⟨ch, rfl, hf⟩)
      · have g := GrL.putObj W2 (w.heap.size + 1) (.loop { rec .ready none with state := .exhausted })
        refine ⟨none, _, ?_, hdone _ pv _ rfl (hI _ _ _ _ _ hi g (loopOkP ⟨_, hl⟩)) (g.heap hd (by simp))⟩
        have := run_endLoop (P := P) hl (by rw [hrec]; simp)
        rw [hrec] at this ⊢
        exact this
      · have g := GrL.putObj W2 (w.heap.size + 1) (.loop { rec .done (some c) with state := .exhausted })
        refine ⟨some c, _, ?_, hstop _ c _ rfl (hIx _ _ _ _ hi (by omega) (notCells ⟨_, hl⟩) g) (g.heap hd (by simp))⟩
        have := run_endLoop (P := P) hl (by rw [hrec]; simp)
        rw [hrec] at this ⊢
        exact this
      · exact hf.elim
end Go.Proofs.YtconhikflghkdaaGreatDoor
