/- A range over an iterator whose rounds may give up: the laws for the caller. -/
import Derived.Test.YtconhikflghkdaaDoorRangeP
namespace Go.Proofs.YtconhikflghkdaaDoor
open Go.RowKit Go.Shelf
section
variable {n : Nat} {P : Program}
/-- what is asked at a round's end; a round may give up -/
def roundPostQ (P : Program) (l : Nat) (R : Ending → World → Prop) : Exit → Act → World → Prop
  | .panic ch, a, w => a.defers = [] ∧ R (.panicked ch) w
  | e, a, w => roundPost P l R e a w
theorem roundIn_q {l : Nat} {f : FuncId} {fn : Func} {tmps : Array Value} {assign body : Code} {w : World} {R : Ending → World → Prop} (hf : P.funcs[f]? = some fn)
    (h : assign.wpIn (Fence.wide.inRound l) n P (Exit.then (fun a₁ w₁ => ∃ w₂, (Instr.beginRound l).run P w₁ = .ok () w₂ ∧ body.wpIn (Fence.wide.inRound l) n P (roundPostQ P l R) a₁ w₂) (fun _ _ _ => False)) { tmps := tmps, defers := [] } w) :
    RoundIn Fence.wide n P l f tmps assign body w R := by
  refine ⟨trivial, fun c cs hr => ?_⟩
  let b : Frame := { (default : Frame) with fn := f, kind := .normal, roundOf := some l }
  have hb0 : Frame.round l f tmps assign body .normal = b.atR { tmps := tmps, defers := [] } [.code assign, .beginRound, .code body] := by
    simp [Frame.round, Frame.atR, b]
  have hr' : (Fence.wide.inRound l).room ((c :: cs).length + 1 + n) := hr
  have hF' : (Fence.wide.inRound l).fn b.fn := trivial
  obtain ⟨e, a₁, w₁, hq, harr⟩ := h b [.beginRound, .code body] (c :: cs) rfl hF' hr'
  rw [← hb0] at harr
  cases e with
  | normal =>
    obtain ⟨w₂, hbr, hbody⟩ := hq
    have s1 : StepsIn (Machine.fenced P Fence.wide) P (lone (b.atR a₁ [.beginRound, .code body]) (c :: cs) w₁) (lone (b.atR a₁ [.code body]) (c :: cs) w₂) :=
      .one (fenced_calm (fr := b.atR a₁ [.beginRound, .code body]) hF' hr' rfl) (stepR_beginRound rfl hbr)
    obtain ⟨e₂, a₂, w₃, hq₂, harr₂⟩ := hbody b [] (c :: cs) rfl hF' hr'
    have s2 := StepsIn.trans harr s1
    cases e₂ with
    | normal =>
      obtain ⟨v, w₄, hend, hR⟩ := hq₂
      exact ⟨.returned v, w₄, hR, s2.trans (StepsIn.trans harr₂ (.one (fenced_calm (fr := b.atR a₂ []) hF' hr' rfl) (stepR_round_end rfl rfl hend)))⟩
    | ret =>
      obtain ⟨v, w₄, hend, hR⟩ := hq₂
      obtain ⟨k₁, hs⟩ := harr₂.2 rfl
      exact ⟨.returned v, w₄, hR, s2.trans (StepsIn.trans hs (.one (fenced_calm (fr := b.atR a₂ (.code .ret :: k₁)) hF' hr' rfl) (stepR_round_ret rfl rfl hend)))⟩
    | exit id =>
      obtain ⟨v, w₄, hend, hR⟩ := hq₂
      obtain ⟨k₁, hk, hs⟩ := harr₂.2 rfl rfl
      exact ⟨.returned v, w₄, hR, s2.trans (StepsIn.trans hs (.one (fenced_calm (fr := b.atR a₂ (.code (.exit id) :: k₁)) hF' hr' rfl) (stepR_round_exit rfl rfl hk hend)))⟩
    | goto t =>
      obtain ⟨v, w₄, hend, hR⟩ := hq₂
      obtain ⟨k₁, hk, hs⟩ := harr₂.2 rfl rfl
      exact ⟨.returned v, w₄, hR, s2.trans (StepsIn.trans hs (.one (fenced_calm (fr := b.atR a₂ (.code (.goto t) :: k₁)) hF' hr' rfl) (stepR_round_goto rfl rfl hk hend)))⟩
    | panic chain =>
      obtain ⟨hd, hR⟩ := hq₂
      obtain ⟨todo, hs⟩ := harr₂
      have hl : Frame.leaving P { b.atR a₂ todo with mode := .panicking chain } w₃ (.panicked chain) := ⟨rfl, hd, fn, hf⟩
      exact ⟨.panicked chain, w₃, hR, s2.trans (StepsIn.trans hs (.one (fenced_leaving hF' hr' hl) (step_leave_panicked hl)))⟩
    | outgrown => exact hq₂.elim
  | exit id => exact hq.elim
  | goto t => exact hq.elim
  | ret => exact hq.elim
  | panic chain => exact hq.elim
  | outgrown => exact hq.elim
/-- a walk in an activation of one function -/
def wpG (f : FuncId) (_n : Nat) (P : Program) (c : Code) (Q : Exit → Act → World → Prop) (a : Act) (w : World) : Prop :=
  ∀ (b : Frame) (k : List Item) (cs : List Frame), b.fn = f → b.roundOf = none →
    ∃ e a' w', Q e a' w' ∧ ArrivesIn (Machine.fenced P Fence.wide) P (lone (b.atR a (.code c :: k)) cs w) b k cs e a' w'
theorem wpG.of {f : FuncId} {c : Code} {Q : Exit → Act → World → Prop} {a : Act} {w : World} (h : c.wpIn Fence.wide n P Q a w) : wpG f n P c Q a w :=
  fun b k cs _ hr => h b k cs hr trivial (room_wide _)
theorem wpG.seq {f : FuncId} {x y : Code} {Q : Exit → Act → World → Prop} {a : Act} {w : World} (h : wpG f n P x (Exit.then (wpG f n P y Q) Q) a w) : wpG f n P (.seq x y) Q a w := by
  intro b k cs hb hro
  have h0 : (lone (b.atR a (.code (.seq x y) :: k)) cs w).fenced P Fence.wide := fenced_calm trivial (room_wide (cs.length + 1 + n)) rfl
  obtain ⟨e, a₁, w₁, hq, harr⟩ := h b (.code y :: k) cs hb hro
  cases e with
  | normal =>
    obtain ⟨e₂, a₂, w₂, hq₂, harr₂⟩ := hq b k cs hb hro
    exact ⟨e₂, a₂, w₂, hq₂, .of_steps (.head h0 stepR_seq harr) harr₂⟩
  | exit id => exact ⟨_, a₁, w₁, hq, .of_steps (.one h0 stepR_seq) (.pass (x := .code y) rfl (fun _ _ => .inl (by simp)) harr)⟩
  | goto l => exact ⟨_, a₁, w₁, hq, .of_steps (.one h0 stepR_seq) (.pass (x := .code y) rfl (fun _ _ => .inl (by simp)) harr)⟩
  | ret => exact ⟨_, a₁, w₁, hq, .of_steps (.one h0 stepR_seq) (.pass (x := .code y) rfl (fun _ _ => .inl (by simp)) harr)⟩
  | panic ch => exact ⟨_, a₁, w₁, hq, .of_steps (.one h0 stepR_seq) (.pass (x := .code y) rfl (fun _ _ => .inl (by simp)) harr)⟩
  | outgrown => exact ⟨_, a₁, w₁, hq, .of_steps (.one h0 stepR_seq) (.pass (x := .code y) rfl (fun _ _ => .inl (by simp)) harr)⟩
theorem wpG.block {f : FuncId} {id : Nat} {c : Code} {Q : Exit → Act → World → Prop} {a : Act} {w : World} (h : wpG f n P c (Exit.inBlock id Q) a w) : wpG f n P (.block id c) Q a w := by
  intro b k cs hb hro
  have h0 : (lone (b.atR a (.code (.block id c) :: k)) cs w).fenced P Fence.wide := fenced_calm trivial (room_wide (cs.length + 1 + n)) rfl
  obtain ⟨e, a₁, w₁, hq, harr⟩ := h b (.inBlock id :: k) cs hb hro
  cases e with
  | normal => exact ⟨.normal, a₁, w₁, hq, .head h0 stepR_block (StepsIn.trans harr (.one (fenced_calm trivial (room_wide (cs.length + 1 + n)) rfl) stepR_inBlock))⟩
  | exit id' =>
    by_cases hid : id' = id
    · simp only [Exit.inBlock, hid, if_true] at hq
      exact ⟨.normal, a₁, w₁, hq, .head h0 stepR_block (harr.1 k (by simp [exitTo, hid]))⟩
    · simp only [Exit.inBlock, hid, if_false] at hq
      have this : (id == id') = false := by simp; exact fun h => hid h.symm
      have hx : exitTo id' (.inBlock id :: k) = exitTo id' k := by simp [exitTo, this]
      exact ⟨.exit id', a₁, w₁, hq, fun k' hk => .head h0 stepR_block (harr.1 k' (by rw [hx]; exact hk)),
        fun hr' hk => let ⟨k₁, h1, h2⟩ := harr.2 hr' (by rw [hx]; exact hk); ⟨k₁, h1, .head h0 stepR_block h2⟩⟩
  | goto l =>
    have hx : gotoIn l (.inBlock id :: k) = gotoIn l k := by simp [gotoIn]
    exact ⟨_, a₁, w₁, hq, fun k' hk => .head h0 stepR_block (harr.1 k' (by rw [hx]; exact hk)),
      fun hr' hk => let ⟨k₁, h1, h2⟩ := harr.2 hr' (by rw [hx]; exact hk); ⟨k₁, h1, .head h0 stepR_block h2⟩⟩
  | ret => exact ⟨_, a₁, w₁, hq, .of_steps (.one h0 stepR_block) harr⟩
  | panic ch => exact ⟨_, a₁, w₁, hq, .of_steps (.one h0 stepR_block) harr⟩
  | outgrown => exact ⟨_, a₁, w₁, hq, .of_steps (.one h0 stepR_block) harr⟩
theorem wpG.rangeFunc {f : FuncId} {g : Operand} {ps : Array Tmp} {assign body : Code} {Q : Exit → Act → World → Prop} {a : Act} {w : World}
    (h : ∃ (l : Nat) (mark : List Deferred) (w₁ : World) (d : Deferred) (w₁' : World) (f' : FuncId) (args : Array Value) (w₂ : World),
      (Instr.enterLoop f a.tmps ps assign body none).run P w = .ok (l, mark) w₁ ∧
      (resolve a.eval (rangeCall g l) 0).run P w₁ = .ok d w₁' ∧
      (invoke d.target d.args).run P w₁' = .ok (.enter f' args) w₂ ∧
      CallsIn Fence.wide (n - 1) P f' args w₂ (rangePost Fence.wide n P l Q { a with defers := mark ++ a.defers })) :
    wpG f n P (.rangeFunc g ps assign body) Q a w := by
  intro b k cs hb hro
  obtain ⟨l, mark, w₁, d, w₁', f', args, w₂, he, hres, hinv, hF, hcall⟩ := h
  rw [← hb, ← hro] at he
  have h0 : (lone (b.atR a (.code (.rangeFunc g ps assign body) :: k)) cs w).fenced P Fence.wide :=
    fenced_lone (.inl trivial) (fun _ _ => trivial) (room_wide _)
  have henter := stepR_rangeFunc (P := P) (b := b) (a := a) (k := k) (cs := cs) (w := w) he hres hinv
  obtain ⟨e, w₃, fr, hR, hsteps, hfn, hleave⟩ := hcall (b.atR { a with defers := mark ++ a.defers } (.inRangeFunc l :: k) :: cs) (room_wide _)
  cases e with
  | outgrown =>
    obtain ⟨a₀, w₀, hq⟩ := hR
    exact ⟨.outgrown, a₀, w₀, hq, .inr (Outgrown.of_steps (.one henter) hsteps)⟩
  | returned v =>
    have hl : (lone fr (b.atR { a with defers := mark ++ a.defers } (.inRangeFunc l :: k) :: cs) w₃).fenced P Fence.wide := fenced_leaving (n := n) trivial (room_wide _) hleave
    obtain ⟨jump, w₄, hend, hj⟩ := hR
    have sback : StepsIn (Machine.fenced P Fence.wide) P (lone (b.atR a (.code (.rangeFunc g ps assign body) :: k)) cs w) (lone (b.atR { a with defers := mark ++ a.defers } ((jump.map Item.code).toList ++ k)) cs w₄) := by
      refine .head h0 henter (StepsIn.trans hsteps (.head hl ?_ (.one (fenced_calm (fr := b.atR { a with defers := mark ++ a.defers } (.endRangeFunc l :: k)) trivial (room_wide (cs.length + 1 + n)) rfl) (stepR_endRangeFunc hend))))
      rw [← finish_atR_inRangeFunc l v]; exact step_leave_returned hleave
    cases jump with
    | none => exact ⟨.normal, _, w₄, hj, sback⟩
    | some c =>
      obtain ⟨e', a'', w₅, hq, harr⟩ := hj b k cs hro trivial (room_wide _)
      exact ⟨e', a'', w₅, hq, .of_steps sback harr⟩
  | panicked chain =>
    have hl : (lone fr (b.atR { a with defers := mark ++ a.defers } (.inRangeFunc l :: k) :: cs) w₃).fenced P Fence.wide := fenced_leaving (n := n) trivial (room_wide _) hleave
    refine ⟨.panic chain, _, w₃, hR, .inRangeFunc l :: k, .head h0 henter (StepsIn.trans hsteps (.one hl ?_))⟩
    rw [← Frame.raise_atR]; exact step_leave_panicked hleave
theorem callsIn_of_wpG {f : FuncId} {fn : Func} {c : Code} {args : Array Value} {w : World} {R : Ending → World → Prop}
    (hf : P.funcs[f]? = some fn) (hb : fn.body = some c)
    (h : wpG f n P c (bodyPostM Fence.wide n P fn R) { tmps := args ++ Array.replicate (fn.ntmps - args.size) undef, defers := [] } w) : CallsIn Fence.wide n P f args w R := by
  refine ⟨trivial, fun cs hr => ?_⟩
  let b : Frame := { (default : Frame) with fn := f, kind := .normal, roundOf := none }
  have henter : Frame.enter P f args .normal =
      b.atR { tmps := args ++ Array.replicate (fn.ntmps - args.size) undef, defers := [] } [.code c] := by
    simp [Frame.enter, Frame.atR, hf, hb, b]
  obtain ⟨e, a', w', hq, harr⟩ := h b [] cs rfl rfl
  rw [← henter] at harr
  cases e with
  | normal =>
    obtain ⟨e', w'', fr', hR, hs, hfn, hl⟩ := leaves_stepsInM a'.defers .returning w' { b.atR a' [] with mode := .returning } cs rfl rfl rfl hf rfl trivial hr hq
    exact ⟨e', w'', fr', hR, ComesIn.of_steps (StepsIn.trans harr (.one (fenced_calm (fr := b.atR a' []) trivial hr rfl) (stepR_end rfl))) hs, hfn, hl⟩
  | ret =>
    obtain ⟨todo, hs₀⟩ := harr.1 rfl
    obtain ⟨e', w'', fr', hR, hs, hfn, hl⟩ := leaves_stepsInM a'.defers .returning w' { b.atR a' todo with mode := .returning } cs rfl rfl rfl hf rfl trivial hr hq
    exact ⟨e', w'', fr', hR, ComesIn.of_steps hs₀ hs, hfn, hl⟩
  | panic chain =>
    obtain ⟨todo, hs₀⟩ := harr
    obtain ⟨e', w'', fr', hR, hs, hfn, hl⟩ := leaves_stepsInM a'.defers (.panicking chain) w' { b.atR a' todo with mode := .panicking chain } cs rfl rfl rfl hf rfl trivial hr hq
    exact ⟨e', w'', fr', hR, ComesIn.of_steps hs₀ hs, hfn, hl⟩
  | exit id => exact hq.elim
  | goto l => exact hq.elim
  | outgrown => exact ⟨.outgrown, w', b, hq, harr.resolve_left (by simp [b]), rfl, trivial⟩
end
/-- the contract of an iterator that reads the blocks 'rd', keeps the blocks 'own' for itself, and others (pv) that it makes when it begins; a round may give up -/
def IterQ {α : Type} (P : Program) (gf : Nat) (lb : Array Value) (rd own : List Nat) (encs : α → Array Value) (xs : List α) (w : World) : Prop :=
  ∀ (n l : Nat) (J : List Nat → List α → World → Prop) (Jx : World → Prop) (Jp : List PanicEntry → World → Prop) (W : World), Gr w W → (∀ pv pre W W', J pv pre W → GrL (own ++ pv) W W' → J pv pre W') →
    (∀ W1 W2 b, Jx W1 → W.heap.size ≤ b → (∃ o : Obj, W1.heap[b]? = some o ∧ o.isCells = false) → GrL [b] W1 W2 → Jx W2) →
    (∀ ch W1 W2 b, Jp ch W1 → W.heap.size ≤ b → (∃ o : Obj, W1.heap[b]? = some o ∧ o.isCells = false) → GrL [b] W1 W2 → Jp ch W2) →
    (∀ m pv pre x W, J pv pre W → (∀ b ∈ rd ++ (own ++ pv), b < W.heap.size) → (pre ++ [x]) <+: xs → YieldAt Fence.wide m P l (encs x) W (RoundEnd (J pv (pre ++ [x])) Jx (fun ch W' => Jp ch W' ∧ ∀ b ∈ rd ++ (own ++ pv), W'.heap[b]? = W.heap[b]?) (fun W' => ∀ b ∈ rd ++ (own ++ pv), W'.heap[b]? = W.heap[b]?))) →
    (∀ pv W1, Gr W W1 → (∀ b ∈ pv, W.heap.size ≤ b ∧ b < W1.heap.size) → J pv [] W1) → CallsIn Fence.wide n P gf (#[.func (.yield l) #[] #[]] ++ lb) W (IterEnd (fun W' => ∃ pv, J pv xs W') Jx Jp)
/-- how a round's body may be left -/
def bodyEndQ {α : Type} (I : List α → World → Prop) (Ix : Code → World → Prop) (Ip : List PanicEntry → World → Prop) (bs : List Nat) (xs : List α) (W : World) : Exit → Act → World → Prop
  | .normal, _, W' => Left bs W W' ∧ I xs W'
  | .ret, _, W' => Left bs W W' ∧ Ix .ret W'
  | .exit id, _, W' => Left bs W W' ∧ Ix (.exit id) W'
  | .goto t, _, W' => Left bs W W' ∧ Ix (.goto t) W'
  | .panic ch, a, W' => a.defers = [] ∧ Left bs W W' ∧ Ip ch W'
  | _, _, _ => False
theorem range_lawQ {P : Program} {α : Type} {f : FuncId} {fn : Func} {g : Operand} {ps : Array Tmp} {assign body : Code} {Q : Exit → Act → World → Prop} {a : Act} {w : World} {n gf : Nat} {lb : Array Value} (hf : P.funcs[f]? = some fn)
    (hg : a.eval g = .func (.func gf) #[] lb) (eg : ∀ args w, (callFunc gf args).run P w = .ok (.enter gf args) w) (rd own : List Nat) (encs : α → Array Value) (xs : List α)
    (hown : ∀ b ∈ rd ++ own, b < w.heap.size) (hit : IterQ P gf lb rd own encs xs w) (hps : ∀ x, (encs x).size = ps.size)
    (I : List Nat → List α → World → Prop) (Ix : Code → World → Prop) (Ip : List PanicEntry → World → Prop)
    (hI : ∀ pv pre W W' (bs : List Nat), I pv pre W → GrL bs W W' → (∀ b ∈ bs, b ∈ own ++ pv ∨ (b = w.heap.size + 1 ∧ ∃ r, W.heap[b]? = some (.loop r))) → I pv pre W')
    (hIx : ∀ c W W' b, Ix c W → w.heap.size ≤ b → (∃ o : Obj, W.heap[b]? = some o ∧ o.isCells = false) → GrL [b] W W' → Ix c W')
    (hIp : ∀ ch W W' b, Ip ch W → w.heap.size ≤ b → (∃ o : Obj, W.heap[b]? = some o ∧ o.isCells = false) → GrL [b] W W' → Ip ch W')
    (h0 : ∀ pv W1, Gr w W1 → w.heap.size + 2 ≤ W1.heap.size → (∀ b ∈ pv, w.heap.size + 2 ≤ b ∧ b < W1.heap.size) → I pv [] W1) (A : α → Act → World → Prop) (hA : ∀ x a1 W W' l o, A x a1 W → W.heap[l]? = some (.loop o) → GrL [l] W W' → A x a1 W')
    (hassign : ∀ m l pv pre x W (K : Act → World → Prop), I pv pre W → (∀ a1 W1, Gr W W1 → A x a1 W1 → K a1 W1) →
      assign.wpIn (Fence.wide.inRound l) m P (Exit.then K (fun _ _ _ => False)) { tmps := (ps.zip (encs x)).foldl (fun t (p, v) => t.setIfInBounds p v) a.tmps, defers := [] } W)
    (hbody : ∀ m l pv pre x a1 W, I pv pre W → (pre ++ [x]) <+: xs → A x a1 W → body.wpIn (Fence.wide.inRound l) m P (bodyEndQ (I pv) Ix Ip (w.heap.size :: (w.heap.size + 1) :: (rd ++ (own ++ pv))) (pre ++ [x]) W) a1 W)
    (hdone : ∀ D pv W, D = w.heap.size → I pv xs W → W.heap[D]? = some (.deferred (some [])) → Q .normal { a with defers := { target := .collected D, args := #[] } :: a.defers } W)
    (hstop : ∀ D c W, D = w.heap.size → Ix c W → W.heap[D]? = some (.deferred (some [])) → c.wpIn Fence.wide n P Q { a with defers := { target := .collected D, args := #[] } :: a.defers } W)
    (hpan : ∀ D ch W, D = w.heap.size → Ip ch W → W.heap[D]? = some (.deferred (some [])) → Q (.panic ch) { a with defers := { target := .collected D, args := #[] } :: a.defers } W) :
    wpG f n P (Code.rangeFunc g ps assign body) Q a w := by
  refine wpG.rangeFunc ?_
  obtain ⟨rec, hrec⟩ : ∃ rec : LoopState → Option Code → Loop, rec = fun st pe => { state := st, pending := pe, fn := f, tmps := a.tmps, params := ps, assign, body, defers := w.heap.size } := ⟨_, rfl⟩
  obtain ⟨W1, hW1⟩ : ∃ W1, (w.alloc (.deferred (some []))).alloc (.loop (rec .ready none)) = W1 := ⟨_, rfl⟩
  have g1 : Gr w W1 := by rw [← hW1]; exact ((Gr.refl w).alloc _).alloc _
  have hL1 : W1.heap[w.heap.size + 1]? = some (.loop (rec .ready none)) := by
    rw [← hW1]
    have := heap_alloc_self (w.alloc (.deferred (some []))) (.loop (rec .ready none))
    rwa [World.size_alloc] at this
  have hD1 : W1.heap[w.heap.size]? = some (.deferred (some [])) := by
    rw [← hW1]; exact Gr.heap ((Gr.refl _).alloc _) (heap_alloc_self w _)
  have nown : ∀ b ∈ rd ++ own, b ≠ w.heap.size ∧ b ≠ w.heap.size + 1 := fun b hb => by have := hown b hb; omega
  have z1 : W1.heap.size = w.heap.size + 2 := by rw [← hW1]; simp
  refine ⟨w.heap.size + 1, [{ target := .collected w.heap.size, args := #[] }], W1, { target := .fn (.func gf) lb, args := #[.func (.yield (w.heap.size + 1)) #[] #[]] }, W1, gf,
    #[.func (.yield (w.heap.size + 1)) #[] #[]] ++ lb, W1, ?_, ?_, ?_, ?_⟩
  · rw [← hW1, hrec]; exact run_enterLoop_outer _ _ _ _ _
  · simp only [resolve, hg]
    simp [go_sem]
  · simp [invoke, go_sem, eg]
  · refine (hit (n-1) (w.heap.size + 1) (fun pv pre W => I pv pre W ∧ (∀ b ∈ pv, w.heap.size + 2 ≤ b) ∧ W.heap[w.heap.size + 1]? = some (.loop (rec .ready none)) ∧ W.heap[w.heap.size]? = some (.deferred (some [])))
      (fun W => ∃ c, Ix c W ∧ W.heap[w.heap.size + 1]? = some (.loop (rec .done (some c))) ∧ W.heap[w.heap.size]? = some (.deferred (some [])))
      (fun ch W => Ip ch W ∧ W.heap[w.heap.size]? = some (.deferred (some []))) W1 g1 ?_ ?_ ?_ ?_ (fun pv Wv gv hpv => ⟨h0 pv Wv (g1.trans gv) (by have := gv.b.size; omega) (fun b hb => by have := hpv b hb; omega), fun b hb => by have := hpv b hb; omega, gv.heap hL1, gv.heap hD1⟩)).mono ?_
    · rintro pv pre W W' ⟨hi, hp, hl, hd⟩ g
      exact ⟨hI _ _ _ _ (own ++ pv) hi g (fun b hb => .inl hb), hp, g.heap hl (fun h => by rcases List.mem_append.1 h with h | h; exact (nown _ (by simp [h])).2 rfl; have := hp _ h; omega), g.heap hd (fun h => by rcases List.mem_append.1 h with h | h; exact (nown _ (by simp [h])).1 rfl; have := hp _ h; omega)⟩
    · rintro Wa Wb b ⟨c, hi, hl, hd⟩ hb ho g
      exact ⟨c, hIx _ _ _ _ hi (by omega) ho g, g.heap hl (by simp; omega), g.heap hd (by simp; omega)⟩
    · rintro ch Wa Wb b ⟨hi, hd⟩ hb ho g
      exact ⟨hIp _ _ _ _ hi (by omega) ho g, g.heap hd (by simp; omega)⟩
    · rintro m pv pre x W ⟨hi, hp, hl, hd⟩ hob hpre
      have nown' : ∀ b ∈ rd ++ (own ++ pv), b ≠ w.heap.size ∧ b ≠ w.heap.size + 1 := fun b hb => by
        rcases List.mem_append.1 hb with h | h
        · exact nown b (by simp [h])
        · rcases List.mem_append.1 h with h | h
          · exact nown b (by simp [h])
          · have := hp b h; omega
      have hy := run_yield (P := P) (args := encs x) hl (by rw [hrec]; exact hps x)
      rw [hrec] at hy
      refine ⟨f, _, assign, body, hy, roundIn_q hf (hassign m _ pv pre x W _ hi fun a1 Wa ga ha => ?_)⟩
      have hla := ga.heap hl
      have hda := ga.heap hd
      refine ⟨_, run_beginRound hla (by rw [hrec]), ?_⟩
      have g2 := GrL.putObj Wa (w.heap.size + 1) (.loop { rec .ready none with state := .busy })
      have hl2 : (Wa.putObj (w.heap.size + 1) (.loop { rec .ready none with state := .busy })).heap[w.heap.size + 1]? = some (.loop { rec .ready none with state := .busy }) := World.putObj_heap_same (heap_lt hla)
      have hd2 := g2.heap hda (by simp)
      have hi2 : I pv pre (Wa.putObj (w.heap.size + 1) (.loop { rec .ready none with state := .busy })) :=
        hI _ _ _ _ _ (hI _ _ _ _ [] hi (GrL.of_gr ga) (by simp)) g2 (loopOkP ⟨_, hla⟩)
      have ha2 := hA x a1 _ _ _ _ ha hla g2
      generalize Wa.putObj (w.heap.size + 1) (.loop { rec .ready none with state := .busy }) = W2 at *
      refine wpIn_mono (hbody m _ pv pre x a1 W2 hi2 hpre ha2) ?_
      have keep : ∀ W3 : World, Left (w.heap.size :: (w.heap.size + 1) :: (rd ++ (own ++ pv))) W2 W3 → ∀ b ∈ rd ++ (own ++ pv), W3.heap[b]? = W.heap[b]? ∧ b < W3.heap.size := fun W3 g3 b hb => by
          have b1 := hob b hb
          have b2 : b < Wa.heap.size := Nat.lt_of_lt_of_le b1 ga.b.size
          have b3 : b < W2.heap.size := Nat.lt_of_lt_of_le b2 g2.size
          have e3 : W3.heap[b]? = W2.heap[b]? := g3 b (by simp only [List.mem_cons]; exact .inr (.inr hb))
          refine ⟨by rw [e3, g2.block b b2 (by have := nown' b hb; simp; omega), ga.b.block b b1], ?_⟩
          rw [Array.getElem?_eq_getElem b3] at e3
          exact (Array.getElem?_eq_some_iff.1 e3).1
      have fin : ∀ (jump : Option Code) (W3 : World), Left (w.heap.size :: (w.heap.size + 1) :: (rd ++ (own ++ pv))) W2 W3 →
          ∃ W4, (Instr.endRound (w.heap.size + 1) jump).run P W3 = .ok (.bool jump.isNone) W4 ∧ GrL [w.heap.size + 1] W3 W4 ∧ (∃ r, W3.heap[w.heap.size + 1]? = some (.loop r)) ∧ W4.heap[w.heap.size + 1]? = some (.loop (rec (if jump.isNone then .ready else .done) jump)) ∧ W4.heap[w.heap.size]? = some (.deferred (some [])) ∧
            (∀ b ∈ rd ++ (own ++ pv), W4.heap[b]? = W.heap[b]?) := fun jump W3 g3 => by
        have hl3 := (g3 (w.heap.size + 1) (by simp)).trans hl2
        have hd3 := (g3 w.heap.size (by simp)).trans hd2
        have g4 := GrL.putObj W3 (w.heap.size + 1) (.loop { ({ rec .ready none with state := .busy } : Loop) with state := if jump.isNone then .ready else .done, pending := jump })
        refine ⟨_, run_endRound jump hl3, g4, ⟨_, hl3⟩, ?_, g4.heap hd3 (by simp), ?_⟩
        · rw [World.putObj_heap_same (heap_lt hl3), hrec]
        · intro b hb
          obtain ⟨e3, b4⟩ := keep W3 g3 b hb
          rw [g4.block b b4 (by have := nown' b hb; simp; omega), e3]
      rintro e a3 W3 hpp
      cases e with
      | normal =>
        obtain ⟨g3, hi3⟩ := hpp
        obtain ⟨W4, hr, g4, hlp, hl4, hd4, ho4⟩ := fin none W3 g3
        exact ⟨_, _, hr, .inl ⟨rfl, ⟨hI _ _ _ _ _ hi3 g4 (loopOkP hlp), hp, hl4, hd4⟩, ho4⟩⟩
      | ret =>
        obtain ⟨g3, hi3⟩ := hpp
        obtain ⟨W4, hr, g4, hlp, hl4, hd4, ho4⟩ := fin (some .ret) W3 g3
        exact ⟨_, _, hr, .inr (.inl ⟨rfl, ⟨.ret, hIx _ _ _ _ hi3 (by omega) (notCells hlp) g4, hl4, hd4⟩, ho4⟩)⟩
      | exit id =>
        obtain ⟨g3, hi3⟩ := hpp
        obtain ⟨W4, hr, g4, hlp, hl4, hd4, ho4⟩ := fin (some (.exit id)) W3 g3
        exact ⟨_, _, hr, .inr (.inl ⟨rfl, ⟨.exit id, hIx _ _ _ _ hi3 (by omega) (notCells hlp) g4, hl4, hd4⟩, ho4⟩)⟩
      | goto t =>
        obtain ⟨g3, hi3⟩ := hpp
        obtain ⟨W4, hr, g4, hlp, hl4, hd4, ho4⟩ := fin (some (.goto t)) W3 g3
        exact ⟨_, _, hr, .inr (.inl ⟨rfl, ⟨.goto t, hIx _ _ _ _ hi3 (by omega) (notCells hlp) g4, hl4, hd4⟩, ho4⟩)⟩
      | panic ch =>
        obtain ⟨hd3, g3, hi3⟩ := hpp
        exact ⟨hd3, .inr (.inr ⟨ch, rfl, ⟨hi3, (g3 w.heap.size (by simp)).trans hd2⟩, fun b hb => (keep W3 g3 b hb).1⟩)⟩
      | outgrown => exact hpp.elim
    · rintro e W2 (⟨rfl, (⟨pv, hi, _, hl, hd⟩ | ⟨c, hi, hl, hd⟩)⟩ | ⟨ch, rfl, hi, hd⟩)
      · have g := GrL.putObj W2 (w.heap.size + 1) (.loop { rec .ready none with state := .exhausted })
        refine ⟨none, _, ?_, hdone _ pv _ rfl (hI _ _ _ _ _ hi g (loopOkP ⟨_, hl⟩)) (g.heap hd (by simp))⟩
        have := run_endLoop (P := P) hl (by rw [hrec]; simp)
        rw [hrec] at this ⊢
        exact this
      · have g := GrL.putObj W2 (w.heap.size + 1) (.loop { rec .done (some c) with state := .exhausted })
        refine ⟨some c, _, ?_, hstop _ c _ rfl (hIx _ _ _ _ hi (by omega) (notCells ⟨_, hl⟩) g) (g.heap hd (by simp))⟩
        have := run_endLoop (P := P) hl (by rw [hrec]; simp)
        rw [hrec] at this ⊢
        exact this
      · exact hpan _ ch _ rfl hi hd
end Go.Proofs.YtconhikflghkdaaDoor
