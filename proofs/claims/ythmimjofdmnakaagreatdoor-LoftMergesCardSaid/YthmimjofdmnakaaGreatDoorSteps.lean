/- Drawn regions by steps: each operation comes to a value that is known, or to one of which something is known that stays true when the world grows. -/
import Derived.Test.YthmimjofdmnakaaGreatDoorPlan
namespace Go.Proofs.YthmimjofdmnakaaGreatDoor
section
open Go.RowKit Go.Shelf
section
variable {P : Program} {ops : Array Oper} {Q : Exit → Act → World → Prop}
/-- what an operation's run comes to: a value of which F holds -/
def CameS (P : Program) (F : Value → World → Prop) (Rw : World → Prop) : Result Next → Prop
  | .ok (.value u) w' => F u w' ∧ Rw w'
  | .ok (.enter f args) w' => Calls P f args w' fun e w'' => ∃ v, e = .returned v ∧ F v w'' ∧ Rw w''
  | _ => False
theorem CameS.upon {o : Oper} {a : Act} {K : Act → World → Prop} {F : Value → World → Prop} {Rw : World → Prop} {r : Result Next} (h : CameS P F Rw r) (hK : ∀ v w', F v w' → Rw w' → K (a.put o.dst v) w') :
    o.upon P a K Q r := by
  cases r with
  | halt x w' => exact h.elim
  | ok n w' =>
    cases n with
    | value u => exact hK _ _ h.1 h.2
    | enter f args =>
      refine Calls.mono h ?_
      rintro e w'' ⟨v, rfl, hf, hr⟩
      exact hK _ _ hf hr
    | skip => exact h.elim
    | defer d => exact h.elim
    | row r args => exact h.elim
    | _ => exact h.elim
end
theorem CameS.enter {P : Program} {F : Value → World → Prop} {Rw : World → Prop} {f : FuncId} {args : Array Value} {w' : World} : CameS P F Rw (.ok (.enter f args) w') = Calls P f args w' (fun e w'' => ∃ v, e = .returned v ∧ F v w'' ∧ Rw w'') := rfl
theorem CameS.value {P : Program} {F : Value → World → Prop} {u : Value} {Rw : World → Prop} {w' : World} : CameS P F Rw (.ok (.value u) w') = (F u w' ∧ Rw w') := rfl
inductive Step where
  | val (v : Value)
  | off
  | sat (F : Value → World → Prop)
  | turn (F : Value → World → Prop) (drop : List Nat)
  | later
  | dies (chain : List PanicEntry)
  | never
  deriving Inhabited
def Step.value (V : Nat → Value) (k : Nat) : Step → Value
  | .val v => v
  | .sat _ => V k
  | .turn _ _ => V k
  | _ => undef
/-- what is known of an operation's value -/
def Step.fact? : Step → Option (Value → World → Prop)
  | .sat F => some F
  | .turn F _ => some F
  | _ => none
/-- operation j makes what is known of operation i's value untrue -/
def dropBy (pl : List Step) (i j : Nat) : Bool := match pl[j]? with
  | some (.turn _ d) => d.contains i
  | _ => false
/-- what is known of i's value, but for what others than k make untrue -/
def factFor (pl : List Step) (k i : Nat) : Option (Value → World → Prop) := if (List.range pl.length).any (fun j => j != k && dropBy pl i j) then none else (pl[i]?).bind Step.fact?
def factAt (pl : List Step) (i : Nat) : Option (Value → World → Prop) := if (List.range pl.length).any (fun j => dropBy pl i j) then none else (pl[i]?).bind Step.fact?
theorem dropBy_lt {pl : List Step} {i j : Nat} (h : dropBy pl i j = true) : j < pl.length := by
  unfold dropBy at h
  cases hq : pl[j]? with
  | none => rw [hq] at h; cases h
  | some q => exact (List.getElem?_eq_some_iff.1 hq).1
theorem factFor_some {pl : List Step} {k i : Nat} {F : Value → World → Prop} (h : factFor pl k i = some F) : (pl[i]?).bind Step.fact? = some F ∧ ∀ j, dropBy pl i j = true → j = k := by
  unfold factFor at h
  split at h
  · cases h
  · rename_i hn
    refine ⟨h, fun j hj => ?_⟩
    by_cases e : j = k
    · exact e
    · exfalso
      apply hn
      rw [List.any_eq_true]
      exact ⟨j, List.mem_range.2 (dropBy_lt hj), by simp [e, hj]⟩
theorem factAt_some {pl : List Step} {i : Nat} {F : Value → World → Prop} (h : factAt pl i = some F) : (pl[i]?).bind Step.fact? = some F ∧ ∀ j, dropBy pl i j = false := by
  unfold factAt at h
  split at h
  · cases h
  · rename_i hn
    refine ⟨h, fun j => ?_⟩
    cases hj : dropBy pl i j with
    | false => rfl
    | true =>
      exfalso
      apply hn
      rw [List.any_eq_true]
      exact ⟨j, List.mem_range.2 (dropBy_lt hj), hj⟩
def Step.idle : Step → Bool
  | .later | .dies _ | .never => true
  | _ => false
def Step.isLater : Step → Bool
  | .later => true
  | _ => false
/-- the frame when all have come up -/
def finS (V : Nat → Value) : Act → Nat → List Oper → List Step → Act
  | a, k, o :: os, p :: ps => finS V (if p.isLater then a else a.put o.dst (p.value V k)) (k+1) os ps
  | a, _, _, _ => a
/-- the bookkeeping of a region, by the kernel -/
def stepOk (ops : Array Oper) (pl : List Step) : Bool :=
  pl.length == ops.size && Region.noSelect ops &&
  (List.range ops.size).all fun k => match ops[k]? with
    | none => false
    | some o =>
      (o.after.all fun e => !Region.binds .any e || e.on < k) &&
      ((List.range ops.size).all fun i => match ops[i]? with
        | none => false
        | some p => match p.dst with
          | none => true
          | some d => (i == k || o.dst != some d) && (!(o.looksAt ops).contains d || (o.after.any fun e => Region.binds .any e && e.on == i))) &&
      (match pl[k]? with
        | some .never => o.after.any fun e => Region.binds .any e && (match pl[e.on]? with | some .never => true | some (.dies _) => true | _ => false)
        | some .later => (List.range ops.size).all fun i => (match pl[i]? with | some .later => true | _ => false) || covers ops 3 k i
        | some _ => true
        | none => false)
theorem put_other {a : Act} {d : Option Tmp} {v : Value} {t : Nat} (h : d ≠ some t) : (a.put d v).tmps[t]? = a.tmps[t]? := by
  cases d with
  | none => rfl
  | some d =>
    have : d ≠ t := fun e => h (by rw [e])
    simp [Act.put, Array.getElem?_setIfInBounds_ne this]
/-- a slot that only late operations write -/
theorem finS_late (V : Nat → Value) (t : Nat) : ∀ (os : List Oper) (ps : List Step) (a : Act) (k : Nat), (∀ (i : Nat) (o : Oper) (p : Step), os[i]? = some o → ps[i]? = some p → o.dst = some t → p.isLater = true) → (finS V a k os ps).tmps[t]? = a.tmps[t]?
  | [], _, _, _ => by simp [finS]
  | _ :: _, [], _, _ => by simp [finS]
  | o :: os, p :: ps, a, k => fun h => by
    rw [finS, finS_late V t os ps _ _ fun i o' p' ho hp hd => h (i+1) o' p' (by simpa using ho) (by simpa using hp) hd]
    have h0 := h 0 o p rfl rfl
    split
    · rfl
    · rename_i hn
      exact put_other fun hd => hn (h0 hd)
theorem finS_other (V : Nat → Value) (t : Nat) (os : List Oper) (ps : List Step) (a : Act) (k : Nat) (h : ∀ o ∈ os, o.dst ≠ some t) : (finS V a k os ps).tmps[t]? = a.tmps[t]? :=
  finS_late V t os ps a k fun _ o _ ho _ hd => absurd hd (h o (List.mem_of_getElem? ho))
theorem finS_size (V : Nat → Value) : ∀ (os : List Oper) (ps : List Step) (a : Act) (k : Nat), (finS V a k os ps).tmps.size = a.tmps.size
  | [], _, _, _ => by simp [finS]
  | _ :: _, [], _, _ => by simp [finS]
  | o :: os, p :: ps, a, k => by
    rw [finS, finS_size V os ps]
    split
    · rfl
    · cases o.dst <;> simp [Act.put]
theorem finS_defers (V : Nat → Value) : ∀ (os : List Oper) (ps : List Step) (a : Act) (k : Nat), (finS V a k os ps).defers = a.defers
  | [], _, _, _ => by simp [finS]
  | _ :: _, [], _, _ => by simp [finS]
  | o :: os, p :: ps, a, k => by
    rw [finS, finS_defers V os ps]
    split
    · rfl
    · cases o.dst <;> rfl
theorem finS_at (V : Nat → Value) (t : Nat) : ∀ (os : List Oper) (ps : List Step) (a : Act) (k i : Nat) (o : Oper) (p : Step), os[i]? = some o → ps[i]? = some p → p.isLater = false → o.dst = some t →
    (∀ j q, os[j]? = some q → j ≠ i → q.dst ≠ some t) → t < a.tmps.size → (finS V a k os ps).tmps[t]? = some (p.value V (k + i))
  | [], _, _, _, _, _, _, h, _, _, _, _, _ => by simp at h
  | _ :: _, [], _, _, _, _, _, _, h, _, _, _, _ => by simp at h
  | o' :: os, p' :: ps, a, k, i, o, p, ho, hp, hl, hd, hu, ht => by
    rw [finS]
    cases i with
    | zero =>
      simp only [List.getElem?_cons_zero, Option.some.injEq] at ho hp
      subst ho hp
      rw [finS_other V t os ps _ _ (fun q hq => by
        obtain ⟨j, hj⟩ := List.getElem?_of_mem hq
        exact hu (j+1) q (by simpa using hj) (by omega))]
      simp [Act.put, hd, ht, hl]
    | succ i =>
      simp only [List.getElem?_cons_succ] at ho hp
      have := finS_at V t os ps (if p'.isLater then a else a.put o'.dst (p'.value V k)) (k+1) i o p ho hp hl hd (fun j q hj hn => hu (j+1) q (by simpa using hj) (by omega)) (by split; exact ht; cases o'.dst <;> simp [Act.put, ht])
      rw [this]; congr 2; omega
theorem Step.isLater_of_idle {p : Step} (h : p.idle = false) : p.isLater = false := by cases p <;> first | rfl | cases h
variable {P : Program} {ops : Array Oper} {Q : Exit → Act → World → Prop}
structure StepOk (ops : Array Oper) (pl : List Step) : Prop where
  len : pl.length = ops.size
  nosel : ∀ (j : Nat) (o : Oper) cs b, ops[j]? = some o → o.op ≠ .select cs b
  front : ∀ (k : Nat) (o : Oper), ops[k]? = some o → ∀ e ∈ o.after, Region.binds .any e = true → e.on < k
  once : ∀ (k i : Nat) (o p : Oper) (d : Tmp), ops[k]? = some o → ops[i]? = some p → p.dst = some d → i ≠ k → o.dst ≠ some d
  waits : ∀ (k i : Nat) (o p : Oper) (d : Tmp), ops[k]? = some o → ops[i]? = some p → p.dst = some d → d ∈ o.looksAt ops → ∃ e ∈ o.after, Region.binds .any e = true ∧ e.on = i
  nev : ∀ (k : Nat) (o : Oper), ops[k]? = some o → pl[k]? = some .never → ∃ e ∈ o.after, Region.binds .any e = true ∧ ∃ p, pl[e.on]? = some p ∧ p.idle = true
  lat : ∀ (k : Nat) (o : Oper), ops[k]? = some o → pl[k]? = some .later → ∀ (i : Nat) (q : Step), pl[i]? = some q → q.isLater = false → covers ops 3 k i = true
theorem stepOk_spec {pl : List Step} (h : stepOk ops pl = true) : StepOk ops pl := by
  unfold stepOk at h
  rw [Bool.and_eq_true, Bool.and_eq_true, List.all_eq_true] at h
  obtain ⟨⟨h1, h2⟩, h3⟩ := h
  have len : pl.length = ops.size := by simpa using h1
  have at' : ∀ k o, ops[k]? = some o → k < ops.size := fun k o ho => (Array.getElem?_eq_some_iff.1 ho).1
  have body := fun k o (ho : ops[k]? = some o) => by
    have := h3 k (List.mem_range.2 (at' k o ho))
    rw [ho] at this
    simp only [Bool.and_eq_true, List.all_eq_true, List.mem_range] at this
    exact this
  refine ⟨len, Region.noSelect_spec h2, ?_, ?_, ?_, ?_, ?_⟩
  · intro k o ho e he hb
    have := (body k o ho).1.1
    rw [Array.all_eq_true_iff_forall_mem] at this
    have := this e he
    rw [hb] at this
    simpa using this
  · intro k i o p d ho hp hd hn
    have := (body k o ho).1.2 i (at' i p hp)
    rw [hp] at this
    simp only [hd, Bool.and_eq_true, Bool.or_eq_true, beq_iff_eq, bne_iff_ne] at this
    exact this.1.resolve_left hn
  · intro k i o p d ho hp hd hl
    have := (body k o ho).1.2 i (at' i p hp)
    rw [hp] at this
    simp only [hd, Bool.and_eq_true, Bool.or_eq_true] at this
    have := this.2
    rcases this with this | this
    · simp [hl] at this
    · obtain ⟨e, he, hb⟩ := Array.any_eq_true'.1 this
      simp only [Bool.and_eq_true, beq_iff_eq] at hb
      exact ⟨e, he, hb.1, hb.2⟩
  · intro k o ho hp
    have := (body k o ho).2
    rw [hp] at this
    obtain ⟨e, he, hb⟩ := Array.any_eq_true'.1 this
    simp only [Bool.and_eq_true] at hb
    refine ⟨e, he, hb.1, ?_⟩
    have h2 := hb.2
    cases hq : pl[e.on]? with
    | none => rw [hq] at h2; simp at h2
    | some p => exact ⟨p, rfl, by rw [hq] at h2; revert h2; cases p <;> simp [Step.idle]⟩
  · intro k o ho hp
    have := (body k o ho).2
    rw [hp] at this
    simp only [List.all_eq_true, List.mem_range, Bool.or_eq_true] at this
    refine fun i q hq hn => (this i (by rw [← len]; exact (List.getElem?_eq_some_iff.1 hq).1)).resolve_left ?_
    rw [hq]
    cases q <;> simp_all [Step.isLater]
/-- what is known of the operations that o waits for -/
def Known (pl : List Step) (k : Nat) (o : Oper) (V : Nat → Value) (u : World) : Prop :=
  ∀ (i : Nat) (F : Value → World → Prop), factFor pl k i = some F → (o.after.any fun e => Region.binds .any e && e.on == i) = true → F (V i) u
/-- what is owed for one operation -/
def OwesT (P : Program) (ops : Array Oper) (pl : List Step) (w1 : World) (F : (Nat → Value) → Act) (k : Nat) (o : Oper) : Step → Prop
  | .val v => ∀ V u, Gr w1 u → Known pl k o V u → Region.wanted o (yielded ops (F V).tmps) = true ∧ Came P v (Gr u) ((execOp (F V).eval o).run P u)
  | .off => ∀ V u, Gr w1 u → Known pl k o V u → Region.wanted o (yielded ops (F V).tmps) = false
  | .sat Fk => (∀ v u u', Fk v u → Gr u u' → Fk v u') ∧ ∀ V u, Gr w1 u → Known pl k o V u → Region.wanted o (yielded ops (F V).tmps) = true ∧ CameS P Fk (Gr u) ((execOp (F V).eval o).run P u)
  | .turn Fk drop => (∀ v u u', Fk v u → Gr u u' → Fk v u') ∧ ∀ V u, Gr w1 u → Known pl k o V u → Region.wanted o (yielded ops (F V).tmps) = true ∧
      CameS P Fk (fun u' => Gr w1 u' ∧ ∀ (i : Nat) (Fi : Value → World → Prop), (pl[i]?).bind Step.fact? = some Fi → i ≠ k → drop.contains i = false → Fi (V i) u → Fi (V i) u') ((execOp (F V).eval o).run P u)
  | .later => True
  | .dies chain => ∀ V u, Gr w1 u → Known pl k o V u → Region.wanted o (yielded ops (F V).tmps) = true ∧ Dead P chain (Gr u) ((execOp (F V).eval o).run P u)
  | .never => True
def OwesTs (P : Program) (ops : Array Oper) (pl : List Step) (w1 : World) (F : (Nat → Value) → Act) : Nat → List Oper → List Step → Prop
  | k, o :: os, p :: ps => OwesT P ops pl w1 F k o p ∧ OwesTs P ops pl w1 F (k + 1) os ps
  | _, _, _ => True
theorem OwesTs.at {pl : List Step} {w1 : World} {F : (Nat → Value) → Act} : ∀ {os : List Oper} {ps : List Step} {k0 : Nat}, OwesTs P ops pl w1 F k0 os ps → ∀ (k : Nat) (o : Oper) (p : Step), os[k]? = some o → ps[k]? = some p → OwesT P ops pl w1 F (k0 + k) o p
  | [], _, _, _, k, o, p, ho, _ => by simp at ho
  | _ :: _, [], _, _, k, o, p, _, hp => by simp at hp
  | o' :: os, p' :: ps, k0, h, k, o, p, ho, hp => by
    cases k with
    | zero =>
      simp only [List.getElem?_cons_zero, Option.some.injEq] at ho hp
      subst ho hp
      exact h.1
    | succ k =>
      simp only [List.getElem?_cons_succ] at ho hp
      have := h.2.at k o p ho hp
      rw [show k0 + 1 + k = k0 + (k + 1) by omega] at this
      exact this
structure TInv (ops : Array Oper) (pl : List Step) (w1 : World) (a0 : Act) (V : Nat → Value) (listed : Array Bool) (a : Act) (u : World) : Prop where
  gr : Gr w1 u
  df : a.defers = a0.defers
  sz : a.tmps.size = a0.tmps.size
  lsz : listed.size = ops.size
  done : ∀ (k : Nat) (o : Oper) (t : Tmp), ops[k]? = some o → o.dst = some t → listed.getD k false = true → a.tmps[t]? = (finS V a0 0 ops.toList pl).tmps[t]?
  rest : ∀ (t : Tmp), (∀ (k : Nat) (o : Oper), ops[k]? = some o → o.dst = some t → listed.getD k false = false) → a.tmps[t]? = a0.tmps[t]?
  fact : ∀ (i : Nat) (F : Value → World → Prop), (pl[i]?).bind Step.fact? = some F → listed.getD i false = true → (∀ j, dropBy pl i j = true → listed.getD j false = false) → F (V i) u
  lat : ∀ (k : Nat) (p : Step), pl[k]? = some p → p.idle = true → listed.getD k false = false
  down : ∀ (k : Nat) (o : Oper), ops[k]? = some o → listed.getD k false = true → ∀ e ∈ o.after, Region.binds .any e = true → listed.getD e.on false = true
/-- the frame at hand is as the last one, for all that an operation which may come up looks at -/
theorem TInv.agree {pl : List Step} {w1 : World} {a0 : Act} {V : Nat → Value} {listed : Array Bool} {a : Act} {u : World} (hok : StepOk ops pl) (I : TInv ops pl w1 a0 V listed a u)
    {k : Nat} {o : Oper} (ho : ops[k]? = some o) (hall : ∀ e ∈ o.after, Region.binds .any e = true → listed.getD e.on false = true) :
    execOp a.eval o = execOp (finS V a0 0 ops.toList pl).eval o ∧ Region.wanted o (yielded ops a.tmps) = Region.wanted o (yielded ops (finS V a0 0 ops.toList pl).tmps) := by
  have key : ∀ t, t ∈ o.looksAt ops → a.tmps[t]? = (finS V a0 0 ops.toList pl).tmps[t]? := fun t ht => by
    by_cases hx : ∃ (i : Nat) (p : Oper), ops[i]? = some p ∧ p.dst = some t
    · obtain ⟨i, p, hp, hd⟩ := hx
      obtain ⟨e, he, hb, rfl⟩ := hok.waits k i o p t ho hp hd ht
      exact I.done _ p t hp hd (hall e he hb)
    · rw [I.rest t (fun i p hp hd => absurd ⟨i, p, hp, hd⟩ hx)]
      rw [finS_other V t _ _ _ _ (fun p hp hd => by
        obtain ⟨i, hi⟩ := List.getElem?_of_mem hp
        exact hx ⟨i, p, by simpa using hi, hd⟩)]
  constructor
  · refine execOp_congr o (fun cs b => hok.nosel k o cs b ho) (fun x hx => ?_)
    cases x with
    | tmp t =>
      have := key t (List.mem_append_left _ (List.mem_filterMap.2 ⟨.tmp t, by simpa using hx, rfl⟩))
      simp only [Act.eval, Array.getD_eq_getD_getElem?, this]
    | _ => rfl
  · unfold Region.wanted
    cases hg : o.guard with
    | none => rfl
    | some gw =>
      obtain ⟨g, want⟩ := gw
      have : yielded ops a.tmps g = yielded ops (finS V a0 0 ops.toList pl).tmps g := by
        unfold yielded
        cases ht : (ops[g]?).bind (·.dst) with
        | none => rfl
        | some t =>
          have := key t (List.mem_append_right _ (by simp [hg, ht]))
          simp only [Option.bind_some, this]
      simp only [this]
/-- an operation has put its value down -/
theorem TInv.frame {pl : List Step} {w1 : World} {a0 : Act} {V V' : Nat → Value} {listed : Array Bool} {a : Act} {u : World} (hok : StepOk ops pl) (I : TInv ops pl w1 a0 V listed a u)
    {k : Nat} {o : Oper} {p : Step} (ho : ops[k]? = some o) (hp : pl[k]? = some p) (hla : p.idle = false) (hG : ∀ i, i ≠ k → V' i = V i) :
    (a.put o.dst (p.value V' k)).defers = a0.defers ∧ (a.put o.dst (p.value V' k)).tmps.size = a0.tmps.size ∧
    (∀ (i : Nat) (q : Oper) (t : Tmp), ops[i]? = some q → q.dst = some t → (listed.setIfInBounds k true).getD i false = true → (a.put o.dst (p.value V' k)).tmps[t]? = (finS V' a0 0 ops.toList pl).tmps[t]?) ∧
    (∀ (t : Tmp), (∀ (i : Nat) (q : Oper), ops[i]? = some q → q.dst = some t → (listed.setIfInBounds k true).getD i false = false) → (a.put o.dst (p.value V' k)).tmps[t]? = a0.tmps[t]?) := by
  have hk : k < listed.size := by rw [I.lsz]; exact (Array.getElem?_eq_some_iff.1 ho).1
  have pe : ∀ (i : Nat) (q : Step), pl[i]? = some q → i ≠ k → q.value V' i = q.value V i := fun i q _ hn => by
    have := hG i hn
    cases q <;> first | rfl | (unfold Step.value; rw [this])
  refine ⟨?_, ?_, ?_, ?_⟩
  · have := I.df; cases o.dst <;> exact this
  · have := I.sz; cases o.dst <;> simpa [Act.put] using this
  · intro i q t hq hd hl
    have hlt : ∀ s : Nat, t < s ∨ s ≤ t := fun s => Nat.lt_or_ge t s
    by_cases e : i = k
    · subst e
      rw [ho] at hq; cases hq
      rw [hd]
      rcases hlt a0.tmps.size with ht | ht
      · rw [finS_at V' t ops.toList pl a0 0 i o p (by simpa using ho) hp (Step.isLater_of_idle hla) hd (fun j q hj hn => by
          intro hd'
          exact hok.once j i q o t (by simpa using hj) ho hd (Ne.symm hn) hd') ht]
        simp [Act.put, I.sz, ht]
      · rw [Array.getElem?_eq_none (by simpa [Act.put, I.sz] using ht), Array.getElem?_eq_none (by rw [finS_size]; exact ht)]
    · have hl' : listed.getD i false = true := (getD_set_cases hl).resolve_left e
      have d0 := I.done i q t hq hd hl'
      have hne : o.dst ≠ some t := hok.once k i o q t ho hq hd e
      have e1 : (a.put o.dst (p.value V' k)).tmps[t]? = a.tmps[t]? := by
        cases hod : o.dst with
        | none => rfl
        | some d =>
          have : d ≠ t := fun h => hne (by rw [hod, h])
          simp [Act.put, Array.getElem?_setIfInBounds_ne this]
      rw [e1, d0]
      obtain ⟨q', hq'⟩ : ∃ q', pl[i]? = some q' := ⟨pl[i]'(by rw [hok.len]; exact (Array.getElem?_eq_some_iff.1 hq).1), List.getElem?_eq_getElem _⟩
      have hql : q'.isLater = false := by
        cases hc : q'.isLater with
        | false => rfl
        | true =>
          have := I.lat i q' hq' (by cases q' <;> first | rfl | cases hc)
          rw [hl'] at this; cases this
      have uniq : ∀ j r, ops.toList[j]? = some r → j ≠ i → r.dst ≠ some t := fun j r hj hn => hok.once j i r q t (by simpa using hj) hq hd (Ne.symm hn)
      rcases hlt a0.tmps.size with ht | ht
      · rw [finS_at V t ops.toList pl a0 0 i q q' (by simpa using hq) hq' hql hd uniq ht, finS_at V' t ops.toList pl a0 0 i q q' (by simpa using hq) hq' hql hd uniq ht]
        rw [Nat.zero_add, pe i q' hq' e]
      · rw [Array.getElem?_eq_none (by rw [finS_size]; exact ht), Array.getElem?_eq_none (by rw [finS_size]; exact ht)]
  · intro t ht
    have hne : o.dst ≠ some t := fun h => by
      have := ht k o ho h
      rw [getD_set_self hk] at this; cases this
    have e1 : (a.put o.dst (p.value V' k)).tmps[t]? = a.tmps[t]? := by
      cases hod : o.dst with
      | none => rfl
      | some d =>
        have : d ≠ t := fun h => hne (by rw [hod, h])
        simp [Act.put, Array.getElem?_setIfInBounds_ne this]
    rw [e1]
    exact I.rest t fun i q hq hd => getD_set_false (ht i q hq hd)
theorem TInv.fin {pl : List Step} {w1 : World} {a0 : Act} {V : Nat → Value} {listed : Array Bool} {a : Act} {u : World} (hok : StepOk ops pl) (I : TInv ops pl w1 a0 V listed a u)
    (hl : ∀ (k : Nat) (p : Step), pl[k]? = some p → p.isLater = false → listed.getD k false = true) : a = finS V a0 0 ops.toList pl := by
  have e1 : a.tmps = (finS V a0 0 ops.toList pl).tmps := by
    apply Array.ext_getElem?
    intro t
    by_cases hx : ∃ (i : Nat) (p : Oper) (q : Step), ops[i]? = some p ∧ p.dst = some t ∧ pl[i]? = some q ∧ q.isLater = false
    · obtain ⟨i, p, q, hp, hd, hq, hn⟩ := hx
      exact I.done i p t hp hd (hl i q hq hn)
    · have hx' : ∀ (i : Nat) (p : Oper) (q : Step), ops[i]? = some p → pl[i]? = some q → p.dst = some t → q.isLater = true := fun i p q hp hq hd => by
        cases hc : q.isLater with
        | true => rfl
        | false => exact absurd ⟨i, p, q, hp, hd, hq, hc⟩ hx
      rw [I.rest t (fun i p hp hd => by
        obtain ⟨q, hq⟩ : ∃ q, pl[i]? = some q := ⟨pl[i]'(by rw [hok.len]; exact (Array.getElem?_eq_some_iff.1 hp).1), List.getElem?_eq_getElem _⟩
        have := hx' i p q hp hq hd
        exact I.lat i q hq (by cases q <;> first | rfl | cases this))]
      rw [finS_late V t _ _ _ _ (fun i o p ho hp hd => hx' i o p (by simpa using ho) hp hd)]
  have e2 : a.defers = (finS V a0 0 ops.toList pl).defers := by rw [I.df, finS_defers]
  cases a
  cases h : finS V a0 0 ops.toList pl
  rw [h] at e1 e2
  simp only at e1 e2
  rw [e1, e2]
theorem TInv.lat' {pl : List Step} {w1 : World} {a0 : Act} {V : Nat → Value} {listed : Array Bool} {a : Act} {u : World} (I : TInv ops pl w1 a0 V listed a u)
    {k : Nat} {o : Oper} {p : Step} (_ho : ops[k]? = some o) (hp : pl[k]? = some p) (hla : p.idle = false) : ∀ (i : Nat) (q : Step), pl[i]? = some q → q.idle = true → (listed.setIfInBounds k true).getD i false = false := fun i q hi hq => by
  have : k ≠ i := fun e => by subst e; rw [hp] at hi; cases hi; rw [hla] at hq; cases hq
  rw [getD_set_ne false this]; exact I.lat i q hi hq
theorem TInv.down' {pl : List Step} {w1 : World} {a0 : Act} {V : Nat → Value} {listed : Array Bool} {a : Act} {u : World} (I : TInv ops pl w1 a0 V listed a u)
    {k : Nat} {o : Oper} (ho : ops[k]? = some o) (hall : ∀ e ∈ o.after, Region.binds .any e = true → listed.getD e.on false = true) :
    ∀ (i : Nat) (q : Oper), ops[i]? = some q → (listed.setIfInBounds k true).getD i false = true → ∀ e ∈ q.after, Region.binds .any e = true → (listed.setIfInBounds k true).getD e.on false = true := fun i q hq hl e he hb => by
  rcases getD_set_cases hl with rfl | h
  · rw [ho] at hq; cases hq; exact getD_set_true (hall e he hb)
  · exact getD_set_true (I.down i q hq h e he hb)
theorem TInv.known {pl : List Step} {w1 : World} {a0 : Act} {V : Nat → Value} {listed : Array Bool} {a : Act} {u : World} (I : TInv ops pl w1 a0 V listed a u)
    {k : Nat} {o : Oper} (hf : listed.getD k false = false) (hall : ∀ e ∈ o.after, Region.binds .any e = true → listed.getD e.on false = true) : Known pl k o V u := fun i F hi he => by
  obtain ⟨e', he', hb⟩ := Array.any_eq_true'.1 he
  simp only [Bool.and_eq_true, beq_iff_eq] at hb
  obtain ⟨hb, rfl⟩ := hb
  obtain ⟨h1, h2⟩ := factFor_some hi
  exact I.fact _ F h1 (hall e' he' hb) (fun j hj => by rw [h2 j hj]; exact hf)
/-- the step of an operation whose value is known -/
theorem TInv.step {pl : List Step} {w1 : World} {a0 : Act} {V V' : Nat → Value} {listed : Array Bool} {a : Act} {u u' : World} (hok : StepOk ops pl) (I : TInv ops pl w1 a0 V listed a u)
    {k : Nat} {o : Oper} {p : Step} (ho : ops[k]? = some o) (hp : pl[k]? = some p) (hla : p.idle = false) (hall : ∀ e ∈ o.after, Region.binds .any e = true → listed.getD e.on false = true) (g : Gr u u')
    (hG : ∀ i, i ≠ k → V' i = V i) (hst : ∀ (i : Nat) (F : Value → World → Prop), (pl[i]?).bind Step.fact? = some F → ∀ v u u', F v u → Gr u u' → F v u') (hF : ∀ F, p.fact? = some F → F (V' k) u') (hf : listed.getD k false = false) :
    TInv ops pl w1 a0 V' (listed.setIfInBounds k true) (a.put o.dst (p.value V' k)) u' := by
  obtain ⟨f1, f2, f3, f4⟩ := I.frame hok ho hp (V' := V') hla hG
  refine ⟨I.gr.trans g, f1, f2, by simp [I.lsz], f3, f4, ?_, I.lat' ho hp hla, I.down' ho hall⟩
  intro i F hi hl hd
  by_cases e : i = k
  · subst e
    rw [hp] at hi
    exact hF F hi
  · rw [hG i e]
    exact hst i F hi _ _ _ (I.fact i F hi ((getD_set_cases hl).resolve_left e) (fun j hj => getD_set_false (hd j hj))) g
/-- the step of an operation that writes into what others of the region made -/
theorem TInv.stepM {pl : List Step} {w1 : World} {a0 : Act} {V V' : Nat → Value} {listed : Array Bool} {a : Act} {u u' : World} (hok : StepOk ops pl) (I : TInv ops pl w1 a0 V listed a u)
    {k : Nat} {o : Oper} {p : Step} (ho : ops[k]? = some o) (hp : pl[k]? = some p) (hla : p.idle = false) (hall : ∀ e ∈ o.after, Region.binds .any e = true → listed.getD e.on false = true) (g : Gr w1 u')
    (hG : ∀ i, i ≠ k → V' i = V i) (hst : ∀ (i : Nat) (F : Value → World → Prop), (pl[i]?).bind Step.fact? = some F → i ≠ k → dropBy pl i k = false → F (V i) u → F (V i) u') (hF : ∀ F, p.fact? = some F → F (V' k) u') (hkl : k < listed.size) :
    TInv ops pl w1 a0 V' (listed.setIfInBounds k true) (a.put o.dst (p.value V' k)) u' := by
  obtain ⟨f1, f2, f3, f4⟩ := I.frame hok ho hp (V' := V') hla hG
  refine ⟨g, f1, f2, by simp [I.lsz], f3, f4, ?_, I.lat' ho hp hla, I.down' ho hall⟩
  intro i F hi hl hd
  by_cases e : i = k
  · subst e
    rw [hp] at hi
    exact hF F hi
  · rw [hG i e]
    refine hst i F hi e ?_ (I.fact i F hi ((getD_set_cases hl).resolve_left e) (fun j hj => getD_set_false (hd j hj)))
    cases hq : dropBy pl i k with
    | false => rfl
    | true => have := hd k hq; rw [getD_set_self hkl] at this; cases this
def lateS (pl : List Step) : Array Bool := (pl.map fun | .later => false | _ => true).toArray
theorem OwesTs.stable {pl : List Step} {w1 : World} {F : (Nat → Value) → Act} {os : List Oper} (h : OwesTs P ops pl w1 F 0 os pl) (hl : pl.length = os.length) : ∀ (i : Nat) (Fk : Value → World → Prop), (pl[i]?).bind Step.fact? = some Fk → ∀ v u u', Fk v u → Gr u u' → Fk v u' := fun i Fk hi => by
  cases hp : pl[i]? with
  | none => rw [hp] at hi; cases hi
  | some p =>
    have ho : os[i]? = some (os[i]'(by rw [← hl]; exact (List.getElem?_eq_some_iff.1 hp).1)) := List.getElem?_eq_getElem _
    have := h.at i _ _ ho hp
    rw [hp] at hi
    cases p with
    | sat F => cases hi; exact this.1
    | turn F d => cases hi; exact this.1
    | _ => cases hi
theorem step_any {pl : List Step} (hok : StepOk ops pl) {w1 : World} {a0 : Act} (hO : OwesTs P ops pl w1 (fun V => finS V a0 0 ops.toList pl) 0 ops.toList pl)
    (hP : ∀ (k : Nat) (chain : List PanicEntry), pl[k]? = some (.dies chain) → ∀ a u, Gr w1 u → a.defers = a0.defers → Q (.panic chain) a u)
    (hF : (∀ (k : Nat) (chain : List PanicEntry), pl[k]? ≠ some (.dies chain)) → ∀ V u, Gr w1 u → (∀ (i : Nat) (F : Value → World → Prop), factAt pl i = some F → F (V i) u) →
      ∀ fuel, cntF (lateS pl) ops.size ≤ fuel → wpAny P .any ops Q fuel (lateS pl) (finS V a0 0 ops.toList pl) u) :
    ∀ (fuel : Nat) (listed : Array Bool) (a : Act) (u : World) (V : Nat → Value), TInv ops pl w1 a0 V listed a u → cntF listed ops.size ≤ fuel → wpAny P .any ops Q fuel listed a u := by
  have hst := hO.stable (by simpa using hok.len)
  have fin : ∀ (fuel : Nat) (listed : Array Bool) (a : Act) (u : World) (V : Nat → Value), TInv ops pl w1 a0 V listed a u → cntF listed ops.size ≤ fuel → (∀ (k : Nat) (p : Step), pl[k]? = some p → p.isLater = false → listed.getD k false = true) → wpAny P .any ops Q fuel listed a u := by
    intro fuel listed a u V I hc hl
    have el : listed = lateS pl := by
      apply Array.ext
      · simp [lateS, I.lsz, hok.len]
      · intro k h1 h2
        have hk : k < pl.length := by rw [hok.len, ← I.lsz]; exact h1
        have hp : pl[k]? = some pl[k] := List.getElem?_eq_getElem hk
        have e1 : (lateS pl)[k] = (match pl[k] with | .later => false | _ => true) := by simp [lateS]
        rw [e1]
        generalize pl[k] = q at *
        cases q
        case later =>
          have := I.lat k _ hp rfl
          simpa [h1] using this
        all_goals
          have := hl k _ hp rfl
          have e2 : listed[k] = true := by simpa [h1] using this
          rw [e2]
    rw [I.fin hok hl]
    have hd : ∀ (k : Nat) (chain : List PanicEntry), pl[k]? ≠ some (.dies chain) := fun k chain hk => by have := hl k _ hk rfl; rw [I.lat k _ hk rfl] at this; cases this
    have hfact : ∀ (i : Nat) (F : Value → World → Prop), factAt pl i = some F → F (V i) u := fun i F hi => by
      obtain ⟨h1, h2⟩ := factAt_some hi
      refine I.fact i F h1 ?_ (fun j hj => by rw [h2 j] at hj; cases hj)
      cases hp : pl[i]? with
      | none => rw [hp] at h1; cases h1
      | some p =>
        rw [hp] at h1
        refine hl i p hp ?_
        cases p <;> first | rfl | cases h1
    have hg := I.gr
    rw [el] at hc ⊢
    exact hF hd V u hg hfact fuel hc
  intro fuel
  induction fuel with
  | zero =>
    intro listed a u V I hc
    have hl := cntF_zero ops.size (Nat.le_zero.1 hc)
    exact fin 0 listed a u V I hc fun k p hp _ => hl k (by rw [← hok.len]; exact (List.getElem?_eq_some_iff.1 hp).1)
  | succ fuel ih =>
    intro listed a u V I hc
    by_cases hfin : ∀ (k : Nat) (p : Step), pl[k]? = some p → p.isLater = false → listed.getD k false = true
    · exact fin (fuel + 1) listed a u V I hc hfin
    have hlate : ∀ (k : Nat) (o : Oper), ops[k]? = some o → (∀ e ∈ o.after, Region.binds .any e = true → listed.getD e.on false = true) → pl[k]? ≠ some .later := fun k o ho hall hp => by
      refine hfin fun i q hq hn => ?_
      exact covers_listed I.down 3 k i (hok.lat k o ho hp i q hq hn) fun o' ho' e he hb => by rw [ho] at ho'; cases ho'; exact hall e he hb
    refine ⟨fun hr => ?_, fun k hk => ?_⟩
    · exfalso
      have all : ∀ k, k < ops.size → listed.getD k false = true := by
        intro k
        induction k using Nat.strongRecOn with
        | ind k ihk =>
          intro hk
          cases hl : listed.getD k false with
          | true => rfl
          | false =>
            exfalso
            have ho : ops[k]? = some ops[k] := Array.getElem?_eq_getElem hk
            have : k ∈ Region.ready .any ops listed := mem_ready.2 ⟨by
              have := I.lsz
              simp [Array.getD_eq_getD_getElem?, this, hk] at hl ⊢; exact hl, ops[k], ho, fun e he hb => ihk e.on (hok.front k _ ho e he hb) (by have := hok.front k _ ho e he hb; omega)⟩
            rw [hr] at this
            cases this
      exact hfin fun k p hp _ => all k (by rw [← hok.len]; exact (List.getElem?_eq_some_iff.1 hp).1)
    obtain ⟨h0, o, ho, hall⟩ := mem_ready.1 hk
    have hk' : k < ops.size := (Array.getElem?_eq_some_iff.1 ho).1
    have hkl : k < listed.size := by rw [I.lsz]; exact hk'
    have hf := ready_unlisted I.lsz hk' h0
    have hc' : cntF (listed.setIfInBounds k true) ops.size ≤ fuel := by
      have := cntF_set hkl hf ops.size
      rw [if_pos hk'] at this
      omega
    obtain ⟨p, hp⟩ : ∃ p, pl[k]? = some p := ⟨pl[k]'(by rw [hok.len]; exact hk'), List.getElem?_eq_getElem _⟩
    obtain ⟨e1, e2⟩ := I.agree hok ho hall
    have O := hO.at k o p (by simpa using ho) hp
    rw [Nat.zero_add] at O
    have KN := I.known (o := o) hf hall
    unfold Go.wpOp
    rw [ho]
    dsimp only
    rw [e2]
    cases p with
    | later => exact absurd hp (hlate k o ho hall)
    | never =>
      obtain ⟨e, he, hb, q, hq, hi⟩ := hok.nev k o ho hp
      have := hall e he hb
      rw [I.lat e.on q hq hi] at this
      cases this
    | dies chain =>
      obtain ⟨hw, hv⟩ := O V u I.gr KN
      dsimp only at hw hv
      rw [if_pos hw]
      left
      unfold Oper.wp
      rw [e1]
      exact Dead.upon hv fun u' g => hP k chain hp a u' (I.gr.trans g) I.df
    | val v =>
      obtain ⟨hw, hv⟩ := O V u I.gr KN
      dsimp only at hw hv
      rw [if_pos hw]
      left
      unfold Oper.wp
      rw [e1]
      exact Came.upon hv fun u' g => ih _ _ u' V (I.step (V' := V) hok ho hp rfl hall g (fun _ _ => rfl) hst (fun F h => by cases h) hf) hc'
    | off =>
      have hw := O V u I.gr KN
      dsimp only at hw
      rw [if_neg (by rw [hw]; simp)]
      exact ih _ _ u V (I.step (V' := V) hok ho hp rfl hall (Gr.refl u) (fun _ _ => rfl) hst (fun F h => by cases h) hf) hc'
    | sat Fk =>
      obtain ⟨hw, hv⟩ := O.2 V u I.gr KN
      dsimp only at hw hv
      rw [if_pos hw]
      left
      unfold Oper.wp
      rw [e1]
      refine CameS.upon hv fun v u' hfv g => ?_
      have hval : (Step.sat Fk).value (fun i => if i = k then v else V i) k = v := by simp [Step.value]
      have st := I.step (V' := fun i => if i = k then v else V i) hok ho hp rfl hall g (fun i hi => by simp [hi]) hst (fun F h => by cases h; simpa using hfv) hf
      rw [hval] at st
      exact ih _ _ u' _ st hc'
    | turn Fk drop =>
      obtain ⟨hw, hv⟩ := O.2 V u I.gr KN
      dsimp only at hw hv
      rw [if_pos hw]
      left
      unfold Oper.wp
      rw [e1]
      refine CameS.upon hv fun v u' hfv g => ?_
      have hval : (Step.turn Fk drop).value (fun i => if i = k then v else V i) k = v := by simp [Step.value]
      have st := I.stepM (V' := fun i => if i = k then v else V i) hok ho hp rfl hall g.1 (fun i hi => by simp [hi]) (fun i Fi hi hn hdr hx => g.2 i Fi hi hn (by unfold dropBy at hdr; rw [hp] at hdr; exact hdr) hx) (fun F h => by cases h; simpa using hfv) hkl
      rw [hval] at st
      exact ih _ _ u' _ st hc'
/-- a drawn region by steps; what is left are the late ones -/
theorem wp_region_steps_late {id : Nat} {w : World} {a0 : Act} (pl : List Step) {F : (Nat → Value) → Act} (hm : P.follows .mixedOrders = true) (hok : stepOk ops pl = true)
    (hE : ∀ V, finS V a0 0 ops.toList pl = F V)
    (hO : OwesTs P ops pl w F 0 ops.toList pl)
    (hP : ∀ (k : Nat) (chain : List PanicEntry), pl[k]? = some (.dies chain) → ∀ a u, Gr w u → a.defers = a0.defers → Q (.panic chain) a u)
    (hF : (∀ (k : Nat) (chain : List PanicEntry), pl[k]? ≠ some (.dies chain)) → ∀ V u, Gr w u → (∀ (i : Nat) (F : Value → World → Prop), factAt pl i = some F → F (V i) u) →
      ∀ fuel, cntF (lateS pl) ops.size ≤ fuel → wpAny P .any ops Q fuel (lateS pl) (F V) u) :
    (Code.region id ops true).wp P Q a0 w := by
  have hok' := stepOk_spec hok
  obtain rfl : (fun V => finS V a0 0 ops.toList pl) = F := funext hE
  refine wp_region_any hm ?_
  have h0 : ∀ k, (Array.replicate ops.size false).getD k false = false := fun k => by
    by_cases h : k < ops.size <;> simp [h]
  refine step_any (w1 := w) hok' hO hP hF ops.size _ _ _ (fun _ => undef) ⟨Gr.drew (Gr.refl w), rfl, rfl, by simp, ?_, fun _ _ => rfl, ?_, fun k _ _ _ => h0 k, ?_⟩ ?_
  · intro k o t _ _ h; rw [h0] at h; cases h
  · intro i F _ h _; rw [h0] at h; cases h
  · intro k o _ h; rw [h0] at h; cases h
  · have : ∀ n, cntF (Array.replicate ops.size false) n ≤ n := fun n => by
      induction n with
      | zero => exact Nat.le_refl _
      | succ n ih => simp only [cntF]; split <;> omega
    exact this _
def noDiesS (pl : List Step) : Bool := pl.all fun | .dies _ => false | _ => true
theorem noDiesS_spec {pl : List Step} {w : World} {a0 : Act} (h : noDiesS pl = true) : ∀ (k : Nat) (chain : List PanicEntry), pl[k]? = some (.dies chain) → ∀ a u, Gr w u → a.defers = a0.defers → Q (.panic chain) a u := fun k chain hk => by
  unfold noDiesS at h
  rw [List.all_eq_true] at h
  have := h _ (List.mem_of_getElem? hk)
  simp at this
/-- a drawn region by steps -/
theorem wp_region_steps {id : Nat} {w : World} {a0 : Act} (pl : List Step) {F : (Nat → Value) → Act} (hm : P.follows .mixedOrders = true) (hok : (stepOk ops pl && noDiesS pl && (Region.ready .any ops (lateS pl)).isEmpty) = true)
    (hE : ∀ V, finS V a0 0 ops.toList pl = F V)
    (hO : OwesTs P ops pl w F 0 ops.toList pl)
    (hF : ∀ V u, Gr w u → (∀ (i : Nat) (F : Value → World → Prop), factAt pl i = some F → F (V i) u) → Q .normal (F V) u) :
    (Code.region id ops true).wp P Q a0 w := by
  rw [Bool.and_eq_true, Bool.and_eq_true] at hok
  exact wp_region_steps_late pl hm hok.1.1 hE hO (noDiesS_spec hok.1.2) fun _ V u hg hb fuel _ => wpAny_done (by simpa using hok.2) (hF V u hg hb) fuel
theorem CameS.mono {F : Value → World → Prop} {R1 R2 : World → Prop} {r : Result Next} (h : CameS P F R1 r) (hr : ∀ w, R1 w → R2 w) : CameS P F R2 r := by
  cases r with
  | halt x w => exact h.elim
  | ok n w =>
    cases n with
    | value u => exact ⟨h.1, hr _ h.2⟩
    | enter f args => exact Calls.mono h fun e w' ⟨v, he, hf, hw⟩ => ⟨v, he, hf, hr _ hw⟩
    | _ => exact h.elim
/-- the late operations come up one behind the other -/
def chainS (ops : Array Oper) : Array Bool → List Nat → Bool
  | listed, [] => (Region.ready .any ops listed).isEmpty
  | listed, i :: r => (Region.ready .any ops listed == [i]) && chainS ops (listed.setIfInBounds i true) r
def Lones (P : Program) (ops : Array Oper) (Q : Exit → Act → World → Prop) : List Nat → Act → World → Prop
  | [], a, w => Q .normal a w
  | i :: r, a, w => Lone P ops Q i (Lones P ops Q r) a w
theorem Lones.fin {a : Act} {w : World} (h : Q .normal a w) : Lones P ops Q [] a w := h
theorem Lones.next {i : Nat} {r : List Nat} {a : Act} {w : World} (h : Lone P ops Q i (Lones P ops Q r) a w) : Lones P ops Q (i :: r) a w := h
theorem Lones.any {ls : List Nat} : ∀ {listed : Array Bool} {fuel : Nat} {a : Act} {w : World}, chainS ops listed ls = true → ls.length ≤ fuel → Lones P ops Q ls a w → wpAny P .any ops Q fuel listed a w := by
  induction ls with
  | nil => intro listed fuel a w hc _ h; exact wpAny_done (by simpa [chainS] using hc) h fuel
  | cons i r ih =>
    intro listed fuel a w hc hf h
    simp only [chainS, Bool.and_eq_true, beq_iff_eq] at hc
    obtain ⟨f, rfl⟩ : ∃ f, fuel = f + 1 := ⟨fuel - 1, by simp at hf; omega⟩
    refine wpAny_all hc.1 (by simp) fun k hk => ?_
    simp only [List.mem_singleton] at hk
    subst hk
    exact wpOp_mono (fun a' w' h' => ih hc.2 (by simp at hf; omega) h') h.wpOp
def lateSL (ops : Array Oper) (pl : List Step) (ls : List Nat) : Bool :=
  stepOk ops pl && noDiesS pl && chainS ops (lateS pl) ls && decide (ls.length ≤ cntF (lateS pl) ops.size)
/-- a drawn region by steps, with late operations in one order (stores, calls that write) -/
theorem wp_region_stepsL {id : Nat} {w : World} {a0 : Act} (ls : List Nat) (pl : List Step) {F : (Nat → Value) → Act} (hm : P.follows .mixedOrders = true) (hok : lateSL ops pl ls = true)
    (hE : ∀ V, finS V a0 0 ops.toList pl = F V)
    (hO : OwesTs P ops pl w F 0 ops.toList pl)
    (hF : ∀ V u, Gr w u → (∀ (i : Nat) (F : Value → World → Prop), factAt pl i = some F → F (V i) u) → Lones P ops Q ls (F V) u) :
    (Code.region id ops true).wp P Q a0 w := by
  unfold lateSL at hok
  simp only [Bool.and_eq_true, decide_eq_true_eq] at hok
  obtain ⟨⟨⟨h1, h0⟩, h2⟩, h3⟩ := hok
  exact wp_region_steps_late pl hm h1 hE hO (noDiesS_spec h0) fun _ V u hg hb fuel hc => Lones.any h2 (Nat.le_trans h3 hc) (hF V u hg hb)
end
end Go.Proofs.YthmimjofdmnakaaGreatDoor
