/- Drawn regions by steps, where one operation may write into a block that was there: the relation of the worlds is free (R), and a fact about the world (J) holds until that operation comes up. Printed by a program out of XStepsJ: an operation that writes need not keep what is known of operations that can only come after it. -/
import Derived.Test.YthmimjofdmnakaaGreatDoorSteps
namespace Go.Proofs.YthmimjofdmnakaaGreatDoor
section
open Go.RowKit Go.Shelf
variable {P : Program} {ops : Array Oper} {Q : Exit → Act → World → Prop}
structure StepOkK (ops : Array Oper) (pl : List Step) : Prop where
  len : pl.length = ops.size
  nosel : ∀ (j : Nat) (o : Oper) cs b, ops[j]? = some o → o.op ≠ .select cs b
  front : ∀ (k : Nat) (o : Oper), ops[k]? = some o → ∀ e ∈ o.after, Region.binds .any e = true → e.on < k
  once : ∀ (k i : Nat) (o p : Oper) (d : Tmp), ops[k]? = some o → ops[i]? = some p → p.dst = some d → i ≠ k → o.dst ≠ some d
  waits : ∀ (k i : Nat) (o p : Oper) (d : Tmp), ops[k]? = some o → ops[i]? = some p → p.dst = some d → d ∈ o.looksAt ops → pl[i]? = some .later ∨ ∃ e ∈ o.after, Region.binds .any e = true ∧ e.on = i
  nev : ∀ (k : Nat) (o : Oper), ops[k]? = some o → pl[k]? = some .never → ∃ e ∈ o.after, Region.binds .any e = true ∧ ∃ p, pl[e.on]? = some p ∧ p.idle = true
  lat : ∀ (k : Nat) (o : Oper), ops[k]? = some o → pl[k]? = some .later → ∀ (i : Nat) (q : Step), pl[i]? = some q → q.isLater = false → covers ops 6 k i = true
/-- what is known of i's value when k comes up: what others make untrue that can only come after k is still known -/
def factForK (ops : Array Oper) (pl : List Step) (k i : Nat) : Option (Value → World → Prop) := if (List.range pl.length).any (fun j => j != k && dropBy pl i j && !covers ops 4 j k) then none else (pl[i]?).bind Step.fact?
theorem factForK_some {pl : List Step} {k i : Nat} {F : Value → World → Prop} (h : factForK ops pl k i = some F) : (pl[i]?).bind Step.fact? = some F ∧ ∀ j, dropBy pl i j = true → j = k ∨ covers ops 4 j k = true := by
  unfold factForK at h
  split at h
  · cases h
  · rename_i hn
    refine ⟨h, fun j hj => ?_⟩
    by_cases e : j = k
    · exact Or.inl e
    · cases hc : covers ops 4 j k with
      | true => exact Or.inr rfl
      | false =>
        exfalso
        refine hn (List.any_eq_true.2 ⟨j, List.mem_range.2 (dropBy_lt hj), ?_⟩)
        rw [hj, hc]
        simpa using e
def KnownK (ops : Array Oper) (pl : List Step) (k : Nat) (o : Oper) (V : Nat → Value) (u : World) : Prop :=
  ∀ (i : Nat) (F : Value → World → Prop), factForK ops pl k i = some F → (o.after.any fun e => Region.binds .any e && e.on == i) = true → F (V i) u
/-- operation k comes up ahead of all that make J untrue -/
def usesK (ops : Array Oper) (dj : List Nat) (k : Nat) : Bool := dj.all fun j => j == k || covers ops 4 j k
/-- what is owed for one operation -/
def OwesK (P : Program) (ops : Array Oper) (pl : List Step) (R J : World → Prop) (dj : List Nat) (F : (Nat → Value) → Act) (k : Nat) (o : Oper) : Step → Prop
  | .val v => ∀ V u, R u → (usesK ops dj k = true → J u) → KnownK ops pl k o V u → Region.wanted o (yielded ops (F V).tmps) = true ∧ Came P v (Gr u) ((execOp (F V).eval o).run P u)
  | .off => ∀ V u, R u → (usesK ops dj k = true → J u) → KnownK ops pl k o V u → Region.wanted o (yielded ops (F V).tmps) = false
  | .sat Fk => (∀ v u u', Fk v u → Gr u u' → Fk v u') ∧ ∀ V u, R u → (usesK ops dj k = true → J u) → KnownK ops pl k o V u → Region.wanted o (yielded ops (F V).tmps) = true ∧ CameS P Fk (Gr u) ((execOp (F V).eval o).run P u)
  | .turn Fk drop => (∀ v u u', Fk v u → Gr u u' → Fk v u') ∧ ∀ V u, R u → (usesK ops dj k = true → J u) → KnownK ops pl k o V u → Region.wanted o (yielded ops (F V).tmps) = true ∧
      CameS P Fk (fun u' => R u' ∧ (dj.contains k = false → J u → J u') ∧ ∀ (i : Nat) (Fi : Value → World → Prop), (pl[i]?).bind Step.fact? = some Fi → i ≠ k → drop.contains i = false → covers ops 4 i k = false → Fi (V i) u → Fi (V i) u') ((execOp (F V).eval o).run P u)
  | .later => True
  | .dies chain => ∀ V u, R u → (usesK ops dj k = true → J u) → KnownK ops pl k o V u → Region.wanted o (yielded ops (F V).tmps) = true ∧ Dead P chain (Gr u) ((execOp (F V).eval o).run P u)
  | .never => True
def OwesKs (P : Program) (ops : Array Oper) (pl : List Step) (R J : World → Prop) (dj : List Nat) (F : (Nat → Value) → Act) : Nat → List Oper → List Step → Prop
  | k, o :: os, p :: ps => OwesK P ops pl R J dj F k o p ∧ OwesKs P ops pl R J dj F (k + 1) os ps
  | _, _, _ => True
theorem OwesKs.at {pl : List Step} {R J : World → Prop} {dj : List Nat} {F : (Nat → Value) → Act} : ∀ {os : List Oper} {ps : List Step} {k0 : Nat}, OwesKs P ops pl R J dj F k0 os ps → ∀ (k : Nat) (o : Oper) (p : Step), os[k]? = some o → ps[k]? = some p → OwesK P ops pl R J dj F (k0 + k) o p
  | [], _, _, _, k, o, p, ho, _ => by simp at ho
  | _ :: _, [], _, _, k, o, p, _, hp => by simp at hp
  | o' :: os, p' :: ps, k0, h, k, o, p, ho, hp => by
    cases k with
    | zero =>
      simp only [List.getElem?_cons_zero, Option.some.injEq] at ho hp
      subst ho hp
      exact h.1
    | succ k =>
      simp only [List.getElem?_cons_succ] at ho hp
      have := h.2.at k o p ho hp
      rw [show k0 + 1 + k = k0 + (k + 1) by omega] at this
      exact this
structure TInvK (ops : Array Oper) (pl : List Step) (R J : World → Prop) (dj : List Nat) (a0 : Act) (V : Nat → Value) (listed : Array Bool) (a : Act) (u : World) : Prop where
  gr : R u
  df : a.defers = a0.defers
  sz : a.tmps.size = a0.tmps.size
  lsz : listed.size = ops.size
  done : ∀ (k : Nat) (o : Oper) (t : Tmp), ops[k]? = some o → o.dst = some t → listed.getD k false = true → a.tmps[t]? = (finS V a0 0 ops.toList pl).tmps[t]?
  rest : ∀ (t : Tmp), (∀ (k : Nat) (o : Oper), ops[k]? = some o → o.dst = some t → listed.getD k false = false) → a.tmps[t]? = a0.tmps[t]?
  fact : ∀ (i : Nat) (F : Value → World → Prop), (pl[i]?).bind Step.fact? = some F → listed.getD i false = true → (∀ j, dropBy pl i j = true → listed.getD j false = false) → F (V i) u
  lat : ∀ (k : Nat) (p : Step), pl[k]? = some p → p.idle = true → listed.getD k false = false
  down : ∀ (k : Nat) (o : Oper), ops[k]? = some o → listed.getD k false = true → ∀ e ∈ o.after, Region.binds .any e = true → listed.getD e.on false = true
  jj : (∀ j ∈ dj, listed.getD j false = false) → J u
/-- the frame at hand is as the last one, for all that an operation which may come up looks at -/
theorem TInvK.agree {pl : List Step} {R J : World → Prop} {dj : List Nat} {a0 : Act} {V : Nat → Value} {listed : Array Bool} {a : Act} {u : World} (hok : StepOkK ops pl) (I : TInvK ops pl R J dj a0 V listed a u)
    {k : Nat} {o : Oper} (ho : ops[k]? = some o) (hall : ∀ e ∈ o.after, Region.binds .any e = true → listed.getD e.on false = true) :
    execOp a.eval o = execOp (finS V a0 0 ops.toList pl).eval o ∧ Region.wanted o (yielded ops a.tmps) = Region.wanted o (yielded ops (finS V a0 0 ops.toList pl).tmps) := by
  have key : ∀ t, t ∈ o.looksAt ops → a.tmps[t]? = (finS V a0 0 ops.toList pl).tmps[t]? := fun t ht => by
    by_cases hx : ∃ (i : Nat) (p : Oper), ops[i]? = some p ∧ p.dst = some t
    · obtain ⟨i, p, hp, hd⟩ := hx
      rcases hok.waits k i o p t ho hp hd ht with hlt | ⟨e, he, hb, rfl⟩
      · have uniq : ∀ j q, ops[j]? = some q → q.dst = some t → j = i := fun j q hq hd' => Classical.byContradiction fun hn => hok.once j i q p t hq hp hd (Ne.symm hn) hd'
        rw [I.rest t (fun j q hq hd' => by obtain rfl := uniq j q hq hd'; exact I.lat _ _ hlt rfl)]
        rw [finS_late V t _ _ _ _ (fun j q r hq hr hd' => by
          obtain rfl := uniq j q (by simpa using hq) hd'
          rw [hlt] at hr; cases hr; rfl)]
      · exact I.done _ p t hp hd (hall e he hb)
    · rw [I.rest t (fun i p hp hd => absurd ⟨i, p, hp, hd⟩ hx)]
      rw [finS_other V t _ _ _ _ (fun p hp hd => by
        obtain ⟨i, hi⟩ := List.getElem?_of_mem hp
        exact hx ⟨i, p, by simpa using hi, hd⟩)]
  constructor
  · refine execOp_congr o (fun cs b => hok.nosel k o cs b ho) (fun x hx => ?_)
    cases x with
    | tmp t =>
      have := key t (List.mem_append_left _ (List.mem_filterMap.2 ⟨.tmp t, by simpa using hx, rfl⟩))
      simp only [Act.eval, Array.getD_eq_getD_getElem?, this]
    | _ => rfl
  · unfold Region.wanted
    cases hg : o.guard with
    | none => rfl
    | some gw =>
      obtain ⟨g, want⟩ := gw
      have : yielded ops a.tmps g = yielded ops (finS V a0 0 ops.toList pl).tmps g := by
        unfold yielded
        cases ht : (ops[g]?).bind (·.dst) with
        | none => rfl
        | some t =>
          have := key t (List.mem_append_right _ (by simp [hg, ht]))
          simp only [Option.bind_some, this]
      simp only [this]
/-- an operation has put its value down -/
theorem TInvK.frame {pl : List Step} {R J : World → Prop} {dj : List Nat} {a0 : Act} {V V' : Nat → Value} {listed : Array Bool} {a : Act} {u : World} (hok : StepOkK ops pl) (I : TInvK ops pl R J dj a0 V listed a u)
    {k : Nat} {o : Oper} {p : Step} (ho : ops[k]? = some o) (hp : pl[k]? = some p) (hla : p.idle = false) (hG : ∀ i, i ≠ k → V' i = V i) :
    (a.put o.dst (p.value V' k)).defers = a0.defers ∧ (a.put o.dst (p.value V' k)).tmps.size = a0.tmps.size ∧
    (∀ (i : Nat) (q : Oper) (t : Tmp), ops[i]? = some q → q.dst = some t → (listed.setIfInBounds k true).getD i false = true → (a.put o.dst (p.value V' k)).tmps[t]? = (finS V' a0 0 ops.toList pl).tmps[t]?) ∧
    (∀ (t : Tmp), (∀ (i : Nat) (q : Oper), ops[i]? = some q → q.dst = some t → (listed.setIfInBounds k true).getD i false = false) → (a.put o.dst (p.value V' k)).tmps[t]? = a0.tmps[t]?) := by
  have hk : k < listed.size := by rw [I.lsz]; exact (Array.getElem?_eq_some_iff.1 ho).1
  have pe : ∀ (i : Nat) (q : Step), pl[i]? = some q → i ≠ k → q.value V' i = q.value V i := fun i q _ hn => by
    have := hG i hn
    cases q <;> first | rfl | (unfold Step.value; rw [this])
  refine ⟨?_, ?_, ?_, ?_⟩
  · have := I.df; cases o.dst <;> exact this
  · have := I.sz; cases o.dst <;> simpa [Act.put] using this
  · intro i q t hq hd hl
    have hlt : ∀ s : Nat, t < s ∨ s ≤ t := fun s => Nat.lt_or_ge t s
    by_cases e : i = k
    · subst e
      rw [ho] at hq; cases hq
      rw [hd]
      rcases hlt a0.tmps.size with ht | ht
      · rw [finS_at V' t ops.toList pl a0 0 i o p (by simpa using ho) hp (Step.isLater_of_idle hla) hd (fun j q hj hn => by
          intro hd'
          exact hok.once j i q o t (by simpa using hj) ho hd (Ne.symm hn) hd') ht]
        simp [Act.put, I.sz, ht]
      · rw [Array.getElem?_eq_none (by simpa [Act.put, I.sz] using ht), Array.getElem?_eq_none (by rw [finS_size]; exact ht)]
    · have hl' : listed.getD i false = true := (getD_set_cases hl).resolve_left e
      have d0 := I.done i q t hq hd hl'
      have hne : o.dst ≠ some t := hok.once k i o q t ho hq hd e
      have e1 : (a.put o.dst (p.value V' k)).tmps[t]? = a.tmps[t]? := by
        cases hod : o.dst with
        | none => rfl
        | some d =>
          have : d ≠ t := fun h => hne (by rw [hod, h])
          simp [Act.put, Array.getElem?_setIfInBounds_ne this]
      rw [e1, d0]
      obtain ⟨q', hq'⟩ : ∃ q', pl[i]? = some q' := ⟨pl[i]'(by rw [hok.len]; exact (Array.getElem?_eq_some_iff.1 hq).1), List.getElem?_eq_getElem _⟩
      have hql : q'.isLater = false := by
        cases hc : q'.isLater with
        | false => rfl
        | true =>
          have := I.lat i q' hq' (by cases q' <;> first | rfl | cases hc)
          rw [hl'] at this; cases this
      have uniq : ∀ j r, ops.toList[j]? = some r → j ≠ i → r.dst ≠ some t := fun j r hj hn => hok.once j i r q t (by simpa using hj) hq hd (Ne.symm hn)
      rcases hlt a0.tmps.size with ht | ht
      · rw [finS_at V t ops.toList pl a0 0 i q q' (by simpa using hq) hq' hql hd uniq ht, finS_at V' t ops.toList pl a0 0 i q q' (by simpa using hq) hq' hql hd uniq ht]
        rw [Nat.zero_add, pe i q' hq' e]
      · rw [Array.getElem?_eq_none (by rw [finS_size]; exact ht), Array.getElem?_eq_none (by rw [finS_size]; exact ht)]
  · intro t ht
    have hne : o.dst ≠ some t := fun h => by
      have := ht k o ho h
      rw [getD_set_self hk] at this; cases this
    have e1 : (a.put o.dst (p.value V' k)).tmps[t]? = a.tmps[t]? := by
      cases hod : o.dst with
      | none => rfl
      | some d =>
        have : d ≠ t := fun h => hne (by rw [hod, h])
        simp [Act.put, Array.getElem?_setIfInBounds_ne this]
    rw [e1]
    exact I.rest t fun i q hq hd => getD_set_false (ht i q hq hd)
theorem TInvK.fin {pl : List Step} {R J : World → Prop} {dj : List Nat} {a0 : Act} {V : Nat → Value} {listed : Array Bool} {a : Act} {u : World} (hok : StepOkK ops pl) (I : TInvK ops pl R J dj a0 V listed a u)
    (hl : ∀ (k : Nat) (p : Step), pl[k]? = some p → p.isLater = false → listed.getD k false = true) : a = finS V a0 0 ops.toList pl := by
  have e1 : a.tmps = (finS V a0 0 ops.toList pl).tmps := by
    apply Array.ext_getElem?
    intro t
    by_cases hx : ∃ (i : Nat) (p : Oper) (q : Step), ops[i]? = some p ∧ p.dst = some t ∧ pl[i]? = some q ∧ q.isLater = false
    · obtain ⟨i, p, q, hp, hd, hq, hn⟩ := hx
      exact I.done i p t hp hd (hl i q hq hn)
    · have hx' : ∀ (i : Nat) (p : Oper) (q : Step), ops[i]? = some p → pl[i]? = some q → p.dst = some t → q.isLater = true := fun i p q hp hq hd => by
        cases hc : q.isLater with
        | true => rfl
        | false => exact absurd ⟨i, p, q, hp, hd, hq, hc⟩ hx
      rw [I.rest t (fun i p hp hd => by
        obtain ⟨q, hq⟩ : ∃ q, pl[i]? = some q := ⟨pl[i]'(by rw [hok.len]; exact (Array.getElem?_eq_some_iff.1 hp).1), List.getElem?_eq_getElem _⟩
        have := hx' i p q hp hq hd
        exact I.lat i q hq (by cases q <;> first | rfl | cases this))]
      rw [finS_late V t _ _ _ _ (fun i o p ho hp hd => hx' i o p (by simpa using ho) hp hd)]
  have e2 : a.defers = (finS V a0 0 ops.toList pl).defers := by rw [I.df, finS_defers]
  cases a
  cases h : finS V a0 0 ops.toList pl
  rw [h] at e1 e2
  simp only at e1 e2
  rw [e1, e2]
theorem TInvK.lat' {pl : List Step} {R J : World → Prop} {dj : List Nat} {a0 : Act} {V : Nat → Value} {listed : Array Bool} {a : Act} {u : World} (I : TInvK ops pl R J dj a0 V listed a u)
    {k : Nat} {o : Oper} {p : Step} (_ho : ops[k]? = some o) (hp : pl[k]? = some p) (hla : p.idle = false) : ∀ (i : Nat) (q : Step), pl[i]? = some q → q.idle = true → (listed.setIfInBounds k true).getD i false = false := fun i q hi hq => by
  have : k ≠ i := fun e => by subst e; rw [hp] at hi; cases hi; rw [hla] at hq; cases hq
  rw [getD_set_ne false this]; exact I.lat i q hi hq
theorem TInvK.down' {pl : List Step} {R J : World → Prop} {dj : List Nat} {a0 : Act} {V : Nat → Value} {listed : Array Bool} {a : Act} {u : World} (I : TInvK ops pl R J dj a0 V listed a u)
    {k : Nat} {o : Oper} (ho : ops[k]? = some o) (hall : ∀ e ∈ o.after, Region.binds .any e = true → listed.getD e.on false = true) :
    ∀ (i : Nat) (q : Oper), ops[i]? = some q → (listed.setIfInBounds k true).getD i false = true → ∀ e ∈ q.after, Region.binds .any e = true → (listed.setIfInBounds k true).getD e.on false = true := fun i q hq hl e he hb => by
  rcases getD_set_cases hl with rfl | h
  · rw [ho] at hq; cases hq; exact getD_set_true (hall e he hb)
  · exact getD_set_true (I.down i q hq h e he hb)
theorem TInvK.known {pl : List Step} {R J : World → Prop} {dj : List Nat} {a0 : Act} {V : Nat → Value} {listed : Array Bool} {a : Act} {u : World} (I : TInvK ops pl R J dj a0 V listed a u)
    {k : Nat} {o : Oper} (hf : listed.getD k false = false) (hall : ∀ e ∈ o.after, Region.binds .any e = true → listed.getD e.on false = true) : KnownK ops pl k o V u := fun i F hi he => by
  obtain ⟨e', he', hb⟩ := Array.any_eq_true'.1 he
  simp only [Bool.and_eq_true, beq_iff_eq] at hb
  obtain ⟨hb, rfl⟩ := hb
  obtain ⟨h1, h2⟩ := factForK_some hi
  refine I.fact _ F h1 (hall e' he' hb) (fun j hj => ?_)
  rcases h2 j hj with rfl | hc
  · exact hf
  · cases hl : listed.getD j false with
    | false => rfl
    | true =>
      have := covers_listed I.down 4 j k hc fun o' ho' e he hb => I.down j o' ho' hl e he hb
      rw [hf] at this; cases this
/-- the step of an operation whose value is known -/
theorem TInvK.step {pl : List Step} {R J : World → Prop} {dj : List Nat} {a0 : Act} {V V' : Nat → Value} {listed : Array Bool} {a : Act} {u u' : World} (hok : StepOkK ops pl) (I : TInvK ops pl R J dj a0 V listed a u)
    {k : Nat} {o : Oper} {p : Step} (ho : ops[k]? = some o) (hp : pl[k]? = some p) (hla : p.idle = false) (hall : ∀ e ∈ o.after, Region.binds .any e = true → listed.getD e.on false = true) (g : Gr u u') (hRG : ∀ u u', R u → Gr u u' → R u') (hJG : ∀ u u', J u → Gr u u' → J u')
    (hG : ∀ i, i ≠ k → V' i = V i) (hst : ∀ (i : Nat) (F : Value → World → Prop), (pl[i]?).bind Step.fact? = some F → ∀ v u u', F v u → Gr u u' → F v u') (hF : ∀ F, p.fact? = some F → F (V' k) u') (hf : listed.getD k false = false) :
    TInvK ops pl R J dj a0 V' (listed.setIfInBounds k true) (a.put o.dst (p.value V' k)) u' := by
  obtain ⟨f1, f2, f3, f4⟩ := I.frame hok ho hp (V' := V') hla hG
  refine ⟨hRG _ _ I.gr g, f1, f2, by simp [I.lsz], f3, f4, ?_, I.lat' ho hp hla, I.down' ho hall, fun hd => hJG _ _ (I.jj fun j hj => getD_set_false (hd j hj)) g⟩
  intro i F hi hl hd
  by_cases e : i = k
  · subst e
    rw [hp] at hi
    exact hF F hi
  · rw [hG i e]
    exact hst i F hi _ _ _ (I.fact i F hi ((getD_set_cases hl).resolve_left e) (fun j hj => getD_set_false (hd j hj))) g
/-- the step of an operation that writes into what others of the region made -/
theorem TInvK.stepM {pl : List Step} {R J : World → Prop} {dj : List Nat} {a0 : Act} {V V' : Nat → Value} {listed : Array Bool} {a : Act} {u u' : World} (hok : StepOkK ops pl) (I : TInvK ops pl R J dj a0 V listed a u)
    {k : Nat} {o : Oper} {p : Step} (ho : ops[k]? = some o) (hp : pl[k]? = some p) (hla : p.idle = false) (hall : ∀ e ∈ o.after, Region.binds .any e = true → listed.getD e.on false = true) (g : R u') (hjm : dj.contains k = false → J u → J u')
    (hG : ∀ i, i ≠ k → V' i = V i) (hst : ∀ (i : Nat) (F : Value → World → Prop), (pl[i]?).bind Step.fact? = some F → i ≠ k → dropBy pl i k = false → listed.getD i false = true → F (V i) u → F (V i) u') (hF : ∀ F, p.fact? = some F → F (V' k) u') (hkl : k < listed.size) :
    TInvK ops pl R J dj a0 V' (listed.setIfInBounds k true) (a.put o.dst (p.value V' k)) u' := by
  obtain ⟨f1, f2, f3, f4⟩ := I.frame hok ho hp (V' := V') hla hG
  have hjj : (∀ j ∈ dj, (listed.setIfInBounds k true).getD j false = false) → J u' := fun hd => by
    have hnk : dj.contains k = false := by
      cases hc : dj.contains k with
      | false => rfl
      | true =>
        have := hd k (List.contains_iff_mem.1 hc)
        rw [getD_set_self hkl] at this; cases this
    exact hjm hnk (I.jj fun j hj => getD_set_false (hd j hj))
  refine ⟨g, f1, f2, by simp [I.lsz], f3, f4, ?_, I.lat' ho hp hla, I.down' ho hall, hjj⟩
  intro i F hi hl hd
  by_cases e : i = k
  · subst e
    rw [hp] at hi
    exact hF F hi
  · rw [hG i e]
    refine hst i F hi e ?_ ((getD_set_cases hl).resolve_left e) (I.fact i F hi ((getD_set_cases hl).resolve_left e) (fun j hj => getD_set_false (hd j hj)))
    cases hq : dropBy pl i k with
    | false => rfl
    | true => have := hd k hq; rw [getD_set_self hkl] at this; cases this
theorem OwesKs.stable {pl : List Step} {R J : World → Prop} {dj : List Nat} {F : (Nat → Value) → Act} {os : List Oper} (h : OwesKs P ops pl R J dj F 0 os pl) (hl : pl.length = os.length) : ∀ (i : Nat) (Fk : Value → World → Prop), (pl[i]?).bind Step.fact? = some Fk → ∀ v u u', Fk v u → Gr u u' → Fk v u' := fun i Fk hi => by
  cases hp : pl[i]? with
  | none => rw [hp] at hi; cases hi
  | some p =>
    have ho : os[i]? = some (os[i]'(by rw [← hl]; exact (List.getElem?_eq_some_iff.1 hp).1)) := List.getElem?_eq_getElem _
    have := h.at i _ _ ho hp
    rw [hp] at hi
    cases p with
    | sat F => cases hi; exact this.1
    | turn F d => cases hi; exact this.1
    | _ => cases hi
end
end Go.Proofs.YthmimjofdmnakaaGreatDoor
