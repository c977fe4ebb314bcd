/- Drawn regions by a plan: every operation is met once, whatever the order. -/
import Derived.Test.YthmimjofdmnakaaGreatDoorTried
import Derived.Deep.RegionHeld3
import Derived.OrdersIn
import Derived.RangeFuncCalls
namespace Go.Proofs.YthmimjofdmnakaaGreatDoor
section
open Go.RowKit Go.Shelf
section
variable {P : Program} {ops : Array Oper} {Q : Exit → Act → World → Prop}
/-- what an operation's run comes to: the value v, in a world that R allows -/
def Came (P : Program) (v : Value) (Rw : World → Prop) : Result Next → Prop
  | .ok (.value u) w' => u = v ∧ Rw w'
  | .ok (.enter f args) w' => Calls P f args w' fun e w'' => e = .returned v ∧ Rw w''
  | _ => False
theorem Came.upon {o : Oper} {a : Act} {K : Act → World → Prop} {v : Value} {Rw : World → Prop} {r : Result Next} (h : Came P v Rw r) (hK : ∀ w', Rw w' → K (a.put o.dst v) w') :
    o.upon P a K Q r := by
  cases r with
  | halt x w' => exact h.elim
  | ok n w' =>
    cases n with
    | value u => obtain ⟨rfl, hr⟩ := h; exact hK _ hr
    | enter f args =>
      refine Calls.mono h ?_
      rintro e w'' ⟨rfl, hr⟩
      exact hK _ hr
    | skip => exact h.elim
    | defer d => exact h.elim
    | row r args => exact h.elim
    | _ => exact h.elim
end
theorem Came.enter {P : Program} {v : Value} {Rw : World → Prop} {f : FuncId} {args : Array Value} {w' : World} : Came P v Rw (.ok (.enter f args) w') = Calls P f args w' (fun e w'' => e = .returned v ∧ Rw w'') := rfl
theorem Came.value {P : Program} {v u : Value} {Rw : World → Prop} {w' : World} : Came P v Rw (.ok (.value u) w') = (u = v ∧ Rw w') := rfl
/-- what an operation of a drawn region comes to: a value that is known; nothing (its guard is false); a new block; a store into a new block, which then holds c; a store that waits for all of these; a call that gives up; what waits for such a call -/
inductive Plan where
  | val (v : Value)
  | off
  | new (T : TypeId) (z : Array Value)
  | put (j : Nat) (c : Array Value)
  | later
  | dies (chain : List PanicEntry)
  | never
  deriving Inhabited
def Plan.value (G : Nat → Nat) (k : Nat) : Plan → Value
  | .val v => v
  | .new _ _ => .pointer (some ⟨G k, 0, none⟩)
  | _ => undef
def Plan.idle : Plan → Bool
  | .later | .dies _ | .never => true
  | _ => false
/-- the frame when all have come up -/
def finAct (G : Nat → Nat) : Act → Nat → List Oper → List Plan → Act
  | a, k, o :: os, p :: ps => finAct G (a.put o.dst (p.value G k)) (k+1) os ps
  | a, _, _, _ => a
/-- operation k waits for operation i, over at most n others -/
def covers (ops : Array Oper) : Nat → Nat → Nat → Bool
  | 0, _, _ => false
  | n + 1, k, i => match ops[k]? with
    | none => false
    | some o => o.after.any fun e => Region.binds .any e && (e.on == i || covers ops n e.on i)
/-- the bookkeeping of a region, by the kernel: each slot is written once, each operation waits for the writers of what it looks at, edges lead to the front, no select -/
def planOk (ops : Array Oper) (pl : List Plan) : Bool :=
  pl.length == ops.size && Region.noSelect ops &&
  (List.range ops.size).all fun k => match ops[k]? with
    | none => false
    | some o =>
      (o.after.all fun e => !Region.binds .any e || e.on < k) &&
      ((List.range ops.size).all fun i => match ops[i]? with
        | none => false
        | some p => match p.dst with
          | none => true
          | some d => (i == k || o.dst != some d) && (!(o.looksAt ops).contains d || (o.after.any fun e => Region.binds .any e && e.on == i))) &&
      (match pl[k]? with
        | some (.put j _) => o.dst == none && (o.after.any fun e => Region.binds .any e && e.on == j) && (match pl[j]? with | some (.new _ _) => true | _ => false) &&
            ((List.range ops.size).all fun s => s == k || match pl[s]? with | some (.put i _) => i != j | _ => true)
        | some (.new _ _) => o.dst != none
        | some .never => o.after.any fun e => Region.binds .any e && (match pl[e.on]? with | some .never => true | some (.dies _) => true | _ => false)
        | some .later => o.dst == none && (List.range ops.size).all fun i => (match pl[i]? with | some .later => true | _ => false) || covers ops 3 k i
        | some _ => true
        | none => false)
theorem finAct_other (G : Nat → Nat) (t : Nat) : ∀ (os : List Oper) (ps : List Plan) (a : Act) (k : Nat), (∀ o ∈ os, o.dst ≠ some t) → (finAct G a k os ps).tmps[t]? = a.tmps[t]?
  | [], _, _, _, _ => by simp [finAct]
  | _ :: _, [], _, _, _ => by simp [finAct]
  | o :: os, p :: ps, a, k, h => by
    rw [finAct, finAct_other G t os ps _ _ fun q hq => h q (by simp [hq])]
    have h0 := h o (by simp)
    cases hd : o.dst with
    | none => rfl
    | some d =>
      have : d ≠ t := fun e => h0 (by rw [hd, e])
      simp [Act.put, Array.getElem?_setIfInBounds_ne this]
theorem finAct_size (G : Nat → Nat) : ∀ (os : List Oper) (ps : List Plan) (a : Act) (k : Nat), (finAct G a k os ps).tmps.size = a.tmps.size
  | [], _, _, _ => by simp [finAct]
  | _ :: _, [], _, _ => by simp [finAct]
  | o :: os, p :: ps, a, k => by
    rw [finAct, finAct_size G os ps]
    cases o.dst <;> simp [Act.put]
theorem finAct_defers (G : Nat → Nat) : ∀ (os : List Oper) (ps : List Plan) (a : Act) (k : Nat), (finAct G a k os ps).defers = a.defers
  | [], _, _, _ => by simp [finAct]
  | _ :: _, [], _, _ => by simp [finAct]
  | o :: os, p :: ps, a, k => by
    rw [finAct, finAct_defers G os ps]
    cases o.dst <;> rfl
theorem finAct_at (G : Nat → Nat) (t : Nat) : ∀ (os : List Oper) (ps : List Plan) (a : Act) (k i : Nat) (o : Oper) (p : Plan), os[i]? = some o → ps[i]? = some p → o.dst = some t →
    (∀ j q, os[j]? = some q → j ≠ i → q.dst ≠ some t) → t < a.tmps.size → (finAct G a k os ps).tmps[t]? = some (p.value G (k + i))
  | [], _, _, _, _, _, _, h, _, _, _, _ => by simp at h
  | _ :: _, [], _, _, _, _, _, _, h, _, _, _ => by simp at h
  | o' :: os, p' :: ps, a, k, i, o, p, ho, hp, hd, hu, ht => by
    rw [finAct]
    cases i with
    | zero =>
      simp only [List.getElem?_cons_zero, Option.some.injEq] at ho hp
      subst ho hp
      rw [finAct_other G t os ps _ _ (fun q hq => by
        obtain ⟨j, hj⟩ := List.getElem?_of_mem hq
        exact hu (j+1) q (by simpa using hj) (by omega))]
      simp [Act.put, hd, ht]
    | succ i =>
      simp only [List.getElem?_cons_succ] at ho hp
      have := finAct_at G t os ps (a.put o'.dst (p'.value G k)) (k+1) i o p ho hp hd (fun j q hj hn => hu (j+1) q (by simpa using hj) (by omega)) (by cases o'.dst <;> simp [Act.put, ht])
      rw [this]; congr 2; omega
variable {P : Program} {ops : Array Oper} {Q : Exit → Act → World → Prop}
/-- what planOk says, part by part -/
structure PlanOk (ops : Array Oper) (pl : List Plan) : Prop where
  len : pl.length = ops.size
  nosel : ∀ (j : Nat) (o : Oper) cs b, ops[j]? = some o → o.op ≠ .select cs b
  front : ∀ (k : Nat) (o : Oper), ops[k]? = some o → ∀ e ∈ o.after, Region.binds .any e = true → e.on < k
  once : ∀ (k i : Nat) (o p : Oper) (d : Tmp), ops[k]? = some o → ops[i]? = some p → p.dst = some d → i ≠ k → o.dst ≠ some d
  waits : ∀ (k i : Nat) (o p : Oper) (d : Tmp), ops[k]? = some o → ops[i]? = some p → p.dst = some d → d ∈ o.looksAt ops → ∃ e ∈ o.after, Region.binds .any e = true ∧ e.on = i
  put : ∀ (k : Nat) (o : Oper) (j : Nat) (c : Array Value), ops[k]? = some o → pl[k]? = some (.put j c) → o.dst = none ∧ (∃ e ∈ o.after, Region.binds .any e = true ∧ e.on = j) ∧ (∃ (T : TypeId) (z : Array Value), pl[j]? = some (.new T z)) ∧ ∀ (s : Nat) (c' : Array Value), pl[s]? = some (.put j c') → s = k
  new : ∀ (k : Nat) (o : Oper) (T : TypeId) (z : Array Value), ops[k]? = some o → pl[k]? = some (.new T z) → o.dst ≠ none
  nev : ∀ (k : Nat) (o : Oper), ops[k]? = some o → pl[k]? = some .never → ∃ e ∈ o.after, Region.binds .any e = true ∧ ∃ p, pl[e.on]? = some p ∧ p.idle = true
  lat : ∀ (k : Nat) (o : Oper), ops[k]? = some o → pl[k]? = some .later → o.dst = none ∧ ∀ (i : Nat) (q : Plan), pl[i]? = some q → q ≠ .later → covers ops 3 k i = true
theorem planOk_spec {pl : List Plan} (h : planOk ops pl = true) : PlanOk ops pl := by
  unfold planOk at h
  rw [Bool.and_eq_true, Bool.and_eq_true, List.all_eq_true] at h
  obtain ⟨⟨h1, h2⟩, h3⟩ := h
  have len : pl.length = ops.size := by simpa using h1
  have at' : ∀ k o, ops[k]? = some o → k < ops.size := fun k o ho => (Array.getElem?_eq_some_iff.1 ho).1
  have body := fun k o (ho : ops[k]? = some o) => by
    have := h3 k (List.mem_range.2 (at' k o ho))
    rw [ho] at this
    simp only [Bool.and_eq_true, List.all_eq_true, List.mem_range] at this
    exact this
  refine ⟨len, Region.noSelect_spec h2, ?_, ?_, ?_, ?_, ?_, ?_, ?_⟩
  · intro k o ho e he hb
    have := (body k o ho).1.1
    rw [Array.all_eq_true_iff_forall_mem] at this
    have := this e he
    rw [hb] at this
    simpa using this
  · intro k i o p d ho hp hd hn
    have := (body k o ho).1.2 i (at' i p hp)
    rw [hp] at this
    simp only [hd, Bool.and_eq_true, Bool.or_eq_true, beq_iff_eq, bne_iff_ne] at this
    exact this.1.resolve_left hn
  · intro k i o p d ho hp hd hl
    have := (body k o ho).1.2 i (at' i p hp)
    rw [hp] at this
    simp only [hd, Bool.and_eq_true, Bool.or_eq_true] at this
    have := this.2
    rcases this with this | this
    · simp [hl] at this
    · obtain ⟨e, he, hb⟩ := Array.any_eq_true'.1 this
      simp only [Bool.and_eq_true, beq_iff_eq] at hb
      exact ⟨e, he, hb.1, hb.2⟩
  · intro k o j c ho hp
    have := (body k o ho).2
    rw [hp] at this
    simp only [Bool.and_eq_true, List.all_eq_true, List.mem_range] at this
    obtain ⟨⟨⟨a1, a2⟩, a3⟩, a4⟩ := this
    refine ⟨by simpa using a1, ?_, ?_, ?_⟩
    · obtain ⟨e, he, hb⟩ := Array.any_eq_true'.1 a2
      simp only [Bool.and_eq_true, beq_iff_eq] at hb
      exact ⟨e, he, hb.1, hb.2⟩
    · revert a3
      cases hj : pl[j]? with
      | none => simp
      | some q => cases q <;> simp
    · intro s c' hs
      have hlt : s < ops.size := by
        rw [← len]; exact (List.getElem?_eq_some_iff.1 hs).1
      have := a4 s hlt
      rw [hs] at this
      simpa using this
  · intro k o T z ho hp
    have := (body k o ho).2
    rw [hp] at this
    simpa using this
  · intro k o ho hp
    have := (body k o ho).2
    rw [hp] at this
    obtain ⟨e, he, hb⟩ := Array.any_eq_true'.1 this
    simp only [Bool.and_eq_true] at hb
    refine ⟨e, he, hb.1, ?_⟩
    have h2 := hb.2
    cases hq : pl[e.on]? with
    | none => rw [hq] at h2; simp at h2
    | some p => exact ⟨p, rfl, by rw [hq] at h2; revert h2; cases p <;> simp [Plan.idle]⟩
  · intro k o ho hp
    have := (body k o ho).2
    rw [hp] at this
    simp only [Bool.and_eq_true, List.all_eq_true, List.mem_range, beq_iff_eq, Bool.or_eq_true] at this
    refine ⟨this.1, fun i q hq hn => (this.2 i (by rw [← len]; exact (List.getElem?_eq_some_iff.1 hq).1)).resolve_left ?_⟩
    rw [hq]
    cases q <;> simp_all
/-- an operation gives up -/
def Dead (P : Program) (chain : List PanicEntry) (Rw : World → Prop) : Result Next → Prop
  | .ok (.enter f args) w' => Calls P f args w' fun e w'' => e = .panicked chain ∧ Rw w''
  | .halt (.panic v) w' => chain = [{ v, recovered := false }] ∧ Rw w'
  | _ => False
theorem Dead.upon {o : Oper} {a : Act} {K : Act → World → Prop} {chain : List PanicEntry} {Rw : World → Prop} {r : Result Next} (h : Dead P chain Rw r) (hK : ∀ w', Rw w' → Q (.panic chain) a w') :
    o.upon P a K Q r := by
  cases r with
  | halt x w' =>
    cases x <;> first | exact h.elim | (obtain ⟨rfl, hr⟩ := h; exact hK _ hr)
  | ok n w' =>
    cases n with
    | enter f args =>
      refine Calls.mono h ?_
      rintro e w'' ⟨rfl, hr⟩
      exact hK _ hr
    | _ => exact h.elim
/-- what is owed for one operation -/
def Owes (P : Program) (ops : Array Oper) (pl : List Plan) (w1 : World) (F : (Nat → Nat) → Act) (o : Oper) : Plan → Prop
  | .val v => ∀ G, Region.wanted o (yielded ops (F G).tmps) = true ∧ ∀ u, Gr w1 u → Came P v (Gr u) ((execOp (F G).eval o).run P u)
  | .off => ∀ G, Region.wanted o (yielded ops (F G).tmps) = false
  | .new T z => ∀ G, Region.wanted o (yielded ops (F G).tmps) = true ∧ ∀ u, (execOp (F G).eval o).run P u = .ok (.value (.pointer (some ⟨u.heap.size, 0, none⟩))) (u.alloc (.cells z T))
  | .put j c => ∀ G, Region.wanted o (yielded ops (F G).tmps) = true ∧ ∀ u T z, Gr w1 u → w1.heap.size ≤ G j → pl[j]? = some (.new T z) → u.heap[G j]? = some (.cells z T (0, 0)) →
      ∃ u', (execOp (F G).eval o).run P u = .ok .skip u' ∧ GrL [G j] u u' ∧ u'.heap[G j]? = some (.cells c T (0, 0))
  | .later => True
  | .dies chain => ∀ G, Region.wanted o (yielded ops (F G).tmps) = true ∧ ∀ u, Gr w1 u → Dead P chain (Gr u) ((execOp (F G).eval o).run P u)
  | .never => True
def OwesAll (P : Program) (ops : Array Oper) (pl : List Plan) (w1 : World) (F : (Nat → Nat) → Act) : List Oper → List Plan → Prop
  | o :: os, p :: ps => Owes P ops pl w1 F o p ∧ OwesAll P ops pl w1 F os ps
  | _, _ => True
theorem OwesAll.at {pl : List Plan} {w1 : World} {F : (Nat → Nat) → Act} : ∀ {os : List Oper} {ps : List Plan}, OwesAll P ops pl w1 F os ps → ∀ (k : Nat) (o : Oper) (p : Plan), os[k]? = some o → ps[k]? = some p → Owes P ops pl w1 F o p
  | [], _, _, k, o, p, ho, _ => by simp at ho
  | _ :: _, [], _, k, o, p, _, hp => by simp at hp
  | o' :: os, p' :: ps, h, k, o, p, ho, hp => by
    cases k with
    | zero =>
      simp only [List.getElem?_cons_zero, Option.some.injEq] at ho hp
      subst ho hp
      exact h.1
    | succ k =>
      simp only [List.getElem?_cons_succ] at ho hp
      exact h.2.at k o p ho hp
/-- what block j holds in the end -/
def cont (pl : List Plan) (j : Nat) (z : Array Value) : Array Value :=
  (pl.findSome? fun | .put i c => if i = j then some c else none | _ => none).getD z
theorem cont_put {pl : List Plan} {j s : Nat} {z c : Array Value} (h : pl[s]? = some (.put j c)) (hu : ∀ (s' : Nat) (c' : Array Value), pl[s']? = some (.put j c') → s' = s) : cont pl j z = c := by
  unfold cont
  cases hf : pl.findSome? (fun | .put i c => if i = j then some c else none | _ => none) with
  | none =>
    rw [List.findSome?_eq_none_iff] at hf
    have := hf _ (List.mem_of_getElem? h)
    simp at this
  | some x =>
    obtain ⟨p, hp, hx⟩ := List.exists_of_findSome?_eq_some hf
    obtain ⟨s', hs'⟩ := List.getElem?_of_mem hp
    cases p with
    | put i c' =>
      simp only [Option.ite_none_right_eq_some, Option.some.injEq] at hx
      obtain ⟨rfl, rfl⟩ := hx
      have := hu s' c' hs'
      subst this
      rw [h] at hs'
      cases hs'
      rfl
    | _ => simp at hx
theorem cont_none {pl : List Plan} {j : Nat} {z : Array Value} (h : ∀ (s : Nat) (c : Array Value), pl[s]? ≠ some (.put j c)) : cont pl j z = z := by
  unfold cont
  cases hf : pl.findSome? (fun | .put i c => if i = j then some c else none | _ => none) with
  | none => rfl
  | some x =>
    obtain ⟨p, hp, hx⟩ := List.exists_of_findSome?_eq_some hf
    obtain ⟨s', hs'⟩ := List.getElem?_of_mem hp
    cases p with
    | put i c' =>
      simp only [Option.ite_none_right_eq_some, Option.some.injEq] at hx
      obtain ⟨rfl, rfl⟩ := hx
      exact absurd hs' (h s' c')
    | _ => simp at hx
structure PInv (ops : Array Oper) (pl : List Plan) (w1 : World) (a0 : Act) (G : Nat → Nat) (listed : Array Bool) (a : Act) (u : World) : Prop where
  gr : Gr w1 u
  df : a.defers = a0.defers
  sz : a.tmps.size = a0.tmps.size
  lsz : listed.size = ops.size
  done : ∀ (k : Nat) (o : Oper) (t : Tmp), ops[k]? = some o → o.dst = some t → listed.getD k false = true → a.tmps[t]? = (finAct G a0 0 ops.toList pl).tmps[t]?
  rest : ∀ (t : Tmp), (∀ (k : Nat) (o : Oper), ops[k]? = some o → o.dst = some t → listed.getD k false = false) → a.tmps[t]? = a0.tmps[t]?
  blk : ∀ (j : Nat) (T : TypeId) (z : Array Value), pl[j]? = some (.new T z) → listed.getD j false = true → w1.heap.size ≤ G j ∧ ∃ c, u.heap[G j]? = some (.cells c T (0, 0)) ∧
    (∀ (s : Nat) (c' : Array Value), pl[s]? = some (.put j c') → listed.getD s false = true → c = c') ∧ ((∀ (s : Nat) (c' : Array Value), pl[s]? = some (.put j c') → listed.getD s false = false) → c = z)
  lat : ∀ (k : Nat) (p : Plan), pl[k]? = some p → p.idle = true → listed.getD k false = false
  down : ∀ (k : Nat) (o : Oper), ops[k]? = some o → listed.getD k false = true → ∀ e ∈ o.after, Region.binds .any e = true → listed.getD e.on false = true
  back : ∀ (s j : Nat) (c : Array Value), pl[s]? = some (.put j c) → listed.getD s false = true → listed.getD j false = true
  dist : ∀ (i j : Nat) (Ti : TypeId) (zi : Array Value) (Tj : TypeId) (zj : Array Value), pl[i]? = some (.new Ti zi) → pl[j]? = some (.new Tj zj) → i ≠ j → listed.getD i false = true → listed.getD j false = true → G i ≠ G j
theorem getD_set_self {listed : Array Bool} {i : Nat} (h : i < listed.size) : (listed.setIfInBounds i true).getD i false = true := by simp [h]
theorem getD_set_false {listed : Array Bool} {i j : Nat} (h : (listed.setIfInBounds i true).getD j false = false) : listed.getD j false = false := by
  cases e : listed.getD j false
  · rfl
  · rw [getD_set_true e] at h; cases h
theorem getD_set_cases {listed : Array Bool} {i j : Nat} (h : (listed.setIfInBounds i true).getD j false = true) : j = i ∨ listed.getD j false = true := by
  by_cases e : i = j
  · exact .inl e.symm
  · right; rwa [getD_set_ne false e] at h
/-- the frame at hand is as the last one, for all that an operation which may come up looks at -/
theorem PInv.agree {pl : List Plan} {w1 : World} {a0 : Act} {G : Nat → Nat} {listed : Array Bool} {a : Act} {u : World} (hok : PlanOk ops pl) (I : PInv ops pl w1 a0 G listed a u)
    {k : Nat} {o : Oper} (ho : ops[k]? = some o) (hall : ∀ e ∈ o.after, Region.binds .any e = true → listed.getD e.on false = true) :
    execOp a.eval o = execOp (finAct G a0 0 ops.toList pl).eval o ∧ Region.wanted o (yielded ops a.tmps) = Region.wanted o (yielded ops (finAct G a0 0 ops.toList pl).tmps) := by
  have key : ∀ t, t ∈ o.looksAt ops → a.tmps[t]? = (finAct G a0 0 ops.toList pl).tmps[t]? := fun t ht => by
    by_cases hx : ∃ (i : Nat) (p : Oper), ops[i]? = some p ∧ p.dst = some t
    · obtain ⟨i, p, hp, hd⟩ := hx
      obtain ⟨e, he, hb, rfl⟩ := hok.waits k i o p t ho hp hd ht
      exact I.done _ p t hp hd (hall e he hb)
    · rw [I.rest t (fun i p hp hd => absurd ⟨i, p, hp, hd⟩ hx)]
      rw [finAct_other G t _ _ _ _ (fun p hp hd => by
        obtain ⟨i, hi⟩ := List.getElem?_of_mem hp
        exact hx ⟨i, p, by simpa using hi, hd⟩)]
  constructor
  · refine execOp_congr o (fun cs b => hok.nosel k o cs b ho) (fun x hx => ?_)
    cases x with
    | tmp t =>
      have := key t (List.mem_append_left _ (List.mem_filterMap.2 ⟨.tmp t, by simpa using hx, rfl⟩))
      simp only [Act.eval, Array.getD_eq_getD_getElem?, this]
    | _ => rfl
  · unfold Region.wanted
    cases hg : o.guard with
    | none => rfl
    | some gw =>
      obtain ⟨g, want⟩ := gw
      have : yielded ops a.tmps g = yielded ops (finAct G a0 0 ops.toList pl).tmps g := by
        unfold yielded
        cases ht : (ops[g]?).bind (·.dst) with
        | none => rfl
        | some t =>
          have := key t (List.mem_append_right _ (by simp [hg, ht]))
          simp only [Option.bind_some, this]
      simp only [this]
/-- an operation has put its value down -/
theorem PInv.frame {pl : List Plan} {w1 : World} {a0 : Act} {G G' : Nat → Nat} {listed : Array Bool} {a : Act} {u : World} (hok : PlanOk ops pl) (I : PInv ops pl w1 a0 G listed a u)
    {k : Nat} {o : Oper} {p : Plan} (ho : ops[k]? = some o) (hp : pl[k]? = some p) (hG : ∀ i, i ≠ k → G' i = G i) :
    (a.put o.dst (p.value G' k)).defers = a0.defers ∧ (a.put o.dst (p.value G' k)).tmps.size = a0.tmps.size ∧
    (∀ (i : Nat) (q : Oper) (t : Tmp), ops[i]? = some q → q.dst = some t → (listed.setIfInBounds k true).getD i false = true → (a.put o.dst (p.value G' k)).tmps[t]? = (finAct G' a0 0 ops.toList pl).tmps[t]?) ∧
    (∀ (t : Tmp), (∀ (i : Nat) (q : Oper), ops[i]? = some q → q.dst = some t → (listed.setIfInBounds k true).getD i false = false) → (a.put o.dst (p.value G' k)).tmps[t]? = a0.tmps[t]?) := by
  have hk : k < listed.size := by rw [I.lsz]; exact (Array.getElem?_eq_some_iff.1 ho).1
  have pe : ∀ (i : Nat) (q : Plan), pl[i]? = some q → i ≠ k → q.value G' i = q.value G i := fun i q _ hn => by
    have := hG i hn
    cases q <;> first | rfl | (unfold Plan.value; rw [this])
  refine ⟨?_, ?_, ?_, ?_⟩
  · have := I.df; cases o.dst <;> exact this
  · have := I.sz; cases o.dst <;> simpa [Act.put] using this
  · intro i q t hq hd hl
    have hlt : ∀ s : Nat, t < s ∨ s ≤ t := fun s => Nat.lt_or_ge t s
    by_cases e : i = k
    · subst e
      rw [ho] at hq; cases hq
      rw [hd]
      rcases hlt a0.tmps.size with ht | ht
      · rw [finAct_at G' t ops.toList pl a0 0 i o p (by simpa using ho) hp hd (fun j q hj hn => by
          intro hd'
          exact hok.once j i q o t (by simpa using hj) ho hd (Ne.symm hn) hd') ht]
        simp [Act.put, I.sz, ht]
      · rw [Array.getElem?_eq_none (by simpa [Act.put, I.sz] using ht), Array.getElem?_eq_none (by rw [finAct_size]; exact ht)]
    · have hl' : listed.getD i false = true := (getD_set_cases hl).resolve_left e
      have d0 := I.done i q t hq hd hl'
      have hne : o.dst ≠ some t := hok.once k i o q t ho hq hd e
      have e1 : (a.put o.dst (p.value G' k)).tmps[t]? = a.tmps[t]? := by
        cases hod : o.dst with
        | none => rfl
        | some d =>
          have : d ≠ t := fun h => hne (by rw [hod, h])
          simp [Act.put, Array.getElem?_setIfInBounds_ne this]
      rw [e1, d0]
      obtain ⟨q', hq'⟩ : ∃ q', pl[i]? = some q' := ⟨pl[i]'(by rw [hok.len]; exact (Array.getElem?_eq_some_iff.1 hq).1), List.getElem?_eq_getElem _⟩
      have uniq : ∀ j r, ops.toList[j]? = some r → j ≠ i → r.dst ≠ some t := fun j r hj hn => hok.once j i r q t (by simpa using hj) hq hd (Ne.symm hn)
      rcases hlt a0.tmps.size with ht | ht
      · rw [finAct_at G t ops.toList pl a0 0 i q q' (by simpa using hq) hq' hd uniq ht, finAct_at G' t ops.toList pl a0 0 i q q' (by simpa using hq) hq' hd uniq ht]
        rw [Nat.zero_add, pe i q' hq' e]
      · rw [Array.getElem?_eq_none (by rw [finAct_size]; exact ht), Array.getElem?_eq_none (by rw [finAct_size]; exact ht)]
  · intro t ht
    have hne : o.dst ≠ some t := fun h => by
      have := ht k o ho h
      rw [getD_set_self hk] at this; cases this
    have e1 : (a.put o.dst (p.value G' k)).tmps[t]? = a.tmps[t]? := by
      cases hod : o.dst with
      | none => rfl
      | some d =>
        have : d ≠ t := fun h => hne (by rw [hod, h])
        simp [Act.put, Array.getElem?_setIfInBounds_ne this]
    rw [e1]
    exact I.rest t fun i q hq hd => getD_set_false (ht i q hq hd)
theorem PInv.fin {pl : List Plan} {w1 : World} {a0 : Act} {G : Nat → Nat} {listed : Array Bool} {a : Act} {u : World} (hok : PlanOk ops pl) (I : PInv ops pl w1 a0 G listed a u)
    (hl : ∀ (k : Nat) (p : Plan), pl[k]? = some p → p ≠ .later → listed.getD k false = true) : a = finAct G a0 0 ops.toList pl := by
  have e1 : a.tmps = (finAct G a0 0 ops.toList pl).tmps := by
    apply Array.ext_getElem?
    intro t
    by_cases hx : ∃ (i : Nat) (p : Oper), ops[i]? = some p ∧ p.dst = some t
    · obtain ⟨i, p, hp, hd⟩ := hx
      obtain ⟨q, hq⟩ : ∃ q, pl[i]? = some q := ⟨pl[i]'(by rw [hok.len]; exact (Array.getElem?_eq_some_iff.1 hp).1), List.getElem?_eq_getElem _⟩
      exact I.done i p t hp hd (hl i q hq (fun h => by subst h; have := (hok.lat i p hp hq).1; rw [hd] at this; cases this))
    · rw [I.rest t (fun i p hp hd => absurd ⟨i, p, hp, hd⟩ hx)]
      rw [finAct_other G t _ _ _ _ (fun p hp hd => by
        obtain ⟨i, hi⟩ := List.getElem?_of_mem hp
        exact hx ⟨i, p, by simpa using hi, hd⟩)]
  have e2 : a.defers = (finAct G a0 0 ops.toList pl).defers := by rw [I.df, finAct_defers]
  cases a
  cases h : finAct G a0 0 ops.toList pl
  rw [h] at e1 e2
  simp only at e1 e2
  rw [e1, e2]
def cntF (listed : Array Bool) : Nat → Nat
  | 0 => 0
  | n + 1 => cntF listed n + if listed.getD n false = true then 0 else 1
theorem cntF_set {listed : Array Bool} {k : Nat} (hk : k < listed.size) (hl : listed.getD k false = false) : ∀ n, cntF (listed.setIfInBounds k true) n + (if k < n then 1 else 0) = cntF listed n
  | 0 => by simp [cntF]
  | n + 1 => by
    have ih := cntF_set hk hl n
    simp only [cntF]
    by_cases e : k = n
    · subst e
      rw [getD_set_self hk, hl]
      simp at ih ⊢
      omega
    · rw [getD_set_ne false e]
      by_cases h : k < n
      · rw [if_pos h] at ih
        rw [if_pos (show k < n + 1 by omega)]
        omega
      · rw [if_neg h] at ih
        rw [if_neg (show ¬ k < n + 1 by omega)]
        omega
theorem cntF_zero {listed : Array Bool} : ∀ n, cntF listed n = 0 → ∀ k, k < n → listed.getD k false = true
  | 0, _, k, hk => by omega
  | n + 1, h, k, hk => by
    simp only [cntF] at h
    by_cases e : k = n
    · subst e
      cases q : listed.getD k false
      · rw [q] at h; simp at h
      · rfl
    · exact cntF_zero n (by omega) k (by omega)
theorem heap_alloc_self (u : World) (o : Obj) : (u.alloc o).heap[u.heap.size]? = some o := by show (u.heap.push o)[u.heap.size]? = some o; simp
theorem Gr.heap {u u' : World} (g : Gr u u') {k : Nat} {o : Obj} (h : u.heap[k]? = some o) : u'.heap[k]? = some o :=
  (g.b.block k (Array.getElem?_eq_some_iff.1 h).1).trans h
theorem heap_lt {u : World} {k : Nat} {o : Obj} (h : u.heap[k]? = some o) : k < u.heap.size := (Array.getElem?_eq_some_iff.1 h).1
theorem ready_unlisted {listed : Array Bool} {k : Nat} (hs : listed.size = ops.size) (hk : k < ops.size) (h : listed.getD k true = false) : listed.getD k false = false := by
  have : k < listed.size := by omega
  simp [this] at h ⊢; exact h
theorem PInv.lat' {pl : List Plan} {w1 : World} {a0 : Act} {G : Nat → Nat} {listed : Array Bool} {a : Act} {u : World} (I : PInv ops pl w1 a0 G listed a u)
    {k : Nat} {o : Oper} {p : Plan} (_ho : ops[k]? = some o) (hp : pl[k]? = some p) (hla : p.idle = false) : ∀ (i : Nat) (q : Plan), pl[i]? = some q → q.idle = true → (listed.setIfInBounds k true).getD i false = false := fun i q hi hq => by
  have : k ≠ i := fun e => by subst e; rw [hp] at hi; cases hi; rw [hla] at hq; cases hq
  rw [getD_set_ne false this]; exact I.lat i q hi hq
theorem PInv.down' {pl : List Plan} {w1 : World} {a0 : Act} {G : Nat → Nat} {listed : Array Bool} {a : Act} {u : World} (I : PInv ops pl w1 a0 G listed a u)
    {k : Nat} {o : Oper} (ho : ops[k]? = some o) (hall : ∀ e ∈ o.after, Region.binds .any e = true → listed.getD e.on false = true) :
    ∀ (i : Nat) (q : Oper), ops[i]? = some q → (listed.setIfInBounds k true).getD i false = true → ∀ e ∈ q.after, Region.binds .any e = true → (listed.setIfInBounds k true).getD e.on false = true := fun i q hq hl e he hb => by
  rcases getD_set_cases hl with rfl | h
  · rw [ho] at hq; cases hq; exact getD_set_true (hall e he hb)
  · exact getD_set_true (I.down i q hq h e he hb)
/-- what an operation waits for has come up -/
theorem covers_listed {listed : Array Bool} (down : ∀ (k : Nat) (o : Oper), ops[k]? = some o → listed.getD k false = true → ∀ e ∈ o.after, Region.binds .any e = true → listed.getD e.on false = true) :
    ∀ (n k i : Nat), covers ops n k i = true → (∀ o, ops[k]? = some o → ∀ e ∈ o.after, Region.binds .any e = true → listed.getD e.on false = true) → listed.getD i false = true
  | 0, _, _, h, _ => by simp [covers] at h
  | n + 1, k, i, h, hk => by
    unfold covers at h
    cases ho : ops[k]? with
    | none => rw [ho] at h; simp at h
    | some o =>
      rw [ho] at h
      obtain ⟨e, he, hb⟩ := Array.any_eq_true'.1 h
      simp only [Bool.and_eq_true, Bool.or_eq_true, beq_iff_eq] at hb
      obtain ⟨hb, hc⟩ := hb
      have hl := hk o ho e he hb
      rcases hc with rfl | hc
      · exact hl
      · exact covers_listed down n e.on i hc fun o' ho' e' he' hb' => down e.on o' ho' hl e' he' hb'
/-- the step that changes no block of the region's own -/
theorem PInv.quiet {pl : List Plan} {w1 : World} {a0 : Act} {G : Nat → Nat} {listed : Array Bool} {a : Act} {u u' : World} (hok : PlanOk ops pl) (I : PInv ops pl w1 a0 G listed a u)
    {k : Nat} {o : Oper} {p : Plan} (ho : ops[k]? = some o) (hp : pl[k]? = some p) (hn : ∀ T z, p ≠ .new T z) (hs : ∀ j c, p ≠ .put j c) (hla : p.idle = false) (hall : ∀ e ∈ o.after, Region.binds .any e = true → listed.getD e.on false = true) (g : Gr u u') :
    PInv ops pl w1 a0 G (listed.setIfInBounds k true) (a.put o.dst (p.value G k)) u' := by
  obtain ⟨f1, f2, f3, f4⟩ := I.frame hok ho hp (G' := G) (fun _ _ => rfl)
  have cs : ∀ (j : Nat) (q : Plan), pl[j]? = some q → q ≠ p → (listed.setIfInBounds k true).getD j false = true → listed.getD j false = true := fun j q hq hne hl => by
    rcases getD_set_cases hl with rfl | h
    · rw [hp] at hq; cases hq; exact absurd rfl hne
    · exact h
  refine ⟨I.gr.trans g, f1, f2, by simp [I.lsz], f3, f4, ?_, I.lat' ho hp hla, I.down' ho hall, fun s j c h1 h2 => getD_set_true (I.back s j c h1 (cs s _ h1 (fun h => hs j c h.symm) h2)), ?_⟩
  · intro j T z hj hl
    obtain ⟨b1, c, b2, b3, b4⟩ := I.blk j T z hj (cs j _ hj (fun h => hn T z h.symm) hl)
    exact ⟨b1, c, g.heap b2, fun s c' h1 h2 => b3 s c' h1 (cs s _ h1 (fun h => hs j c' h.symm) h2), fun h => b4 fun s c' h1 => getD_set_false (h s c' h1)⟩
  · intro i j Ti zi Tj zj hi hj hij h1 h2
    exact I.dist i j Ti zi Tj zj hi hj hij (cs i _ hi (fun h => hn Ti zi h.symm) h1) (cs j _ hj (fun h => hn Tj zj h.symm) h2)
/-- what has come up when only the late ones are left -/
def lateListed (pl : List Plan) : Array Bool := (pl.map fun | .later => false | _ => true).toArray
/-- the walk by a plan, in whatever order -/
theorem plan_any {pl : List Plan} (hok : PlanOk ops pl) {w1 : World} {a0 : Act} (hO : OwesAll P ops pl w1 (fun G => finAct G a0 0 ops.toList pl) ops.toList pl)
    (hP : ∀ (k : Nat) (chain : List PanicEntry), pl[k]? = some (.dies chain) → ∀ a u, Gr w1 u → a.defers = a0.defers → Q (.panic chain) a u)
    (hF : (∀ (k : Nat) (chain : List PanicEntry), pl[k]? ≠ some (.dies chain)) → ∀ G u, Gr w1 u → (∀ (j : Nat) (T : TypeId) (z : Array Value), pl[j]? = some (.new T z) → w1.heap.size ≤ G j ∧ u.heap[G j]? = some (.cells (cont pl j z) T (0, 0))) →
      (∀ (i j : Nat) (Ti : TypeId) (zi : Array Value) (Tj : TypeId) (zj : Array Value), pl[i]? = some (.new Ti zi) → pl[j]? = some (.new Tj zj) → i ≠ j → G i ≠ G j) →
      ∀ fuel, cntF (lateListed pl) ops.size ≤ fuel → wpAny P .any ops Q fuel (lateListed pl) (finAct G a0 0 ops.toList pl) u) :
    ∀ (fuel : Nat) (listed : Array Bool) (a : Act) (u : World) (G : Nat → Nat), PInv ops pl w1 a0 G listed a u → cntF listed ops.size ≤ fuel → wpAny P .any ops Q fuel listed a u := by
  have fin : ∀ (fuel : Nat) (listed : Array Bool) (a : Act) (u : World) (G : Nat → Nat), PInv ops pl w1 a0 G listed a u → cntF listed ops.size ≤ fuel → (∀ (k : Nat) (p : Plan), pl[k]? = some p → p ≠ .later → listed.getD k false = true) → wpAny P .any ops Q fuel listed a u := by
    intro fuel listed a u G I hc hl
    have el : listed = lateListed pl := by
      apply Array.ext
      · simp [lateListed, I.lsz, hok.len]
      · intro k h1 h2
        have hk : k < pl.length := by rw [hok.len, ← I.lsz]; exact h1
        have hp : pl[k]? = some pl[k] := List.getElem?_eq_getElem hk
        have e1 : (lateListed pl)[k] = (match pl[k] with | .later => false | _ => true) := by simp [lateListed]
        rw [e1]
        by_cases hq : pl[k] = .later
        · rw [hq]
          have := I.lat k _ (by rw [hp, hq]) rfl
          simpa [h1] using this
        · have := hl k _ hp hq
          have e2 : listed[k] = true := by simpa [h1] using this
          rw [e2]
          revert hq
          cases pl[k] <;> simp
    have ltp : ∀ (j : Nat) (q : Plan), pl[j]? = some q → q ≠ .later → listed.getD j false = true := hl
    rw [I.fin hok hl]
    subst el
    refine hF (fun k chain hk => by have := hl k _ hk (by simp); rw [I.lat k _ hk rfl] at this; cases this) G u I.gr ?_ ?_ fuel hc
    · intro j T z hj
      obtain ⟨b1, c, b2, b3, b4⟩ := I.blk j T z hj (ltp j _ hj (by simp))
      refine ⟨b1, ?_⟩
      by_cases hx : ∃ (s : Nat) (c' : Array Value), pl[s]? = some (.put j c')
      · obtain ⟨s, c', hs⟩ := hx
        have os : ops[s]? = some ops[s]! := by
          have : s < ops.size := by rw [← hok.len]; exact (List.getElem?_eq_some_iff.1 hs).1
          simp [this]
        rw [cont_put hs (hok.put s _ j c' os hs).2.2.2, ← b3 s c' hs (ltp s _ hs (by simp))]
        exact b2
      · have hno : ∀ (s : Nat) (c' : Array Value), pl[s]? ≠ some (.put j c') := fun s c' h => hx ⟨s, c', h⟩
        rw [cont_none hno, ← b4 (fun s c' h => absurd h (hno s c'))]
        exact b2
    · intro i j Ti zi Tj zj hi hj hij
      exact I.dist i j Ti zi Tj zj hi hj hij (ltp i _ hi (by simp)) (ltp j _ hj (by simp))
  intro fuel
  induction fuel with
  | zero =>
    intro listed a u G I hc
    have hl := cntF_zero ops.size (Nat.le_zero.1 hc)
    exact fin 0 listed a u G I hc fun k p hp _ => hl k (by rw [← hok.len]; exact (List.getElem?_eq_some_iff.1 hp).1)
  | succ fuel ih =>
    intro listed a u G I hc
    by_cases hfin : ∀ (k : Nat) (p : Plan), pl[k]? = some p → p ≠ .later → listed.getD k false = true
    · exact fin (fuel + 1) listed a u G I hc hfin
    have hlate : ∀ (k : Nat) (o : Oper), ops[k]? = some o → (∀ e ∈ o.after, Region.binds .any e = true → listed.getD e.on false = true) → pl[k]? ≠ some .later := fun k o ho hall hp => by
      refine hfin fun i q hq hn => ?_
      exact covers_listed I.down 3 k i ((hok.lat k o ho hp).2 i q hq hn) fun o' ho' e he hb => by rw [ho] at ho'; cases ho'; exact hall e he hb
    refine ⟨fun hr => ?_, fun k hk => ?_⟩
    · exfalso
      have all : ∀ k, k < ops.size → listed.getD k false = true := by
        intro k
        induction k using Nat.strongRecOn with
        | ind k ihk =>
          intro hk
          cases hl : listed.getD k false with
          | true => rfl
          | false =>
            exfalso
            have ho : ops[k]? = some ops[k] := Array.getElem?_eq_getElem hk
            have : k ∈ Region.ready .any ops listed := mem_ready.2 ⟨by
              have := I.lsz
              simp [Array.getD_eq_getD_getElem?, this, hk] at hl ⊢; exact hl, ops[k], ho, fun e he hb => ihk e.on (hok.front k _ ho e he hb) (by have := hok.front k _ ho e he hb; omega)⟩
            rw [hr] at this
            cases this
      exact hfin fun k p hp _ => all k (by rw [← hok.len]; exact (List.getElem?_eq_some_iff.1 hp).1)
    obtain ⟨h0, o, ho, hall⟩ := mem_ready.1 hk
    have hk' : k < ops.size := (Array.getElem?_eq_some_iff.1 ho).1
    have hkl : k < listed.size := by rw [I.lsz]; exact hk'
    have hf := ready_unlisted I.lsz hk' h0
    have hc' : cntF (listed.setIfInBounds k true) ops.size ≤ fuel := by
      have := cntF_set hkl hf ops.size
      rw [if_pos hk'] at this
      omega
    obtain ⟨p, hp⟩ : ∃ p, pl[k]? = some p := ⟨pl[k]'(by rw [hok.len]; exact hk'), List.getElem?_eq_getElem _⟩
    obtain ⟨e1, e2⟩ := I.agree hok ho hall
    have O := hO.at k o p (by simpa using ho) hp
    unfold Go.wpOp
    rw [ho]
    dsimp only
    rw [e2]
    cases p with
    | later => exact absurd hp (hlate k o ho hall)
    | never =>
      obtain ⟨e, he, hb, q, hq, hi⟩ := hok.nev k o ho hp
      have := hall e he hb
      rw [I.lat e.on q hq hi] at this
      cases this
    | dies chain =>
      obtain ⟨hw, hv⟩ := O G
      dsimp only at hw hv
      rw [if_pos hw]
      left
      unfold Oper.wp
      rw [e1]
      exact Dead.upon (hv u I.gr) fun u' g => hP k chain hp a u' (I.gr.trans g) I.df
    | val v =>
      obtain ⟨hw, hv⟩ := O G
      dsimp only at hw hv
      rw [if_pos hw]
      left
      unfold Oper.wp
      rw [e1]
      exact Came.upon (hv u I.gr) fun u' g => ih _ _ u' G (I.quiet hok ho hp (by intros; simp) (by intros; simp) rfl hall g) hc'
    | off =>
      have hw := O G
      dsimp only at hw
      rw [if_neg (by rw [hw]; simp)]
      exact ih _ _ u G (I.quiet hok ho hp (by intros; simp) (by intros; simp) rfl hall (Gr.refl u)) hc'
    | new T z =>
      obtain ⟨hw, hv⟩ := O G
      dsimp only at hw hv
      rw [if_pos hw]
      left
      unfold Oper.wp
      rw [e1, hv u]
      show wpAny P .any ops Q fuel _ (a.put o.dst (.pointer (some ⟨u.heap.size, 0, none⟩))) _
      have hG : ∀ i, i ≠ k → (fun i => if i = k then u.heap.size else G i) i = G i := fun i hi => by simp [hi]
      obtain ⟨f1, f2, f3, f4⟩ := I.frame hok ho hp (G' := fun i => if i = k then u.heap.size else G i) hG
      have hval : (Plan.new T z).value (fun i => if i = k then u.heap.size else G i) k = .pointer (some ⟨u.heap.size, 0, none⟩) := by simp [Plan.value]
      rw [hval] at f1 f2 f3 f4
      have g1 : Gr u (u.alloc (.cells z T)) := (Gr.refl u).alloc _
      have cs : ∀ (j : Nat) (T' : TypeId) (z' : Array Value), pl[j]? = some (.new T' z') → j ≠ k → (listed.setIfInBounds k true).getD j false = true → listed.getD j false = true := fun j T' z' hj hne hl => (getD_set_cases hl).resolve_left hne
      have cp : ∀ (s j : Nat) (c' : Array Value), pl[s]? = some (.put j c') → (listed.setIfInBounds k true).getD s false = true → listed.getD s false = true := fun s j c' hs hl => (getD_set_cases hl).resolve_left (fun h => by subst h; rw [hp] at hs; cases hs)
      have old : ∀ (j : Nat) (T' : TypeId) (z' : Array Value), pl[j]? = some (.new T' z') → listed.getD j false = true → G j < u.heap.size := fun j T' z' hj hl => by
        obtain ⟨_, c, b2, _⟩ := I.blk j T' z' hj hl
        exact heap_lt b2
      refine ih _ _ _ (fun i => if i = k then u.heap.size else G i) ⟨I.gr.trans g1, f1, f2, by simp [I.lsz], f3, f4, ?_, I.lat' ho hp rfl, I.down' ho hall, fun s j c h1 h2 => getD_set_true (I.back s j c h1 (cp s j c h1 h2)), ?_⟩ hc'
      · intro j T' z' hj hl
        by_cases e : j = k
        · subst e
          rw [hp] at hj; cases hj
          refine ⟨by simp [I.gr.b.size], z, by simpa using heap_alloc_self u _, ?_, fun _ => rfl⟩
          intro s c' hs hl'
          exfalso
          have hso : ops[s]? = some ops[s]! := by
            have : s < ops.size := by rw [← hok.len]; exact (List.getElem?_eq_some_iff.1 hs).1
            simp [this]
          -- the store waits for its block: it has not come up
          exact absurd (cp s j c' hs hl') (by
            intro hls
            exact (by simpa using hf : listed.getD j false ≠ true) (I.back s j c' hs hls))
        · simp only [e, if_false]
          obtain ⟨b1, c, b2, b3, b4⟩ := I.blk j T' z' hj (cs j T' z' hj e hl)
          exact ⟨b1, c, g1.heap b2, fun s c' h1 h2 => b3 s c' h1 (cp s j c' h1 h2), fun h => b4 fun s c' h1 => getD_set_false (h s c' h1)⟩
      · intro i j Ti zi Tj zj hi hj hij h1 h2
        by_cases ei : i = k
        · subst ei
          have ej : j ≠ i := Ne.symm hij
          simp only [ej, if_true, if_false]
          have := old j Tj zj hj (cs j Tj zj hj ej h2)
          omega
        · by_cases ej : j = k
          · subst ej
            simp only [ei, if_true, if_false]
            have := old i Ti zi hi (cs i Ti zi hi ei h1)
            omega
          · simp only [ei, ej, if_false]
            exact I.dist i j Ti zi Tj zj hi hj hij (cs i Ti zi hi ei h1) (cs j Tj zj hj ej h2)
    | put j c =>
      obtain ⟨hw, hv⟩ := O G
      dsimp only at hw hv
      rw [if_pos hw]
      obtain ⟨hd, ⟨e, he, hb, hej⟩, ⟨T, z, hj⟩, hu⟩ := hok.put k o j c ho hp
      have hlj : listed.getD j false = true := by rw [← hej]; exact hall e he hb
      obtain ⟨b1, c0, b2, b3, b4⟩ := I.blk j T z hj hlj
      have hc0 : c0 = z := b4 fun s c' hs => by rw [hu s c' hs]; exact hf
      subst hc0
      obtain ⟨u', hr, gl, hcell⟩ := hv u T c0 I.gr b1 hj b2
      left
      unfold Oper.wp
      rw [e1, hr]
      show wpAny P .any ops Q fuel _ (a.put o.dst undef) _
      have gr' : Gr w1 u' := GrL.gr I.gr gl (fun i hi => by simp at hi; subst hi; exact b1)
      obtain ⟨f1, f2, f3, f4⟩ := I.frame hok ho hp (G' := G) (fun _ _ => rfl)
      have cn : ∀ (i : Nat) (T' : TypeId) (z' : Array Value), pl[i]? = some (.new T' z') → (listed.setIfInBounds k true).getD i false = true → listed.getD i false = true := fun i T' z' hi hl => (getD_set_cases hl).resolve_left (fun h => by subst h; rw [hp] at hi; cases hi)
      refine ih _ _ u' G ⟨gr', f1, f2, by simp [I.lsz], f3, f4, ?_, I.lat' ho hp rfl, I.down' ho hall, fun s i c' h1 h2 => getD_set_true ((getD_set_cases h2).elim (fun h => by subst h; rw [hp] at h1; cases h1; exact hlj) (I.back s i c' h1)), ?_⟩ hc'
      · intro i T' z' hi hl
        by_cases ei : i = j
        · subst ei
          refine ⟨b1, c, ?_, ?_, ?_⟩
          · rw [hj] at hi; cases hi; exact hcell
          · intro s c' hs _
            have := hu s c' hs
            subst this
            rw [hp] at hs; cases hs; rfl
          · intro h
            have := h k c hp
            rw [getD_set_self hkl] at this; cases this
        · obtain ⟨d1, c1, d2, d3, d4⟩ := I.blk i T' z' hi (cn i T' z' hi hl)
          have hne : G i ≠ G j := I.dist i j T' z' T c0 hi hj ei (cn i T' z' hi hl) hlj
          refine ⟨d1, c1, ?_, ?_, ?_⟩
          · rw [gl.block (G i) (heap_lt d2) (by simpa using hne)]; exact d2
          · intro s c' hs hl'
            rcases getD_set_cases hl' with rfl | h
            · rw [hp] at hs; cases hs; exact absurd rfl ei
            · exact d3 s c' hs h
          · intro h; exact d4 fun s c' hs => getD_set_false (h s c' hs)
      · intro i1 j1 Ti zi Tj zj hi1 hj1 hij h1 h2
        exact I.dist i1 j1 Ti zi Tj zj hi1 hj1 hij (cn i1 Ti zi hi1 h1) (cn j1 Tj zj hj1 h2)
/-- a drawn region by a plan; what is left are the late ones -/
theorem wp_region_late {id : Nat} {w : World} {a0 : Act} (pl : List Plan) {F : (Nat → Nat) → Act} (hm : P.follows .mixedOrders = true) (hok : planOk ops pl = true)
    (hE : ∀ G, finAct G a0 0 ops.toList pl = F G)
    (hO : OwesAll P ops pl w F ops.toList pl)
    (hP : ∀ (k : Nat) (chain : List PanicEntry), pl[k]? = some (.dies chain) → ∀ a u, Gr w u → a.defers = a0.defers → Q (.panic chain) a u)
    (hF : (∀ (k : Nat) (chain : List PanicEntry), pl[k]? ≠ some (.dies chain)) → ∀ G u, Gr w u → (∀ (j : Nat) (T : TypeId) (z : Array Value), pl[j]? = some (.new T z) → w.heap.size ≤ G j ∧ u.heap[G j]? = some (.cells (cont pl j z) T (0, 0))) →
      (∀ (i j : Nat) (Ti : TypeId) (zi : Array Value) (Tj : TypeId) (zj : Array Value), pl[i]? = some (.new Ti zi) → pl[j]? = some (.new Tj zj) → i ≠ j → G i ≠ G j) →
      ∀ fuel, cntF (lateListed pl) ops.size ≤ fuel → wpAny P .any ops Q fuel (lateListed pl) (F G) u) :
    (Code.region id ops true).wp P Q a0 w := by
  have hok' := planOk_spec hok
  obtain rfl : (fun G => finAct G a0 0 ops.toList pl) = F := funext hE
  refine wp_region_any hm ?_
  have h0 : ∀ k, (Array.replicate ops.size false).getD k false = false := fun k => by
    by_cases h : k < ops.size <;> simp [h]
  refine plan_any (w1 := w) hok' hO hP hF ops.size _ _ _ (fun _ => 0) ⟨Gr.drew (Gr.refl w), rfl, rfl, by simp, ?_, fun _ _ => rfl, ?_, fun k _ _ _ => h0 k, ?_, ?_, ?_⟩ ?_
  · intro k o t _ _ h; rw [h0] at h; cases h
  · intro j T z _ h; rw [h0] at h; cases h
  · intro k o _ h; rw [h0] at h; cases h
  · intro s j c _ h; rw [h0] at h; cases h
  · intro i j Ti zi Tj zj _ _ _ h; rw [h0] at h; cases h
  · have : ∀ n, cntF (Array.replicate ops.size false) n ≤ n := fun n => by
      induction n with
      | zero => exact Nat.le_refl _
      | succ n ih => simp only [cntF]; split <;> omega
    exact this _
def noDies (pl : List Plan) : Bool := pl.all fun | .dies _ => false | _ => true
theorem noDies_spec {pl : List Plan} {w : World} {a0 : Act} (h : noDies pl = true) : ∀ (k : Nat) (chain : List PanicEntry), pl[k]? = some (.dies chain) → ∀ a u, Gr w u → a.defers = a0.defers → Q (.panic chain) a u := fun k chain hk => by
  unfold noDies at h
  rw [List.all_eq_true] at h
  have := h _ (List.mem_of_getElem? hk)
  simp at this
/-- a drawn region in which a call gives up -/
theorem wp_region_dies {id : Nat} {w : World} {a0 : Act} (k : Nat) (chain : List PanicEntry) (pl : List Plan) {F : (Nat → Nat) → Act} (hm : P.follows .mixedOrders = true) (hok : (planOk ops pl && (match pl[k]? with | some (.dies _) => true | _ => false) && (List.range ops.size).all fun i => i == k || match pl[i]? with | some (.dies _) => false | _ => true) = true)
    (hE : ∀ G, finAct G a0 0 ops.toList pl = F G)
    (hO : OwesAll P ops pl w F ops.toList pl) (hk : pl[k]? = some (.dies chain))
    (hP : ∀ a u, Gr w u → a.defers = a0.defers → Q (.panic chain) a u) :
    (Code.region id ops true).wp P Q a0 w := by
  simp only [Bool.and_eq_true, List.all_eq_true, List.mem_range, Bool.or_eq_true, beq_iff_eq] at hok
  have hok' := planOk_spec hok.1.1
  refine wp_region_late pl hm hok.1.1 hE hO ?_ ?_
  · intro k' chain' hk' a u hg hd
    have := hok.2 k' (by rw [← hok'.len]; exact (List.getElem?_eq_some_iff.1 hk').1)
    rw [hk'] at this
    rcases this with rfl | this
    · rw [hk] at hk'; cases hk'; exact hP a u hg hd
    · simp at this
  · intro hn
    exact absurd hk (hn k chain)
/-- a drawn region by a plan -/
theorem wp_region_plan {id : Nat} {w : World} {a0 : Act} (pl : List Plan) {F : (Nat → Nat) → Act} (hm : P.follows .mixedOrders = true) (hok : (planOk ops pl && noDies pl && (Region.ready .any ops (lateListed pl)).isEmpty) = true)
    (hE : ∀ G, finAct G a0 0 ops.toList pl = F G)
    (hO : OwesAll P ops pl w F ops.toList pl)
    (hF : ∀ G u, Gr w u → (∀ (j : Nat) (T : TypeId) (z : Array Value), pl[j]? = some (.new T z) → w.heap.size ≤ G j ∧ u.heap[G j]? = some (.cells (cont pl j z) T (0, 0))) →
      (∀ (i j : Nat) (Ti : TypeId) (zi : Array Value) (Tj : TypeId) (zj : Array Value), pl[i]? = some (.new Ti zi) → pl[j]? = some (.new Tj zj) → i ≠ j → G i ≠ G j) → Q .normal (F G) u) :
    (Code.region id ops true).wp P Q a0 w := by
  rw [Bool.and_eq_true, Bool.and_eq_true] at hok
  exact wp_region_late pl hm hok.1.1 hE hO (noDies_spec hok.1.2) fun _ G u hg hb hd fuel _ => wpAny_done (by simpa using hok.2) (hF G u hg hb hd) fuel
/-- the operation that is left, and then the end -/
def Lone (P : Program) (ops : Array Oper) (Q : Exit → Act → World → Prop) (i : Nat) (K : Act → World → Prop) (a : Act) (w : World) : Prop :=
  ∃ o, ops[i]? = some o ∧ o.guard = none ∧ o.wp P a w K Q
theorem Lone.wpOp {i : Nat} {K : Act → World → Prop} {a : Act} {w : World} (h : Lone P ops Q i K a w) : wpOp P ops Q i K a w := by
  obtain ⟨o, ho, hg, hw⟩ := h
  unfold Go.wpOp
  rw [ho]
  have : Region.wanted o (yielded ops a.tmps) = true := by unfold Region.wanted; rw [hg]
  dsimp only
  rw [if_pos this]
  exact .inl hw
/-- the kernel's word on one late operation -/
def late1 (ops : Array Oper) (pl : List Plan) (i : Nat) : Bool :=
  planOk ops pl && noDies pl && (Region.ready .any ops (lateListed pl) == [i]) && (Region.ready .any ops ((lateListed pl).setIfInBounds i true)).isEmpty && decide (1 ≤ cntF (lateListed pl) ops.size)
theorem wp_region_plan1 {id : Nat} {w : World} {a0 : Act} (i : Nat) (pl : List Plan) {F : (Nat → Nat) → Act} (hm : P.follows .mixedOrders = true) (hok : late1 ops pl i = true)
    (hE : ∀ G, finAct G a0 0 ops.toList pl = F G)
    (hO : OwesAll P ops pl w F ops.toList pl)
    (hF : ∀ G u, Gr w u → (∀ (j : Nat) (T : TypeId) (z : Array Value), pl[j]? = some (.new T z) → w.heap.size ≤ G j ∧ u.heap[G j]? = some (.cells (cont pl j z) T (0, 0))) →
      (∀ (i j : Nat) (Ti : TypeId) (zi : Array Value) (Tj : TypeId) (zj : Array Value), pl[i]? = some (.new Ti zi) → pl[j]? = some (.new Tj zj) → i ≠ j → G i ≠ G j) → Lone P ops Q i (fun a w => Q .normal a w) (F G) u) :
    (Code.region id ops true).wp P Q a0 w := by
  unfold late1 at hok
  simp only [Bool.and_eq_true, beq_iff_eq, decide_eq_true_eq] at hok
  obtain ⟨⟨⟨⟨h1, h0⟩, h2⟩, h3⟩, h4⟩ := hok
  refine wp_region_late pl hm h1 hE hO (noDies_spec h0) fun _ G u hg hb hd fuel hc => ?_
  cases fuel with
  | zero => omega
  | succ fuel =>
    refine wpAny_all h2 (by simp) fun k hk => ?_
    simp only [List.mem_singleton] at hk
    subst hk
    exact wpOp_mono (fun a' w' h => wpAny_done (by simpa using h3) h fuel) (hF G u hg hb hd).wpOp
/-- the kernel's word on two late operations that may come up in either order -/
def late2 (ops : Array Oper) (pl : List Plan) (i j : Nat) : Bool :=
  planOk ops pl && noDies pl && (Region.ready .any ops (lateListed pl) == [i, j]) && (Region.ready .any ops ((lateListed pl).setIfInBounds i true) == [j]) && (Region.ready .any ops ((lateListed pl).setIfInBounds j true) == [i]) &&
  (Region.ready .any ops (((lateListed pl).setIfInBounds i true).setIfInBounds j true)).isEmpty && (Region.ready .any ops (((lateListed pl).setIfInBounds j true).setIfInBounds i true)).isEmpty && decide (2 ≤ cntF (lateListed pl) ops.size)
theorem wp_region_plan2 {id : Nat} {w : World} {a0 : Act} (i j : Nat) (pl : List Plan) {F : (Nat → Nat) → Act} (hm : P.follows .mixedOrders = true) (hok : late2 ops pl i j = true)
    (hE : ∀ G, finAct G a0 0 ops.toList pl = F G)
    (hO : OwesAll P ops pl w F ops.toList pl)
    (hF : ∀ G u, Gr w u → (∀ (j : Nat) (T : TypeId) (z : Array Value), pl[j]? = some (.new T z) → w.heap.size ≤ G j ∧ u.heap[G j]? = some (.cells (cont pl j z) T (0, 0))) →
      (∀ (i j : Nat) (Ti : TypeId) (zi : Array Value) (Tj : TypeId) (zj : Array Value), pl[i]? = some (.new Ti zi) → pl[j]? = some (.new Tj zj) → i ≠ j → G i ≠ G j) →
      Lone P ops Q i (Lone P ops Q j (fun a w => Q .normal a w)) (F G) u ∧ Lone P ops Q j (Lone P ops Q i (fun a w => Q .normal a w)) (F G) u) :
    (Code.region id ops true).wp P Q a0 w := by
  unfold late2 at hok
  simp only [Bool.and_eq_true, beq_iff_eq, decide_eq_true_eq] at hok
  obtain ⟨⟨⟨⟨⟨⟨⟨h1, h0⟩, h2⟩, h3⟩, h4⟩, h5⟩, h6⟩, h7⟩ := hok
  refine wp_region_late pl hm h1 hE hO (noDies_spec h0) fun _ G u hg hb hd fuel hc => ?_
  obtain ⟨k1, k2⟩ := hF G u hg hb hd
  obtain ⟨f, rfl⟩ : ∃ f, fuel = f + 1 + 1 := ⟨fuel - 2, by omega⟩
  refine wpAny_all h2 (by simp) fun k hk => ?_
  simp only [List.mem_cons, List.not_mem_nil, or_false] at hk
  rcases hk with rfl | rfl
  · refine wpOp_mono (fun a' w' h => wpAny_all h3 (by simp) fun k hk => ?_) k1.wpOp
    simp only [List.mem_singleton] at hk
    subst hk
    exact wpOp_mono (fun a' w' h => wpAny_done (by simpa using h5) h f) h.wpOp
  · refine wpOp_mono (fun a' w' h => wpAny_all h4 (by simp) fun k hk => ?_) k2.wpOp
    simp only [List.mem_singleton] at hk
    subst hk
    exact wpOp_mono (fun a' w' h => wpAny_done (by simpa using h6) h f) h.wpOp
/-- a block's cells -/
theorem blk_cells {u : World} {g : Nat} {c : Array Value} {T : TypeId} (h : u.heap[g]? = some (.cells c T (0, 0))) : (∀ o, u.cell? ⟨g, o, none⟩ = c[o]?) ∧ (∀ o, u.frozen? ⟨g, o, none⟩ = false) ∧ g < u.heap.size := by
  refine ⟨fun o => ?_, fun o => ?_, heap_lt h⟩
  · unfold World.cell?; rw [h]; rfl
  · unfold World.frozen?; rw [h]; simp
theorem put_one {u : World} {g : Nat} {x0 x : Value} {T : TypeId} (h : u.heap[g]? = some (.cells #[x0] T (0, 0))) : (u.setCell ⟨g, 0, none⟩ x).heap[g]? = some (.cells #[x] T (0, 0)) := by
  have hl := heap_lt h
  have : (u.setCell ⟨g, 0, none⟩ x).heap = u.heap.modify g fun | .cells c elem fr => .cells (c.setIfInBounds 0 x) elem fr | o => o := rfl
  rw [this, Array.getElem?_modify]
  simp [h]
theorem put_two {u : World} {g : Nat} {x0 y0 x y : Value} {T : TypeId} (h : u.heap[g]? = some (.cells #[x0, y0] T (0, 0))) : ((u.setCell ⟨g, 0, none⟩ x).setCell ⟨g, 1, none⟩ y).heap[g]? = some (.cells #[x, y] T (0, 0)) := by
  have e1 : (u.setCell ⟨g, 0, none⟩ x).heap[g]? = some (.cells #[x, y0] T (0, 0)) := by
    have : (u.setCell ⟨g, 0, none⟩ x).heap = u.heap.modify g fun | .cells c elem fr => .cells (c.setIfInBounds 0 x) elem fr | o => o := rfl
    rw [this, Array.getElem?_modify]
    simp [h]
  have : ((u.setCell ⟨g, 0, none⟩ x).setCell ⟨g, 1, none⟩ y).heap = (u.setCell ⟨g, 0, none⟩ x).heap.modify g fun | .cells c elem fr => .cells (c.setIfInBounds 1 y) elem fr | o => o := rfl
  rw [this, Array.getElem?_modify]
  simp [e1]
end
section
open Go.RowKit Go.Shelf
/-- a store: its number, its block, the block's type, what it holds before and behind -/
abbrev SetAt := Nat × Nat × TypeId × Array Value × Array Value
def allVal (pl : List Plan) : Bool := pl.all fun | .val _ => true | _ => false
def isDefer (o : Oper) : Bool := match o.op with | .defer _ => true | _ => false
section
variable {P : Program} {ops : Array Oper} {Q : Exit → Act → World → Prop}
structure SInv (ops : Array Oper) (pl : List Plan) (sl : List SetAt) (w1 : World) (a0 : Act) (listed : Array Bool) (a : Act) (u : World) : Prop where
  t : PInv ops pl u a0 (fun _ => 0) listed a u
  g : GrL (sl.map (·.2.1)) w1 u
  s : ∀ x ∈ sl, u.heap[x.2.1]? = some (.cells (if listed.getD x.1 false = true then x.2.2.2.2 else x.2.2.2.1) x.2.2.1 (0, 0))
/-- what is owed -/
def OwesS (P : Program) (ops : Array Oper) (sl : List SetAt) (w1 : World) (F : Act) : Nat → List Oper → List Plan → Prop
  | k, o :: os, p :: ps =>
    (match sl.find? (fun x => x.1 == k) with
      | some x => ∀ u, GrL (sl.map (·.2.1)) w1 u → u.heap[x.2.1]? = some (.cells x.2.2.2.1 x.2.2.1 (0, 0)) → ∃ u', (execOp F.eval o).run P u = .ok .skip u' ∧ GrL [x.2.1] u u' ∧ u'.heap[x.2.1]? = some (.cells x.2.2.2.2 x.2.2.1 (0, 0))
      | none => match p with
        | .val v => ∀ u, GrL (sl.map (·.2.1)) w1 u → (∀ x ∈ sl, (match ops[x.1]? with | some q => q.after.any fun e => Region.binds .any e && e.on == k | none => false) = true → u.heap[x.2.1]? = some (.cells x.2.2.2.1 x.2.2.1 (0, 0))) → (execOp F.eval o).run P u = .ok (.value v) u
        | _ => False) ∧ OwesS P ops sl w1 F (k + 1) os ps
  | _, _, _ => True
theorem OwesS.at {sl : List SetAt} {w1 : World} {F : Act} : ∀ {os : List Oper} {ps : List Plan} {k0 : Nat}, OwesS P ops sl w1 F k0 os ps → ∀ (k : Nat) (o : Oper) (p : Plan), os[k]? = some o → ps[k]? = some p →
    (match sl.find? (fun x => x.1 == k0 + k) with
      | some x => ∀ u, GrL (sl.map (·.2.1)) w1 u → u.heap[x.2.1]? = some (.cells x.2.2.2.1 x.2.2.1 (0, 0)) → ∃ u', (execOp F.eval o).run P u = .ok .skip u' ∧ GrL [x.2.1] u u' ∧ u'.heap[x.2.1]? = some (.cells x.2.2.2.2 x.2.2.1 (0, 0))
      | none => match p with
        | .val v => ∀ u, GrL (sl.map (·.2.1)) w1 u → (∀ x ∈ sl, (match ops[x.1]? with | some q => q.after.any fun e => Region.binds .any e && e.on == k0 + k | none => false) = true → u.heap[x.2.1]? = some (.cells x.2.2.2.1 x.2.2.1 (0, 0))) → (execOp F.eval o).run P u = .ok (.value v) u
        | _ => False)
  | [], _, _, _, k, o, p, ho, _ => by simp at ho
  | _ :: _, [], _, _, k, o, p, _, hp => by simp at hp
  | o' :: os, p' :: ps, k0, h, k, o, p, ho, hp => by
    cases k with
    | zero =>
      simp only [List.getElem?_cons_zero, Option.some.injEq] at ho hp
      subst ho hp
      exact h.1
    | succ k =>
      simp only [List.getElem?_cons_succ] at ho hp
      have := h.2.at k o p ho hp
      rw [show k0 + 1 + k = k0 + (k + 1) by omega] at this
      exact this
theorem SInv.step {pl : List Plan} {u u' : World} {a0 : Act} {listed : Array Bool} {a : Act} (hok : PlanOk ops pl) (hv : allVal pl = true) (I : PInv ops pl u a0 (fun _ => 0) listed a u)
    {k : Nat} {o : Oper} {p : Plan} (ho : ops[k]? = some o) (hp : pl[k]? = some p) (hall : ∀ e ∈ o.after, Region.binds .any e = true → listed.getD e.on false = true) :
    PInv ops pl u' a0 (fun _ => 0) (listed.setIfInBounds k true) (a.put o.dst (p.value (fun _ => 0) k)) u' := by
  have av : ∀ (i : Nat) (q : Plan), pl[i]? = some q → ∃ v, q = .val v := fun i q hq => by
    unfold allVal at hv
    rw [List.all_eq_true] at hv
    have := hv q (List.mem_of_getElem? hq)
    cases q <;> simp_all
  obtain ⟨f1, f2, f3, f4⟩ := I.frame hok ho hp (G' := fun _ => 0) (fun _ _ => rfl)
  have hla : p.idle = false := by obtain ⟨v, rfl⟩ := av k p hp; rfl
  refine ⟨Gr.refl u', f1, f2, by simp [I.lsz], f3, f4, ?_, I.lat' ho hp hla, I.down' ho hall, ?_, ?_⟩
  · intro j T z hj; obtain ⟨v, h⟩ := av j _ hj; cases h
  · intro s j c hs; obtain ⟨v, h⟩ := av s _ hs; cases h
  · intro i j Ti zi Tj zj hi; obtain ⟨v, h⟩ := av i _ hi; cases h
theorem planS_any {m l : Nat} {pl : List Plan} {sl : List SetAt} (hok : PlanOk ops pl) (hv : allVal pl = true) {w1 : World} {a0 : Act}
    (hw : ∀ (k : Nat) (o : Oper), ops[k]? = some o → o.guard = none ∧ isDefer o = false)
    (hsd : ∀ x ∈ sl, ∀ y ∈ sl, x.1 ≠ y.1 → x.2.1 ≠ y.2.1) (hsu : ∀ x ∈ sl, ∀ y ∈ sl, x.1 = y.1 → x = y) (hsl : ∀ x ∈ sl, x.1 < ops.size ∧ pl[x.1]? = some (.val undef))
    (_hsb : ∀ x ∈ sl, x.2.1 < w1.heap.size)
    (hO : OwesS P ops sl w1 (finAct (fun _ => 0) a0 0 ops.toList pl) 0 ops.toList pl)
    (hF : ∀ u, GrL (sl.map (·.2.1)) w1 u → (∀ x ∈ sl, u.heap[x.2.1]? = some (.cells x.2.2.2.2 x.2.2.1 (0, 0))) → Q .normal (finAct (fun _ => 0) a0 0 ops.toList pl) u) :
    ∀ (fuel : Nat) (listed : Array Bool) (a : Act) (u : World), SInv ops pl sl w1 a0 listed a u → cntF listed ops.size ≤ fuel → wpAnyIn (Fence.wide.inRound l) m P .any ops Q fuel listed a u := by
  have fin : ∀ (listed : Array Bool) (a : Act) (u : World), SInv ops pl sl w1 a0 listed a u → (∀ k, k < ops.size → listed.getD k false = true) → Q .normal a u := by
    intro listed a u I hl
    rw [I.t.fin hok fun k p hp _ => hl k (by rw [← hok.len]; exact (List.getElem?_eq_some_iff.1 hp).1)]
    refine hF u I.g fun x hx => ?_
    have := I.s x hx
    rw [if_pos (hl x.1 (hsl x hx).1)] at this
    exact this
  intro fuel
  induction fuel with
  | zero =>
    intro listed a u I hc
    have hl := cntF_zero ops.size (Nat.le_zero.1 hc)
    refine ⟨?_, fin listed a u I hl⟩
    rw [List.eq_nil_iff_forall_not_mem]
    intro k hk
    obtain ⟨h0, o, ho, _⟩ := mem_ready.1 hk
    have hk' : k < ops.size := (Array.getElem?_eq_some_iff.1 ho).1
    have := (ready_unlisted I.t.lsz hk' h0).symm.trans (hl k hk')
    cases this
  | succ fuel ih =>
    intro listed a u I hc
    refine ⟨fun hr => fin listed a u I ?_, fun k hk => ?_⟩
    · intro k
      induction k using Nat.strongRecOn with
      | ind k ihk =>
        intro hk
        cases hl : listed.getD k false with
        | true => rfl
        | false =>
          exfalso
          have ho : ops[k]? = some ops[k] := Array.getElem?_eq_getElem hk
          have : k ∈ Region.ready .any ops listed := mem_ready.2 ⟨by
            have := I.t.lsz
            simp [Array.getD_eq_getD_getElem?, this, hk] at hl ⊢; exact hl, ops[k], ho, fun e he hb => ihk e.on (hok.front k _ ho e he hb) (by have := hok.front k _ ho e he hb; omega)⟩
          rw [hr] at this
          cases this
    obtain ⟨h0, o, ho, hall⟩ := mem_ready.1 hk
    have hk' : k < ops.size := (Array.getElem?_eq_some_iff.1 ho).1
    have hkl : k < listed.size := by rw [I.t.lsz]; exact hk'
    have hf := ready_unlisted I.t.lsz hk' h0
    have hc' : cntF (listed.setIfInBounds k true) ops.size ≤ fuel := by
      have := cntF_set hkl hf ops.size
      rw [if_pos hk'] at this
      omega
    obtain ⟨p, hp⟩ : ∃ p, pl[k]? = some p := ⟨pl[k]'(by rw [hok.len]; exact hk'), List.getElem?_eq_getElem _⟩
    obtain ⟨e1, _⟩ := I.t.agree hok ho hall
    have O := hO.at k o p (by simpa using ho) hp
    rw [Nat.zero_add] at O
    obtain ⟨hg, hnd⟩ := hw k o ho
    have hwt : Region.wanted o (yielded ops a.tmps) = true := by unfold Region.wanted; rw [hg]
    unfold wpOpIn
    rw [ho]
    dsimp only
    rw [if_pos hwt]
    refine ⟨fun _ _ => trivial, ?_⟩
    have hsem : o.semAt (Fence.wide.inRound l).round a.eval = execOp (finAct (fun _ => 0) a0 0 ops.toList pl).eval o := by
      rw [← e1]
      exact Oper.semAt_some l _ _ (by intro c hcc; unfold isDefer at hnd; rw [hcc] at hnd; cases hnd)
    rw [hsem]
    cases hfd : sl.find? (fun x => x.1 == k) with
    | some x =>
      rw [hfd] at O
      dsimp only at O
      have hx : x ∈ sl := List.mem_of_find?_eq_some hfd
      have hxk : x.1 = k := by simpa using List.find?_some hfd
      have hsx := I.s x hx
      rw [hxk, hf] at hsx
      obtain ⟨u', hr, gl, hcell⟩ := O u I.g (by simpa using hsx)
      rw [hr]
      have hpv : p = .val undef := by have := (hsl x hx).2; rw [hxk, hp] at this; simpa using this
      have st := SInv.step (u' := u') hok hv I.t ho hp hall
      rw [hpv] at st
      have gm : GrL (sl.map (·.2.1)) u u' := gl.mono fun b hb => by
        obtain rfl : b = x.2.1 := by simpa using hb
        exact List.mem_map_of_mem (f := fun x : SetAt => x.2.1) hx
      refine ih _ _ _ ⟨st, I.g.trans gm, ?_⟩ hc'
      intro y hy
      by_cases e : y.1 = x.1
      · obtain rfl := hsu y hy x hx e
        rw [hxk, if_pos (getD_set_self hkl)]
        exact hcell
      · have hn : y.1 ≠ k := by rw [← hxk]; exact e
        rw [getD_set_ne false (Ne.symm hn)]
        rw [gl.block y.2.1 (heap_lt (I.s y hy)) (by simpa using hsd y hy x hx e)]
        exact I.s y hy
    | none =>
      rw [hfd] at O
      dsimp only at O
      cases p with
      | val v =>
        dsimp only at O
        have hr := O u I.g (fun x hx hb => by
          have hs := I.s x hx
          have hox : ops[x.1]? = some ops[x.1]! := by have := (hsl x hx).1; simp [this]
          rw [hox] at hb
          obtain ⟨e, he, hbe⟩ := Array.any_eq_true'.1 hb
          simp only [Bool.and_eq_true, beq_iff_eq] at hbe
          have hnl : listed.getD x.1 false = false := by
            cases hl : listed.getD x.1 false with
            | false => rfl
            | true =>
              have := I.t.down x.1 _ hox hl e he hbe.1
              rw [hbe.2, hf] at this; cases this
          rw [hnl] at hs
          simpa using hs)
        rw [hr]
        refine ih _ _ _ ⟨SInv.step (u' := u) hok hv I.t ho hp hall, I.g, fun y hy => ?_⟩ hc'
        have hn : y.1 ≠ k := fun e => by
          have := List.find?_eq_none.1 hfd y hy
          simp [e] at this
        rw [getD_set_ne false (Ne.symm hn)]
        exact I.s y hy
      | _ => exact O.elim
def plainOps (ops : Array Oper) : Bool := ops.all fun o => o.guard.isNone && !isDefer o
theorem wpIn_region_planS {m l id : Nat} {w : World} {a0 F : Act} (pl : List Plan) (sl : List SetAt) (hm : P.follows .mixedOrders = true) (hok : (planOk ops pl && allVal pl && plainOps ops) = true)
    (hE : finAct (fun _ => 0) a0 0 ops.toList pl = F)
    (hsd : ∀ x ∈ sl, ∀ y ∈ sl, x.1 ≠ y.1 → x.2.1 ≠ y.2.1) (hsu : ∀ x ∈ sl, ∀ y ∈ sl, x.1 = y.1 → x = y) (hsl : ∀ x ∈ sl, x.1 < ops.size ∧ pl[x.1]? = some (.val undef))
    (hs0 : ∀ x ∈ sl, w.heap[x.2.1]? = some (.cells x.2.2.2.1 x.2.2.1 (0, 0)))
    (hO : OwesS P ops sl w F 0 ops.toList pl)
    (hF : ∀ u, GrL (sl.map (·.2.1)) w u → (∀ x ∈ sl, u.heap[x.2.1]? = some (.cells x.2.2.2.2 x.2.2.1 (0, 0))) → Q .normal F u) :
    (Code.region id ops true).wpIn (Fence.wide.inRound l) m P Q a0 w := by
  subst hE
  simp only [Bool.and_eq_true] at hok
  have hok' := planOk_spec hok.1.1
  refine wpIn_region_any hm ?_
  have h0 : ∀ k, (Array.replicate ops.size false).getD k false = false := fun k => by
    by_cases h : k < ops.size <;> simp [h]
  have hpl : ∀ (k : Nat) (o : Oper), ops[k]? = some o → o.guard = none ∧ isDefer o = false := fun k o ho => by
    have := hok.2
    unfold plainOps at this
    rw [Array.all_eq_true_iff_forall_mem] at this
    have := this o (Array.mem_of_getElem? ho)
    simpa using this
  refine planS_any (w1 := w) hok' hok.1.2 hpl hsd hsu hsl (fun x hx => heap_lt (hs0 x hx)) hO hF ops.size _ _ _ ⟨⟨Gr.refl _, rfl, rfl, by simp, ?_, fun _ _ => rfl, ?_, fun k _ _ _ => h0 k, ?_, ?_, ?_⟩, GrL.of_gr (Gr.drew (Gr.refl w)), ?_⟩ ?_
  · intro k o t _ _ h; rw [h0] at h; cases h
  · intro j T z _ h; rw [h0] at h; cases h
  · intro k o _ h; rw [h0] at h; cases h
  · intro s j c _ h; rw [h0] at h; cases h
  · intro i j Ti zi Tj zj _ _ _ h; rw [h0] at h; cases h
  · intro x hx
    rw [h0]
    exact hs0 x hx
  · have : ∀ n, cntF (Array.replicate ops.size false) n ≤ n := fun n => by
      induction n with
      | zero => exact Nat.le_refl _
      | succ n ih => simp only [cntF]; split <;> omega
    exact this _
end
end
end Go.Proofs.YthmimjofdmnakaaGreatDoor
