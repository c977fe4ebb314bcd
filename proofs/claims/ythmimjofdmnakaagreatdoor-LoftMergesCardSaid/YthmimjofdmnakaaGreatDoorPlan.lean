/- Drawn regions by a plan: every operation is met once, whatever the order. -/
import Derived.Test.YthmimjofdmnakaaGreatDoorBase
import Derived.Deep.RegionHeld3
import Derived.OrdersIn
import Derived.RangeFuncCalls
namespace Go.Proofs.YthmimjofdmnakaaGreatDoor
section
open Go.RowKit Go.Shelf
section
variable {P : Program} {ops : Array Oper} {Q : Exit → Act → World → Prop}
/-- what an operation's run comes to: the value v, in a world that R allows -/
def Came (P : Program) (v : Value) (Rw : World → Prop) : Result Next → Prop
  | .ok (.value u) w' => u = v ∧ Rw w'
  | .ok (.enter f args) w' => Calls P f args w' fun e w'' => e = .returned v ∧ Rw w''
  | _ => False
theorem Came.upon {o : Oper} {a : Act} {K : Act → World → Prop} {v : Value} {Rw : World → Prop} {r : Result Next} (h : Came P v Rw r) (hK : ∀ w', Rw w' → K (a.put o.dst v) w') :
    o.upon P a K Q r := by
  cases r with
  | halt x w' => exact h.elim
  | ok n w' =>
    cases n with
    | value u => obtain ⟨rfl, hr⟩ := h; exact hK _ hr
    | enter f args =>
      refine Calls.mono h ?_
      rintro e w'' ⟨rfl, hr⟩
      exact hK _ hr
    | skip => exact h.elim
    | defer d => exact h.elim
    | row r args => exact h.elim
    | _ => exact h.elim
end
theorem Came.enter {P : Program} {v : Value} {Rw : World → Prop} {f : FuncId} {args : Array Value} {w' : World} : Came P v Rw (.ok (.enter f args) w') = Calls P f args w' (fun e w'' => e = .returned v ∧ Rw w'') := rfl
theorem Came.value {P : Program} {v u : Value} {Rw : World → Prop} {w' : World} : Came P v Rw (.ok (.value u) w') = (u = v ∧ Rw w') := rfl
/-- what an operation of a drawn region comes to: a value that is known; nothing (its guard is false); a new block; a store into a new block, which then holds c; a store that waits for all of these; a call that gives up; what waits for such a call -/
inductive Plan where
  | val (v : Value)
  | off
  | new (T : TypeId) (z : Array Value)
  | put (j : Nat) (c : Array Value)
  | later
  | dies (chain : List PanicEntry)
  | never
  deriving Inhabited
def Plan.value (G : Nat → Nat) (k : Nat) : Plan → Value
  | .val v => v
  | .new _ _ => .pointer (some ⟨G k, 0, none⟩)
  | _ => undef
def Plan.idle : Plan → Bool
  | .later | .dies _ | .never => true
  | _ => false
/-- the frame when all have come up -/
def finAct (G : Nat → Nat) : Act → Nat → List Oper → List Plan → Act
  | a, k, o :: os, p :: ps => finAct G (a.put o.dst (p.value G k)) (k+1) os ps
  | a, _, _, _ => a
/-- operation k waits for operation i, over at most n others -/
def covers (ops : Array Oper) : Nat → Nat → Nat → Bool
  | 0, _, _ => false
  | n + 1, k, i => match ops[k]? with
    | none => false
    | some o => o.after.any fun e => Region.binds .any e && (e.on == i || covers ops n e.on i)
/-- the bookkeeping of a region, by the kernel: each slot is written once, each operation waits for the writers of what it looks at, edges lead to the front, no select -/
def planOk (ops : Array Oper) (pl : List Plan) : Bool :=
  pl.length == ops.size && Region.noSelect ops &&
  (List.range ops.size).all fun k => match ops[k]? with
    | none => false
    | some o =>
      (o.after.all fun e => !Region.binds .any e || e.on < k) &&
      ((List.range ops.size).all fun i => match ops[i]? with
        | none => false
        | some p => match p.dst with
          | none => true
          | some d => (i == k || o.dst != some d) && (!(o.looksAt ops).contains d || (o.after.any fun e => Region.binds .any e && e.on == i))) &&
      (match pl[k]? with
        | some (.put j _) => o.dst == none && (o.after.any fun e => Region.binds .any e && e.on == j) && (match pl[j]? with | some (.new _ _) => true | _ => false) &&
            ((List.range ops.size).all fun s => s == k || match pl[s]? with | some (.put i _) => i != j | _ => true)
        | some (.new _ _) => o.dst != none
        | some .never => o.after.any fun e => Region.binds .any e && (match pl[e.on]? with | some .never => true | some (.dies _) => true | _ => false)
        | some .later => o.dst == none && (List.range ops.size).all fun i => (match pl[i]? with | some .later => true | _ => false) || covers ops 3 k i
        | some _ => true
        | none => false)
theorem finAct_other (G : Nat → Nat) (t : Nat) : ∀ (os : List Oper) (ps : List Plan) (a : Act) (k : Nat), (∀ o ∈ os, o.dst ≠ some t) → (finAct G a k os ps).tmps[t]? = a.tmps[t]?
  | [], _, _, _, _ => by simp [finAct]
  | _ :: _, [], _, _, _ => by simp [finAct]
  | o :: os, p :: ps, a, k, h => by
    rw [finAct, finAct_other G t os ps _ _ fun q hq => h q (by simp [hq])]
    have h0 := h o (by simp)
    cases hd : o.dst with
    | none => rfl
    | some d =>
      have : d ≠ t := fun e => h0 (by rw [hd, e])
      simp [Act.put, Array.getElem?_setIfInBounds_ne this]
theorem finAct_size (G : Nat → Nat) : ∀ (os : List Oper) (ps : List Plan) (a : Act) (k : Nat), (finAct G a k os ps).tmps.size = a.tmps.size
  | [], _, _, _ => by simp [finAct]
  | _ :: _, [], _, _ => by simp [finAct]
  | o :: os, p :: ps, a, k => by
    rw [finAct, finAct_size G os ps]
    cases o.dst <;> simp [Act.put]
theorem finAct_defers (G : Nat → Nat) : ∀ (os : List Oper) (ps : List Plan) (a : Act) (k : Nat), (finAct G a k os ps).defers = a.defers
  | [], _, _, _ => by simp [finAct]
  | _ :: _, [], _, _ => by simp [finAct]
  | o :: os, p :: ps, a, k => by
    rw [finAct, finAct_defers G os ps]
    cases o.dst <;> rfl
theorem finAct_at (G : Nat → Nat) (t : Nat) : ∀ (os : List Oper) (ps : List Plan) (a : Act) (k i : Nat) (o : Oper) (p : Plan), os[i]? = some o → ps[i]? = some p → o.dst = some t →
    (∀ j q, os[j]? = some q → j ≠ i → q.dst ≠ some t) → t < a.tmps.size → (finAct G a k os ps).tmps[t]? = some (p.value G (k + i))
  | [], _, _, _, _, _, _, h, _, _, _, _ => by simp at h
  | _ :: _, [], _, _, _, _, _, _, h, _, _, _ => by simp at h
  | o' :: os, p' :: ps, a, k, i, o, p, ho, hp, hd, hu, ht => by
    rw [finAct]
    cases i with
    | zero =>
      simp only [List.getElem?_cons_zero, Option.some.injEq] at ho hp
      subst ho hp
      rw [finAct_other G t os ps _ _ (fun q hq => by
        obtain ⟨j, hj⟩ := List.getElem?_of_mem hq
        exact hu (j+1) q (by simpa using hj) (by omega))]
      simp [Act.put, hd, ht]
    | succ i =>
      simp only [List.getElem?_cons_succ] at ho hp
      have := finAct_at G t os ps (a.put o'.dst (p'.value G k)) (k+1) i o p ho hp hd (fun j q hj hn => hu (j+1) q (by simpa using hj) (by omega)) (by cases o'.dst <;> simp [Act.put, ht])
      rw [this]; congr 2; omega
variable {P : Program} {ops : Array Oper} {Q : Exit → Act → World → Prop}
/-- what planOk says, part by part -/
structure PlanOk (ops : Array Oper) (pl : List Plan) : Prop where
  len : pl.length = ops.size
  nosel : ∀ (j : Nat) (o : Oper) cs b, ops[j]? = some o → o.op ≠ .select cs b
  front : ∀ (k : Nat) (o : Oper), ops[k]? = some o → ∀ e ∈ o.after, Region.binds .any e = true → e.on < k
  once : ∀ (k i : Nat) (o p : Oper) (d : Tmp), ops[k]? = some o → ops[i]? = some p → p.dst = some d → i ≠ k → o.dst ≠ some d
  waits : ∀ (k i : Nat) (o p : Oper) (d : Tmp), ops[k]? = some o → ops[i]? = some p → p.dst = some d → d ∈ o.looksAt ops → ∃ e ∈ o.after, Region.binds .any e = true ∧ e.on = i
  put : ∀ (k : Nat) (o : Oper) (j : Nat) (c : Array Value), ops[k]? = some o → pl[k]? = some (.put j c) → o.dst = none ∧ (∃ e ∈ o.after, Region.binds .any e = true ∧ e.on = j) ∧ (∃ (T : TypeId) (z : Array Value), pl[j]? = some (.new T z)) ∧ ∀ (s : Nat) (c' : Array Value), pl[s]? = some (.put j c') → s = k
  new : ∀ (k : Nat) (o : Oper) (T : TypeId) (z : Array Value), ops[k]? = some o → pl[k]? = some (.new T z) → o.dst ≠ none
  nev : ∀ (k : Nat) (o : Oper), ops[k]? = some o → pl[k]? = some .never → ∃ e ∈ o.after, Region.binds .any e = true ∧ ∃ p, pl[e.on]? = some p ∧ p.idle = true
  lat : ∀ (k : Nat) (o : Oper), ops[k]? = some o → pl[k]? = some .later → o.dst = none ∧ ∀ (i : Nat) (q : Plan), pl[i]? = some q → q ≠ .later → covers ops 3 k i = true
/-- an operation gives up -/
def Dead (P : Program) (chain : List PanicEntry) (Rw : World → Prop) : Result Next → Prop
  | .ok (.enter f args) w' => Calls P f args w' fun e w'' => e = .panicked chain ∧ Rw w''
  | .halt (.panic v) w' => chain = [{ v, recovered := false }] ∧ Rw w'
  | _ => False
theorem Dead.upon {o : Oper} {a : Act} {K : Act → World → Prop} {chain : List PanicEntry} {Rw : World → Prop} {r : Result Next} (h : Dead P chain Rw r) (hK : ∀ w', Rw w' → Q (.panic chain) a w') :
    o.upon P a K Q r := by
  cases r with
  | halt x w' =>
    cases x <;> first | exact h.elim | (obtain ⟨rfl, hr⟩ := h; exact hK _ hr)
  | ok n w' =>
    cases n with
    | enter f args =>
      refine Calls.mono h ?_
      rintro e w'' ⟨rfl, hr⟩
      exact hK _ hr
    | _ => exact h.elim
/-- what is owed for one operation -/
def Owes (P : Program) (ops : Array Oper) (pl : List Plan) (w1 : World) (F : (Nat → Nat) → Act) (o : Oper) : Plan → Prop
  | .val v => ∀ G, Region.wanted o (yielded ops (F G).tmps) = true ∧ ∀ u, Gr w1 u → Came P v (Gr u) ((execOp (F G).eval o).run P u)
  | .off => ∀ G, Region.wanted o (yielded ops (F G).tmps) = false
  | .new T z => ∀ G, Region.wanted o (yielded ops (F G).tmps) = true ∧ ∀ u, (execOp (F G).eval o).run P u = .ok (.value (.pointer (some ⟨u.heap.size, 0, none⟩))) (u.alloc (.cells z T))
  | .put j c => ∀ G, Region.wanted o (yielded ops (F G).tmps) = true ∧ ∀ u T z, Gr w1 u → w1.heap.size ≤ G j → pl[j]? = some (.new T z) → u.heap[G j]? = some (.cells z T (0, 0)) →
      ∃ u', (execOp (F G).eval o).run P u = .ok .skip u' ∧ GrL [G j] u u' ∧ u'.heap[G j]? = some (.cells c T (0, 0))
  | .later => True
  | .dies chain => ∀ G, Region.wanted o (yielded ops (F G).tmps) = true ∧ ∀ u, Gr w1 u → Dead P chain (Gr u) ((execOp (F G).eval o).run P u)
  | .never => True
def OwesAll (P : Program) (ops : Array Oper) (pl : List Plan) (w1 : World) (F : (Nat → Nat) → Act) : List Oper → List Plan → Prop
  | o :: os, p :: ps => Owes P ops pl w1 F o p ∧ OwesAll P ops pl w1 F os ps
  | _, _ => True
theorem OwesAll.at {pl : List Plan} {w1 : World} {F : (Nat → Nat) → Act} : ∀ {os : List Oper} {ps : List Plan}, OwesAll P ops pl w1 F os ps → ∀ (k : Nat) (o : Oper) (p : Plan), os[k]? = some o → ps[k]? = some p → Owes P ops pl w1 F o p
  | [], _, _, k, o, p, ho, _ => by simp at ho
  | _ :: _, [], _, k, o, p, _, hp => by simp at hp
  | o' :: os, p' :: ps, h, k, o, p, ho, hp => by
    cases k with
    | zero =>
      simp only [List.getElem?_cons_zero, Option.some.injEq] at ho hp
      subst ho hp
      exact h.1
    | succ k =>
      simp only [List.getElem?_cons_succ] at ho hp
      exact h.2.at k o p ho hp
structure PInv (ops : Array Oper) (pl : List Plan) (w1 : World) (a0 : Act) (G : Nat → Nat) (listed : Array Bool) (a : Act) (u : World) : Prop where
  gr : Gr w1 u
  df : a.defers = a0.defers
  sz : a.tmps.size = a0.tmps.size
  lsz : listed.size = ops.size
  done : ∀ (k : Nat) (o : Oper) (t : Tmp), ops[k]? = some o → o.dst = some t → listed.getD k false = true → a.tmps[t]? = (finAct G a0 0 ops.toList pl).tmps[t]?
  rest : ∀ (t : Tmp), (∀ (k : Nat) (o : Oper), ops[k]? = some o → o.dst = some t → listed.getD k false = false) → a.tmps[t]? = a0.tmps[t]?
  blk : ∀ (j : Nat) (T : TypeId) (z : Array Value), pl[j]? = some (.new T z) → listed.getD j false = true → w1.heap.size ≤ G j ∧ ∃ c, u.heap[G j]? = some (.cells c T (0, 0)) ∧
    (∀ (s : Nat) (c' : Array Value), pl[s]? = some (.put j c') → listed.getD s false = true → c = c') ∧ ((∀ (s : Nat) (c' : Array Value), pl[s]? = some (.put j c') → listed.getD s false = false) → c = z)
  lat : ∀ (k : Nat) (p : Plan), pl[k]? = some p → p.idle = true → listed.getD k false = false
  down : ∀ (k : Nat) (o : Oper), ops[k]? = some o → listed.getD k false = true → ∀ e ∈ o.after, Region.binds .any e = true → listed.getD e.on false = true
  back : ∀ (s j : Nat) (c : Array Value), pl[s]? = some (.put j c) → listed.getD s false = true → listed.getD j false = true
  dist : ∀ (i j : Nat) (Ti : TypeId) (zi : Array Value) (Tj : TypeId) (zj : Array Value), pl[i]? = some (.new Ti zi) → pl[j]? = some (.new Tj zj) → i ≠ j → listed.getD i false = true → listed.getD j false = true → G i ≠ G j
theorem getD_set_self {listed : Array Bool} {i : Nat} (h : i < listed.size) : (listed.setIfInBounds i true).getD i false = true := by simp [h]
theorem getD_set_false {listed : Array Bool} {i j : Nat} (h : (listed.setIfInBounds i true).getD j false = false) : listed.getD j false = false := by
  cases e : listed.getD j false
  · rfl
  · rw [getD_set_true e] at h; cases h
theorem getD_set_cases {listed : Array Bool} {i j : Nat} (h : (listed.setIfInBounds i true).getD j false = true) : j = i ∨ listed.getD j false = true := by
  by_cases e : i = j
  · exact .inl e.symm
  · right; rwa [getD_set_ne false e] at h
/-- the frame at hand is as the last one, for all that an operation which may come up looks at -/
theorem PInv.agree {pl : List Plan} {w1 : World} {a0 : Act} {G : Nat → Nat} {listed : Array Bool} {a : Act} {u : World} (hok : PlanOk ops pl) (I : PInv ops pl w1 a0 G listed a u)
    {k : Nat} {o : Oper} (ho : ops[k]? = some o) (hall : ∀ e ∈ o.after, Region.binds .any e = true → listed.getD e.on false = true) :
    execOp a.eval o = execOp (finAct G a0 0 ops.toList pl).eval o ∧ Region.wanted o (yielded ops a.tmps) = Region.wanted o (yielded ops (finAct G a0 0 ops.toList pl).tmps) := by
  have key : ∀ t, t ∈ o.looksAt ops → a.tmps[t]? = (finAct G a0 0 ops.toList pl).tmps[t]? := fun t ht => by
    by_cases hx : ∃ (i : Nat) (p : Oper), ops[i]? = some p ∧ p.dst = some t
    · obtain ⟨i, p, hp, hd⟩ := hx
      obtain ⟨e, he, hb, rfl⟩ := hok.waits k i o p t ho hp hd ht
      exact I.done _ p t hp hd (hall e he hb)
    · rw [I.rest t (fun i p hp hd => absurd ⟨i, p, hp, hd⟩ hx)]
      rw [finAct_other G t _ _ _ _ (fun p hp hd => by
        obtain ⟨i, hi⟩ := List.getElem?_of_mem hp
        exact hx ⟨i, p, by simpa using hi, hd⟩)]
  constructor
  · refine execOp_congr o (fun cs b => hok.nosel k o cs b ho) (fun x hx => ?_)
    cases x with
    | tmp t =>
      have := key t (List.mem_append_left _ (List.mem_filterMap.2 ⟨.tmp t, by simpa using hx, rfl⟩))
      simp only [Act.eval, Array.getD_eq_getD_getElem?, this]
    | _ => rfl
  · unfold Region.wanted
    cases hg : o.guard with
    | none => rfl
    | some gw =>
      obtain ⟨g, want⟩ := gw
      have : yielded ops a.tmps g = yielded ops (finAct G a0 0 ops.toList pl).tmps g := by
        unfold yielded
        cases ht : (ops[g]?).bind (·.dst) with
        | none => rfl
        | some t =>
          have := key t (List.mem_append_right _ (by simp [hg, ht]))
          simp only [Option.bind_some, this]
      simp only [this]
/-- an operation has put its value down -/
theorem PInv.frame {pl : List Plan} {w1 : World} {a0 : Act} {G G' : Nat → Nat} {listed : Array Bool} {a : Act} {u : World} (hok : PlanOk ops pl) (I : PInv ops pl w1 a0 G listed a u)
    {k : Nat} {o : Oper} {p : Plan} (ho : ops[k]? = some o) (hp : pl[k]? = some p) (hG : ∀ i, i ≠ k → G' i = G i) :
    (a.put o.dst (p.value G' k)).defers = a0.defers ∧ (a.put o.dst (p.value G' k)).tmps.size = a0.tmps.size ∧
    (∀ (i : Nat) (q : Oper) (t : Tmp), ops[i]? = some q → q.dst = some t → (listed.setIfInBounds k true).getD i false = true → (a.put o.dst (p.value G' k)).tmps[t]? = (finAct G' a0 0 ops.toList pl).tmps[t]?) ∧
    (∀ (t : Tmp), (∀ (i : Nat) (q : Oper), ops[i]? = some q → q.dst = some t → (listed.setIfInBounds k true).getD i false = false) → (a.put o.dst (p.value G' k)).tmps[t]? = a0.tmps[t]?) := by
  have hk : k < listed.size := by rw [I.lsz]; exact (Array.getElem?_eq_some_iff.1 ho).1
  have pe : ∀ (i : Nat) (q : Plan), pl[i]? = some q → i ≠ k → q.value G' i = q.value G i := fun i q _ hn => by
    have := hG i hn
    cases q <;> first | rfl | (unfold Plan.value; rw [this])
  refine ⟨?_, ?_, ?_, ?_⟩
  · have := I.df; cases o.dst <;> exact this
  · have := I.sz; cases o.dst <;> simpa [Act.put] using this
  · intro i q t hq hd hl
    have hlt : ∀ s : Nat, t < s ∨ s ≤ t := fun s => Nat.lt_or_ge t s
    by_cases e : i = k
    · subst e
      rw [ho] at hq; cases hq
      rw [hd]
      rcases hlt a0.tmps.size with ht | ht
      · rw [finAct_at G' t ops.toList pl a0 0 i o p (by simpa using ho) hp hd (fun j q hj hn => by
          intro hd'
          exact hok.once j i q o t (by simpa using hj) ho hd (Ne.symm hn) hd') ht]
        simp [Act.put, I.sz, ht]
      · rw [Array.getElem?_eq_none (by simpa [Act.put, I.sz] using ht), Array.getElem?_eq_none (by rw [finAct_size]; exact ht)]
    · have hl' : listed.getD i false = true := (getD_set_cases hl).resolve_left e
      have d0 := I.done i q t hq hd hl'
      have hne : o.dst ≠ some t := hok.once k i o q t ho hq hd e
      have e1 : (a.put o.dst (p.value G' k)).tmps[t]? = a.tmps[t]? := by
        cases hod : o.dst with
        | none => rfl
        | some d =>
          have : d ≠ t := fun h => hne (by rw [hod, h])
          simp [Act.put, Array.getElem?_setIfInBounds_ne this]
      rw [e1, d0]
      obtain ⟨q', hq'⟩ : ∃ q', pl[i]? = some q' := ⟨pl[i]'(by rw [hok.len]; exact (Array.getElem?_eq_some_iff.1 hq).1), List.getElem?_eq_getElem _⟩
      have uniq : ∀ j r, ops.toList[j]? = some r → j ≠ i → r.dst ≠ some t := fun j r hj hn => hok.once j i r q t (by simpa using hj) hq hd (Ne.symm hn)
      rcases hlt a0.tmps.size with ht | ht
      · rw [finAct_at G t ops.toList pl a0 0 i q q' (by simpa using hq) hq' hd uniq ht, finAct_at G' t ops.toList pl a0 0 i q q' (by simpa using hq) hq' hd uniq ht]
        rw [Nat.zero_add, pe i q' hq' e]
      · rw [Array.getElem?_eq_none (by rw [finAct_size]; exact ht), Array.getElem?_eq_none (by rw [finAct_size]; exact ht)]
  · intro t ht
    have hne : o.dst ≠ some t := fun h => by
      have := ht k o ho h
      rw [getD_set_self hk] at this; cases this
    have e1 : (a.put o.dst (p.value G' k)).tmps[t]? = a.tmps[t]? := by
      cases hod : o.dst with
      | none => rfl
      | some d =>
        have : d ≠ t := fun h => hne (by rw [hod, h])
        simp [Act.put, Array.getElem?_setIfInBounds_ne this]
    rw [e1]
    exact I.rest t fun i q hq hd => getD_set_false (ht i q hq hd)
theorem PInv.fin {pl : List Plan} {w1 : World} {a0 : Act} {G : Nat → Nat} {listed : Array Bool} {a : Act} {u : World} (hok : PlanOk ops pl) (I : PInv ops pl w1 a0 G listed a u)
    (hl : ∀ (k : Nat) (p : Plan), pl[k]? = some p → p ≠ .later → listed.getD k false = true) : a = finAct G a0 0 ops.toList pl := by
  have e1 : a.tmps = (finAct G a0 0 ops.toList pl).tmps := by
    apply Array.ext_getElem?
    intro t
    by_cases hx : ∃ (i : Nat) (p : Oper), ops[i]? = some p ∧ p.dst = some t
    · obtain ⟨i, p, hp, hd⟩ := hx
      obtain ⟨q, hq⟩ : ∃ q, pl[i]? = some q := ⟨pl[i]'(by rw [hok.len]; exact (Array.getElem?_eq_some_iff.1 hp).1), List.getElem?_eq_getElem _⟩
      exact I.done i p t hp hd (hl i q hq (fun h => by subst h; have := (hok.lat i p hp hq).1; rw [hd] at this; cases this))
    · rw [I.rest t (fun i p hp hd => absurd ⟨i, p, hp, hd⟩ hx)]
      rw [finAct_other G t _ _ _ _ (fun p hp hd => by
        obtain ⟨i, hi⟩ := List.getElem?_of_mem hp
        exact hx ⟨i, p, by simpa using hi, hd⟩)]
  have e2 : a.defers = (finAct G a0 0 ops.toList pl).defers := by rw [I.df, finAct_defers]
  cases a
  cases h : finAct G a0 0 ops.toList pl
  rw [h] at e1 e2
  simp only at e1 e2
  rw [e1, e2]
def cntF (listed : Array Bool) : Nat → Nat
  | 0 => 0
  | n + 1 => cntF listed n + if listed.getD n false = true then 0 else 1
theorem cntF_set {listed : Array Bool} {k : Nat} (hk : k < listed.size) (hl : listed.getD k false = false) : ∀ n, cntF (listed.setIfInBounds k true) n + (if k < n then 1 else 0) = cntF listed n
  | 0 => by simp [cntF]
  | n + 1 => by
    have ih := cntF_set hk hl n
    simp only [cntF]
    by_cases e : k = n
    · subst e
      rw [getD_set_self hk, hl]
      simp at ih ⊢
      omega
    · rw [getD_set_ne false e]
      by_cases h : k < n
      · rw [if_pos h] at ih
        rw [if_pos (show k < n + 1 by omega)]
        omega
      · rw [if_neg h] at ih
        rw [if_neg (show ¬ k < n + 1 by omega)]
        omega
theorem cntF_zero {listed : Array Bool} : ∀ n, cntF listed n = 0 → ∀ k, k < n → listed.getD k false = true
  | 0, _, k, hk => by omega
  | n + 1, h, k, hk => by
    simp only [cntF] at h
    by_cases e : k = n
    · subst e
      cases q : listed.getD k false
      · rw [q] at h; simp at h
      · rfl
    · exact cntF_zero n (by omega) k (by omega)
theorem heap_alloc_self (u : World) (o : Obj) : (u.alloc o).heap[u.heap.size]? = some o := by show (u.heap.push o)[u.heap.size]? = some o; simp
theorem Gr.heap {u u' : World} (g : Gr u u') {k : Nat} {o : Obj} (h : u.heap[k]? = some o) : u'.heap[k]? = some o :=
  (g.b.block k (Array.getElem?_eq_some_iff.1 h).1).trans h
theorem heap_lt {u : World} {k : Nat} {o : Obj} (h : u.heap[k]? = some o) : k < u.heap.size := (Array.getElem?_eq_some_iff.1 h).1
theorem ready_unlisted {listed : Array Bool} {k : Nat} (hs : listed.size = ops.size) (hk : k < ops.size) (h : listed.getD k true = false) : listed.getD k false = false := by
  have : k < listed.size := by omega
  simp [this] at h ⊢; exact h
theorem PInv.lat' {pl : List Plan} {w1 : World} {a0 : Act} {G : Nat → Nat} {listed : Array Bool} {a : Act} {u : World} (I : PInv ops pl w1 a0 G listed a u)
    {k : Nat} {o : Oper} {p : Plan} (_ho : ops[k]? = some o) (hp : pl[k]? = some p) (hla : p.idle = false) : ∀ (i : Nat) (q : Plan), pl[i]? = some q → q.idle = true → (listed.setIfInBounds k true).getD i false = false := fun i q hi hq => by
  have : k ≠ i := fun e => by subst e; rw [hp] at hi; cases hi; rw [hla] at hq; cases hq
  rw [getD_set_ne false this]; exact I.lat i q hi hq
theorem PInv.down' {pl : List Plan} {w1 : World} {a0 : Act} {G : Nat → Nat} {listed : Array Bool} {a : Act} {u : World} (I : PInv ops pl w1 a0 G listed a u)
    {k : Nat} {o : Oper} (ho : ops[k]? = some o) (hall : ∀ e ∈ o.after, Region.binds .any e = true → listed.getD e.on false = true) :
    ∀ (i : Nat) (q : Oper), ops[i]? = some q → (listed.setIfInBounds k true).getD i false = true → ∀ e ∈ q.after, Region.binds .any e = true → (listed.setIfInBounds k true).getD e.on false = true := fun i q hq hl e he hb => by
  rcases getD_set_cases hl with rfl | h
  · rw [ho] at hq; cases hq; exact getD_set_true (hall e he hb)
  · exact getD_set_true (I.down i q hq h e he hb)
/-- what an operation waits for has come up -/
theorem covers_listed {listed : Array Bool} (down : ∀ (k : Nat) (o : Oper), ops[k]? = some o → listed.getD k false = true → ∀ e ∈ o.after, Region.binds .any e = true → listed.getD e.on false = true) :
    ∀ (n k i : Nat), covers ops n k i = true → (∀ o, ops[k]? = some o → ∀ e ∈ o.after, Region.binds .any e = true → listed.getD e.on false = true) → listed.getD i false = true
  | 0, _, _, h, _ => by simp [covers] at h
  | n + 1, k, i, h, hk => by
    unfold covers at h
    cases ho : ops[k]? with
    | none => rw [ho] at h; simp at h
    | some o =>
      rw [ho] at h
      obtain ⟨e, he, hb⟩ := Array.any_eq_true'.1 h
      simp only [Bool.and_eq_true, Bool.or_eq_true, beq_iff_eq] at hb
      obtain ⟨hb, hc⟩ := hb
      have hl := hk o ho e he hb
      rcases hc with rfl | hc
      · exact hl
      · exact covers_listed down n e.on i hc fun o' ho' e' he' hb' => down e.on o' ho' hl e' he' hb'
/-- the operation that is left, and then the end -/
def Lone (P : Program) (ops : Array Oper) (Q : Exit → Act → World → Prop) (i : Nat) (K : Act → World → Prop) (a : Act) (w : World) : Prop :=
  ∃ o, ops[i]? = some o ∧ o.guard = none ∧ o.wp P a w K Q
theorem Lone.wpOp {i : Nat} {K : Act → World → Prop} {a : Act} {w : World} (h : Lone P ops Q i K a w) : wpOp P ops Q i K a w := by
  obtain ⟨o, ho, hg, hw⟩ := h
  unfold Go.wpOp
  rw [ho]
  have : Region.wanted o (yielded ops a.tmps) = true := by unfold Region.wanted; rw [hg]
  dsimp only
  rw [if_pos this]
  exact .inl hw
/-- a block's cells -/
theorem blk_cells {u : World} {g : Nat} {c : Array Value} {T : TypeId} (h : u.heap[g]? = some (.cells c T (0, 0))) : (∀ o, u.cell? ⟨g, o, none⟩ = c[o]?) ∧ (∀ o, u.frozen? ⟨g, o, none⟩ = false) ∧ g < u.heap.size := by
  refine ⟨fun o => ?_, fun o => ?_, heap_lt h⟩
  · unfold World.cell?; rw [h]; rfl
  · unfold World.frozen?; rw [h]; simp
end
section
open Go.RowKit Go.Shelf
/-- a store: its number, its block, the block's type, what it holds before and behind -/
abbrev SetAt := Nat × Nat × TypeId × Array Value × Array Value
def allVal (pl : List Plan) : Bool := pl.all fun | .val _ => true | _ => false
section
variable {P : Program} {ops : Array Oper} {Q : Exit → Act → World → Prop}
structure SInv (ops : Array Oper) (pl : List Plan) (sl : List SetAt) (w1 : World) (a0 : Act) (listed : Array Bool) (a : Act) (u : World) : Prop where
  t : PInv ops pl u a0 (fun _ => 0) listed a u
  g : GrL (sl.map (·.2.1)) w1 u
  s : ∀ x ∈ sl, u.heap[x.2.1]? = some (.cells (if listed.getD x.1 false = true then x.2.2.2.2 else x.2.2.2.1) x.2.2.1 (0, 0))
/-- what is owed -/
def OwesS (P : Program) (ops : Array Oper) (sl : List SetAt) (w1 : World) (F : Act) : Nat → List Oper → List Plan → Prop
  | k, o :: os, p :: ps =>
    (match sl.find? (fun x => x.1 == k) with
      | some x => ∀ u, GrL (sl.map (·.2.1)) w1 u → u.heap[x.2.1]? = some (.cells x.2.2.2.1 x.2.2.1 (0, 0)) → ∃ u', (execOp F.eval o).run P u = .ok .skip u' ∧ GrL [x.2.1] u u' ∧ u'.heap[x.2.1]? = some (.cells x.2.2.2.2 x.2.2.1 (0, 0))
      | none => match p with
        | .val v => ∀ u, GrL (sl.map (·.2.1)) w1 u → (∀ x ∈ sl, (match ops[x.1]? with | some q => q.after.any fun e => Region.binds .any e && e.on == k | none => false) = true → u.heap[x.2.1]? = some (.cells x.2.2.2.1 x.2.2.1 (0, 0))) → (execOp F.eval o).run P u = .ok (.value v) u
        | _ => False) ∧ OwesS P ops sl w1 F (k + 1) os ps
  | _, _, _ => True
theorem OwesS.at {sl : List SetAt} {w1 : World} {F : Act} : ∀ {os : List Oper} {ps : List Plan} {k0 : Nat}, OwesS P ops sl w1 F k0 os ps → ∀ (k : Nat) (o : Oper) (p : Plan), os[k]? = some o → ps[k]? = some p →
    (match sl.find? (fun x => x.1 == k0 + k) with
      | some x => ∀ u, GrL (sl.map (·.2.1)) w1 u → u.heap[x.2.1]? = some (.cells x.2.2.2.1 x.2.2.1 (0, 0)) → ∃ u', (execOp F.eval o).run P u = .ok .skip u' ∧ GrL [x.2.1] u u' ∧ u'.heap[x.2.1]? = some (.cells x.2.2.2.2 x.2.2.1 (0, 0))
      | none => match p with
        | .val v => ∀ u, GrL (sl.map (·.2.1)) w1 u → (∀ x ∈ sl, (match ops[x.1]? with | some q => q.after.any fun e => Region.binds .any e && e.on == k0 + k | none => false) = true → u.heap[x.2.1]? = some (.cells x.2.2.2.1 x.2.2.1 (0, 0))) → (execOp F.eval o).run P u = .ok (.value v) u
        | _ => False)
  | [], _, _, _, k, o, p, ho, _ => by simp at ho
  | _ :: _, [], _, _, k, o, p, _, hp => by simp at hp
  | o' :: os, p' :: ps, k0, h, k, o, p, ho, hp => by
    cases k with
    | zero =>
      simp only [List.getElem?_cons_zero, Option.some.injEq] at ho hp
      subst ho hp
      exact h.1
    | succ k =>
      simp only [List.getElem?_cons_succ] at ho hp
      have := h.2.at k o p ho hp
      rw [show k0 + 1 + k = k0 + (k + 1) by omega] at this
      exact this
theorem SInv.step {pl : List Plan} {u u' : World} {a0 : Act} {listed : Array Bool} {a : Act} (hok : PlanOk ops pl) (hv : allVal pl = true) (I : PInv ops pl u a0 (fun _ => 0) listed a u)
    {k : Nat} {o : Oper} {p : Plan} (ho : ops[k]? = some o) (hp : pl[k]? = some p) (hall : ∀ e ∈ o.after, Region.binds .any e = true → listed.getD e.on false = true) :
    PInv ops pl u' a0 (fun _ => 0) (listed.setIfInBounds k true) (a.put o.dst (p.value (fun _ => 0) k)) u' := by
  have av : ∀ (i : Nat) (q : Plan), pl[i]? = some q → ∃ v, q = .val v := fun i q hq => by
    unfold allVal at hv
    rw [List.all_eq_true] at hv
    have := hv q (List.mem_of_getElem? hq)
    cases q <;> simp_all
  obtain ⟨f1, f2, f3, f4⟩ := I.frame hok ho hp (G' := fun _ => 0) (fun _ _ => rfl)
  have hla : p.idle = false := by obtain ⟨v, rfl⟩ := av k p hp; rfl
  refine ⟨Gr.refl u', f1, f2, by simp [I.lsz], f3, f4, ?_, I.lat' ho hp hla, I.down' ho hall, ?_, ?_⟩
  · intro j T z hj; obtain ⟨v, h⟩ := av j _ hj; cases h
  · intro s j c hs; obtain ⟨v, h⟩ := av s _ hs; cases h
  · intro i j Ti zi Tj zj hi; obtain ⟨v, h⟩ := av i _ hi; cases h
end
end
end Go.Proofs.YthmimjofdmnakaaGreatDoor
