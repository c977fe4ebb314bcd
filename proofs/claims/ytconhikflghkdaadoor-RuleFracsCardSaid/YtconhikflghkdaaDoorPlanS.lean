/- Drawn regions inside a round, without calls: operations whose values are known, and stores into blocks that are known. -/
import Derived.Test.YtconhikflghkdaaDoorPlan
import Derived.OrdersIn
import Derived.RangeFuncCalls
namespace Go.Proofs.YtconhikflghkdaaDoor
open Go.RowKit Go.Shelf
/-- a store: its number, its block, the block's type, what it holds before and behind -/
abbrev SetAt := Nat × Nat × TypeId × Array Value × Array Value
def allVal (pl : List Plan) : Bool := pl.all fun | .val _ => true | _ => false
def isDefer (o : Oper) : Bool := match o.op with | .defer _ => true | _ => false
section
variable {P : Program} {ops : Array Oper} {Q : Exit → Act → World → Prop}
structure SInv (ops : Array Oper) (pl : List Plan) (sl : List SetAt) (w1 : World) (a0 : Act) (listed : Array Bool) (a : Act) (u : World) : Prop where
  t : PInv ops pl u a0 (fun _ => 0) listed a u
  g : GrL (sl.map (·.2.1)) w1 u
  s : ∀ x ∈ sl, u.heap[x.2.1]? = some (.cells (if listed.getD x.1 false = true then x.2.2.2.2 else x.2.2.2.1) x.2.2.1 (0, 0))
/-- what is owed -/
def OwesS (P : Program) (ops : Array Oper) (sl : List SetAt) (w1 : World) (F : Act) : Nat → List Oper → List Plan → Prop
  | k, o :: os, p :: ps =>
    (match sl.find? (fun x => x.1 == k) with
      | some x => ∀ u, GrL (sl.map (·.2.1)) w1 u → u.heap[x.2.1]? = some (.cells x.2.2.2.1 x.2.2.1 (0, 0)) → ∃ u', (execOp F.eval o).run P u = .ok .skip u' ∧ GrL [x.2.1] u u' ∧ u'.heap[x.2.1]? = some (.cells x.2.2.2.2 x.2.2.1 (0, 0))
      | none => match p with
        | .val v => ∀ u, GrL (sl.map (·.2.1)) w1 u → (∀ x ∈ sl, (match ops[x.1]? with | some q => q.after.any fun e => Region.binds .any e && e.on == k | none => false) = true → u.heap[x.2.1]? = some (.cells x.2.2.2.1 x.2.2.1 (0, 0))) → (execOp F.eval o).run P u = .ok (.value v) u
        | _ => False) ∧ OwesS P ops sl w1 F (k + 1) os ps
  | _, _, _ => True
theorem OwesS.at {sl : List SetAt} {w1 : World} {F : Act} : ∀ {os : List Oper} {ps : List Plan} {k0 : Nat}, OwesS P ops sl w1 F k0 os ps → ∀ (k : Nat) (o : Oper) (p : Plan), os[k]? = some o → ps[k]? = some p →
    (match sl.find? (fun x => x.1 == k0 + k) with
      | some x => ∀ u, GrL (sl.map (·.2.1)) w1 u → u.heap[x.2.1]? = some (.cells x.2.2.2.1 x.2.2.1 (0, 0)) → ∃ u', (execOp F.eval o).run P u = .ok .skip u' ∧ GrL [x.2.1] u u' ∧ u'.heap[x.2.1]? = some (.cells x.2.2.2.2 x.2.2.1 (0, 0))
      | none => match p with
        | .val v => ∀ u, GrL (sl.map (·.2.1)) w1 u → (∀ x ∈ sl, (match ops[x.1]? with | some q => q.after.any fun e => Region.binds .any e && e.on == k0 + k | none => false) = true → u.heap[x.2.1]? = some (.cells x.2.2.2.1 x.2.2.1 (0, 0))) → (execOp F.eval o).run P u = .ok (.value v) u
        | _ => False)
  | [], _, _, _, k, o, p, ho, _ => by simp at ho
  | _ :: _, [], _, _, k, o, p, _, hp => by simp at hp
  | o' :: os, p' :: ps, k0, h, k, o, p, ho, hp => by
    cases k with
    | zero =>
      simp only [List.getElem?_cons_zero, Option.some.injEq] at ho hp
      subst ho hp
      exact h.1
    | succ k =>
      simp only [List.getElem?_cons_succ] at ho hp
      have := h.2.at k o p ho hp
      rw [show k0 + 1 + k = k0 + (k + 1) by omega] at this
      exact this
theorem SInv.step {pl : List Plan} {u u' : World} {a0 : Act} {listed : Array Bool} {a : Act} (hok : PlanOk ops pl) (hv : allVal pl = true) (I : PInv ops pl u a0 (fun _ => 0) listed a u)
    {k : Nat} {o : Oper} {p : Plan} (ho : ops[k]? = some o) (hp : pl[k]? = some p) (hall : ∀ e ∈ o.after, Region.binds .any e = true → listed.getD e.on false = true) :
    PInv ops pl u' a0 (fun _ => 0) (listed.setIfInBounds k true) (a.put o.dst (p.value (fun _ => 0) k)) u' := by
  have av : ∀ (i : Nat) (q : Plan), pl[i]? = some q → ∃ v, q = .val v := fun i q hq => by
    unfold allVal at hv
    rw [List.all_eq_true] at hv
    have := hv q (List.mem_of_getElem? hq)
    cases q <;> simp_all
  obtain ⟨f1, f2, f3, f4⟩ := I.frame hok ho hp (G' := fun _ => 0) (fun _ _ => rfl)
  have hla : p.idle = false := by obtain ⟨v, rfl⟩ := av k p hp; rfl
  refine ⟨Gr.refl u', f1, f2, by simp [I.lsz], f3, f4, ?_, I.lat' ho hp hla, I.down' ho hall, ?_, ?_⟩
  · intro j T z hj; obtain ⟨v, h⟩ := av j _ hj; cases h
  · intro s j c hs; obtain ⟨v, h⟩ := av s _ hs; cases h
  · intro i j Ti zi Tj zj hi; obtain ⟨v, h⟩ := av i _ hi; cases h
theorem planS_any {m l : Nat} {pl : List Plan} {sl : List SetAt} (hok : PlanOk ops pl) (hv : allVal pl = true) {w1 : World} {a0 : Act}
    (hw : ∀ (k : Nat) (o : Oper), ops[k]? = some o → o.guard = none ∧ isDefer o = false)
    (hsd : ∀ x ∈ sl, ∀ y ∈ sl, x.1 ≠ y.1 → x.2.1 ≠ y.2.1) (hsu : ∀ x ∈ sl, ∀ y ∈ sl, x.1 = y.1 → x = y) (hsl : ∀ x ∈ sl, x.1 < ops.size ∧ pl[x.1]? = some (.val undef))
    (hsb : ∀ x ∈ sl, x.2.1 < w1.heap.size)
    (hO : OwesS P ops sl w1 (finAct (fun _ => 0) a0 0 ops.toList pl) 0 ops.toList pl)
    (hF : ∀ u, GrL (sl.map (·.2.1)) w1 u → (∀ x ∈ sl, u.heap[x.2.1]? = some (.cells x.2.2.2.2 x.2.2.1 (0, 0))) → Q .normal (finAct (fun _ => 0) a0 0 ops.toList pl) u) :
    ∀ (fuel : Nat) (listed : Array Bool) (a : Act) (u : World), SInv ops pl sl w1 a0 listed a u → cntF listed ops.size ≤ fuel → wpAnyIn (Fence.wide.inRound l) m P .any ops Q fuel listed a u := by
  have fin : ∀ (listed : Array Bool) (a : Act) (u : World), SInv ops pl sl w1 a0 listed a u → (∀ k, k < ops.size → listed.getD k false = true) → Q .normal a u := by
    intro listed a u I hl
    rw [I.t.fin hok fun k p hp _ => hl k (by rw [← hok.len]; exact (List.getElem?_eq_some_iff.1 hp).1)]
    refine hF u I.g fun x hx => ?_
    have := I.s x hx
    rw [if_pos (hl x.1 (hsl x hx).1)] at this
    exact this
  intro fuel
  induction fuel with
  | zero =>
    intro listed a u I hc
    have hl := cntF_zero ops.size (Nat.le_zero.1 hc)
    refine ⟨?_, fin listed a u I hl⟩
    rw [List.eq_nil_iff_forall_not_mem]
    intro k hk
    obtain ⟨h0, o, ho, _⟩ := mem_ready.1 hk
    have hk' : k < ops.size := (Array.getElem?_eq_some_iff.1 ho).1
    have := (ready_unlisted I.t.lsz hk' h0).symm.trans (hl k hk')
    cases this
  | succ fuel ih =>
    intro listed a u I hc
    refine ⟨fun hr => fin listed a u I ?_, fun k hk => ?_⟩
    · intro k
      induction k using Nat.strongRecOn with
      | ind k ihk =>
        intro hk
        cases hl : listed.getD k false with
        | true => rfl
        | false =>
          exfalso
          have ho : ops[k]? = some ops[k] := Array.getElem?_eq_getElem hk
          have : k ∈ Region.ready .any ops listed := mem_ready.2 ⟨by
            have := I.t.lsz
            simp [Array.getD_eq_getD_getElem?, this, hk] at hl ⊢; exact hl, ops[k], ho, fun e he hb => ihk e.on (hok.front k _ ho e he hb) (by have := hok.front k _ ho e he hb; omega)⟩
          rw [hr] at this
          cases this
    obtain ⟨h0, o, ho, hall⟩ := mem_ready.1 hk
    have hk' : k < ops.size := (Array.getElem?_eq_some_iff.1 ho).1
    have hkl : k < listed.size := by rw [I.t.lsz]; exact hk'
    have hf := ready_unlisted I.t.lsz hk' h0
    have hc' : cntF (listed.setIfInBounds k true) ops.size ≤ fuel := by
      have := cntF_set hkl hf ops.size
      rw [if_pos hk'] at this
      omega
    obtain ⟨p, hp⟩ : ∃ p, pl[k]? = some p := ⟨pl[k]'(by rw [hok.len]; exact hk'), List.getElem?_eq_getElem _⟩
    obtain ⟨e1, _⟩ := I.t.agree hok ho hall
    have O := hO.at k o p (by simpa using ho) hp
    rw [Nat.zero_add] at O
    obtain ⟨hg, hnd⟩ := hw k o ho
    have hwt : Region.wanted o (yielded ops a.tmps) = true := by unfold Region.wanted; rw [hg]
    unfold wpOpIn
    rw [ho]
    dsimp only
    rw [if_pos hwt]
    refine ⟨fun _ _ => trivial, ?_⟩
    have hsem : o.semAt (Fence.wide.inRound l).round a.eval = execOp (finAct (fun _ => 0) a0 0 ops.toList pl).eval o := by
      rw [← e1]
      exact Oper.semAt_some l _ _ (by intro c hcc; unfold isDefer at hnd; rw [hcc] at hnd; cases hnd)
    rw [hsem]
    cases hfd : sl.find? (fun x => x.1 == k) with
    | some x =>
      rw [hfd] at O
      dsimp only at O
      have hx : x ∈ sl := List.mem_of_find?_eq_some hfd
      have hxk : x.1 = k := by simpa using List.find?_some hfd
      have hsx := I.s x hx
      rw [hxk, hf] at hsx
      obtain ⟨u', hr, gl, hcell⟩ := O u I.g (by simpa using hsx)
      rw [hr]
      have hpv : p = .val undef := by have := (hsl x hx).2; rw [hxk, hp] at this; simpa using this
      have st := SInv.step (u' := u') hok hv I.t ho hp hall
      rw [hpv] at st
      have gm : GrL (sl.map (·.2.1)) u u' := gl.mono fun b hb => by
        obtain rfl : b = x.2.1 := by simpa using hb
        exact List.mem_map_of_mem (f := fun x : SetAt => x.2.1) hx
      refine ih _ _ _ ⟨st, I.g.trans gm, ?_⟩ hc'
      intro y hy
      by_cases e : y.1 = x.1
      · obtain rfl := hsu y hy x hx e
        rw [hxk, if_pos (getD_set_self hkl)]
        exact hcell
      · have hn : y.1 ≠ k := by rw [← hxk]; exact e
        rw [getD_set_ne false (Ne.symm hn)]
        rw [gl.block y.2.1 (heap_lt (I.s y hy)) (by simpa using hsd y hy x hx e)]
        exact I.s y hy
    | none =>
      rw [hfd] at O
      dsimp only at O
      cases p with
      | val v =>
        dsimp only at O
        have hr := O u I.g (fun x hx hb => by
          have hs := I.s x hx
          have hox : ops[x.1]? = some ops[x.1]! := by have := (hsl x hx).1; simp [this]
          rw [hox] at hb
          obtain ⟨e, he, hbe⟩ := Array.any_eq_true'.1 hb
          simp only [Bool.and_eq_true, beq_iff_eq] at hbe
          have hnl : listed.getD x.1 false = false := by
            cases hl : listed.getD x.1 false with
            | false => rfl
            | true =>
              have := I.t.down x.1 _ hox hl e he hbe.1
              rw [hbe.2, hf] at this; cases this
          rw [hnl] at hs
          simpa using hs)
        rw [hr]
        refine ih _ _ _ ⟨SInv.step (u' := u) hok hv I.t ho hp hall, I.g, fun y hy => ?_⟩ hc'
        have hn : y.1 ≠ k := fun e => by
          have := List.find?_eq_none.1 hfd y hy
          simp [e] at this
        rw [getD_set_ne false (Ne.symm hn)]
        exact I.s y hy
      | _ => exact O.elim
def plainOps (ops : Array Oper) : Bool := ops.all fun o => o.guard.isNone && !isDefer o
theorem wpIn_region_planS {m l id : Nat} {w : World} {a0 F : Act} (pl : List Plan) (sl : List SetAt) (hm : P.follows .mixedOrders = true) (hok : (planOk ops pl && allVal pl && plainOps ops) = true)
    (hE : finAct (fun _ => 0) a0 0 ops.toList pl = F)
    (hsd : ∀ x ∈ sl, ∀ y ∈ sl, x.1 ≠ y.1 → x.2.1 ≠ y.2.1) (hsu : ∀ x ∈ sl, ∀ y ∈ sl, x.1 = y.1 → x = y) (hsl : ∀ x ∈ sl, x.1 < ops.size ∧ pl[x.1]? = some (.val undef))
    (hs0 : ∀ x ∈ sl, w.heap[x.2.1]? = some (.cells x.2.2.2.1 x.2.2.1 (0, 0)))
    (hO : OwesS P ops sl w F 0 ops.toList pl)
    (hF : ∀ u, GrL (sl.map (·.2.1)) w u → (∀ x ∈ sl, u.heap[x.2.1]? = some (.cells x.2.2.2.2 x.2.2.1 (0, 0))) → Q .normal F u) :
    (Code.region id ops true).wpIn (Fence.wide.inRound l) m P Q a0 w := by
  subst hE
  simp only [Bool.and_eq_true] at hok
  have hok' := planOk_spec hok.1.1
  refine wpIn_region_any hm ?_
  have h0 : ∀ k, (Array.replicate ops.size false).getD k false = false := fun k => by
    by_cases h : k < ops.size <;> simp [h]
  have hpl : ∀ (k : Nat) (o : Oper), ops[k]? = some o → o.guard = none ∧ isDefer o = false := fun k o ho => by
    have := hok.2
    unfold plainOps at this
    rw [Array.all_eq_true_iff_forall_mem] at this
    have := this o (Array.mem_of_getElem? ho)
    simpa using this
  refine planS_any (w1 := w) hok' hok.1.2 hpl hsd hsu hsl (fun x hx => heap_lt (hs0 x hx)) hO hF ops.size _ _ _ ⟨⟨Gr.refl _, rfl, rfl, by simp, ?_, fun _ _ => rfl, ?_, fun k _ _ _ => h0 k, ?_, ?_, ?_⟩, GrL.of_gr (Gr.drew (Gr.refl w)), ?_⟩ ?_
  · intro k o t _ _ h; rw [h0] at h; cases h
  · intro j T z _ h; rw [h0] at h; cases h
  · intro k o _ h; rw [h0] at h; cases h
  · intro s j c _ h; rw [h0] at h; cases h
  · intro i j Ti zi Tj zj _ _ _ h; rw [h0] at h; cases h
  · intro x hx
    rw [h0]
    exact hs0 x hx
  · have : ∀ n, cntF (Array.replicate ops.size false) n ≤ n := fun n => by
      induction n with
      | zero => exact Nat.le_refl _
      | succ n ih => simp only [cntF]; split <;> omega
    exact this _
end
end Go.Proofs.YtconhikflghkdaaDoor
