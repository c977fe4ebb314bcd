/- RX: lent() returns true, in whatever world that holds the program's tables; the digest's contract is a premise. -/
import Derived.Test.YthmimjofdmnakaaGreatDoorCk1
import Derived.Test.YthmimjofdmnakaaGreatDoorCk5
import Derived.Test.YthmimjofdmnakaaGreatDoorCk9
import Derived.Test.YthmimjofdmnakaaGreatDoorIdle
import Derived.Below
namespace Go.Proofs.YthmimjofdmnakaaGreatDoor
namespace RX
noncomputable section
open Go.RowKit
theorem names_ok : (Tryz.prog.funcs.toList.all fun F => !(F.name == "runtime.NumGoroutine")) = true := by kernel_rfl
theorem name_ok {f : FuncId} {F : Func} (h : Tryz.prog.funcs[f]? = some F) : (F.name == "runtime.NumGoroutine") = false := by
  have hm : F ∈ Tryz.prog.funcs.toList := by
    obtain ⟨hl, rfl⟩ := Array.getElem?_eq_some_iff.1 h
    exact Array.getElem_mem_toList hl
  have := List.all_eq_true.1 names_ok F hm
  rwa [Bool.not_eq_true'] at this
/-- what the digest comes to -/
def SumOk : Prop := ∀ args s v s', sumA args s = some (v, s') → CallOk Y.M 156 args s v s'
def hasBody (F : Func) : Option Func := match F.body with
  | some _ => some F
  | none => none
theorem y_ok (hsum : SumOk) : Y.Ok := by
  have e1 : Y.M.E.info = Tryz.prog.info? := by kernel_rfl
  have e2 : Y.M.E.und = Tryz.prog.underlying := by kernel_rfl
  have e3 : Y.M.P = Tryz.prog := by kernel_rfl
  have e4 : Y.M.fn = fun f => (Tryz.prog.funcs[f]?).bind hasBody := by kernel_rfl
  have henv : Y.M.E.Ok Y.M.P := ⟨fun t i h => by rw [e1] at h; rw [e3]; exact h, fun t d h => by rw [e2] at h; rw [e3]; exact h⟩
  refine ⟨⟨henv, fun f F h => ?_, fun f g h => ?_⟩, fun f g h => ?_, by kernel_rfl, fun f k h => ?_, fun f g h => ?_⟩
  · rw [e4] at h
    obtain ⟨F', hF, h⟩ := bnd h
    unfold hasBody at h
    cases hb : F'.body with
    | none => rw [hb] at h; cases h
    | some c =>
      rw [hb] at h
      obtain rfl := Option.some.inj h
      rw [e3]
      exact ⟨hF, name_ok hF, by rw [hb]; rfl⟩
  · rw [e3]
    change (match Nat.beq f 329 with | true => some extIndexByte | false => match Nat.beq f 254 with | true => some extCount | false => match Nat.beq f 298 with | true => some extSame | false => match Nat.beq f 299 with | true => some (extMake 5) | false => match Nat.beq f 214 with | true => some extClone | false => none) = some g at h
    split at h
    · rename_i hf
      obtain rfl := Nat.eq_of_beq_eq_true hf
      obtain rfl := Option.some.inj h
      exact extIndexByte_ok Tryz.func329 (by kernel_rfl) (by kernel_rfl) (by kernel_rfl) (by kernel_rfl)
    · split at h
      · rename_i hf
        obtain rfl := Nat.eq_of_beq_eq_true hf
        obtain rfl := Option.some.inj h
        exact extCount_ok Tryz.func254 (by kernel_rfl) (by kernel_rfl) (by kernel_rfl) (by kernel_rfl)
      · split at h
        · rename_i hf
          obtain rfl := Nat.eq_of_beq_eq_true hf
          obtain rfl := Option.some.inj h
          exact extSame_ok Tryz.func298 (by kernel_rfl) (by kernel_rfl) (by kernel_rfl) (by kernel_rfl)
        · split at h
          · rename_i hf
            obtain rfl := Nat.eq_of_beq_eq_true hf
            obtain rfl := Option.some.inj h
            exact extMake_ok (params := Tryz.f299.params) (results := Tryz.f299.resultTypes) (t := 57) (by kernel_rfl) (by kernel_rfl) Tryz.func299 (by kernel_rfl) (by kernel_rfl) (by kernel_rfl) (by kernel_rfl)
          · split at h
            · rename_i hf
              obtain rfl := Nat.eq_of_beq_eq_true hf
              obtain rfl := Option.some.inj h
              exact extClone_ok Tryz.func214 (by kernel_rfl) (by kernel_rfl) (by kernel_rfl) (by kernel_rfl)
            · cases h
  · change (match Nat.beq f 329 with | true => some extIndexByte | false => match Nat.beq f 254 with | true => some extCount | false => match Nat.beq f 298 with | true => some extSame | false => match Nat.beq f 299 with | true => some (extMake 5) | false => match Nat.beq f 214 with | true => some extClone | false => none) = some g at h
    split at h
    · obtain rfl := Option.some.inj h; exact extIndexByte_abs
    · split at h
      · obtain rfl := Option.some.inj h; exact extCount_abs
      · split at h
        · obtain rfl := Option.some.inj h; exact extSame_abs
        · split at h
          · obtain rfl := Option.some.inj h; exact extMake_abs 5
          · split at h
            · obtain rfl := Option.some.inj h; exact extClone_abs
            · cases h
  · rw [e3]
    change (match Nat.beq f 209 with | true => Nat.beq k 1 | false => match Nat.beq f 200 with | true => Nat.beq k 2 | false => false) = true at h
    split at h
    · rename_i hf
      obtain rfl := Nat.eq_of_beq_eq_true hf
      obtain rfl := Nat.eq_of_beq_eq_true h
      exact idle209
    · split at h
      · rename_i hf
        obtain rfl := Nat.eq_of_beq_eq_true hf
        obtain rfl := Nat.eq_of_beq_eq_true h
        exact idle200
      · cases h
  · change (match Nat.beq f 156 with | true => some sumA | false => none) = some g at h
    split at h
    · rename_i hf
      obtain rfl := Nat.eq_of_beq_eq_true hf
      obtain rfl := Option.some.inj h
      exact hsum
    · cases h
/-- the variables' ids are kept -/
theorem keeps {l : List Nat} (h : ((List.range 8).all fun b => l.contains b) = true) : ∀ b, b < s0.fresh → b ∈ l := fun b hb => by
  have := List.all_eq_true.1 h b (List.mem_range.2 hb)
  simpa using this
theorem lent_call (hsum : SumOk) : ∃ s', CallOk Y.M 8 [] s0 (.bool true) s' ∧ s'.wr % 256 = 0 := by
  have hY := y_ok hsum
  have r1 := reach_step hY (reach_refl (Y := Y) (c := body8) (fr := f0) (s := s0)) ck1 (keeps (by kernel_rfl))
  have r2 := reach_step hY r1 ck2 (keeps (by kernel_rfl))
  have r3 := reach_step hY r2 ck3 (keeps (by kernel_rfl))
  have r4 := reach_step hY r3 ck4 (keeps (by kernel_rfl))
  have r5 := reach_step hY r4 ck5 (keeps (by kernel_rfl))
  have r6 := reach_step hY r5 ck6 (keeps (by kernel_rfl))
  have r7 := reach_step hY r6 ck7 (keeps (by kernel_rfl))
  have r8 := reach_step hY r7 ck8 (keeps (by kernel_rfl))
  have r9 := reach_step hY r8 ck9 (keeps (by kernel_rfl))
  have r10 := reach_step hY r9 ck10 (keeps (by kernel_rfl))
  have he := ck11
  generalize hx : (run Y 600).code false f10 d10 s10 = x at he
  unfold ended at he
  split at he
  · rename_i fr s
    split at he
    · rename_i s2 hlv
      split at he
      · rename_i s3 hres
        exact ⟨s3, law_call (e := .ret) hY (F := F8) (by kernel_rfl) (by kernel_rfl) (reach_end hY r10 hx) rfl hlv hres, Nat.eq_of_beq_eq_true he⟩
      · cases he
    · cases he
  · cases he
/-- a variable with these cells -/
def VarAt (w : World) (g : Nat) (l : List AV) : Prop := ∃ c e fz, w.heap[g]? = some (.cells c e fz) ∧ ∀ sg, BR sg (row0 l.length l) (.cells c e fz)
structure Tables (w : World) : Prop where
  v0 : VarAt w 0 [.unk]
  v4 : VarAt w 4 t4
  v5 : VarAt w 5 t5
  v6 : VarAt w 6 t6
  v7 : VarAt w 7 t7
theorem h0_get (b : Nat) : h0.get b = if b = 4 then some (row0 32 t4) else if b = 7 then some (row0 64 t7) else if b = 6 then some (row0 32 t6) else if b = 5 then some (row0 20 t5) else if b = 0 then some (row0 1 [.unk]) else none := by
  unfold h0
  rw [T.get_set, T.get_set, T.get_set, T.get_set, T.get_set, T.get_nil]
def sg0 (w : World) : Ids := ⟨fun b => if b < 8 then some b else none, fun b => match w.heap[b]? with | some (.cells c _ _) => c.size | _ => 0⟩
theorem lent_any (hsum : SumOk) (w : World) (h : Tables w) : Calls Tryz.prog 8 #[] w fun e w' => e = .returned (.bool true) ∧ Below w.heap.size w w' := by
  obtain ⟨s', ⟨hab, law⟩, hwr⟩ := lent_call hsum
  have one : ∀ g l, VarAt w g l → g < 8 → ∃ o, (sg0 w) g = some g ∧ w.heap[g]? = some o ∧ BR (sg0 w) (row0 l.length l) o ∧ Sz ((sg0 w).sz g) o := fun g l ⟨c, e, fz, h1, h2⟩ hg => by
    refine ⟨_, if_pos hg, h1, h2 _, ?_⟩
    show c.size = (match w.heap[g]? with | some (.cells c _ _) => c.size | _ => 0)
    rw [h1]
  have hold : Holds (fun b => s0.alive b) (sg0 w) s0.heap w := by
    refine ⟨fun b hb => ?_, fun b c p hb hc e1 e2 => ?_⟩
    · have hb' : (h0.get b).isSome = true := hb
      rw [h0_get] at hb'
      have pack : ∀ g l, b = g → VarAt w g l → g < 8 → h0.get g = some (row0 l.length l) → ∃ k p o, h0.get b = some k ∧ (sg0 w) b = some p ∧ w.heap[p]? = some o ∧ BR (sg0 w) k o ∧ Sz ((sg0 w).sz b) o := fun g l e hv hg hget => by
        subst e
        obtain ⟨o, a1, a2, a3, a4⟩ := one b l hv hg
        exact ⟨_, b, o, hget, a1, a2, a3, a4⟩
      show ∃ k p o, h0.get b = some k ∧ _
      split at hb'
      · rename_i e; exact pack 4 t4 e h.v4 (by omega) (by rw [h0_get]; rfl)
      · split at hb'
        · rename_i e; exact pack 7 t7 e h.v7 (by omega) (by rw [h0_get]; rfl)
        · split at hb'
          · rename_i e; exact pack 6 t6 e h.v6 (by omega) (by rw [h0_get]; rfl)
          · split at hb'
            · rename_i e; exact pack 5 t5 e h.v5 (by omega) (by rw [h0_get]; rfl)
            · split at hb'
              · rename_i e; exact pack 0 [.unk] e h.v0 (by omega) (by rw [h0_get]; rfl)
              · cases hb'
    · have q : ∀ b p, (sg0 w) b = some p → b = p := fun b p e => by
        change (if b < 8 then some b else none) = some p at e
        split at e
        · exact Option.some.inj e
        · cases e
      exact (q b p e1).trans (q c p e2).symm
  have hwf : s0.wf := fun b hb => by
    have hb' : (h0.get b).isSome = true := hb
    rw [h0_get] at hb'
    show b < 8
    repeat' split at hb'
    all_goals first | omega | (cases hb'; done)
  have ask : Ask (fun b => s0.alive b) (sg0 w) w s0 s' := ⟨hold, hwf, fun b _ ha => ha, fun b hb _ => by
    have : ¬ b < 8 := Nat.not_lt.2 hb
    exact if_neg this⟩
  have hg : GOk Y.M.ng (sg0 w) := fun g hg => if_pos hg
  refine Calls.mono (law _ (sg0 w) w [] rfl hg ask) fun e w' he => ?_
  obtain ⟨u, sg', rfl, hu, P⟩ := he
  obtain rfl : u = .bool true := hu
  refine ⟨rfl, ⟨P.os, P.tape, P.output, P.size, fun p hp => P.frame p hp fun c hc hw => ?_⟩⟩
  exfalso
  have hc8 : c < 8 := hwf c hc
  have : (s'.wr % 2 ^ 8).testBit c = true := by rw [Nat.testBit_mod_two_pow]; simp [hc8, hw]
  rw [show (2 : Nat) ^ 8 = 256 from rfl, hwr] at this
  simp at this
end
end RX
end Go.Proofs.YthmimjofdmnakaaGreatDoor
