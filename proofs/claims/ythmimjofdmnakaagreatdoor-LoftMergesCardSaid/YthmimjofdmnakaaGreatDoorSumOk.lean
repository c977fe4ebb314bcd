/- RX and the digest: what sumA says of sum is so (SumOk). -/
import Derived.Test.YthmimjofdmnakaaGreatDoorLSumG
import Derived.Test.YthmimjofdmnakaaGreatDoorLent
namespace Go.Proofs.YthmimjofdmnakaaGreatDoor
open Go.RowKit
namespace RX
noncomputable section
theorem bytes_in {sg : Ids} {c : Array Value} {per : Nat} {zs : List AV} {ov : T AV} : ∀ (n off : Nat), allBytes (cellsFrom per zs ov off n) = true → (∀ i, i < n → ∃ v, c[off + i]? = some v ∧ VR sg (cellAt per zs ov (off + i)) v) →
    ∃ l : List Int, l.length = n ∧ ∀ (j : Nat) (v : Value), (l.map (Value.int .u8))[j]? = some v → c[off + j]? = some v
  | 0, off, _, _ => ⟨[], rfl, fun j v h => by simp at h⟩
  | n + 1, off, hb, hc => by
    have hb1 : isByte (cellAt per zs ov off) = true ∧ allBytes (cellsFrom per zs ov (off + 1) n) = true := by
      change (match isByte (cellAt per zs ov off) with | true => allBytes (cellsFrom per zs ov (off + 1) n) | false => false) = true at hb
      cases h : isByte (cellAt per zs ov off) with
      | true => rw [h] at hb; exact ⟨rfl, hb⟩
      | false => rw [h] at hb; cases hb
    obtain ⟨l, hl, h⟩ := bytes_in (sg := sg) (c := c) n (off + 1) hb1.2 (fun i hi => by
      have := hc (i + 1) (by omega)
      rwa [show off + (i + 1) = off + 1 + i from by omega] at this)
    obtain ⟨v, h1, h2⟩ := hc 0 (by omega)
    rw [Nat.add_zero] at h1 h2
    have hv : ∃ z, v = .int .u8 z := by
      generalize cellAt per zs ov off = a at h2 hb1
      cases a with
      | byte => exact h2
      | int k z =>
        cases k with
        | u8 => exact ⟨z, h2⟩
        | _ => cases hb1.1
      | _ => cases hb1.1
    obtain ⟨z, rfl⟩ := hv
    refine ⟨z :: l, by simp [hl], fun j v hj => ?_⟩
    cases j with
    | zero =>
      simp only [List.map_cons, List.getElem?_cons_zero] at hj
      rw [Nat.add_zero, h1, hj]
    | succ j =>
      simp only [List.map_cons, List.getElem?_cons_succ] at hj
      rw [show off + (j + 1) = off + 1 + j from by omega]
      exact h j v hj
theorem rep_bytes {sg : Ids} : ∀ (d : List Int), VRs sg (List.replicate d.length .byte) (d.map (Value.int .u8))
  | [] => rfl
  | z :: d => ⟨_, _, rfl, ⟨z, rfl⟩, rep_bytes d⟩
/-- what a run with new blocks alone leaves -/
theorem Post.gr {X : Nat → Prop} {sg : Ids} {w w' : World} {s s' : St} (hh : s'.heap = s.heap) (hf : s'.fresh = s.fresh) (H : Holds X sg s.heap w) (g : Gr w w') : Post X sg w s sg w' s' := by
  refine ⟨Ext.refl _, fun _ _ e => .inl e, fun b p h1 h2 _ => by rw [hf] at h2; omega, ?_, g.b.size, g.b.os, g.b.tape, g.b.output, fun p hp _ => g.b.block p hp⟩
  have key : ∀ b, After X s s' b → X b := fun b hb => by
    rcases hb.1 with h | h
    · exact h
    · rw [hf] at h; omega
  refine ⟨fun b hb => ?_, fun b c p hb hc => H.inj b c p (key b hb) (key c hc)⟩
  obtain ⟨k, p, o, h1, h2, h3, h4, h5⟩ := H.cell b (key b hb)
  refine ⟨k, p, o, by rw [hh]; exact h1, h2, ?_, h4, h5⟩
  obtain ⟨hlt, _⟩ := Array.getElem?_eq_some_iff.1 h3
  rw [g.b.block p hlt]
  exact h3
theorem sum_ok : SumOk := by
  intro args s v s' h
  unfold sumA at h
  split at h
  · rename_i x
    obtain ⟨q, hq, h⟩ := bnd h
    obtain ⟨k, hk, h⟩ := bnd h
    obtain ⟨r, hr, h⟩ := bnd h
    obtain ⟨_, h1, h⟩ := bnd h
    obtain ⟨_, h2, h⟩ := bnd h
    obtain ⟨_, h3, h⟩ := bnd h
    have h1 := grd_some h1
    have h2 := grd_some h2
    have h3 := grd_some h3
    rw [Nat.ble_eq] at h1 h2
    obtain ⟨rfl, rfl⟩ := Prod.mk.inj (Option.some.inj h)
    refine ⟨Abs.saw s q.b, fun X sg w us hv _ A => ?_⟩
    obtain ⟨u, us', rfl, hu, hus⟩ := hv
    obtain rfl : us' = [] := hus
    obtain ⟨p, c, hp, hlen, _, _, rfl⟩ := asSl_some hq hu
    obtain ⟨_, p', o, hp', ho, hbr, _⟩ := A.at hk (.inl (saw_bit s q.b))
    rw [hp] at hp'
    obtain rfl := Option.some.inj hp'
    obtain rfl := asRow_some hr
    obtain ⟨cs, e, fz, rfl, hsz, hcells⟩ := asRowR_is (r := r) rfl hbr
    obtain ⟨l, hl, hget⟩ := bytes_in (sg := sg) (c := cs) q.len q.off h3 (fun i hi => by
      obtain ⟨v, a, _, b⟩ := hcells (q.off + i) (by omega)
      exact ⟨v, a, b⟩)
    have hra : w.rangeAt p q.off (l.map (Value.int .u8)) := fun j v hj => by
      have := hget j v hj
      unfold World.cell?
      rw [ho]
      exact this
    have G := sum_gen p q.off c l w hra (by omega)
    rw [hl] at G
    refine Calls.mono G ?_
    rintro e w' ⟨⟨d, hd, rfl⟩, hg⟩
    refine ⟨_, sg, rfl, ?_, Post.gr rfl rfl A.holds hg⟩
    have := rep_bytes (sg := sg) d
    rw [hd] at this
    exact ⟨_, this, rfl⟩
  · cases h
/-- lent() returns true, and writes nothing but new blocks -/
theorem lent_yes (w : World) (h : Tables w) : Calls Tryz.prog 8 #[] w fun e w' => e = .returned (.bool true) ∧ Below w.heap.size w w' := lent_any sum_ok w h
end
end RX
theorem RX.Tables.gr {w w' : World} (h : RX.Tables w) (g : Gr w w') : RX.Tables w' := by
  have one : ∀ p l, RX.VarAt w p l → RX.VarAt w' p l := fun p l ⟨c, e, fz, h1, h2⟩ => by
    refine ⟨c, e, fz, ?_, h2⟩
    obtain ⟨hlt, _⟩ := Array.getElem?_eq_some_iff.1 h1
    rw [g.b.block p hlt]
    exact h1
  exact ⟨one _ _ h.v0, one _ _ h.v4, one _ _ h.v5, one _ _ h.v6, one _ _ h.v7⟩
theorem lent_g (w : World) (h : RX.Tables w) : Calls Tryz.prog 8 #[] w fun e w' => e = .returned (.bool true) ∧ Gr w w' :=
  (RX.lent_yes w h).mono fun _ _ ⟨a, b⟩ => ⟨a, Gr.of_below b⟩
end Go.Proofs.YthmimjofdmnakaaGreatDoor
