/- rule/near.go: the iterators terms$1 and convergents$1. -/
import Derived.Test.YtconhikflghkdaaGreatDoorPlan
import Derived.Test.YtconhikflghkdaaGreatDoorMath
import Derived.RangeFuncNested
import Derived.RangeFuncBound
import Derived.RangeFuncCalls
import Derived.RangeFuncLeaves
import Derived.Shelf.Abstract
import Derived.Shelf.RegionOpen
import Derived.OwnWalkIn
import Derived.TacticsInMore
import Derived.LoopNIn
import Derived.LoopIn
namespace Go.Proofs.YtconhikflghkdaaGreatDoor
open Go.RowKit Go.Shelf
attribute [local go_sem] Oper.semAt_some
/-- what a round says: it goes on; it has said 'no more'; it has given up -/
def RoundEnd (Jon Joff : World → Prop) (Jp : List PanicEntry → World → Prop) (keep : World → Prop) (e : Ending) (w' : World) : Prop :=
  (e = .returned (.bool true) ∧ Jon w' ∧ keep w') ∨ (e = .returned (.bool false) ∧ Joff w' ∧ keep w') ∨ (∃ ch, e = .panicked ch ∧ Jp ch w')
/-- what an iterator says -/
def IterEnd (Jall Joff : World → Prop) (Jp : List PanicEntry → World → Prop) (e : Ending) (w' : World) : Prop :=
  (e = .returned (.tuple #[]) ∧ (Jall w' ∨ Joff w')) ∨ (∃ ch, e = .panicked ch ∧ Jp ch w')
/-- a cell's number -/
def cellNum (w : World) (b o : Nat) : Int := intOf ((w.cell? ⟨b, o, none⟩).getD undef)
theorem cellNum_two {w : World} {B : Nat} {a b : Int} {T : TypeId} (h : w.heap[B]? = some (.cells #[.int .i64 a, .int .i64 b] T (0, 0))) : cellNum w B 1 = b := by
  unfold cellNum
  rw [(blk_cells h).1 1]
  rfl
set_option maxRecDepth 100000 in
set_option maxHeartbeats 1000000 in
theorem terms1_in (n l B : Nat) (T : TypeId) (a0 b0 : Int) (J : List Int → World → Prop) (Jx : World → Prop) (Jp : List PanicEntry → World → Prop)
    (hJ : ∀ pre W W', J pre W → GrL [B] W W' → J pre W')
    (hY : ∀ m pre x W, J pre W → B < W.heap.size → (pre ++ [x]) <+: Rm.tm a0 b0 → YieldAt Fence.wide m Tryz.prog l #[.int .i64 x] W (RoundEnd (J (pre ++ [x])) Jx Jp (fun W' => W'.heap[B]? = W.heap[B]?)))
    (W : World) (hB : W.heap[B]? = some (.cells #[.int .i64 a0, .int .i64 b0] T (0, 0))) (h0 : J [] W) (x1 : -1000000000 ≤ a0) (x2 : a0 ≤ 1000000000) (x3 : 1 ≤ b0) (x4 : b0 ≤ 1000000) :
    CallsIn Fence.wide n Tryz.prog 67 #[.func (.yield l) #[] #[], .pointer (some ⟨B, 0, none⟩)] W (IterEnd (J (Rm.tm a0 b0)) Jx Jp) := by
  refine callsIn_of_wp Tryz.func67 rfl trivial ?_ rfl
  simp only [Tryz.ntmps67, List.size_toArray, List.length_cons, List.length_nil, Nat.reduceAdd, Nat.reduceSub, Array.replicate_succ, Array.replicate_zero, List.push_toArray, List.append_toArray, List.nil_append, List.cons_append]
  gi_wp2
  gi_loopw [3] (fun _ wr => ∃ (pre : List Int) (a b : Int), -1000000000 ≤ a ∧ a ≤ 1000000000 ∧ 1 ≤ b ∧ b ≤ 1000000 ∧ Hid (Rm.tm a0 b0 = pre ++ Rm.tm a b) ∧ wr.heap[B]? = some (.cells #[.int .i64 a, .int .i64 b] T (0, 0)) ∧ J pre wr) (fun _ wr => (cellNum wr B 1).toNat)
  case atStart => exact ⟨[], a0, b0, x1, x2, x3, x4, Lib.hid rfl, hB, h0⟩
  case round =>
    obtain ⟨pre, a, b, y1, y2, y3, y4, hts, hb, hj⟩ := hrel
    have lB := heap_lt hb
    obtain ⟨bc, bf, _⟩ := blk_cells hb
    have f1 := @Rm.fl_le a b y3
    have f2 := @Rm.fl_rest a b y3
    have FL := Lib.hid (fun w => floor_any a b w y3 (by omega) (by omega) (by omega))
    generalize hf : Rm.fl a b = f at *
    have HF := Lib.hid hf
    clear hf
    have HM := Lib.hid (cellNum_two hb)
    gi_wp2_with fail
    refine ⟨trivial, fun h => absurd h (by simp [Fence.wide]), (callsIn_wide.2 (FL.out _)).mono ?_⟩
    rintro e w1 ⟨rfl, hg1⟩
    have hb1 := hg1.heap hb
    have hj1 := hJ pre wr w1 hj (GrL.of_gr hg1)
    have lB1 := heap_lt hb1
    by_cases hl : f*b = a
    · have HT : Hid (Rm.tm a0 b0 = pre ++ [f]) := Lib.hid (by rw [hts.out, Rm.tm_last y3 (by rw [HF.out]; exact hl), HF.out])
      obtain ⟨fn, tmps, assign, body, hy, hR⟩ := hY (n-1) pre f w1 hj1 lB1 (by rw [HT.out]; exact List.prefix_rfl)
      clear bc bf hJ hY hb hj lB
      gi_wp2_with fail
      refine ⟨fun h => absurd h (by simp [Fence.wide]), hR.mono ?_⟩
      rintro e w2 (⟨rfl, hj2, hk2⟩ | ⟨rfl, hx, _⟩ | ⟨ch, rfl, hp⟩)
      · have hb2 := hk2.trans hb1
        obtain ⟨bc, bf, _⟩ := blk_cells hb2
        have hlb : (f*b == a) = true := beq_iff_eq.2 hl
        gi_wp2
        go_end0
        exact .inl ⟨rfl, .inl (by rw [HT.out]; exact hj2)⟩
      · gi_wp2
        go_end0
        exact .inl ⟨rfl, .inr hx⟩
      · exact ⟨rfl, .inr ⟨ch, rfl, hp⟩⟩
    · have HT : Hid (Rm.tm a0 b0 = (pre ++ [f]) ++ Rm.tm b (a - f*b)) := Lib.hid (by rw [hts.out, Rm.tm_cons y3 (by rw [HF.out]; exact hl), HF.out]; simp)
      obtain ⟨fn, tmps, assign, body, hy, hR⟩ := hY (n-1) pre f w1 hj1 lB1 (by rw [HT.out]; exact ⟨_, rfl⟩)
      clear bc bf hY hb hj lB hts
      gi_wp2_with fail
      refine ⟨fun h => absurd h (by simp [Fence.wide]), hR.mono ?_⟩
      rintro e w2 (⟨rfl, hj2, hk2⟩ | ⟨rfl, hx, _⟩ | ⟨ch, rfl, hp⟩)
      · have hb2 := hk2.trans hb1
        obtain ⟨bc, bf, _⟩ := blk_cells hb2
        have hlb : (f*b == a) = false := beq_eq_false_iff_ne.2 hl
        have hj3 := hJ _ _ _ hj2 (((GrL.of_gr (Gr.refl w2)).set ⟨B, 0, none⟩ (.int .i64 b) (Or.inr (by simp))).set ⟨B, 1, none⟩ (.int .i64 (a - f*b)) (Or.inr (by simp)))
        have hb3 := put_two (x := .int .i64 b) (y := .int .i64 (a - f*b)) hb2
        gi_wp2
        go_roundw
        case rel => exact ⟨pre ++ [f], b, a - f*b, by omega, by omega, by omega, by omega, HT, hb3, hj3⟩
        case measure => rw [cellNum_two hb3, HM.out]; omega
      · gi_wp2
        go_end0
        exact .inl ⟨rfl, .inr hx⟩
      · exact ⟨rfl, .inr ⟨ch, rfl, hp⟩⟩
end Go.Proofs.YtconhikflghkdaaGreatDoor
