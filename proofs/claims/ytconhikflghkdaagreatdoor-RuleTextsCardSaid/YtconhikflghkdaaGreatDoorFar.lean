/- rule/near.go: around$1 (how often a fraction can be added), around. -/
import Derived.Test.YtconhikflghkdaaGreatDoorSimple
import Derived.Deep.LoopGhost
namespace Go.Proofs.YtconhikflghkdaaGreatDoor
open Go.RowKit Go.Shelf
set_option maxRecDepth 100000 in
set_option maxHeartbeats 1000000 in
theorem far_any (p q : Nat) (n d m an ad bn bd : Int) (w : World) (px : w.cell? ⟨p, 0, none⟩ = some (.int .i64 n)) (py : w.cell? ⟨p, 1, none⟩ = some (.int .i64 d)) (pm : w.cell? ⟨q, 0, none⟩ = some (.int .i64 m))
    (a1 : -4000000000000000000 ≤ n*ad) (a2 : n*ad ≤ 4000000000000000000) (a3 : -4000000000000000000 ≤ an*d) (a4 : an*d ≤ 4000000000000000000)
    (b1 : -4000000000000000000 ≤ n*bd) (b2 : n*bd ≤ 4000000000000000000) (b3 : -4000000000000000000 ≤ bn*d) (b4 : bn*d ≤ 4000000000000000000)
    (c1 : -4000000000000000000 ≤ n*ad - an*d) (c2 : n*ad - an*d ≤ 4000000000000000000) (c3 : -4000000000000000000 ≤ n*bd - bn*d) (c4 : n*bd - bn*d ≤ 4000000000000000000) (hz : 1 ≤ ((n*bd - bn*d).natAbs : Int))
    (d1 : 1 ≤ ad) (d2 : ad ≤ m) (d3 : m ≤ 1000000) (d4 : 1 ≤ bd) (d5 : bd ≤ 1000000) :
    Calls Tryz.prog 85 #[fr an ad, fr bn bd, .pointer (some ⟨p, 0, none⟩), .pointer (some ⟨q, 0, none⟩)] w fun e w' => e = .returned (.int .i64 (Rm.far ((n*ad - an*d).natAbs : Int) ((n*bd - bn*d).natAbs : Int) (m - ad) bd)) ∧ Gr w w' := by
  have lp : p < w.heap.size := World.block_lt_of_cell? w _ px
  have lq : q < w.heap.size := World.block_lt_of_cell? w _ pm
  have ca := fun w => cross_any n d an ad w a1 a2 a3 a4
  have cb := fun w => cross_any n d bn bd w b1 b2 b3 b4
  have sa := fun w => size_any (n*ad - an*d) w c1 c2
  have sb := fun w => size_any (n*bd - bn*d) w c3 c4
  have CA := Lib.hid ca
  have CB := Lib.hid cb
  have SA := Lib.hid sa
  have SB := Lib.hid sb
  have e0 : (0 : Int) ≤ ((n*ad - an*d).natAbs : Int) := by omega
  have e1 : ((n*ad - an*d).natAbs : Int) ≤ 4000000000000000000 := by omega
  have e2 : ((n*bd - bn*d).natAbs : Int) ≤ 4000000000000000000 := by omega
  clear ca cb sa sb a1 a2 a3 a4 b1 b2 b3 b4 c1 c2 c3 c4
  generalize n*ad - an*d = A at *
  generalize n*bd - bn*d = B at *
  generalize hA : (A.natAbs : Int) = A' at *
  generalize hB : (B.natAbs : Int) = B' at *
  clear hA hB
  have lp2 : p < w.heap.size + 2 := by omega
  have lq2 : q < w.heap.size + 2 := by omega
  have hw : IntKind.i64.wrap (m - ad) = m - ad := IntWalk.i64_in _ (by omega)
  have hm0 : 0 ≤ m - ad := by omega
  have hm1 : m - ad ≤ 1000000 := by omega
  have hq1 : A'.tdiv B' = A' / B' := Int.tdiv_eq_ediv_of_nonneg e0
  have hq2 : (m - ad).tdiv bd = (m - ad) / bd := Int.tdiv_eq_ediv_of_nonneg hm0
  have k1 : A' / B' ≤ 4000000000000000000 := Int.le_trans (Int.ediv_le_self _ e0) e1
  have k2 : (m - ad) / bd ≤ 1000000 := Int.le_trans (Int.ediv_le_self _ hm0) hm1
  have k3 : 0 ≤ A' / B' := Int.ediv_nonneg e0 (by omega)
  have k4 : 0 ≤ (m - ad) / bd := Int.ediv_nonneg hm0 (by omega)
  have hb0 : (B' == 0) = false := beq_eq_false_iff_ne.2 (by omega)
  have hb1 : (bd == 0) = false := beq_eq_false_iff_ne.2 (by omega)
  have hb2 : ¬ bd = 0 := by omega
  have hb3 : ¬ B' = 0 := by omega
  have hw1 : IntKind.i64.wrap (A' / B') = A' / B' := IntWalk.i64_in _ (by omega)
  have hw2 : IntKind.i64.wrap ((m - ad) / bd) = (m - ad) / bd := IntWalk.i64_in _ (by omega)
  go_enter Tryz.func85, Tryz.ntmps85
  go_wp2_with fail
  go_region_held3 (fun w' => w'.cell? ⟨p, 0, none⟩ = some (.int .i64 n) ∧ w'.cell? ⟨p, 1, none⟩ = some (.int .i64 d) ∧ w'.cell? ⟨q, 0, none⟩ = some (.int .i64 m) ∧ w'.cell? ⟨w.heap.size, 0, none⟩ = some (.int .i64 an) ∧ w'.cell? ⟨w.heap.size, 1, none⟩ = some (.int .i64 ad) ∧ w'.cell? ⟨w.heap.size + 1, 0, none⟩ = some (.int .i64 bn) ∧ w'.cell? ⟨w.heap.size + 1, 1, none⟩ = some (.int .i64 bd))
    (first | go_keep)
    ((first
      | (go_at_call 86; refine (SA.out _).mono ?_; rintro e v1 ⟨rfl, rfl⟩)
      | (go_at_call 86; refine (SB.out _).mono ?_; rintro e v1 ⟨rfl, rfl⟩)
      | (go_at_call_of 37 (Value.int .i64 an); refine (CA.out _).mono ?_; rintro e v2 ⟨rfl, hg3⟩; obtain ⟨hc3, hf3, hz3⟩ := hg3.at (n := w.heap.size + 2) (by first | (simp; done) | (simp; omega) | omega))
      | (go_at_call_of 37 (Value.int .i64 bn); refine (CB.out _).mono ?_; rintro e v2 ⟨rfl, hg3⟩; obtain ⟨hc3, hf3, hz3⟩ := hg3.at (n := w.heap.size + 2) (by first | (simp; done) | (simp; omega) | omega))))
  all_goals (try go_wp2)
  all_goals go_ret
  all_goals exact ⟨ret_int (by unfold Rm.far; first | omega | (split <;> omega)), (by repeat (first | exact Gr.refl _ | assumption | refine Gr.alloc ?_ _ | refine Gr.drew ?_ | refine Gr.drewN ?_ _ | refine Gr.set ?_ _ _ (by first | (simp; done) | (simp; omega)) | refine Gr.trans ?_ (by assumption)))⟩
theorem natAbs_pos_of {n : Int} (h : 0 ≤ n) : (n.natAbs : Int) = n := by omega
theorem natAbs_neg_of {a b : Int} (h : a ≤ b) : ((a - b).natAbs : Int) = b - a := by omega
/-- the bounds that the search in the tree keeps -/
structure ABnd (n d m ln ld hn hd : Int) : Prop where
  a1 : -1000000000000000 ≤ n*ld
  a2 : n*ld ≤ 1000000000000000
  b1 : -2000000000000000 ≤ ln*d
  b2 : ln*d ≤ 2000000000000000
  c1 : -1000000000000000 ≤ n*hd
  c2 : n*hd ≤ 1000000000000000
  e1 : -2000000000000000 ≤ hn*d
  e2 : hn*d ≤ 2000000000000000
  f1 : -2000000000 ≤ ln
  f2 : ln ≤ 2000000000
  f3 : -2000000000 ≤ hn
  f4 : hn ≤ 2000000000
theorem ABnd.of {n d m ln ld hn hd : Int} (x1 : -1000000000 ≤ n) (x2 : n ≤ 1000000000) (x4 : d ≤ 1000000) (hmd : m < d) (h : Rm.AS n d m ln ld hn hd) : ABnd n d m ln ld hn hd := by
  obtain ⟨q1, q2, q3, q4⟩ := h.bound hmd
  have l1 := h.l1
  have l2 := h.lm
  have h1 := h.h1
  have h2 := h.hm
  have r1 := @Rm.nd_bound n ld x1 x2 l1 (by omega)
  have r2 := @Rm.nd_bound n hd x1 x2 h1 (by omega)
  have r3 := @Rm.mul_bound ln d 2000000000 1000000 (by omega) (by omega) (by omega) (by omega) x4
  have r4 := @Rm.mul_bound hn d 2000000000 1000000 (by omega) (by omega) (by omega) (by omega) x4
  exact ⟨by omega, by omega, by omega, by omega, by omega, by omega, by omega, by omega, by omega, by omega, by omega, by omega⟩
/-- far from the low end -/
theorem far_low (p q : Nat) (n d m ln ld hn hd : Int) (w : World) (px : w.cell? ⟨p, 0, none⟩ = some (.int .i64 n)) (py : w.cell? ⟨p, 1, none⟩ = some (.int .i64 d)) (pm : w.cell? ⟨q, 0, none⟩ = some (.int .i64 m))
    (hm : m ≤ 1000000) (B : ABnd n d m ln ld hn hd) (h : Rm.AS n d m ln ld hn hd) :
    Calls Tryz.prog 85 #[fr ln ld, fr hn hd, .pointer (some ⟨p, 0, none⟩), .pointer (some ⟨q, 0, none⟩)] w fun e w' => e = .returned (.int .i64 (Rm.far (n*ld - ln*d) (hn*d - n*hd) (m - ld) hd)) ∧ Gr w w' := by
  obtain ⟨b1, b2, b3, b4, b5, b6, b7, b8, _, _, _, _⟩ := B
  obtain ⟨l1, lm, h1, hm', _, ll, hh, _, _⟩ := h
  have := far_any p q n d m ln ld hn hd w px py pm (by omega) (by omega) (by omega) (by omega) (by omega) (by omega) (by omega) (by omega) (by omega) (by omega) (by omega) (by omega) (by omega) l1 lm hm h1 (by omega)
  rwa [natAbs_pos_of (by omega), natAbs_neg_of (by omega)] at this
/-- far from the high end -/
theorem far_high (p q : Nat) (n d m ln ld hn hd : Int) (w : World) (px : w.cell? ⟨p, 0, none⟩ = some (.int .i64 n)) (py : w.cell? ⟨p, 1, none⟩ = some (.int .i64 d)) (pm : w.cell? ⟨q, 0, none⟩ = some (.int .i64 m))
    (hm : m ≤ 1000000) (B : ABnd n d m ln ld hn hd) (h : Rm.AS n d m ln ld hn hd) :
    Calls Tryz.prog 85 #[fr hn hd, fr ln ld, .pointer (some ⟨p, 0, none⟩), .pointer (some ⟨q, 0, none⟩)] w fun e w' => e = .returned (.int .i64 (Rm.far (hn*d - n*hd) (n*ld - ln*d) (m - hd) ld)) ∧ Gr w w' := by
  obtain ⟨b1, b2, b3, b4, b5, b6, b7, b8, _, _, _, _⟩ := B
  obtain ⟨l1, lm, h1, hm', _, ll, hh, _, _⟩ := h
  have := far_any p q n d m hn hd ln ld w px py pm (by omega) (by omega) (by omega) (by omega) (by omega) (by omega) (by omega) (by omega) (by omega) (by omega) (by omega) (by omega) (by omega) h1 hm' hm l1 (by omega)
  rwa [natAbs_neg_of (by omega), natAbs_pos_of (by omega)] at this
end Go.Proofs.YtconhikflghkdaaGreatDoor
