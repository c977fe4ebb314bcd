/- rule/frac.go: operated, Add, Sub, Mul, Div. -/
import Derived.Test.YtconhikflghkdaaGreatDoorSums
namespace Go.Proofs.YtconhikflghkdaaGreatDoor
section
open Go.RowKit Go.Shelf
/-- where the closure of operated finds what it needs -/
structure OpIn (k : Nat) (p q r o : Nat) (a b c d : Int) (w : World) : Prop where
  k0 : w.cell? ⟨p, 0, none⟩ = some (.int .i64 (k : Int))
  c0 : w.cell? ⟨q, 0, none⟩ = some (.int .i64 c)
  c1 : w.cell? ⟨q, 1, none⟩ = some (.int .i64 d)
  a0 : w.cell? ⟨r, 0, none⟩ = some (.int .i64 a)
  a1 : w.cell? ⟨r, 1, none⟩ = some (.int .i64 b)
  o0 : Two0 o w
  n1 : ¬ o = p
  n2 : ¬ o = q
  n3 : ¬ o = r
def opsV : Value := .agg #[.func (.func 87) #[] #[], .func (.func 46) #[] #[], .func (.func 50) #[] #[], .func (.func 88) #[] #[]]
end
section
open Go.RowKit Go.Shelf
set_option maxRecDepth 100000 in
set_option maxHeartbeats 1000000 in
theorem op0_ok (p q r o : Nat) (a b c d : Int) (w : World) (I : OpIn 0 p q r o a b c d w)
    (a1 : -1000000000 ≤ a) (a2 : a ≤ 1000000000) (b1 : 1 ≤ b) (b2 : b ≤ 1000000) (c1 : -1000000000 ≤ c) (c2 : c ≤ 1000000000) (d1 : 1 ≤ d) (d2 : d ≤ 1000000)
    (ho : Rm.okR (Rm.opN 0 a b c d) (Rm.opD 0 a b c d) = true) :
    Calls Tryz.prog 72 #[.pointer (some ⟨p, 0, none⟩), .pointer (some ⟨q, 0, none⟩), .pointer (some ⟨r, 0, none⟩), .pointer (some ⟨o, 0, none⟩)] w fun e w' => e = .returned (.tuple #[]) ∧ GrL [o] w w' ∧ Two o (Rm.redN (Rm.opN 0 a b c d) (Rm.opD 0 a b c d)) (Rm.redD (Rm.opN 0 a b c d) (Rm.opD 0 a b c d)) w' := by
  obtain ⟨k0, q0, q1, r0, r1, ⟨⟨x0, y0, o0, o1⟩, f0, f1⟩, n1, n2, n3⟩ := I
  have m1 : ¬ p = o := fun h => n1 h.symm
  have m2 : ¬ q = o := fun h => n2 h.symm
  have m3 : ¬ r = o := fun h => n3 h.symm
  have lp : p < w.heap.size := World.block_lt_of_cell? w _ k0
  have lq : q < w.heap.size := World.block_lt_of_cell? w _ q0
  have lr : r < w.heap.size := World.block_lt_of_cell? w _ r0
  have lo : o < w.heap.size := World.block_lt_of_cell? w _ o0
  obtain ⟨t1, t2, t3, t4⟩ := @Rm.op_bound 0 a b c d (by omega) (fun h => by omega) a1 a2 b1 b2 c1 c2 d1 d2
  obtain ⟨u1, u2⟩ := Rm.nd_bound a1 a2 d1 d2
  obtain ⟨u3, u4⟩ := Rm.nd_bound c1 c2 b1 b2
  obtain ⟨u5, u6⟩ := Rm.dd_bound b1 b2 d1 d2
  obtain ⟨u7, u8⟩ := Rm.nn_bound a1 a2 c1 c2
  have e6 : b*c = c*b := Int.mul_comm _ _
  have u9 : -1000000000000000 ≤ b*c := by omega
  have u10 : b*c ≤ 1000000000000000 := by omega
  clear e6
  simp only [Rm.opN, Rm.opD] at t1 t2 t3 t4 ho ⊢
  have opc := fun w => sum_any a b c d w (by omega) (by omega) (by omega) (by omega) (by omega) (by omega)
  have tld := fun w => told_ok (a*d+c*b) (b*d) w (by omega) (by omega) (by omega) (by omega) ho
  clear t1 t2 t3 t4 u1 u2 u3 u4 u5 u6 u7 u8 u9 u10 a1 a2 b1 b2 c1 c2 d1 d2 ho
  have OPC := Lib.hid opc
  have TLD := Lib.hid tld
  clear opc tld
  have ix : ∀ w, (Instr.index 104 opsV (.int .i64 0)).run Tryz.prog w = .ok (.func (.func 87) #[] #[]) w := fun _ => by kernel_rfl
  unfold opsV at ix
  go_enter Tryz.func72, Tryz.ntmps72
  go_wp2_with (go_at_call 52; refine (need_ok _ _).mono ?_; rintro e w3 ⟨rfl, rfl⟩)
  go_region_held3 (fun w' => w'.cell? ⟨p, 0, none⟩ = some (.int .i64 0) ∧ w'.cell? ⟨q, 0, none⟩ = some (.int .i64 c) ∧ w'.cell? ⟨q, 1, none⟩ = some (.int .i64 d) ∧ w'.cell? ⟨r, 0, none⟩ = some (.int .i64 a) ∧ w'.cell? ⟨r, 1, none⟩ = some (.int .i64 b))
    (first | go_keep)
    ((first
      | (go_at_call 73; refine (operations_any _).mono ?_; rintro e v1 ⟨rfl, hg1⟩; obtain ⟨hc1, hf1, hz1⟩ := hg1.at (n := w.heap.size) (by first | (simp; done) | (simp; omega) | omega))
      | (go_at_call 34; refine (of_any _ _ _).mono ?_; rintro e v2 ⟨rfl, hg2⟩; obtain ⟨hc2, hf2, hz2⟩ := hg2.at (n := w.heap.size) (by first | (simp; done) | (simp; omega) | omega))
      | (go_at_call 87; refine (OPC.out _).mono ?_; rintro e v3 ⟨rfl, hg3⟩; obtain ⟨hc3, hf3, hz3⟩ := hg3.at (n := w.heap.size) (by first | (simp; done) | (simp; omega) | omega))
      | (go_at_call 31; refine (TLD.out _).mono ?_; rintro e v4 ⟨rfl, hg4⟩; obtain ⟨hc4, hf4, hz4⟩ := hg4.at (n := w.heap.size) (by first | (simp; done) | (simp; omega) | omega))))
  all_goals go_wp2
  all_goals go_end0
  all_goals exact ⟨rfl, ((GrL.of_gr (by repeat (first | exact Gr.refl _ | assumption | refine Gr.alloc ?_ _ | refine Gr.drew ?_ | refine Gr.drewN ?_ _ | refine Gr.set ?_ _ _ (by first | (simp; done) | (simp; omega)) | refine Gr.trans ?_ (by assumption)))).set _ _ (Or.inr (by simp))).set _ _ (Or.inr (by simp)), by simp [Two, go_sem, *]⟩
set_option maxRecDepth 100000 in
set_option maxHeartbeats 1000000 in
theorem op0_no (p q r o : Nat) (a b c d : Int) (w : World) (I : OpIn 0 p q r o a b c d w)
    (a1 : -1000000000 ≤ a) (a2 : a ≤ 1000000000) (b1 : 1 ≤ b) (b2 : b ≤ 1000000) (c1 : -1000000000 ≤ c) (c2 : c ≤ 1000000000) (d1 : 1 ≤ d) (d2 : d ≤ 1000000)
    (ho : Rm.okR (Rm.opN 0 a b c d) (Rm.opD 0 a b c d) = false) :
    Calls Tryz.prog 72 #[.pointer (some ⟨p, 0, none⟩), .pointer (some ⟨q, 0, none⟩), .pointer (some ⟨r, 0, none⟩), .pointer (some ⟨o, 0, none⟩)] w fun e w' => e = .panicked [{ v := giv 10, recovered := false }] ∧ GrL [] w w' := by
  obtain ⟨k0, q0, q1, r0, r1, ⟨⟨x0, y0, o0, o1⟩, f0, f1⟩, n1, n2, n3⟩ := I
  have m1 : ¬ p = o := fun h => n1 h.symm
  have m2 : ¬ q = o := fun h => n2 h.symm
  have m3 : ¬ r = o := fun h => n3 h.symm
  have lp : p < w.heap.size := World.block_lt_of_cell? w _ k0
  have lq : q < w.heap.size := World.block_lt_of_cell? w _ q0
  have lr : r < w.heap.size := World.block_lt_of_cell? w _ r0
  have lo : o < w.heap.size := World.block_lt_of_cell? w _ o0
  obtain ⟨t1, t2, t3, t4⟩ := @Rm.op_bound 0 a b c d (by omega) (fun h => by omega) a1 a2 b1 b2 c1 c2 d1 d2
  obtain ⟨u1, u2⟩ := Rm.nd_bound a1 a2 d1 d2
  obtain ⟨u3, u4⟩ := Rm.nd_bound c1 c2 b1 b2
  obtain ⟨u5, u6⟩ := Rm.dd_bound b1 b2 d1 d2
  obtain ⟨u7, u8⟩ := Rm.nn_bound a1 a2 c1 c2
  have e6 : b*c = c*b := Int.mul_comm _ _
  have u9 : -1000000000000000 ≤ b*c := by omega
  have u10 : b*c ≤ 1000000000000000 := by omega
  clear e6
  simp only [Rm.opN, Rm.opD] at t1 t2 t3 t4 ho ⊢
  have opc := fun w => sum_any a b c d w (by omega) (by omega) (by omega) (by omega) (by omega) (by omega)
  have tld := fun w => told_no (a*d+c*b) (b*d) w (by omega) (by omega) (by omega) (by omega) ho
  clear t1 t2 t3 t4 u1 u2 u3 u4 u5 u6 u7 u8 u9 u10 a1 a2 b1 b2 c1 c2 d1 d2 ho
  have OPC := Lib.hid opc
  have TLD := Lib.hid tld
  clear opc tld
  have ix : ∀ w, (Instr.index 104 opsV (.int .i64 0)).run Tryz.prog w = .ok (.func (.func 87) #[] #[]) w := fun _ => by kernel_rfl
  unfold opsV at ix
  go_enter Tryz.func72, Tryz.ntmps72
  go_wp2_with (go_at_call 52; refine (need_ok _ _).mono ?_; rintro e w3 ⟨rfl, rfl⟩)
  refine wp_region_held_drew (S := fun w' => w'.cell? ⟨p, 0, none⟩ = some (.int .i64 0) ∧ w'.cell? ⟨q, 0, none⟩ = some (.int .i64 c) ∧ w'.cell? ⟨q, 1, none⟩ = some (.int .i64 d) ∧ w'.cell? ⟨r, 0, none⟩ = some (.int .i64 a) ∧ w'.cell? ⟨r, 1, none⟩ = some (.int .i64 b)) (by kernel_rfl) ⟨k0, q0, q1, r0, r1⟩ (fun hHeld => ?_)
  refine wpAnyH_take (i := 1) (v := .int .i64 0) rfl (by kernel_rfl) (by kernel_rfl) (by kernel_rfl) (fun _ _ _ h => h) (Or.inl ⟨by rfl, ?_⟩) hHeld ?_
  · rintro w ⟨s1, s2, s3, s4, s5⟩
    go_simp
  refine wpAnyH_take (i := 3) (v := fr a b) rfl (by kernel_rfl) (by kernel_rfl) (by kernel_rfl) (fun _ _ _ h => h) (Or.inl ⟨by rfl, ?_⟩) hHeld ?_
  · rintro w ⟨s1, s2, s3, s4, s5⟩
    go_simp
  refine wpAnyH_take (i := 5) (v := fr c d) rfl (by kernel_rfl) (by kernel_rfl) (by kernel_rfl) (fun _ _ _ h => h) (Or.inl ⟨by rfl, ?_⟩) hHeld ?_
  · rintro w ⟨s1, s2, s3, s4, s5⟩
    go_simp
  refine wpAnyH_ready (rs := [0]) (by kernel_rfl) (by simp) ?_
  refine AllReadyH.cons rfl (fun K hK => ?_) AllReadyH.nil
  go_simp
  refine (operations_any _).mono ?_
  rintro e v1 ⟨rfl, hg1⟩
  obtain ⟨hc1, hf1, hz1⟩ := hg1.at (n := w.heap.size) (by first | (simp; done) | (simp; omega) | omega)
  refine hK.out _ _ (by simp [*]) (fun hHeld => ?_)
  clear hK K
  refine wpAnyH_take (i := 2) (v := .func (.func 87) #[] #[]) rfl (by kernel_rfl) (by kernel_rfl) (by kernel_rfl) (fun _ _ _ h => h) (Or.inl ⟨by rfl, ?_⟩) hHeld ?_
  · rintro w ⟨s1, s2, s3, s4, s5⟩
    go_simp
  refine wpAnyH_ready (rs := [4]) (by kernel_rfl) (by simp) ?_
  refine AllReadyH.cons rfl (fun K hK => ?_) AllReadyH.nil
  go_simp
  refine (of_any _ _ _).mono ?_
  rintro e v2 ⟨rfl, hg2⟩
  obtain ⟨hc2, hf2, hz2⟩ := hg2.at (n := w.heap.size) (by first | (simp; done) | (simp; omega) | omega)
  refine hK.out _ _ (by simp [*]) (fun hHeld => ?_)
  clear hK K
  refine wpAnyH_ready (rs := [6]) (by kernel_rfl) (by simp) ?_
  refine AllReadyH.cons rfl (fun K hK => ?_) AllReadyH.nil
  go_simp
  refine (of_any _ _ _).mono ?_
  rintro e v3 ⟨rfl, hg3⟩
  obtain ⟨hc3, hf3, hz3⟩ := hg3.at (n := w.heap.size) (by first | (simp; done) | (simp; omega) | omega)
  refine hK.out _ _ (by simp [*]) (fun hHeld => ?_)
  clear hK K
  refine wpAnyH_ready (rs := [7]) (by kernel_rfl) (by simp) ?_
  refine AllReadyH.cons rfl (fun K hK => ?_) AllReadyH.nil
  go_simp
  refine (OPC.out _).mono ?_
  rintro e v4 ⟨rfl, hg4⟩
  obtain ⟨hc4, hf4, hz4⟩ := hg4.at (n := w.heap.size) (by first | (simp; done) | (simp; omega) | omega)
  refine hK.out _ _ (by simp [*]) (fun hHeld => ?_)
  clear hK K
  refine wpAnyH_ready (rs := [8]) (by kernel_rfl) (by simp) ?_
  refine AllReadyH.cons rfl (fun K hK => ?_) AllReadyH.nil
  go_simp
  refine (TLD.out _).mono ?_
  rintro e v5 ⟨rfl, hg5⟩
  exact ⟨rfl, rfl, GrL.of_gr (by repeat (first | exact Gr.refl _ | assumption | refine Gr.alloc ?_ _ | refine Gr.drew ?_ | refine Gr.drewN ?_ _ | refine Gr.set ?_ _ _ (by first | (simp; done) | (simp; omega)) | refine Gr.trans ?_ (by assumption)))⟩
end
section
open Go.RowKit Go.Shelf
set_option maxRecDepth 100000 in
set_option maxHeartbeats 1000000 in
theorem op1_ok (p q r o : Nat) (a b c d : Int) (w : World) (I : OpIn 1 p q r o a b c d w)
    (a1 : -1000000000 ≤ a) (a2 : a ≤ 1000000000) (b1 : 1 ≤ b) (b2 : b ≤ 1000000) (c1 : -1000000000 ≤ c) (c2 : c ≤ 1000000000) (d1 : 1 ≤ d) (d2 : d ≤ 1000000)
    (ho : Rm.okR (Rm.opN 1 a b c d) (Rm.opD 1 a b c d) = true) :
    Calls Tryz.prog 72 #[.pointer (some ⟨p, 0, none⟩), .pointer (some ⟨q, 0, none⟩), .pointer (some ⟨r, 0, none⟩), .pointer (some ⟨o, 0, none⟩)] w fun e w' => e = .returned (.tuple #[]) ∧ GrL [o] w w' ∧ Two o (Rm.redN (Rm.opN 1 a b c d) (Rm.opD 1 a b c d)) (Rm.redD (Rm.opN 1 a b c d) (Rm.opD 1 a b c d)) w' := by
  obtain ⟨k0, q0, q1, r0, r1, ⟨⟨x0, y0, o0, o1⟩, f0, f1⟩, n1, n2, n3⟩ := I
  have m1 : ¬ p = o := fun h => n1 h.symm
  have m2 : ¬ q = o := fun h => n2 h.symm
  have m3 : ¬ r = o := fun h => n3 h.symm
  have lp : p < w.heap.size := World.block_lt_of_cell? w _ k0
  have lq : q < w.heap.size := World.block_lt_of_cell? w _ q0
  have lr : r < w.heap.size := World.block_lt_of_cell? w _ r0
  have lo : o < w.heap.size := World.block_lt_of_cell? w _ o0
  obtain ⟨t1, t2, t3, t4⟩ := @Rm.op_bound 1 a b c d (by omega) (fun h => by omega) a1 a2 b1 b2 c1 c2 d1 d2
  obtain ⟨u1, u2⟩ := Rm.nd_bound a1 a2 d1 d2
  obtain ⟨u3, u4⟩ := Rm.nd_bound c1 c2 b1 b2
  obtain ⟨u5, u6⟩ := Rm.dd_bound b1 b2 d1 d2
  obtain ⟨u7, u8⟩ := Rm.nn_bound a1 a2 c1 c2
  have e6 : b*c = c*b := Int.mul_comm _ _
  have u9 : -1000000000000000 ≤ b*c := by omega
  have u10 : b*c ≤ 1000000000000000 := by omega
  clear e6
  simp only [Rm.opN, Rm.opD] at t1 t2 t3 t4 ho ⊢
  have opc := fun w => difference_any a b c d w (by omega) (by omega) (by omega) (by omega) (by omega) (by omega)
  have tld := fun w => told_ok (a*d-c*b) (b*d) w (by omega) (by omega) (by omega) (by omega) ho
  clear t1 t2 t3 t4 u1 u2 u3 u4 u5 u6 u7 u8 u9 u10 a1 a2 b1 b2 c1 c2 d1 d2 ho
  have OPC := Lib.hid opc
  have TLD := Lib.hid tld
  clear opc tld
  have ix : ∀ w, (Instr.index 104 opsV (.int .i64 1)).run Tryz.prog w = .ok (.func (.func 46) #[] #[]) w := fun _ => by kernel_rfl
  unfold opsV at ix
  go_enter Tryz.func72, Tryz.ntmps72
  go_wp2_with (go_at_call 52; refine (need_ok _ _).mono ?_; rintro e w3 ⟨rfl, rfl⟩)
  go_region_held3 (fun w' => w'.cell? ⟨p, 0, none⟩ = some (.int .i64 1) ∧ w'.cell? ⟨q, 0, none⟩ = some (.int .i64 c) ∧ w'.cell? ⟨q, 1, none⟩ = some (.int .i64 d) ∧ w'.cell? ⟨r, 0, none⟩ = some (.int .i64 a) ∧ w'.cell? ⟨r, 1, none⟩ = some (.int .i64 b))
    (first | go_keep)
    ((first
      | (go_at_call 73; refine (operations_any _).mono ?_; rintro e v1 ⟨rfl, hg1⟩; obtain ⟨hc1, hf1, hz1⟩ := hg1.at (n := w.heap.size) (by first | (simp; done) | (simp; omega) | omega))
      | (go_at_call 34; refine (of_any _ _ _).mono ?_; rintro e v2 ⟨rfl, hg2⟩; obtain ⟨hc2, hf2, hz2⟩ := hg2.at (n := w.heap.size) (by first | (simp; done) | (simp; omega) | omega))
      | (go_at_call 46; refine (OPC.out _).mono ?_; rintro e v3 ⟨rfl, hg3⟩; obtain ⟨hc3, hf3, hz3⟩ := hg3.at (n := w.heap.size) (by first | (simp; done) | (simp; omega) | omega))
      | (go_at_call 31; refine (TLD.out _).mono ?_; rintro e v4 ⟨rfl, hg4⟩; obtain ⟨hc4, hf4, hz4⟩ := hg4.at (n := w.heap.size) (by first | (simp; done) | (simp; omega) | omega))))
  all_goals go_wp2
  all_goals go_end0
  all_goals exact ⟨rfl, ((GrL.of_gr (by repeat (first | exact Gr.refl _ | assumption | refine Gr.alloc ?_ _ | refine Gr.drew ?_ | refine Gr.drewN ?_ _ | refine Gr.set ?_ _ _ (by first | (simp; done) | (simp; omega)) | refine Gr.trans ?_ (by assumption)))).set _ _ (Or.inr (by simp))).set _ _ (Or.inr (by simp)), by simp [Two, go_sem, *]⟩
set_option maxRecDepth 100000 in
set_option maxHeartbeats 1000000 in
theorem op1_no (p q r o : Nat) (a b c d : Int) (w : World) (I : OpIn 1 p q r o a b c d w)
    (a1 : -1000000000 ≤ a) (a2 : a ≤ 1000000000) (b1 : 1 ≤ b) (b2 : b ≤ 1000000) (c1 : -1000000000 ≤ c) (c2 : c ≤ 1000000000) (d1 : 1 ≤ d) (d2 : d ≤ 1000000)
    (ho : Rm.okR (Rm.opN 1 a b c d) (Rm.opD 1 a b c d) = false) :
    Calls Tryz.prog 72 #[.pointer (some ⟨p, 0, none⟩), .pointer (some ⟨q, 0, none⟩), .pointer (some ⟨r, 0, none⟩), .pointer (some ⟨o, 0, none⟩)] w fun e w' => e = .panicked [{ v := giv 10, recovered := false }] ∧ GrL [] w w' := by
  obtain ⟨k0, q0, q1, r0, r1, ⟨⟨x0, y0, o0, o1⟩, f0, f1⟩, n1, n2, n3⟩ := I
  have m1 : ¬ p = o := fun h => n1 h.symm
  have m2 : ¬ q = o := fun h => n2 h.symm
  have m3 : ¬ r = o := fun h => n3 h.symm
  have lp : p < w.heap.size := World.block_lt_of_cell? w _ k0
  have lq : q < w.heap.size := World.block_lt_of_cell? w _ q0
  have lr : r < w.heap.size := World.block_lt_of_cell? w _ r0
  have lo : o < w.heap.size := World.block_lt_of_cell? w _ o0
  obtain ⟨t1, t2, t3, t4⟩ := @Rm.op_bound 1 a b c d (by omega) (fun h => by omega) a1 a2 b1 b2 c1 c2 d1 d2
  obtain ⟨u1, u2⟩ := Rm.nd_bound a1 a2 d1 d2
  obtain ⟨u3, u4⟩ := Rm.nd_bound c1 c2 b1 b2
  obtain ⟨u5, u6⟩ := Rm.dd_bound b1 b2 d1 d2
  obtain ⟨u7, u8⟩ := Rm.nn_bound a1 a2 c1 c2
  have e6 : b*c = c*b := Int.mul_comm _ _
  have u9 : -1000000000000000 ≤ b*c := by omega
  have u10 : b*c ≤ 1000000000000000 := by omega
  clear e6
  simp only [Rm.opN, Rm.opD] at t1 t2 t3 t4 ho ⊢
  have opc := fun w => difference_any a b c d w (by omega) (by omega) (by omega) (by omega) (by omega) (by omega)
  have tld := fun w => told_no (a*d-c*b) (b*d) w (by omega) (by omega) (by omega) (by omega) ho
  clear t1 t2 t3 t4 u1 u2 u3 u4 u5 u6 u7 u8 u9 u10 a1 a2 b1 b2 c1 c2 d1 d2 ho
  have OPC := Lib.hid opc
  have TLD := Lib.hid tld
  clear opc tld
  have ix : ∀ w, (Instr.index 104 opsV (.int .i64 1)).run Tryz.prog w = .ok (.func (.func 46) #[] #[]) w := fun _ => by kernel_rfl
  unfold opsV at ix
  go_enter Tryz.func72, Tryz.ntmps72
  go_wp2_with (go_at_call 52; refine (need_ok _ _).mono ?_; rintro e w3 ⟨rfl, rfl⟩)
  refine wp_region_held_drew (S := fun w' => w'.cell? ⟨p, 0, none⟩ = some (.int .i64 1) ∧ w'.cell? ⟨q, 0, none⟩ = some (.int .i64 c) ∧ w'.cell? ⟨q, 1, none⟩ = some (.int .i64 d) ∧ w'.cell? ⟨r, 0, none⟩ = some (.int .i64 a) ∧ w'.cell? ⟨r, 1, none⟩ = some (.int .i64 b)) (by kernel_rfl) ⟨k0, q0, q1, r0, r1⟩ (fun hHeld => ?_)
  refine wpAnyH_take (i := 1) (v := .int .i64 1) rfl (by kernel_rfl) (by kernel_rfl) (by kernel_rfl) (fun _ _ _ h => h) (Or.inl ⟨by rfl, ?_⟩) hHeld ?_
  · rintro w ⟨s1, s2, s3, s4, s5⟩
    go_simp
  refine wpAnyH_take (i := 3) (v := fr a b) rfl (by kernel_rfl) (by kernel_rfl) (by kernel_rfl) (fun _ _ _ h => h) (Or.inl ⟨by rfl, ?_⟩) hHeld ?_
  · rintro w ⟨s1, s2, s3, s4, s5⟩
    go_simp
  refine wpAnyH_take (i := 5) (v := fr c d) rfl (by kernel_rfl) (by kernel_rfl) (by kernel_rfl) (fun _ _ _ h => h) (Or.inl ⟨by rfl, ?_⟩) hHeld ?_
  · rintro w ⟨s1, s2, s3, s4, s5⟩
    go_simp
  refine wpAnyH_ready (rs := [0]) (by kernel_rfl) (by simp) ?_
  refine AllReadyH.cons rfl (fun K hK => ?_) AllReadyH.nil
  go_simp
  refine (operations_any _).mono ?_
  rintro e v1 ⟨rfl, hg1⟩
  obtain ⟨hc1, hf1, hz1⟩ := hg1.at (n := w.heap.size) (by first | (simp; done) | (simp; omega) | omega)
  refine hK.out _ _ (by simp [*]) (fun hHeld => ?_)
  clear hK K
  refine wpAnyH_take (i := 2) (v := .func (.func 46) #[] #[]) rfl (by kernel_rfl) (by kernel_rfl) (by kernel_rfl) (fun _ _ _ h => h) (Or.inl ⟨by rfl, ?_⟩) hHeld ?_
  · rintro w ⟨s1, s2, s3, s4, s5⟩
    go_simp
  refine wpAnyH_ready (rs := [4]) (by kernel_rfl) (by simp) ?_
  refine AllReadyH.cons rfl (fun K hK => ?_) AllReadyH.nil
  go_simp
  refine (of_any _ _ _).mono ?_
  rintro e v2 ⟨rfl, hg2⟩
  obtain ⟨hc2, hf2, hz2⟩ := hg2.at (n := w.heap.size) (by first | (simp; done) | (simp; omega) | omega)
  refine hK.out _ _ (by simp [*]) (fun hHeld => ?_)
  clear hK K
  refine wpAnyH_ready (rs := [6]) (by kernel_rfl) (by simp) ?_
  refine AllReadyH.cons rfl (fun K hK => ?_) AllReadyH.nil
  go_simp
  refine (of_any _ _ _).mono ?_
  rintro e v3 ⟨rfl, hg3⟩
  obtain ⟨hc3, hf3, hz3⟩ := hg3.at (n := w.heap.size) (by first | (simp; done) | (simp; omega) | omega)
  refine hK.out _ _ (by simp [*]) (fun hHeld => ?_)
  clear hK K
  refine wpAnyH_ready (rs := [7]) (by kernel_rfl) (by simp) ?_
  refine AllReadyH.cons rfl (fun K hK => ?_) AllReadyH.nil
  go_simp
  refine (OPC.out _).mono ?_
  rintro e v4 ⟨rfl, hg4⟩
  obtain ⟨hc4, hf4, hz4⟩ := hg4.at (n := w.heap.size) (by first | (simp; done) | (simp; omega) | omega)
  refine hK.out _ _ (by simp [*]) (fun hHeld => ?_)
  clear hK K
  refine wpAnyH_ready (rs := [8]) (by kernel_rfl) (by simp) ?_
  refine AllReadyH.cons rfl (fun K hK => ?_) AllReadyH.nil
  go_simp
  refine (TLD.out _).mono ?_
  rintro e v5 ⟨rfl, hg5⟩
  exact ⟨rfl, rfl, GrL.of_gr (by repeat (first | exact Gr.refl _ | assumption | refine Gr.alloc ?_ _ | refine Gr.drew ?_ | refine Gr.drewN ?_ _ | refine Gr.set ?_ _ _ (by first | (simp; done) | (simp; omega)) | refine Gr.trans ?_ (by assumption)))⟩
end
section
open Go.RowKit Go.Shelf
set_option maxRecDepth 100000 in
set_option maxHeartbeats 1000000 in
theorem op2_ok (p q r o : Nat) (a b c d : Int) (w : World) (I : OpIn 2 p q r o a b c d w)
    (a1 : -1000000000 ≤ a) (a2 : a ≤ 1000000000) (b1 : 1 ≤ b) (b2 : b ≤ 1000000) (c1 : -1000000000 ≤ c) (c2 : c ≤ 1000000000) (d1 : 1 ≤ d) (d2 : d ≤ 1000000)
    (ho : Rm.okR (Rm.opN 2 a b c d) (Rm.opD 2 a b c d) = true) :
    Calls Tryz.prog 72 #[.pointer (some ⟨p, 0, none⟩), .pointer (some ⟨q, 0, none⟩), .pointer (some ⟨r, 0, none⟩), .pointer (some ⟨o, 0, none⟩)] w fun e w' => e = .returned (.tuple #[]) ∧ GrL [o] w w' ∧ Two o (Rm.redN (Rm.opN 2 a b c d) (Rm.opD 2 a b c d)) (Rm.redD (Rm.opN 2 a b c d) (Rm.opD 2 a b c d)) w' := by
  obtain ⟨k0, q0, q1, r0, r1, ⟨⟨x0, y0, o0, o1⟩, f0, f1⟩, n1, n2, n3⟩ := I
  have m1 : ¬ p = o := fun h => n1 h.symm
  have m2 : ¬ q = o := fun h => n2 h.symm
  have m3 : ¬ r = o := fun h => n3 h.symm
  have lp : p < w.heap.size := World.block_lt_of_cell? w _ k0
  have lq : q < w.heap.size := World.block_lt_of_cell? w _ q0
  have lr : r < w.heap.size := World.block_lt_of_cell? w _ r0
  have lo : o < w.heap.size := World.block_lt_of_cell? w _ o0
  obtain ⟨t1, t2, t3, t4⟩ := @Rm.op_bound 2 a b c d (by omega) (fun h => by omega) a1 a2 b1 b2 c1 c2 d1 d2
  obtain ⟨u1, u2⟩ := Rm.nd_bound a1 a2 d1 d2
  obtain ⟨u3, u4⟩ := Rm.nd_bound c1 c2 b1 b2
  obtain ⟨u5, u6⟩ := Rm.dd_bound b1 b2 d1 d2
  obtain ⟨u7, u8⟩ := Rm.nn_bound a1 a2 c1 c2
  have e6 : b*c = c*b := Int.mul_comm _ _
  have u9 : -1000000000000000 ≤ b*c := by omega
  have u10 : b*c ≤ 1000000000000000 := by omega
  clear e6
  simp only [Rm.opN, Rm.opD] at t1 t2 t3 t4 ho ⊢
  have opc := fun w => product_any a b c d w (by omega) (by omega) (by omega) (by omega)
  have tld := fun w => told_ok (a*c) (b*d) w (by omega) (by omega) (by omega) (by omega) ho
  clear t1 t2 t3 t4 u1 u2 u3 u4 u5 u6 u7 u8 u9 u10 a1 a2 b1 b2 c1 c2 d1 d2 ho
  have OPC := Lib.hid opc
  have TLD := Lib.hid tld
  clear opc tld
  have ix : ∀ w, (Instr.index 104 opsV (.int .i64 2)).run Tryz.prog w = .ok (.func (.func 50) #[] #[]) w := fun _ => by kernel_rfl
  unfold opsV at ix
  go_enter Tryz.func72, Tryz.ntmps72
  go_wp2_with (go_at_call 52; refine (need_ok _ _).mono ?_; rintro e w3 ⟨rfl, rfl⟩)
  go_region_held3 (fun w' => w'.cell? ⟨p, 0, none⟩ = some (.int .i64 2) ∧ w'.cell? ⟨q, 0, none⟩ = some (.int .i64 c) ∧ w'.cell? ⟨q, 1, none⟩ = some (.int .i64 d) ∧ w'.cell? ⟨r, 0, none⟩ = some (.int .i64 a) ∧ w'.cell? ⟨r, 1, none⟩ = some (.int .i64 b))
    (first | go_keep)
    ((first
      | (go_at_call 73; refine (operations_any _).mono ?_; rintro e v1 ⟨rfl, hg1⟩; obtain ⟨hc1, hf1, hz1⟩ := hg1.at (n := w.heap.size) (by first | (simp; done) | (simp; omega) | omega))
      | (go_at_call 34; refine (of_any _ _ _).mono ?_; rintro e v2 ⟨rfl, hg2⟩; obtain ⟨hc2, hf2, hz2⟩ := hg2.at (n := w.heap.size) (by first | (simp; done) | (simp; omega) | omega))
      | (go_at_call 50; refine (OPC.out _).mono ?_; rintro e v3 ⟨rfl, hg3⟩; obtain ⟨hc3, hf3, hz3⟩ := hg3.at (n := w.heap.size) (by first | (simp; done) | (simp; omega) | omega))
      | (go_at_call 31; refine (TLD.out _).mono ?_; rintro e v4 ⟨rfl, hg4⟩; obtain ⟨hc4, hf4, hz4⟩ := hg4.at (n := w.heap.size) (by first | (simp; done) | (simp; omega) | omega))))
  all_goals go_wp2
  all_goals go_end0
  all_goals exact ⟨rfl, ((GrL.of_gr (by repeat (first | exact Gr.refl _ | assumption | refine Gr.alloc ?_ _ | refine Gr.drew ?_ | refine Gr.drewN ?_ _ | refine Gr.set ?_ _ _ (by first | (simp; done) | (simp; omega)) | refine Gr.trans ?_ (by assumption)))).set _ _ (Or.inr (by simp))).set _ _ (Or.inr (by simp)), by simp [Two, go_sem, *]⟩
set_option maxRecDepth 100000 in
set_option maxHeartbeats 1000000 in
theorem op2_no (p q r o : Nat) (a b c d : Int) (w : World) (I : OpIn 2 p q r o a b c d w)
    (a1 : -1000000000 ≤ a) (a2 : a ≤ 1000000000) (b1 : 1 ≤ b) (b2 : b ≤ 1000000) (c1 : -1000000000 ≤ c) (c2 : c ≤ 1000000000) (d1 : 1 ≤ d) (d2 : d ≤ 1000000)
    (ho : Rm.okR (Rm.opN 2 a b c d) (Rm.opD 2 a b c d) = false) :
    Calls Tryz.prog 72 #[.pointer (some ⟨p, 0, none⟩), .pointer (some ⟨q, 0, none⟩), .pointer (some ⟨r, 0, none⟩), .pointer (some ⟨o, 0, none⟩)] w fun e w' => e = .panicked [{ v := giv 10, recovered := false }] ∧ GrL [] w w' := by
  obtain ⟨k0, q0, q1, r0, r1, ⟨⟨x0, y0, o0, o1⟩, f0, f1⟩, n1, n2, n3⟩ := I
  have m1 : ¬ p = o := fun h => n1 h.symm
  have m2 : ¬ q = o := fun h => n2 h.symm
  have m3 : ¬ r = o := fun h => n3 h.symm
  have lp : p < w.heap.size := World.block_lt_of_cell? w _ k0
  have lq : q < w.heap.size := World.block_lt_of_cell? w _ q0
  have lr : r < w.heap.size := World.block_lt_of_cell? w _ r0
  have lo : o < w.heap.size := World.block_lt_of_cell? w _ o0
  obtain ⟨t1, t2, t3, t4⟩ := @Rm.op_bound 2 a b c d (by omega) (fun h => by omega) a1 a2 b1 b2 c1 c2 d1 d2
  obtain ⟨u1, u2⟩ := Rm.nd_bound a1 a2 d1 d2
  obtain ⟨u3, u4⟩ := Rm.nd_bound c1 c2 b1 b2
  obtain ⟨u5, u6⟩ := Rm.dd_bound b1 b2 d1 d2
  obtain ⟨u7, u8⟩ := Rm.nn_bound a1 a2 c1 c2
  have e6 : b*c = c*b := Int.mul_comm _ _
  have u9 : -1000000000000000 ≤ b*c := by omega
  have u10 : b*c ≤ 1000000000000000 := by omega
  clear e6
  simp only [Rm.opN, Rm.opD] at t1 t2 t3 t4 ho ⊢
  have opc := fun w => product_any a b c d w (by omega) (by omega) (by omega) (by omega)
  have tld := fun w => told_no (a*c) (b*d) w (by omega) (by omega) (by omega) (by omega) ho
  clear t1 t2 t3 t4 u1 u2 u3 u4 u5 u6 u7 u8 u9 u10 a1 a2 b1 b2 c1 c2 d1 d2 ho
  have OPC := Lib.hid opc
  have TLD := Lib.hid tld
  clear opc tld
  have ix : ∀ w, (Instr.index 104 opsV (.int .i64 2)).run Tryz.prog w = .ok (.func (.func 50) #[] #[]) w := fun _ => by kernel_rfl
  unfold opsV at ix
  go_enter Tryz.func72, Tryz.ntmps72
  go_wp2_with (go_at_call 52; refine (need_ok _ _).mono ?_; rintro e w3 ⟨rfl, rfl⟩)
  refine wp_region_held_drew (S := fun w' => w'.cell? ⟨p, 0, none⟩ = some (.int .i64 2) ∧ w'.cell? ⟨q, 0, none⟩ = some (.int .i64 c) ∧ w'.cell? ⟨q, 1, none⟩ = some (.int .i64 d) ∧ w'.cell? ⟨r, 0, none⟩ = some (.int .i64 a) ∧ w'.cell? ⟨r, 1, none⟩ = some (.int .i64 b)) (by kernel_rfl) ⟨k0, q0, q1, r0, r1⟩ (fun hHeld => ?_)
  refine wpAnyH_take (i := 1) (v := .int .i64 2) rfl (by kernel_rfl) (by kernel_rfl) (by kernel_rfl) (fun _ _ _ h => h) (Or.inl ⟨by rfl, ?_⟩) hHeld ?_
  · rintro w ⟨s1, s2, s3, s4, s5⟩
    go_simp
  refine wpAnyH_take (i := 3) (v := fr a b) rfl (by kernel_rfl) (by kernel_rfl) (by kernel_rfl) (fun _ _ _ h => h) (Or.inl ⟨by rfl, ?_⟩) hHeld ?_
  · rintro w ⟨s1, s2, s3, s4, s5⟩
    go_simp
  refine wpAnyH_take (i := 5) (v := fr c d) rfl (by kernel_rfl) (by kernel_rfl) (by kernel_rfl) (fun _ _ _ h => h) (Or.inl ⟨by rfl, ?_⟩) hHeld ?_
  · rintro w ⟨s1, s2, s3, s4, s5⟩
    go_simp
  refine wpAnyH_ready (rs := [0]) (by kernel_rfl) (by simp) ?_
  refine AllReadyH.cons rfl (fun K hK => ?_) AllReadyH.nil
  go_simp
  refine (operations_any _).mono ?_
  rintro e v1 ⟨rfl, hg1⟩
  obtain ⟨hc1, hf1, hz1⟩ := hg1.at (n := w.heap.size) (by first | (simp; done) | (simp; omega) | omega)
  refine hK.out _ _ (by simp [*]) (fun hHeld => ?_)
  clear hK K
  refine wpAnyH_take (i := 2) (v := .func (.func 50) #[] #[]) rfl (by kernel_rfl) (by kernel_rfl) (by kernel_rfl) (fun _ _ _ h => h) (Or.inl ⟨by rfl, ?_⟩) hHeld ?_
  · rintro w ⟨s1, s2, s3, s4, s5⟩
    go_simp
  refine wpAnyH_ready (rs := [4]) (by kernel_rfl) (by simp) ?_
  refine AllReadyH.cons rfl (fun K hK => ?_) AllReadyH.nil
  go_simp
  refine (of_any _ _ _).mono ?_
  rintro e v2 ⟨rfl, hg2⟩
  obtain ⟨hc2, hf2, hz2⟩ := hg2.at (n := w.heap.size) (by first | (simp; done) | (simp; omega) | omega)
  refine hK.out _ _ (by simp [*]) (fun hHeld => ?_)
  clear hK K
  refine wpAnyH_ready (rs := [6]) (by kernel_rfl) (by simp) ?_
  refine AllReadyH.cons rfl (fun K hK => ?_) AllReadyH.nil
  go_simp
  refine (of_any _ _ _).mono ?_
  rintro e v3 ⟨rfl, hg3⟩
  obtain ⟨hc3, hf3, hz3⟩ := hg3.at (n := w.heap.size) (by first | (simp; done) | (simp; omega) | omega)
  refine hK.out _ _ (by simp [*]) (fun hHeld => ?_)
  clear hK K
  refine wpAnyH_ready (rs := [7]) (by kernel_rfl) (by simp) ?_
  refine AllReadyH.cons rfl (fun K hK => ?_) AllReadyH.nil
  go_simp
  refine (OPC.out _).mono ?_
  rintro e v4 ⟨rfl, hg4⟩
  obtain ⟨hc4, hf4, hz4⟩ := hg4.at (n := w.heap.size) (by first | (simp; done) | (simp; omega) | omega)
  refine hK.out _ _ (by simp [*]) (fun hHeld => ?_)
  clear hK K
  refine wpAnyH_ready (rs := [8]) (by kernel_rfl) (by simp) ?_
  refine AllReadyH.cons rfl (fun K hK => ?_) AllReadyH.nil
  go_simp
  refine (TLD.out _).mono ?_
  rintro e v5 ⟨rfl, hg5⟩
  exact ⟨rfl, rfl, GrL.of_gr (by repeat (first | exact Gr.refl _ | assumption | refine Gr.alloc ?_ _ | refine Gr.drew ?_ | refine Gr.drewN ?_ _ | refine Gr.set ?_ _ _ (by first | (simp; done) | (simp; omega)) | refine Gr.trans ?_ (by assumption)))⟩
end
section
open Go.RowKit Go.Shelf
set_option maxRecDepth 100000 in
set_option maxHeartbeats 1000000 in
theorem op3_ok (p q r o : Nat) (a b c d : Int) (w : World) (I : OpIn 3 p q r o a b c d w) (hz : c ≠ 0)
    (a1 : -1000000000 ≤ a) (a2 : a ≤ 1000000000) (b1 : 1 ≤ b) (b2 : b ≤ 1000000) (c1 : -1000000000 ≤ c) (c2 : c ≤ 1000000000) (d1 : 1 ≤ d) (d2 : d ≤ 1000000)
    (ho : Rm.okR (Rm.opN 3 a b c d) (Rm.opD 3 a b c d) = true) :
    Calls Tryz.prog 72 #[.pointer (some ⟨p, 0, none⟩), .pointer (some ⟨q, 0, none⟩), .pointer (some ⟨r, 0, none⟩), .pointer (some ⟨o, 0, none⟩)] w fun e w' => e = .returned (.tuple #[]) ∧ GrL [o] w w' ∧ Two o (Rm.redN (Rm.opN 3 a b c d) (Rm.opD 3 a b c d)) (Rm.redD (Rm.opN 3 a b c d) (Rm.opD 3 a b c d)) w' := by
  obtain ⟨k0, q0, q1, r0, r1, ⟨⟨x0, y0, o0, o1⟩, f0, f1⟩, n1, n2, n3⟩ := I
  have m1 : ¬ p = o := fun h => n1 h.symm
  have m2 : ¬ q = o := fun h => n2 h.symm
  have m3 : ¬ r = o := fun h => n3 h.symm
  have lp : p < w.heap.size := World.block_lt_of_cell? w _ k0
  have lq : q < w.heap.size := World.block_lt_of_cell? w _ q0
  have lr : r < w.heap.size := World.block_lt_of_cell? w _ r0
  have lo : o < w.heap.size := World.block_lt_of_cell? w _ o0
  obtain ⟨t1, t2, t3, t4⟩ := @Rm.op_bound 3 a b c d (by omega) (fun _ => hz) a1 a2 b1 b2 c1 c2 d1 d2
  obtain ⟨u1, u2⟩ := Rm.nd_bound a1 a2 d1 d2
  obtain ⟨u3, u4⟩ := Rm.nd_bound c1 c2 b1 b2
  obtain ⟨u5, u6⟩ := Rm.dd_bound b1 b2 d1 d2
  obtain ⟨u7, u8⟩ := Rm.nn_bound a1 a2 c1 c2
  have e6 : b*c = c*b := Int.mul_comm _ _
  have u9 : -1000000000000000 ≤ b*c := by omega
  have u10 : b*c ≤ 1000000000000000 := by omega
  clear e6
  simp only [Rm.opN, Rm.opD] at t1 t2 t3 t4 ho ⊢
  have hzb : (c != 0) = true := by rw [bne_iff_ne]; exact hz
  clear hz
  have opc := fun w => quotient_any a b c d w (by omega) (by omega) (by omega) (by omega) (by omega) (by omega) (by omega) (by omega)
  have tld := fun w => told_ok (Rm.quoN a b c d) (Rm.quoD a b c d) w (by omega) (by omega) (by omega) (by omega) ho
  clear t1 t2 t3 t4 u1 u2 u3 u4 u5 u6 u7 u8 u9 u10 a1 a2 b1 b2 c1 c2 d1 d2 ho
  have OPC := Lib.hid opc
  have TLD := Lib.hid tld
  clear opc tld
  have ix : ∀ w, (Instr.index 104 opsV (.int .i64 3)).run Tryz.prog w = .ok (.func (.func 88) #[] #[]) w := fun _ => by kernel_rfl
  unfold opsV at ix
  go_enter Tryz.func72, Tryz.ntmps72
  go_wp2_with (go_at_call 52; refine (need_ok _ _).mono ?_; rintro e w3 ⟨rfl, rfl⟩)
  go_region_held3 (fun w' => w'.cell? ⟨p, 0, none⟩ = some (.int .i64 3) ∧ w'.cell? ⟨q, 0, none⟩ = some (.int .i64 c) ∧ w'.cell? ⟨q, 1, none⟩ = some (.int .i64 d) ∧ w'.cell? ⟨r, 0, none⟩ = some (.int .i64 a) ∧ w'.cell? ⟨r, 1, none⟩ = some (.int .i64 b))
    (first | go_keep)
    ((first
      | (go_at_call 73; refine (operations_any _).mono ?_; rintro e v1 ⟨rfl, hg1⟩; obtain ⟨hc1, hf1, hz1⟩ := hg1.at (n := w.heap.size) (by first | (simp; done) | (simp; omega) | omega))
      | (go_at_call 34; refine (of_any _ _ _).mono ?_; rintro e v2 ⟨rfl, hg2⟩; obtain ⟨hc2, hf2, hz2⟩ := hg2.at (n := w.heap.size) (by first | (simp; done) | (simp; omega) | omega))
      | (go_at_call 88; refine (OPC.out _).mono ?_; rintro e v3 ⟨rfl, hg3⟩; obtain ⟨hc3, hf3, hz3⟩ := hg3.at (n := w.heap.size) (by first | (simp; done) | (simp; omega) | omega))
      | (go_at_call 31; refine (TLD.out _).mono ?_; rintro e v4 ⟨rfl, hg4⟩; obtain ⟨hc4, hf4, hz4⟩ := hg4.at (n := w.heap.size) (by first | (simp; done) | (simp; omega) | omega))))
  all_goals go_wp2
  all_goals go_end0
  all_goals exact ⟨rfl, ((GrL.of_gr (by repeat (first | exact Gr.refl _ | assumption | refine Gr.alloc ?_ _ | refine Gr.drew ?_ | refine Gr.drewN ?_ _ | refine Gr.set ?_ _ _ (by first | (simp; done) | (simp; omega)) | refine Gr.trans ?_ (by assumption)))).set _ _ (Or.inr (by simp))).set _ _ (Or.inr (by simp)), by simp [Two, go_sem, *]⟩
set_option maxRecDepth 100000 in
set_option maxHeartbeats 1000000 in
theorem op3_no (p q r o : Nat) (a b c d : Int) (w : World) (I : OpIn 3 p q r o a b c d w) (hz : c ≠ 0)
    (a1 : -1000000000 ≤ a) (a2 : a ≤ 1000000000) (b1 : 1 ≤ b) (b2 : b ≤ 1000000) (c1 : -1000000000 ≤ c) (c2 : c ≤ 1000000000) (d1 : 1 ≤ d) (d2 : d ≤ 1000000)
    (ho : Rm.okR (Rm.opN 3 a b c d) (Rm.opD 3 a b c d) = false) :
    Calls Tryz.prog 72 #[.pointer (some ⟨p, 0, none⟩), .pointer (some ⟨q, 0, none⟩), .pointer (some ⟨r, 0, none⟩), .pointer (some ⟨o, 0, none⟩)] w fun e w' => e = .panicked [{ v := giv 10, recovered := false }] ∧ GrL [] w w' := by
  obtain ⟨k0, q0, q1, r0, r1, ⟨⟨x0, y0, o0, o1⟩, f0, f1⟩, n1, n2, n3⟩ := I
  have m1 : ¬ p = o := fun h => n1 h.symm
  have m2 : ¬ q = o := fun h => n2 h.symm
  have m3 : ¬ r = o := fun h => n3 h.symm
  have lp : p < w.heap.size := World.block_lt_of_cell? w _ k0
  have lq : q < w.heap.size := World.block_lt_of_cell? w _ q0
  have lr : r < w.heap.size := World.block_lt_of_cell? w _ r0
  have lo : o < w.heap.size := World.block_lt_of_cell? w _ o0
  obtain ⟨t1, t2, t3, t4⟩ := @Rm.op_bound 3 a b c d (by omega) (fun _ => hz) a1 a2 b1 b2 c1 c2 d1 d2
  obtain ⟨u1, u2⟩ := Rm.nd_bound a1 a2 d1 d2
  obtain ⟨u3, u4⟩ := Rm.nd_bound c1 c2 b1 b2
  obtain ⟨u5, u6⟩ := Rm.dd_bound b1 b2 d1 d2
  obtain ⟨u7, u8⟩ := Rm.nn_bound a1 a2 c1 c2
  have e6 : b*c = c*b := Int.mul_comm _ _
  have u9 : -1000000000000000 ≤ b*c := by omega
  have u10 : b*c ≤ 1000000000000000 := by omega
  clear e6
  simp only [Rm.opN, Rm.opD] at t1 t2 t3 t4 ho ⊢
  have hzb : (c != 0) = true := by rw [bne_iff_ne]; exact hz
  clear hz
  have opc := fun w => quotient_any a b c d w (by omega) (by omega) (by omega) (by omega) (by omega) (by omega) (by omega) (by omega)
  have tld := fun w => told_no (Rm.quoN a b c d) (Rm.quoD a b c d) w (by omega) (by omega) (by omega) (by omega) ho
  clear t1 t2 t3 t4 u1 u2 u3 u4 u5 u6 u7 u8 u9 u10 a1 a2 b1 b2 c1 c2 d1 d2 ho
  have OPC := Lib.hid opc
  have TLD := Lib.hid tld
  clear opc tld
  have ix : ∀ w, (Instr.index 104 opsV (.int .i64 3)).run Tryz.prog w = .ok (.func (.func 88) #[] #[]) w := fun _ => by kernel_rfl
  unfold opsV at ix
  go_enter Tryz.func72, Tryz.ntmps72
  go_wp2_with (go_at_call 52; refine (need_ok _ _).mono ?_; rintro e w3 ⟨rfl, rfl⟩)
  refine wp_region_held_drew (S := fun w' => w'.cell? ⟨p, 0, none⟩ = some (.int .i64 3) ∧ w'.cell? ⟨q, 0, none⟩ = some (.int .i64 c) ∧ w'.cell? ⟨q, 1, none⟩ = some (.int .i64 d) ∧ w'.cell? ⟨r, 0, none⟩ = some (.int .i64 a) ∧ w'.cell? ⟨r, 1, none⟩ = some (.int .i64 b)) (by kernel_rfl) ⟨k0, q0, q1, r0, r1⟩ (fun hHeld => ?_)
  refine wpAnyH_take (i := 1) (v := .int .i64 3) rfl (by kernel_rfl) (by kernel_rfl) (by kernel_rfl) (fun _ _ _ h => h) (Or.inl ⟨by rfl, ?_⟩) hHeld ?_
  · rintro w ⟨s1, s2, s3, s4, s5⟩
    go_simp
  refine wpAnyH_take (i := 3) (v := fr a b) rfl (by kernel_rfl) (by kernel_rfl) (by kernel_rfl) (fun _ _ _ h => h) (Or.inl ⟨by rfl, ?_⟩) hHeld ?_
  · rintro w ⟨s1, s2, s3, s4, s5⟩
    go_simp
  refine wpAnyH_take (i := 5) (v := fr c d) rfl (by kernel_rfl) (by kernel_rfl) (by kernel_rfl) (fun _ _ _ h => h) (Or.inl ⟨by rfl, ?_⟩) hHeld ?_
  · rintro w ⟨s1, s2, s3, s4, s5⟩
    go_simp
  refine wpAnyH_ready (rs := [0]) (by kernel_rfl) (by simp) ?_
  refine AllReadyH.cons rfl (fun K hK => ?_) AllReadyH.nil
  go_simp
  refine (operations_any _).mono ?_
  rintro e v1 ⟨rfl, hg1⟩
  obtain ⟨hc1, hf1, hz1⟩ := hg1.at (n := w.heap.size) (by first | (simp; done) | (simp; omega) | omega)
  refine hK.out _ _ (by simp [*]) (fun hHeld => ?_)
  clear hK K
  refine wpAnyH_take (i := 2) (v := .func (.func 88) #[] #[]) rfl (by kernel_rfl) (by kernel_rfl) (by kernel_rfl) (fun _ _ _ h => h) (Or.inl ⟨by rfl, ?_⟩) hHeld ?_
  · rintro w ⟨s1, s2, s3, s4, s5⟩
    go_simp
  refine wpAnyH_ready (rs := [4]) (by kernel_rfl) (by simp) ?_
  refine AllReadyH.cons rfl (fun K hK => ?_) AllReadyH.nil
  go_simp
  refine (of_any _ _ _).mono ?_
  rintro e v2 ⟨rfl, hg2⟩
  obtain ⟨hc2, hf2, hz2⟩ := hg2.at (n := w.heap.size) (by first | (simp; done) | (simp; omega) | omega)
  refine hK.out _ _ (by simp [*]) (fun hHeld => ?_)
  clear hK K
  refine wpAnyH_ready (rs := [6]) (by kernel_rfl) (by simp) ?_
  refine AllReadyH.cons rfl (fun K hK => ?_) AllReadyH.nil
  go_simp
  refine (of_any _ _ _).mono ?_
  rintro e v3 ⟨rfl, hg3⟩
  obtain ⟨hc3, hf3, hz3⟩ := hg3.at (n := w.heap.size) (by first | (simp; done) | (simp; omega) | omega)
  refine hK.out _ _ (by simp [*]) (fun hHeld => ?_)
  clear hK K
  refine wpAnyH_ready (rs := [7]) (by kernel_rfl) (by simp) ?_
  refine AllReadyH.cons rfl (fun K hK => ?_) AllReadyH.nil
  go_simp
  refine (OPC.out _).mono ?_
  rintro e v4 ⟨rfl, hg4⟩
  obtain ⟨hc4, hf4, hz4⟩ := hg4.at (n := w.heap.size) (by first | (simp; done) | (simp; omega) | omega)
  refine hK.out _ _ (by simp [*]) (fun hHeld => ?_)
  clear hK K
  refine wpAnyH_ready (rs := [8]) (by kernel_rfl) (by simp) ?_
  refine AllReadyH.cons rfl (fun K hK => ?_) AllReadyH.nil
  go_simp
  refine (TLD.out _).mono ?_
  rintro e v5 ⟨rfl, hg5⟩
  exact ⟨rfl, rfl, GrL.of_gr (by repeat (first | exact Gr.refl _ | assumption | refine Gr.alloc ?_ _ | refine Gr.drew ?_ | refine Gr.drewN ?_ _ | refine Gr.set ?_ _ _ (by first | (simp; done) | (simp; omega)) | refine Gr.trans ?_ (by assumption)))⟩
end
end Go.Proofs.YtconhikflghkdaaGreatDoor
