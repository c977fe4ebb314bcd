/- rule/shrink.go: Cast itself. -/
import Derived.Test.YtconhikflghkdaaDoorMiss
import Derived.Test.YtconhikflghkdaaDoorMathB
import Derived.Test.YtconhikflghkdaaDoorNeigh
namespace Go.Proofs.YtconhikflghkdaaDoor
open Go.RowKit Go.Shelf
/-- Cast: whether it answers; a part of its answer -/
def caOk (a b c d n : Int) : Bool := ruOk a b c d && szOk n
def caV (a b c d n x : Int) : Int := if caOk a b c d n then x else 0
section
variable {P : Program} {ops : Array Oper} {Q : Exit → Act → World → Prop}
/-- the kernel's word on two late operations, the second one behind the first one -/
def late12 (ops : Array Oper) (pl : List Plan) (i j : Nat) : Bool :=
  planOk ops pl && noDies pl && (Region.ready .any ops (lateListed pl) == [i]) && (Region.ready .any ops ((lateListed pl).setIfInBounds i true) == [j]) &&
  (Region.ready .any ops (((lateListed pl).setIfInBounds i true).setIfInBounds j true)).isEmpty && decide (2 ≤ cntF (lateListed pl) ops.size)
theorem wp_region_plan12 {id : Nat} {w : World} {a0 : Act} (i j : Nat) (pl : List Plan) {F : (Nat → Nat) → Act} (hm : P.follows .mixedOrders = true) (hok : late12 ops pl i j = true)
    (hE : ∀ G, finAct G a0 0 ops.toList pl = F G)
    (hO : OwesAll P ops pl w F ops.toList pl)
    (hF : ∀ G u, Gr w u → Lone P ops Q i (Lone P ops Q j (fun a w => Q .normal a w)) (F G) u) :
    (Code.region id ops true).wp P Q a0 w := by
  unfold late12 at hok
  simp only [Bool.and_eq_true, beq_iff_eq, decide_eq_true_eq] at hok
  obtain ⟨⟨⟨⟨⟨h1, h0⟩, h2⟩, h3⟩, h5⟩, h7⟩ := hok
  refine wp_region_late pl hm h1 hE hO (noDies_spec h0) fun _ G u hg hb hd fuel hc => ?_
  have k1 := hF G u hg
  obtain ⟨f, rfl⟩ : ∃ f, fuel = f + 1 + 1 := ⟨fuel - 2, by omega⟩
  refine wpAny_all h2 (by simp) fun k hk => ?_
  simp only [List.mem_singleton] at hk
  subst hk
  refine wpOp_mono (fun a' w' h => wpAny_all h3 (by simp) fun k hk => ?_) k1.wpOp
  simp only [List.mem_singleton] at hk
  subst hk
  exact wpOp_mono (fun a' w' h => wpAny_done (by simpa using h5) h f) h.wpOp
end
set_option maxRecDepth 100000 in
set_option maxHeartbeats 2000000 in
theorem Cast1_yes (p q o o2 : Nat) (P Q b d N D N' D' : Int) (w : World) (hp : w.heap[p]? = some (.cells #[.int .i64 P, .int .i64 d] 73 (0, 0))) (hq : w.heap[q]? = some (.cells #[.int .i64 Q, .int .i64 b] 73 (0, 0)))
    (ho : w.heap[o]? = some (.cells #[.int .i64 0, .int .i64 0] 23 (0, 0))) (ho2 : w.heap[o2]? = some (.cells #[.int .i64 0, .int .i64 0] 23 (0, 0))) (hne : o ≠ o2)
    (T1 : Hid (∀ w, Calls Tryd.prog 109 #[fr P d] w fun e w' => e = .returned (fr N D) ∧ Gr w w')) (T2 : Hid (∀ w, Calls Tryd.prog 109 #[fr Q b] w fun e w' => e = .returned (fr N' D') ∧ Gr w w')) :
    Calls Tryd.prog 108 #[.pointer (some ⟨p, 0, none⟩), .pointer (some ⟨q, 0, none⟩), .pointer (some ⟨o, 0, none⟩), .pointer (some ⟨o2, 0, none⟩)] w fun e w' => e = .returned (.tuple #[]) ∧ GrL [o, o2] w w' ∧
      w'.heap[o]? = some (.cells #[.int .i64 N, .int .i64 D] 23 (0, 0)) ∧ w'.heap[o2]? = some (.cells #[.int .i64 N', .int .i64 D'] 23 (0, 0)) := by
  have hne' : o2 ≠ o := fun h => hne h.symm
  have hn1 : ¬ o = o2 := hne
  have hn2 : ¬ o2 = o := hne'
  obtain ⟨pc, pf, pz⟩ := blk_cells hp
  obtain ⟨qc, qf, qz⟩ := blk_cells hq
  go_enter Tryd.func108, Tryd.ntmps108
  go_upto_region 0 with (fail)
  refine wp_region_plan12 4 5 [.val (fr P d), .val (fr N D), .val (fr Q b), .val (fr N' D'), .later, .later] (by kernel_rfl) (by kernel_rfl) (fun G => by first | (simp only [finAct, Act.put, Plan.value, List.setIfInBounds_toArray, List.set_cons_zero, List.set_cons_succ]; rfl) | (simp only [finAct, Act.put, Plan.value, List.setIfInBounds_toArray, List.set_cons_zero, List.set_cons_succ, Nat.zero_add, Nat.reduceAdd]; rfl)) ?_ ?_
  · refine ⟨?_, ?_, ?_, ?_, ?_, ?_, trivial⟩ <;> (first | exact trivial | (intro G; first | (refine ⟨by kernel_rfl, fun u hu => ?_⟩; obtain ⟨hc, hf, hz⟩ := hu.cells; go_simp; first | exact ⟨rfl, Gr.refl _⟩ | skip) | (refine ⟨by kernel_rfl, fun u T z hu hG hj hb => ?_⟩; cases hj; obtain ⟨hbc, hbf, hbz⟩ := blk_cells hb; first | (refine ⟨_, ?_, ((GrL.of_gr (Gr.refl _)).set _ _ (Or.inr (by simp))).set _ _ (Or.inr (by simp)), put_two hb⟩; go_simp; done) | (refine ⟨_, ?_, (GrL.of_gr (Gr.refl _)).set _ _ (Or.inr (by simp)), put_one hb⟩; go_simp; done)) | (refine ⟨by kernel_rfl, fun u => ?_⟩; go_simp; done) | (show _ = false; kernel_rfl)))
    · exact T1.out _
    · exact T2.out _
  · intro G u hg
    clear hp hq pc pf pz qc qf qz
    have o1 := hg.heap ho
    have o3 := hg.heap ho2
    obtain ⟨oc, of, oz⟩ := blk_cells o1
    obtain ⟨oc2, of2, oz2⟩ := blk_cells o3
    have z0 : w.heap.size ≤ u.heap.size := hg.b.size
    refine ⟨⟨none, _, _, _, _, _⟩, rfl, rfl, ?_⟩
    go_simp
    refine ⟨⟨none, _, _, _, _, _⟩, rfl, rfl, ?_⟩
    go_simp
    go_end0
    exact ⟨rfl, ((((GrL.of_gr hg).set _ _ (Or.inr (by simp))).set _ _ (Or.inr (by simp))).set _ _ (Or.inr (by simp))).set _ _ (Or.inr (by simp)), keep2 _ _ _ (put_two o1) hne, put_two (keep2 _ _ _ o3 hne')⟩
set_option maxRecDepth 100000 in
set_option maxHeartbeats 2000000 in
theorem Cast_bad (a b c d n : Int) (w : World) (h : (ruOk a b c d && szOk n) = false) :
    Calls Tryd.prog 45 #[ru a b c d, .int .i64 n] w fun e w' => e = .returned (.tuple #[fr 0 0, fr 0 0, .int .i64 1]) ∧ Gr w w' := by
  have AT := Lib.hid (fun (s cap : Nat) W p => asked_one s cap a b c d n W p)
  simp only [h] at AT
  clear h
  go_enter Tryd.func45, Tryd.ntmps45
  go_wp2_with fail
  refine (AT.out _ _ _ (by simp [go_sem])).mono ?_
  rintro e w1 ⟨rfl, hg1⟩
  rw [show Rm.err false 1 = 1 from rfl]
  obtain ⟨hc1, hf1, hz1⟩ := hg1.at (n := w.heap.size + 4) (by first | (simp; done) | (simp; omega) | omega)
  have : ¬ w1.heap.size = w.heap.size := (by omega); have : ¬ w.heap.size = w1.heap.size := (by omega); have : w.heap.size < w1.heap.size := (by omega); have : w.heap.size ≤ w1.heap.size := (by omega); have : ¬ w1.heap.size = w.heap.size + 1 := (by omega); have : ¬ w.heap.size + 1 = w1.heap.size := (by omega); have : w.heap.size + 1 < w1.heap.size := (by omega); have : w.heap.size + 1 ≤ w1.heap.size := (by omega); have : ¬ w1.heap.size = w.heap.size + 2 := (by omega); have : ¬ w.heap.size + 2 = w1.heap.size := (by omega); have : w.heap.size + 2 < w1.heap.size := (by omega); have : w.heap.size + 2 ≤ w1.heap.size := (by omega); have : ¬ w1.heap.size = w.heap.size + 3 := (by omega); have : ¬ w.heap.size + 3 = w1.heap.size := (by omega); have : w.heap.size + 3 < w1.heap.size := (by omega); have : w.heap.size + 3 ≤ w1.heap.size := (by omega)
  go_wp2
  all_goals (try go_region)
  all_goals (try go_wp2)
  all_goals exact bodyPost_ret (v := .tuple #[fr 0 0, fr 0 0, .int .i64 1]) (by simp [results, Tryd.results45, go_sem, *]) rfl ⟨rfl, (by repeat (first | exact Gr.refl _ | assumption | refine Gr.alloc ?_ _ | refine Gr.drew ?_ | refine Gr.drewN ?_ _ | refine Gr.set ?_ _ _ (by first | (simp; done) | (simp; omega)) | refine Gr.trans ?_ (by assumption)))⟩
set_option maxRecDepth 100000 in
set_option maxHeartbeats 4000000 in
theorem Cast_yes (a b c d n : Int) (w : World) (h : (ruOk a b c d && szOk n) = true) :
    Calls Tryd.prog 45 #[ru a b c d, .int .i64 n] w fun e w' => e = .returned (.tuple #[fr (Rm.redN (n*(d-c)) d) (Rm.redD (n*(d-c)) d), fr (Rm.redN (n*(b-a)) b) (Rm.redD (n*(b-a)) b), .int .i64 0]) ∧ Gr w w' := by
  have hmf : ∀ (fn : Fn) (first cap : Array Value) (w : World), (Instr.makeFunc fn first cap).run Tryd.prog w = .ok (.func fn first cap) w := fun _ _ _ _ => rfl
  have AT := Lib.hid (fun (s cap : Nat) W p => asked_one s cap a b c d n W p)
  simp only [h] at AT
  have HR : RuB a b c d ∧ (1 ≤ n ∧ n ≤ 1000000) := by
    simp only [szOk, Bool.and_eq_true, decide_eq_true_eq] at h
    exact ⟨RuB.of h.1, h.2.1, h.2.2⟩
  obtain ⟨R, n1, n2⟩ := HR
  have CA := Lib.hid (fun w => cast_ok w R n1 n2)
  have x1 := left_bd n1 n2 R.a0 R.b1 R.b2 R.ab
  have x2 := left_bd n1 n2 R.c0 R.d1 R.d2 R.cd
  have db := R.d2
  have bb := R.b2
  have d1 := R.d1
  have b1 := R.b1
  have T1 := Lib.hid (fun w => told_ok (n*(d-c)) d w d1 (by omega) (by omega) (by omega) (Rm.okR_of (by omega) (by omega) d1 (by omega)))
  have T2 := Lib.hid (fun w => told_ok (n*(b-a)) b w b1 (by omega) (by omega) (by omega) (Rm.okR_of (by omega) (by omega) b1 (by omega)))
  clear h R n1 n2 x1 x2 db bb d1 b1
  generalize Rm.redN (n*(d-c)) d = N at *
  generalize Rm.redD (n*(d-c)) d = D at *
  generalize Rm.redN (n*(b-a)) b = N' at *
  generalize Rm.redD (n*(b-a)) b = D' at *
  generalize n*(d-c) = P at *
  generalize n*(b-a) = Q at *
  go_enter Tryd.func45, Tryd.ntmps45
  go_wp2_with fail
  refine (AT.out _ _ _ (by simp [go_sem])).mono ?_
  rintro e w1 ⟨rfl, hg1⟩
  rw [show Rm.err true 1 = 0 from rfl]
  obtain ⟨hc1, hf1, hz1⟩ := hg1.at (n := w.heap.size + 4) (by first | (simp; done) | (simp; omega) | omega)
  have : ¬ w1.heap.size = w.heap.size := (by omega); have : ¬ w.heap.size = w1.heap.size := (by omega); have : w.heap.size < w1.heap.size := (by omega); have : w.heap.size ≤ w1.heap.size := (by omega); have : ¬ w1.heap.size = w.heap.size + 1 := (by omega); have : ¬ w.heap.size + 1 = w1.heap.size := (by omega); have : w.heap.size + 1 < w1.heap.size := (by omega); have : w.heap.size + 1 ≤ w1.heap.size := (by omega); have : ¬ w1.heap.size = w.heap.size + 2 := (by omega); have : ¬ w.heap.size + 2 = w1.heap.size := (by omega); have : w.heap.size + 2 < w1.heap.size := (by omega); have : w.heap.size + 2 ≤ w1.heap.size := (by omega); have : ¬ w1.heap.size = w.heap.size + 3 := (by omega); have : ¬ w.heap.size + 3 = w1.heap.size := (by omega); have : w.heap.size + 3 < w1.heap.size := (by omega); have : w.heap.size + 3 ≤ w1.heap.size := (by omega)
  go_wp2_with fail
  refine (CA.out _).mono ?_
  rintro e w2 ⟨rfl, hg2⟩
  have hz2 := hg2.b.size
  simp only [World.size_alloc] at hz2
  have b0 : ((((w.alloc (.cells #[.int .i64 a, .int .i64 b, .int .i64 c, .int .i64 d] 34)).alloc (.cells #[.int .i64 0, .int .i64 0] 23)).alloc (.cells #[.int .i64 0, .int .i64 0] 23)).alloc (.cells #[.int .i64 n] 3)).heap[w.heap.size + 1]? = some (.cells #[.int .i64 0, .int .i64 0] 23 (0, 0)) :=
    ((Gr.refl _).alloc _).heap (((Gr.refl _).alloc _).heap (by have := heap_alloc_self (w.alloc (.cells #[.int .i64 a, .int .i64 b, .int .i64 c, .int .i64 d] 34)) (.cells #[.int .i64 0, .int .i64 0] 23); rwa [World.size_alloc] at this))
  have b2 : ((((w.alloc (.cells #[.int .i64 a, .int .i64 b, .int .i64 c, .int .i64 d] 34)).alloc (.cells #[.int .i64 0, .int .i64 0] 23)).alloc (.cells #[.int .i64 0, .int .i64 0] 23)).alloc (.cells #[.int .i64 n] 3)).heap[w.heap.size + 1 + 1]? = some (.cells #[.int .i64 0, .int .i64 0] 23 (0, 0)) :=
    ((Gr.refl _).alloc _).heap (by have := heap_alloc_self ((w.alloc (.cells #[.int .i64 a, .int .i64 b, .int .i64 c, .int .i64 d] 34)).alloc (.cells #[.int .i64 0, .int .i64 0] 23)) (.cells #[.int .i64 0, .int .i64 0] 23); simpa only [World.size_alloc] using this)
  have u1 := hg2.heap (((Gr.refl _).alloc _).heap (hg1.heap b0))
  have u2 := hg2.heap (((Gr.refl _).alloc _).heap (hg1.heap b2))
  have GW : Gr w w2 := (by repeat (first | exact Gr.refl _ | assumption | refine Gr.alloc ?_ _ | refine Gr.drew ?_ | refine Gr.drewN ?_ _ | refine Gr.set ?_ _ _ (by first | (simp; done) | (simp; omega)) | refine Gr.trans ?_ (by assumption)))
  clear hc1 hf1 b0 b2
  go_wp2_with fail
  have v1 := heap_alloc_self w2 (.cells #[.int .i64 P, .int .i64 d] 73)
  have v2 := heap_alloc_self (w2.alloc (.cells #[.int .i64 P, .int .i64 d] 73)) (.cells #[.int .i64 Q, .int .i64 b] 73)
  rw [World.size_alloc] at v2
  have Y := Cast1_yes w2.heap.size (w2.heap.size + 1) (w.heap.size + 1) (w.heap.size + 1 + 1) P Q b d N D N' D'
  refine (tried_ok 108 _ [w.heap.size + 1, w.heap.size + 1 + 1] (fun W => W.heap[w.heap.size + 1]? = some (.cells #[.int .i64 N, .int .i64 D] 23 (0, 0)) ∧ W.heap[w.heap.size + 1 + 1]? = some (.cells #[.int .i64 N', .int .i64 D'] 23 (0, 0))) _ (by simp; omega) (enters_of Tryd.func108 (by kernel_rfl) rfl) (Y _ ?_ ?_ ?_ ?_ (by omega) T1 T2)).mono ?_
  · exact Gr.heap ((Gr.refl _).alloc _) (Gr.heap ((Gr.refl _).alloc _) v1)
  · exact Gr.heap ((Gr.refl _).alloc _) v2
  · exact Gr.heap (((Gr.refl _).alloc _).alloc _ |>.alloc _) u1
  · exact Gr.heap (((Gr.refl _).alloc _).alloc _ |>.alloc _) u2
  rintro e w3 ⟨rfl, hg3, w0, ⟨k1, k2⟩, hg4⟩
  have z1 := heap_lt k1
  have z2 := heap_lt k2
  have h1 : w3.heap[w.heap.size + 1]? = _ := (hg4.block _ z1 (by simp; omega)).trans k1
  have h2 : w3.heap[w.heap.size + 1 + 1]? = _ := (hg4.block _ z2 (by simp; omega)).trans k2
  obtain ⟨c1, f1, y1⟩ := blk_cells h1
  obtain ⟨c2, f2, y2⟩ := blk_cells h2
  have gfin : Gr w w3 := GrL.gr (l := [w.heap.size + 1, w.heap.size + 1 + 1]) (w1 := w2) GW ((GrL.of_gr (((Gr.refl w2).alloc _).alloc _)).trans hg3) (by simp; omega)
  clear h1 h2 k1 k2 z1 z2 u1 u2 v1 v2 hg3 hg4
  go_wp2_with fail
  all_goals (try go_region)
  all_goals (try go_wp2)
  all_goals exact bodyPost_ret (v := .tuple #[fr N D, fr N' D', .int .i64 0]) (by simp [results, Tryd.results45, go_sem, *]) rfl ⟨rfl, (by repeat (first | exact Gr.refl _ | assumption | refine Gr.alloc ?_ _ | refine Gr.drew ?_ | refine Gr.drewN ?_ _ | refine Gr.set ?_ _ _ (by first | (simp; done) | (simp; omega)) | refine Gr.trans ?_ (by assumption)))⟩
theorem Cast_any (a b c d n : Int) (w : World) :
    Calls Tryd.prog 45 #[ru a b c d, .int .i64 n] w fun e w' => e = .returned (.tuple #[fr (caV a b c d n (Rm.redN (n*(d-c)) d)) (caV a b c d n (Rm.redD (n*(d-c)) d)), fr (caV a b c d n (Rm.redN (n*(b-a)) b)) (caV a b c d n (Rm.redD (n*(b-a)) b)), .int .i64 (Rm.err (caOk a b c d n) 1)]) ∧ Gr w w' := by
  cases h : caOk a b c d n
  · have e : ∀ x, caV a b c d n x = 0 := fun x => by simp [caV, h]
    simp only [e, Rm.err_false rfl]
    exact Cast_bad a b c d n w h
  · have e : ∀ x, caV a b c d n x = x := fun x => by simp [caV, h]
    simp only [e, Rm.err_true rfl]
    exact Cast_yes a b c d n w h
end Go.Proofs.YtconhikflghkdaaDoor
