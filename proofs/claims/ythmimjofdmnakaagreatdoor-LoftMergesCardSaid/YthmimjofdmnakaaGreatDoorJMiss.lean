/- loft: Clone of records at any address, missing, Missing. -/
import Derived.Test.YthmimjofdmnakaaGreatDoorJDelF
namespace Go.Proofs.YthmimjofdmnakaaGreatDoor
open Go.RowKit Go.Shelf Go.Lib
set_option maxRecDepth 100000 in
set_option maxHeartbeats 2000000 in
theorem CloneE_any (A : Addr) (c : Nat) (w : World) :
    Calls Tryz.prog 66 #[.slice (some A) 0 c] w fun e w' => ∃ v', e = .returned v' ∧ w'.ownsRow w.heap.size 23 4 v' 0 [] ∧ Gr w w' := by
  have q22 : ∀ w, (binOp .eql 32 (.slice (some A) 0 c) (.slice none 0 0)).run Tryz.prog w = .ok (.bool (some A).isNone) w := fun w => Lib.run_eql_slice_nil w _ _ (some A) 0 c 0 0 Tryz.underlying32
  go_enter Tryz.func66, Tryz.ntmps66
  go_wp2
  go_ret
  refine ⟨_, rfl, ?_, ?_⟩
  · exact World.ownsRow_made w #[] 0 (Nat.le_refl _) (Nat.zero_le _) (by simp)
  · exact (Gr.refl w).alloc _
theorem RecsAt.flat {w : World} {l : List Rc} {g o cap : Nat} (h : RecsAt w (.slice (some ⟨g, o, none⟩) l.length cap) l) : ∀ j u, (rcs l)[j]? = some u → w.cell? ⟨g, o + j, none⟩ = some u := by
  obtain ⟨a, cap', hv, hc, hr⟩ := h
  injection hv with ha _ hcc
  subst hcc
  subst ha
  intro j u hu
  have hj : j < l.length * 4 := by
    have := (List.getElem?_eq_some_iff.1 hu).1
    rwa [rcs_len] at this
  have h1 : j / 4 < l.length := by omega
  obtain ⟨g2, o2, hge, _, c0, c1, c2, c3⟩ := hr (j / 4) h1
  obtain ⟨rfl, rfl⟩ : g2 = g ∧ o2 = o := by injection hge with h; injection h with h h2; exact ⟨h.symm, h2.symm⟩
  have h4 : j % 4 < 4 := Nat.mod_lt _ (by omega)
  have e : j = j / 4 * 4 + j % 4 := by omega
  rw [e, rcs_at l (j/4) (j%4) h1 h4] at hu
  rw [e, ← Nat.add_assoc]
  generalize j % 4 = r at *
  match r, h4 with
  | 0, _ => exact c0.trans hu
  | 1, _ => exact c1.trans hu
  | 2, _ => exact c2.trans hu
  | 3, _ => exact c3.trans hu
theorem CloneA_any (v : Value) (l : List Rc) (w : World) (hr : RecsAt w v l) (hl : l.length ≤ 1000000) :
    Calls Tryz.prog 66 #[v] w fun e w' => ∃ v', e = .returned v' ∧ w'.ownsRow w.heap.size 23 4 v' l.length (rcs l) ∧ Gr w w' := by
  have hr0 := hr
  obtain ⟨a, cap, rfl, hcap, hcell⟩ := hr
  rcases Nat.eq_zero_or_pos l.length with h0 | hpos
  · obtain rfl := List.eq_nil_of_length_eq_zero h0
    cases a with
    | none =>
      refine (AnyE.slices_Clone_nil Tryz.cloneRec _ cap w).mono ?_
      rintro e w' ⟨rfl, rfl⟩
      exact ⟨_, rfl, World.ownsRow_nil _ _ _ _, Gr.refl _⟩
    | some A => exact CloneE_any A cap w
  · obtain ⟨g, o, rfl, -⟩ := hcell 0 hpos
    obtain ⟨i0, hi, hz0, hz1, hz2⟩ := info_parts info_rec
    refine (AnyE.slices_Clone Tryz.cloneRec i0 _ 4 40 hi hz0 hz1 hz2 rfl (by omega) Tryz.sizeOf23 g o l.length cap (rcs l) w (rcs_len l) (by unfold maxLen; omega) (by omega) hr0.flat (rcs_one l)).mono ?_
    rintro e w' ⟨v', rfl, h1, _, h2⟩
    exact ⟨v', rfl, h1, Gr.of_below h2⟩
set_option maxRecDepth 100000 in
set_option maxHeartbeats 2000000 in
theorem IdxR_nil (v : Value) (w : World) :
    Calls Tryz.prog 136 #[.slice none 0 0, v] w fun e w' => e = .returned (.slice none 0 0) ∧ w' = w := by
  have IX : Hid (Calls Tryz.prog 199 #[.slice none 0 0, v] w fun e w' => e = .returned (.int .i64 (-1)) ∧ w' = w) := Lib.hid (by
    go_enter Tryz.func199, Tryz.ntmps199
    go_wp2
    refine wp_loop_rounds 3 ?_
    rw [rounds_succ]
    go_wp2
    go_ret
    exact ⟨rfl, rfl⟩)
  go_enter Tryz.func136, Tryz.ntmps136
  go_wp2_with fail
  refine IX.out.mono ?_
  rintro e w1 ⟨rfl, rfl⟩
  go_wp2
  go_ret
  exact ⟨rfl, rfl⟩
theorem lackR_not (f : Nat → Int) (l : List Rc) : lackR f l = l.filter fun x => !decide (x.k ≤ f x.s.toNat) := by
  unfold lackR
  congr 1
  funext x
  by_cases h : x.k ≤ f x.s.toNat
  · rw [decide_eq_true h, decide_eq_false (by omega)]; rfl
  · rw [decide_eq_false h, decide_eq_true (by omega)]; rfl
set_option maxRecDepth 100000 in
set_option maxHeartbeats 4000000 in
theorem missing_any (v : Value) (l : List Rc) (q : Nat) (f : Nat → Int) (w : World) (hv : RecsAt w v l) (hl : l.length ≤ 1000000) (hs : ∀ j (hj : j < l.length), 0 ≤ l[j].s ∧ l[j].s ≤ 4) (hq : ∀ s, s < 5 → w.cell? ⟨q, s, none⟩ = some (.int .i64 (f s))) (hql : q < w.heap.size) :
    Calls Tryz.prog 75 #[v, .slice (some ⟨q, 0, none⟩) 5 5] w fun e w' => ∃ v', e = .returned v' ∧ w'.ownsRow w.heap.size 23 4 v' (lackR f l).length (rcs (lackR f l)) ∧ Gr w w' := by
  have g0 : Gr w (w.alloc (.cells #[.slice (some ⟨q, 0, none⟩) 5 5] 58)) := (Gr.refl w).alloc _
  have bx := heap_alloc_self w (.cells #[.slice (some ⟨q, 0, none⟩) 5 5] 58)
  have CL := Lib.hid (CloneA_any v l _ (hv.gr g0) hl)
  have HQ := Lib.hid (fun (u : World) (g : Gr w u) (s : Nat) (h : s < 5) => (g.cells.1 q s hql).trans (hq s h))
  have HQL := Lib.hid hql
  have HS := Lib.hid hs
  have hLN := lackR_not f l
  have HLN := Lib.hid hLN
  clear hv hs hq hql hLN
  go_enter Tryz.func75, Tryz.ntmps75
  go_wp2_with fail
  have hWz : (w.alloc (.cells #[.slice (some ⟨q, 0, none⟩) 5 5] 58)).heap.size = w.heap.size + 1 := by rw [World.size_alloc]
  generalize w.alloc (.cells #[.slice (some ⟨q, 0, none⟩) 5 5] 58) = W at *
  obtain ⟨px, hpx⟩ : ∃ p, w.heap.size = p := ⟨_, rfl⟩
  have HPX := Lib.hid hpx
  rw [hpx] at bx hWz
  try simp only [hpx]
  clear hpx
  have HWZ := Lib.hid hWz
  clear hWz
  refine CL.out.mono ?_
  rintro e w1 ⟨v1, rfl, hown, hg1⟩
  clear CL
  obtain ⟨a1, c1, rfl⟩ := own_slice hown
  have bx1 := hg1.heap bx
  have G := g0.trans hg1
  have MI : Hid (∀ j (hj : j < l.length) u, GrL (Value.slice a1 l.length c1).ownBlock.toList w1 u → Calls Tryz.prog 137 #[l[j].v, .pointer (some ⟨px, 0, none⟩)] u fun e w' => e = .returned (.bool (!(fun x : Rc => !decide (x.k ≤ f x.s.toNat)) l[j])) ∧ Gr u w') := Lib.hid (fun j hj u hu => by
    have hne : ∀ b, b < W.heap.size → b ∉ (Value.slice a1 l.length c1).ownBlock.toList := fun b hb hm => by
      have := (hown.lt b (by simpa using hm)).1
      omega
    have hpl : px < W.heap.size := by rw [HWZ.out]; omega
    have hql' : q < W.heap.size := Nat.lt_of_lt_of_le HQL.out g0.b.size
    have b1 := (hu.block px (heap_lt bx1) (hne px hpl)).trans bx1
    have hz1 : q < w1.heap.size := Nat.lt_of_lt_of_le hql' hg1.b.size
    have e1 : ∀ s, s < 5 → u.cell? ⟨q, s, none⟩ = some (.int .i64 (f s)) := fun s h => (World.cell?_of_block (hu.block q hz1 (hne q hql'))).trans (HQ.out _ G s h)
    have := missing1_any l[j] px q f u ((blk_cells b1).1 0) e1 (heap_lt b1) (Nat.lt_of_lt_of_le hz1 hu.size) (HS.out j hj).1 (HS.out j hj).2
    simpa using this)
  have DE : Hid (Calls Tryz.prog 136 #[.slice a1 l.length c1, .func (.func 137) #[] #[.pointer (some ⟨px, 0, none⟩)]] w1 fun e w' => ∃ v', e = .returned v' ∧ w'.ownsRow W.heap.size 23 4 v' (lackR f l).length (rcs (lackR f l)) ∧ Gr w w') := Lib.hid (by
    rw [HLN.out]
    have hown0 := hown
    rcases hown.2 with ⟨hn, hz⟩ | ⟨g, cap, cur, hvv, _⟩
    · obtain rfl := List.eq_nil_of_length_eq_zero hz
      injection hn with ha _ hcc
      subst ha; subst hcc
      refine (IdxR_nil _ w1).mono ?_
      rintro e w' ⟨rfl, rfl⟩
      exact ⟨_, rfl, World.ownsRow_nil _ _ _ _, G⟩
    · injection hvv with ha _ hcc
      subst ha; subst hcc
      refine (DelR_any g c1 W.heap.size px l (fun x => !decide (x.k ≤ f x.s.toNat)) w1 hown0 hl (fun j hj u hu => MI.out j hj u (by simpa [Value.ownBlock] using hu))).mono ?_
      rintro e w' ⟨v', rfl, h1, h2⟩
      refine ⟨v', rfl, h1, GrL.gr G h2 (fun i hi => ?_)⟩
      obtain rfl := List.mem_singleton.1 hi
      have := (hown0.lt i rfl).1
      have := g0.b.size
      omega)
  clear MI hown bx bx1 hg1 HLN
  go_wp2_with fail
  refine DE.out.mono ?_
  rintro e w2 ⟨v', rfl, h1, h2⟩
  have HN := Lib.hid (World.ownsRow.mono (base' := px) h1 (by rw [HWZ.out]; omega))
  clear h1 DE
  go_wp2
  go_ret
  exact ⟨_, rfl, by rw [HPX.out]; exact HN.out, h2⟩
set_option maxRecDepth 100000 in
set_option maxHeartbeats 2000000 in
theorem Missing_no (n : Int) (v : Value) (a0 a1 a2 a3 a4 : Int) (i0 e0 : Int) (w : World) (h0 : e0 ≠ 0)
    (hc : ∀ u, Gr w u → Calls Tryz.prog 16 #[.int .i64 n, v] u fun e w' => e = .returned (.tuple #[.int .i64 i0, .int .i64 e0]) ∧ Gr u w') :
    Calls Tryz.prog 22 #[.int .i64 n, v, havV a0 a1 a2 a3 a4] w fun e w' => e = .returned (.tuple #[.slice none 0 0, .int .i64 e0]) ∧ Gr w w' := by
  have CH := Lib.hid hc
  have g0 : Gr w (w.alloc (.cells #[.int .i64 a0, .int .i64 a1, .int .i64 a2, .int .i64 a3, .int .i64 a4] 35)) := (Gr.refl w).alloc _
  have h1 : (e0 == 0) = false := by simpa using h0
  have h2 : decide (e0 = 0) = false := by simpa using h0
  clear hc
  go_enter Tryz.func22, Tryz.ntmps22
  go_wp2_with fail
  refine (CH.out _ g0).mono ?_
  rintro e w1 ⟨rfl, hg1⟩
  have G := g0.trans hg1
  go_wp2
  go_ret2
  exact ⟨rfl, G⟩
set_option maxRecDepth 100000 in
set_option maxHeartbeats 2000000 in
theorem Missing_yes (n : Int) (v : Value) (l : List Rc) (a0 a1 a2 a3 a4 : Int) (w : World) (hv : RecsAt w v l) (hl : l.length ≤ 1000000) (hs : ∀ j (hj : j < l.length), 0 ≤ l[j].s ∧ l[j].s ≤ 4)
    (hc : ∀ u, Gr w u → Calls Tryz.prog 16 #[.int .i64 n, v] u fun e w' => e = .returned (.tuple #[.int .i64 0, .int .i64 0]) ∧ Gr u w') :
    Calls Tryz.prog 22 #[.int .i64 n, v, havV a0 a1 a2 a3 a4] w fun e w' => ∃ v', e = .returned (.tuple #[v', .int .i64 0]) ∧ w'.ownsRow w.heap.size 23 4 v' (lackR (hav a0 a1 a2 a3 a4) l).length (rcs (lackR (hav a0 a1 a2 a3 a4) l)) ∧ Gr w w' := by
  have CH := Lib.hid hc
  have bx := heap_alloc_self w (.cells #[.int .i64 a0, .int .i64 a1, .int .i64 a2, .int .i64 a3, .int .i64 a4] 35)
  have g0 : Gr w (w.alloc (.cells #[.int .i64 a0, .int .i64 a1, .int .i64 a2, .int .i64 a3, .int .i64 a4] 35)) := (Gr.refl w).alloc _
  have LA := Lib.hid (fun u (g : Gr (w.alloc (.cells #[.int .i64 a0, .int .i64 a1, .int .i64 a2, .int .i64 a3, .int .i64 a4] 35)) u) => missing_any v l w.heap.size (hav a0 a1 a2 a3 a4) u (hv.gr (g0.trans g)) hl hs (fun s h => ((blk_cells (g.heap bx)).1 s).trans (hav_at a0 a1 a2 a3 a4 h)) (heap_lt (g.heap bx)))
  generalize lackR (hav a0 a1 a2 a3 a4) l = R at *
  clear hc hv hs bx
  go_enter Tryz.func22, Tryz.ntmps22
  go_wp2_with fail
  generalize w.alloc (.cells #[.int .i64 a0, .int .i64 a1, .int .i64 a2, .int .i64 a3, .int .i64 a4] 35) = W at *
  obtain ⟨px, hpx⟩ : ∃ p, w.heap.size = p := ⟨_, rfl⟩
  have HPX := Lib.hid hpx
  rw [hpx] at LA
  simp only [hpx]
  clear hpx
  refine (CH.out _ g0).mono ?_
  rintro e w1 ⟨rfl, hg1⟩
  have G := g0.trans hg1
  clear g0 CH
  go_wp2_with fail
  refine (LA.out _ hg1).mono ?_
  rintro e w2 ⟨v', rfl, hown, hg2⟩
  have HN := Lib.hid (World.ownsRow.mono (base' := px) hown (by rw [← HPX.out]; exact G.b.size))
  have G2 := G.trans hg2
  clear hown hg2
  go_wp2
  go_ret2
  exact ⟨_, rfl, by rw [HPX.out]; exact HN.out, G2⟩
end Go.Proofs.YthmimjofdmnakaaGreatDoor
