/- strickleref09: lacks, Missing. -/
import Derived.Test.YthmimjofdmnakaaGreatDoorJOf
namespace Go.Proofs.YthmimjofdmnakaaGreatDoor
open Go.RowKit Go.Shelf
theorem lst5 {α : Type} {l : List α} (h : l.length = 5) : ∃ a b c d e, l = [a, b, c, d, e] := by
  match l, h with
  | [a, b, c, d, e], _ => exact ⟨a, b, c, d, e, rfl⟩
/-- how many somebody has of each branch -/
abbrev havV (a0 a1 a2 a3 a4 : Int) : Value := .agg #[.int .i64 a0, .int .i64 a1, .int .i64 a2, .int .i64 a3, .int .i64 a4]
def hav (a0 a1 a2 a3 a4 : Int) : Nat → Int
  | 0 => a0 | 1 => a1 | 2 => a2 | 3 => a3 | _ => a4
theorem hav_at (a0 a1 a2 a3 a4 : Int) {s : Nat} (h : s < 5) : (#[.int .i64 a0, .int .i64 a1, .int .i64 a2, .int .i64 a3, .int .i64 a4] : Array Value)[s]? = some (.int .i64 (hav a0 a1 a2 a3 a4 s)) := by
  match s, h with
  | 0, _ => rfl
  | 1, _ => rfl
  | 2, _ => rfl
  | 3, _ => rfl
  | 4, _ => rfl
/-- the records that somebody lacks -/
def lackR (f : Nat → Int) (l : List Rc) : List Rc := l.filter fun r => decide (f r.s.toNat < r.k)
theorem lackR_yes {f : Nat → Int} {l : List Rc} {i : Nat} (hi : i < l.length) (h : f l[i].s.toNat < l[i].k) : lackR f (l.take (i+1)) = lackR f (l.take i) ++ [l[i]] := by
  unfold lackR
  rw [List.take_succ_eq_append_getElem hi, List.filter_append]
  simp [h]
theorem lackR_no {f : Nat → Int} {l : List Rc} {i : Nat} (hi : i < l.length) (h : ¬ f l[i].s.toNat < l[i].k) : lackR f (l.take (i+1)) = lackR f (l.take i) := by
  unfold lackR
  rw [List.take_succ_eq_append_getElem hi, List.filter_append]
  simp [h]
theorem lackR_le (f : Nat → Int) (l : List Rc) : (lackR f l).length ≤ l.length := List.length_filter_le _ _
theorem recs_of_own {w : World} {base : Nat} {v : Value} {l : List Rc} (h : w.ownsRow base 23 4 v l.length (rcs l)) : RecsAt w v l :=
  RowR.recs (World.ownsRow.mono (base' := 0) h (Nat.zero_le _))
set_option maxRecDepth 100000 in
set_option maxHeartbeats 4000000 in
theorem lacks_any (v : Value) (l : List Rc) (a0 a1 a2 a3 a4 : Int) (w : World) (hv : RecsAt w v l) (hl : l.length ≤ 1000000) (hs : ∀ j (hj : j < l.length), 0 ≤ l[j].s ∧ l[j].s ≤ 4) :
    Calls Tryz.prog 76 #[v, havV a0 a1 a2 a3 a4] w fun e w' => ∃ v', e = .returned v' ∧ w'.ownsRow w.heap.size 23 4 v' (lackR (hav a0 a1 a2 a3 a4) l).length (rcs (lackR (hav a0 a1 a2 a3 a4) l)) ∧ Gr w w' := by
  obtain ⟨i0, hi, hz0, hz1, hz2⟩ := info_parts info_rec
  obtain ⟨a, cap, rfl, hcap, hcell⟩ := hv
  have HC := Lib.hid hcell
  have HS := Lib.hid hs
  have bx := heap_alloc_self w (.cells #[.int .i64 a0, .int .i64 a1, .int .i64 a2, .int .i64 a3, .int .i64 a4] 35)
  have g0 : Gr w (w.alloc (.cells #[.int .i64 a0, .int .i64 a1, .int .i64 a2, .int .i64 a3, .int .i64 a4] 35)) := (Gr.refl w).alloc _
  have HV := Lib.hid (fun (s : Nat) (h : s < 5) => hav_at a0 a1 a2 a3 a4 h)
  obtain ⟨f, hf⟩ : ∃ f, hav a0 a1 a2 a3 a4 = f := ⟨_, rfl⟩
  rw [hf] at HV
  rw [hf]
  clear hcell hs hf
  go_enter Tryz.func76, Tryz.ntmps76
  go_wp2
  generalize (#[.int .i64 a0, .int .i64 a1, .int .i64 a2, .int .i64 a3, .int .i64 a4] : Array Value) = arr at *
  generalize w.alloc (.cells arr 35) = W at *
  obtain ⟨pb, hpb⟩ : ∃ p, w.heap.size = p := ⟨_, rfl⟩
  rw [hpb] at bx
  rw [hpb]
  have HPB := Lib.hid hpb
  clear hpb
  go_loopw [5, 6] (fun o q wr => ∃ i : Nat, q = .int .i64 i ∧ i ≤ l.length ∧ Hid (wr.ownsRow W.heap.size 23 4 o (lackR f (l.take i)).length (rcs (lackR f (l.take i)))) ∧ Gr W wr) (fun _ q _ => l.length - (intOf q).toNat)
  case atStart => exact ⟨0, rfl, by omega, Lib.hid (by simpa [lackR, rcs] using World.ownsRow_nil _ _ _ _), Gr.refl _⟩
  case round =>
    obtain ⟨i, rfl, hil0, HO, gr⟩ := hrel
    by_cases hil : i < l.length
    · have hil' : (i : Int) < l.length := by omega
      have hi0 : (0 : Int) ≤ i := by omega
      obtain ⟨g, o, rfl, hgl, c0, c1, c2, c3⟩ := HC.out i hil
      have G := g0.trans gr
      have hz : g < wr.heap.size := Nat.lt_of_lt_of_le hgl G.b.size
      rw [← G.cells.1 g _ hgl] at c0 c1 c2 c3
      have bx' := gr.heap bx
      obtain ⟨s1, s2⟩ := HS.out i hil
      obtain ⟨sn, hsn⟩ : ∃ n : Nat, l[i].s = n := ⟨l[i].s.toNat, by omega⟩
      have hsn5 : sn < 5 := by omega
      have hsn4 : (sn : Int) < 5 := by omega
      have hsn0 : (0 : Int) ≤ sn := by omega
      have hsn3 : (sn : Int).toNat = sn := by omega
      have cv : wr.cell? ⟨pb, sn, none⟩ = some (.int .i64 (f sn)) := ((blk_cells bx').1 sn).trans (HV.out sn hsn5)
      have zx := heap_lt bx'
      have est : l[i].s.toNat = sn := by omega
      obtain ⟨a5, c5, rfl⟩ := own_slice HO.out
      clear s1 s2
      by_cases hst : f l[i].s.toNat < l[i].k
      · have hE := lackR_yes hil hst
        have hlen : (lackR f (l.take i)).length ≤ 1000000 := by
          have := lackR_le f (l.take i)
          simp only [List.length_take] at this
          omega
        have hxl : rcs (lackR f (l.take i) ++ [l[i]]) = rcs (lackR f (l.take i)) ++ l[i].cells := by rw [rcs_append]; simp [rcs]
        have hn1 : (lackR f (l.take i) ++ [l[i]]).length = (lackR f (l.take i)).length + 1 := by simp
        have HE : Hid (∀ (u : World) (s : Value), u.ownsRow W.heap.size 23 4 s ((lackR f (l.take i)).length + 1) (rcs (lackR f (l.take i)) ++ l[i].cells) → u.ownsRow W.heap.size 23 4 s (lackR f (l.take (i+1))).length (rcs (lackR f (l.take (i+1))))) := Lib.hid (fun u s h => by rw [hE, hn1, hxl]; exact h)
        have HONE : Hid (∀ v ∈ l[i].cells, v.oneCell' = true) := Lib.hid (fun v hv => rcs_one [l[i]] v (by simpa [rcs] using hv))
        have HX : Hid (l[i].cells = [.int .i64 l[i].s, .int .i64 l[i].k, .int .i64 l[i].d, .string l[i].t]) := Lib.hid rfl
        clear hE hxl hn1
        generalize (lackR f (l.take i)).length = n at *
        generalize rcs (lackR f (l.take i)) = R at *
        rw [est] at hst
        generalize l[i].cells = xc at *
        rw [hsn] at c0 HX
        clear hsn est
        generalize l[i].k = xk at *
        generalize l[i].d = xd at *
        generalize l[i].t = xt at *
        generalize f sn = fs at *
        have HFS : Hid (fs < xk) := Lib.hid hst
        go_wp2_with fail
        refine wp_region_steps [.val (.slice (some ⟨g, o, none⟩) l.length cap), .val (.int .i64 i), .val (.pointer (some ⟨g, o + i * 4, none⟩)), .val (.pointer (some ⟨g, o + i * 4 + 1, none⟩)), .val (.int .i64 xk), .val (.slice (some ⟨g, o, none⟩) l.length cap), .val (.int .i64 i), .val (.pointer (some ⟨g, o + i * 4, none⟩)), .val (.pointer (some ⟨g, o + i * 4, none⟩)), .val (.int .i64 sn), .val (.pointer (some ⟨pb, 0, none⟩)), .val (.pointer (some ⟨pb, sn, none⟩)), .val (.int .i64 fs), .val (.bool true)] (by kernel_rfl) (by kernel_rfl) (fun V => by first | (simp only [finS, Step.isLater, Bool.false_eq_true, if_false, Act.put, Step.value, List.setIfInBounds_toArray, List.set_cons_zero, List.set_cons_succ]; rfl) | (simp only [finS, Step.isLater, Bool.false_eq_true, if_false, if_true, Act.put, Step.value, List.setIfInBounds_toArray, List.set_cons_zero, List.set_cons_succ, Nat.zero_add, Nat.reduceAdd]; rfl)) ?_ ?_
        · refine ⟨?_, ?_, ?_, ?_, ?_, ?_, ?_, ?_, ?_, ?_, ?_, ?_, ?_, ?_, trivial⟩ <;> (first | exact trivial | (refine ⟨(by intro v u u1 h g; obtain ⟨b, rfl, h⟩ := h; exact ⟨b, rfl, g.heap h⟩), ?_⟩; intro V u hu hk; refine ⟨by kernel_rfl, ?_⟩; go_simp; exact ⟨⟨_, rfl, heap_alloc_self _ _⟩, (Gr.refl _).alloc _⟩) | (refine ⟨(by intro v u u1 h g; first | exact ownsRow_g h g | exact st_and h g | exact h), ?_⟩; intro V u hu hk; refine ⟨by kernel_rfl, turn_owes (by kernel_rfl) ?_⟩; obtain ⟨hc, hf, hz⟩ := hu.cells; go_simp; skip) | (refine ⟨(by intro v u u1 h g; first | exact ownsRow_g h g | exact st_and h g | exact h), ?_⟩; intro V u hu hk; refine ⟨by kernel_rfl, ?_⟩; obtain ⟨hc, hf, hz⟩ := hu.cells; go_simp; skip) | (intro V u hu hk; refine ⟨by kernel_rfl, ?_⟩; obtain ⟨hc, hf, hz⟩ := hu.cells; go_simp; first | exact ⟨rfl, Gr.refl _⟩ | skip) | (intro V u hu hk; show _ = false; kernel_rfl))
        · intro V u hg hsx
          have gu := gr.trans hg
          have d0 := (hg.cells.1 g _ hz).trans c0
          have d1 := (hg.cells.1 g _ hz).trans c1
          have d2 := (hg.cells.1 g _ hz).trans c2
          have d3 := (hg.cells.1 g _ hz).trans c3
          have HOU := ownsRow_g HO.out hg
          clear c0 c1 c2 c3 hst cv zx bx' HO
          go_simp
          have hb0 : W.heap.size ≤ (u.alloc (.cells #[.int .i64 sn, .int .i64 xk, .int .i64 xd, .string xt] 23)).heap.size := by rw [World.size_alloc]; have := gu.b.size; omega
          have HB := Lib.hid hb0
          have HOA := Lib.hid (ownsRow_g HOU ((Gr.refl u).alloc (.cells #[.int .i64 sn, .int .i64 xk, .int .i64 xd, .string xt] 23)))
          have HCX := Lib.hid (blk_cells (heap_alloc_self u (.cells #[.int .i64 sn, .int .i64 xk, .int .i64 xd, .string xt] 23))).1
          clear hb0 HOU
          go_wp2_with (at_builtin; refine wpList_append_own _ rfl _ _ 32 rfl W.heap.size 23 i0 _ 4 40 Tryz.underlying32 hi hz0 hz1 hz2 rfl (by decide) _ _ _ rfl HOA.out ⟨u.heap.size, 0, none⟩ 1 1 xc rfl (by rw [HX.out]; rfl) ?c1 ?c2 ?c3 ?c4 ?c5 ?c6)
          case c1 =>
            intro j y hu
            rw [Addr.add_mid, Nat.zero_add, HCX.out j]
            rw [HX.out] at hu
            simpa using hu
          case c2 => exact HONE.out
          case c3 => unfold maxLen; omega
          case c4 => omega
          case c5 => exact HB.out
          case c6 =>
            intro v' w1 hown hgrow _
            have G1 : Gr W w1 := GrL.gr (gu.alloc _) (GrL.of_grown' hgrow) (fun k hk => by
              have := (HOA.out.lt k (by simpa using hk)).1
              exact this)
            have HN := Lib.hid (HE.out _ _ hown)
            clear hown hgrow
            go_wp2
            refine ⟨?_, by simp [intOf]; omega⟩
            (repeat apply Exists.intro)
            exact ⟨(show Value.int .i64 ((i : Int) + 1) = .int .i64 ((i + 1 : Nat) : Int) by simp), by omega, HN, G1⟩
      · have hE := lackR_no hil hst
        have HN : Hid (wr.ownsRow W.heap.size 23 4 (.slice a5 (lackR f (l.take i)).length c5) (lackR f (l.take (i+1))).length (rcs (lackR f (l.take (i+1))))) := Lib.hid (by rw [hE]; exact HO.out)
        clear hE
        rw [est] at hst
        rw [hsn] at c0
        clear hsn est
        have HN2 := Lib.hid (fun (u : World) (h : Gr wr u) => ownsRow_g HN.out h)
        generalize l[i].k = xk at *
        generalize f sn = fs at *
        have e1 : decide (fs < xk) = false := decide_eq_false hst
        go_wp2_with fail
        refine wp_region_steps [.val (.slice (some ⟨g, o, none⟩) l.length cap), .val (.int .i64 i), .val (.pointer (some ⟨g, o + i * 4, none⟩)), .val (.pointer (some ⟨g, o + i * 4 + 1, none⟩)), .val (.int .i64 xk), .val (.slice (some ⟨g, o, none⟩) l.length cap), .val (.int .i64 i), .val (.pointer (some ⟨g, o + i * 4, none⟩)), .val (.pointer (some ⟨g, o + i * 4, none⟩)), .val (.int .i64 sn), .val (.pointer (some ⟨pb, 0, none⟩)), .val (.pointer (some ⟨pb, sn, none⟩)), .val (.int .i64 fs), .val (.bool false)] (by kernel_rfl) (by kernel_rfl) (fun V => by first | (simp only [finS, Step.isLater, Bool.false_eq_true, if_false, Act.put, Step.value, List.setIfInBounds_toArray, List.set_cons_zero, List.set_cons_succ]; rfl) | (simp only [finS, Step.isLater, Bool.false_eq_true, if_false, if_true, Act.put, Step.value, List.setIfInBounds_toArray, List.set_cons_zero, List.set_cons_succ, Nat.zero_add, Nat.reduceAdd]; rfl)) ?_ ?_
        · refine ⟨?_, ?_, ?_, ?_, ?_, ?_, ?_, ?_, ?_, ?_, ?_, ?_, ?_, ?_, trivial⟩ <;> (first | exact trivial | (refine ⟨(by intro v u u1 h g; obtain ⟨b, rfl, h⟩ := h; exact ⟨b, rfl, g.heap h⟩), ?_⟩; intro V u hu hk; refine ⟨by kernel_rfl, ?_⟩; go_simp; exact ⟨⟨_, rfl, heap_alloc_self _ _⟩, (Gr.refl _).alloc _⟩) | (refine ⟨(by intro v u u1 h g; first | exact ownsRow_g h g | exact st_and h g | exact h), ?_⟩; intro V u hu hk; refine ⟨by kernel_rfl, turn_owes (by kernel_rfl) ?_⟩; obtain ⟨hc, hf, hz⟩ := hu.cells; go_simp; skip) | (refine ⟨(by intro v u u1 h g; first | exact ownsRow_g h g | exact st_and h g | exact h), ?_⟩; intro V u hu hk; refine ⟨by kernel_rfl, ?_⟩; obtain ⟨hc, hf, hz⟩ := hu.cells; go_simp; skip) | (intro V u hu hk; refine ⟨by kernel_rfl, ?_⟩; obtain ⟨hc, hf, hz⟩ := hu.cells; go_simp; first | exact ⟨rfl, Gr.refl _⟩ | skip) | (intro V u hu hk; show _ = false; kernel_rfl))
        · intro V u hg hsx
          have gu := gr.trans hg
          have HN3 := Lib.hid (HN2.out _ hg)
          go_simp
          go_wp2
          refine ⟨?_, by simp [intOf]; omega⟩
          (repeat apply Exists.intro)
          exact ⟨(show Value.int .i64 ((i : Int) + 1) = .int .i64 ((i + 1 : Nat) : Int) by simp), by omega, HN3, gu⟩
    · have hil' : ¬ (i : Int) < l.length := by omega
      obtain rfl : i = l.length := by omega
      have HN := HO.out
      rw [List.take_length] at HN
      have HN := Lib.hid (World.ownsRow.mono (base' := pb) HN (by rw [← HPB.out]; exact g0.b.size))
      have G := g0.trans gr
      go_wp2
      go_ret
      exact ⟨_, rfl, by rw [HPB.out]; exact HN.out, G⟩
set_option maxRecDepth 100000 in
set_option maxHeartbeats 2000000 in
theorem rMissing_no (n : Int) (v : Value) (a0 a1 a2 a3 a4 : Int) (i0 e0 : Int) (w : World) (h0 : e0 ≠ 0)
    (hc : ∀ u, Gr w u → Calls Tryz.prog 17 #[.int .i64 n, v] u fun e w' => e = .returned (.tuple #[.int .i64 i0, .int .i64 e0]) ∧ Gr u w') :
    Calls Tryz.prog 23 #[.int .i64 n, v, havV a0 a1 a2 a3 a4] w fun e w' => e = .returned (.tuple #[.slice none 0 0, .int .i64 e0]) ∧ Gr w w' := by
  have CH := Lib.hid hc
  have g0 : Gr w (w.alloc (.cells #[.int .i64 a0, .int .i64 a1, .int .i64 a2, .int .i64 a3, .int .i64 a4] 35)) := (Gr.refl w).alloc _
  have h1 : (e0 == 0) = false := by simpa using h0
  have h2 : decide (e0 = 0) = false := by simpa using h0
  clear hc
  go_enter Tryz.func23, Tryz.ntmps23
  go_wp2_with fail
  refine (CH.out _ g0).mono ?_
  rintro e w1 ⟨rfl, hg1⟩
  have G := g0.trans hg1
  go_wp2
  go_ret2
  exact ⟨rfl, G⟩
set_option maxRecDepth 100000 in
set_option maxHeartbeats 2000000 in
theorem rMissing_yes (n : Int) (v : Value) (l : List Rc) (a0 a1 a2 a3 a4 : Int) (w : World) (hv : RecsAt w v l) (hl : l.length ≤ 1000000) (hs : ∀ j (hj : j < l.length), 0 ≤ l[j].s ∧ l[j].s ≤ 4)
    (hc : ∀ u, Gr w u → Calls Tryz.prog 17 #[.int .i64 n, v] u fun e w' => e = .returned (.tuple #[.int .i64 0, .int .i64 0]) ∧ Gr u w') :
    Calls Tryz.prog 23 #[.int .i64 n, v, havV a0 a1 a2 a3 a4] w fun e w' => ∃ v', e = .returned (.tuple #[v', .int .i64 0]) ∧ w'.ownsRow w.heap.size 23 4 v' (lackR (hav a0 a1 a2 a3 a4) l).length (rcs (lackR (hav a0 a1 a2 a3 a4) l)) ∧ Gr w w' := by
  have CH := Lib.hid hc
  have LA := Lib.hid (fun u (g : Gr w u) => lacks_any v l a0 a1 a2 a3 a4 u (hv.gr g) hl hs)
  have bx := heap_alloc_self w (.cells #[.int .i64 a0, .int .i64 a1, .int .i64 a2, .int .i64 a3, .int .i64 a4] 35)
  have g0 : Gr w (w.alloc (.cells #[.int .i64 a0, .int .i64 a1, .int .i64 a2, .int .i64 a3, .int .i64 a4] 35)) := (Gr.refl w).alloc _
  generalize lackR (hav a0 a1 a2 a3 a4) l = R at *
  clear hc hv hs
  go_enter Tryz.func23, Tryz.ntmps23
  go_wp2_with fail
  refine (CH.out _ g0).mono ?_
  rintro e w1 ⟨rfl, hg1⟩
  have G := g0.trans hg1
  have bx := hg1.heap bx
  clear hg1 g0 CH
  obtain ⟨px, hpx⟩ : ∃ p, w.heap.size = p := ⟨_, rfl⟩
  have HPX := Lib.hid hpx
  rw [hpx] at bx
  simp only [hpx]
  clear hpx
  obtain ⟨cx, fx, zx⟩ := blk_cells bx
  have k0 := cx 0
  have k1 := cx 1
  have k2 := cx 2
  have k3 := cx 3
  have k4 := cx 4
  clear cx
  go_wp2_with fail
  refine (LA.out _ G).mono ?_
  rintro e w2 ⟨v', rfl, hown, hg2⟩
  have HN := Lib.hid (World.ownsRow.mono (base' := px) hown (by rw [← HPX.out]; exact G.b.size))
  have G2 := G.trans hg2
  clear hown hg2 k0 k1 k2 k3 k4
  go_wp2
  go_ret2
  exact ⟨_, rfl, by rw [HPX.out]; exact HN.out, G2⟩
end Go.Proofs.YthmimjofdmnakaaGreatDoor
