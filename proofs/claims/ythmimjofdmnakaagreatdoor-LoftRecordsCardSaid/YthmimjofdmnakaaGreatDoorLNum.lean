/- loft: numeral; the world condition. -/
import Derived.Test.YthmimjofdmnakaaGreatDoorMathT
import Derived.Test.YthmimjofdmnakaaGreatDoorShelfR
import Derived.Lib.AtoiErrMem
import Derived.Lib.AppendIntMem
import Derived.Lib.ItoaLen
import Derived.Test.YthmimjofdmnakaaGreatDoorLNil
import Derived.RangeFuncNested
import Derived.RangeFuncBound
import Derived.RangeFuncCalls
import Derived.RangeFuncLeaves
import Derived.Shelf.Abstract
import Derived.Shelf.RegionOpen
import Derived.OwnWalkIn
import Derived.TacticsInMore
import Derived.LoopNIn
import Derived.LoopIn
import Derived.RangeFuncBox
import Derived.Maps.AppendAt
namespace Go.Proofs.YthmimjofdmnakaaGreatDoor
section
open Go.RowKit Go.Shelf
abbrev Tab (w : World) : Prop := Lib.TabIs Tryz.prog w "internal/strconv.uint64pow10" .u64 Lib.pow10Tab
theorem Tab.gr {w w' : World} (h : Tab w) (g : Gr w w') : Tab w' := Lib.tabBelow_of_tabIs h w' g.b
theorem Gr.grow (w : World) (k : Nat) (os : Array Obj) : Gr w (Sort.grow (w.drewN k) os) :=
  ⟨⟨rfl, rfl, rfl, by simp [Sort.grow], fun j hj => by simp [Sort.grow, Array.getElem?_append, hj]⟩, trivial⟩
theorem Itoa_any (n : Int) (w : World) (h1 : -9223372036854775808 ≤ n) (h2 : n ≤ 9223372036854775807) (ht : Tab w) :
    Calls Tryz.prog 125 #[.int .i64 n] w fun e w' => e = .returned (.string ⟨(Lib.itoa n).toArray⟩) ∧ Gr w w' :=
  (Tryz.strconv_Itoa n h1 h2 w ht).mono fun _e _w' ⟨h, k, os, e'⟩ => ⟨h, e' ▸ Gr.grow w k os⟩
/-- what the library's variables hold -/
structure TW (w : World) : Prop where
  t : Tab w
  s : ∃ tp p, w.cell? ⟨1, 0, none⟩ = some (.iface tp p)
  r : ∃ tp p, w.cell? ⟨2, 0, none⟩ = some (.iface tp p)
  m : ∃ m, w.cell? ⟨0, 0, none⟩ = some (.int .i64 m)
theorem TW.gr {w w' : World} (h : TW w) (g : Gr w w') : TW w' := by
  obtain ⟨tp, p, h1⟩ := h.s
  obtain ⟨tp', p', h2⟩ := h.r
  obtain ⟨m, h3⟩ := h.m
  exact ⟨h.t.gr g, ⟨tp, p, (g.cells.1 _ _ (World.block_lt_of_cell? _ _ h1)).trans h1⟩, ⟨tp', p', (g.cells.1 _ _ (World.block_lt_of_cell? _ _ h2)).trans h2⟩, m, (g.cells.1 _ _ (World.block_lt_of_cell? _ _ h3)).trans h3⟩
theorem atoi_bound {l : List UInt8} {v : Int} (h : Lib.atoiAll l = .ok v) : -9223372036854775808 ≤ v ∧ v ≤ 9223372036854775807 := by
  cases l with
  | nil => cases h
  | cons c r =>
    simp only [Lib.atoiAll] at h
    split at h
    · cases h
    · cases h
    · split at h
      · cases h
      · split at h
        · cases h
        · split at h
          · injection h with h; omega
          · injection h with h; omega
/-- the number that a word writes; -1 for none -/
def numV (l : List UInt8) : Int := match Lib.atoiAll l with | .ok v => if Lib.itoa v = l then v else -1 | _ => -1
set_option maxRecDepth 100000 in
set_option maxHeartbeats 2000000 in
theorem numeral_any (s : ByteArray) (w : World) (hs : s.size ≤ 100000) (tw : TW w) :
    Calls Tryz.prog 59 #[.string s] w fun e w' => e = .returned (.int .i64 (numV s.data.toList)) ∧ Gr w w' := by
  obtain ⟨l, hl⟩ : ∃ l, s.data.toList = l := ⟨_, rfl⟩
  have HL := Lib.hid hl
  have eqs : s.toList = l := (ByteArray.toList_eq s).trans hl
  have EQ := Lib.hid eqs
  rw [hl]
  clear eqs
  rcases ha : Lib.atoiAll l with v | _ | _
  · have hb := atoi_bound ha
    have AT := Lib.hid (fun w => Tryz.strconv_Atoi_ok s (by omega) v (hl ▸ ha) w)
    have IT := Lib.hid (fun w' (g : Gr w w') => Itoa_any v w' hb.1 hb.2 (tw.t.gr g))
    have NV : numV l = if Lib.itoa v = l then v else -1 := by unfold numV; rw [ha]
    rw [NV]
    generalize Lib.itoa v = t at IT ⊢
    obtain ⟨q, hq⟩ : ∃ q, (if t = l then v else -1) = q := ⟨_, rfl⟩
    rw [hq]
    have HQ := Lib.hid hq
    clear hb NV ha hl tw hq
    go_enter Tryz.func59, Tryz.ntmps59
    go_wp2_with fail
    refine (AT.out _).mono ?_
    rintro e w1 ⟨rfl, hw1⟩
    have g1 : Gr w w1 := by
      rcases hw1 with rfl | ⟨x, rfl⟩
      · exact Gr.refl _
      · exact Gr.of_below (Lib.bytesWorld_below _ _ _)
    clear hw1
    go_wp2_with fail
    refine (IT.out _ g1).mono ?_
    rintro e w2 ⟨rfl, hg2⟩
    by_cases hT : t = l
    · have hc : (t == s.toList) = true := by rw [EQ.out]; exact beq_iff_eq.2 hT
      obtain rfl : q = v := by rw [← HQ.out, if_pos hT]
      clear hT
      go_wp2
      go_ret
      exact ⟨rfl, g1.trans hg2⟩
    · have hc : (t == s.toList) = false := by rw [EQ.out]; exact beq_eq_false_iff_ne.2 hT
      obtain rfl : q = -1 := by rw [← HQ.out, if_neg hT]
      clear hT
      go_wp2
      go_ret
      exact ⟨rfl, g1.trans hg2⟩
  · obtain ⟨tp, p, h1⟩ := tw.s
    have AT := Lib.hid (Tryz.strconv_Atoi_syntax s (by omega) (hl ▸ ha) _ w h1 (.inr ⟨_, _, rfl⟩))
    have NV : numV l = -1 := by unfold numV; rw [ha]
    rw [NV]
    clear NV ha hl tw h1
    go_enter Tryz.func59, Tryz.ntmps59
    go_wp2_with fail
    refine AT.out.mono ?_
    rintro e w1 ⟨N, rfl, _, _, b⟩
    go_wp2
    go_ret
    exact ⟨rfl, Gr.of_below b⟩
  · obtain ⟨tp, p, h1⟩ := tw.r
    have AT := Lib.hid (Tryz.strconv_Atoi_range s (by omega) (hl ▸ ha) _ w h1 (.inr ⟨_, _, rfl⟩))
    have NV : numV l = -1 := by unfold numV; rw [ha]
    rw [NV]
    clear NV ha hl tw h1
    go_enter Tryz.func59, Tryz.ntmps59
    go_wp2_with fail
    refine AT.out.mono ?_
    rintro e w1 ⟨N, rfl, _, _, b⟩
    go_wp2
    go_ret
    exact ⟨rfl, Gr.of_below b⟩
end
section
open Go.RowKit Go.Shelf
attribute [local go_sem] Oper.semAt_some
theorem GrL.heap {bs : List Nat} {W W' : World} (g : GrL bs W W') {k : Nat} {o : Obj} (h : W.heap[k]? = some o) (hk : k ∉ bs) : W'.heap[k]? = some o := (g.block k (heap_lt h) hk).trans h
theorem GrL.of_grown {W W' : World} {row : Option Nat} (h : W.grownBy W' row) (bs : List Nat) (hr : ∀ k, row = some k → k ∈ bs) : GrL bs W W' :=
  ⟨h.os, h.tape, h.output, h.size, fun k hk hn => h.block k hk (fun e => hn (hr k e.symm)), trivial⟩
theorem info_str : (Tryz.prog.info? 9).map (fun i => (i.zero, i.size, i.bytes)) = some (some (.string ⟨#[]⟩), 1, 16) := by kernel_rfl
/-- a string's value -/
abbrev sv (l : List UInt8) : Value := .string ⟨l.toArray⟩
theorem Join_row (base : Nat) (v : Value) (ws : List (List UInt8)) (W : World) (hrow : W.ownsRow base 9 1 v ws.length (ws.map sv)) (hne : ws ≠ []) (hk : ws.length ≤ 1000) (hlen : (Lib.join ws [32]).length ≤ 140737488355328) :
    Calls Tryz.prog 126 #[v, .string ⟨#[32]⟩] W fun e w' => e = .returned (sv (Lib.join ws [32])) ∧ Gr W w' := by
  have h' := hrow
  rcases hrow.2 with ⟨_, hn⟩ | ⟨g, cap, cur, rfl, hb, hg, hcap, _⟩
  · exact absurd (List.eq_nil_of_length_eq_zero hn) hne
  · have em : (ws.map fun l => (⟨l.toArray⟩ : ByteArray)).map (·.data.toList) = ws := by
      rw [List.map_map]
      exact (List.map_congr_left (fun _ _ => rfl)).trans (List.map_id ws)
    have J := Tryz.strings_Join g 0 cap (ws.map fun l => (⟨l.toArray⟩ : ByteArray)) ⟨#[32]⟩ W (fun j x hx => by
      have hj : j < ws.length := by
        have := (List.getElem?_eq_some_iff.1 hx).1
        simpa using this
      rw [Nat.zero_add, h'.cellAt j (by omega)]
      simp [hj] at hx ⊢
      rw [← hx]) (heap_lt hg) (by simp; omega) (by simpa using hcap) (by rw [em]; exact hlen)
    rw [em, List.length_map] at J
    exact J.mono fun e w' ⟨h1, h2⟩ => ⟨h1, Gr.of_below h2⟩
/-- the words that told joins -/
def toldW (t : List UInt8) (ns : List Int) : List (List UInt8) := ns.map Lib.itoa ++ if t = [] then [] else [t]
theorem lens_le (K : Nat) : ∀ ws : List (List UInt8), (∀ l ∈ ws, l.length ≤ K) → Lib.lens ws ≤ K * ws.length
  | [], _ => by simp [Lib.lens]
  | l :: ws, h => by
    have := lens_le K ws (fun x hx => h x (by simp [hx]))
    have := h l (by simp)
    have e : K * (ws.length + 1) = K * ws.length + K := Nat.mul_succ ..
    simp only [Lib.lens, List.length_cons, List.map_cons, List.sum_cons, e] at *
    omega
theorem toldW_len {t : List UInt8} {ns : List Int} (ht : t.length ≤ 100000) (hl : ns.length ≤ 100) (hn : ∀ n ∈ ns, -9223372036854775808 ≤ n ∧ n ≤ 9223372036854775807) :
    (toldW t ns).length ≤ 101 ∧ (Lib.join (toldW t ns) [32]).length ≤ 140737488355328 := by
  have h1 : (toldW t ns).length ≤ 101 := by
    unfold toldW
    split <;> simp <;> omega
  refine ⟨h1, ?_⟩
  have h2 : ∀ l ∈ toldW t ns, l.length ≤ 100000 := by
    intro l h
    unfold toldW at h
    rcases List.mem_append.1 h with h | h
    · obtain ⟨n, hm, rfl⟩ := List.mem_map.1 h
      have := Lib.itoa_length_le n (hn n hm).1 (hn n hm).2
      omega
    · split at h
      · cases h
      · obtain rfl := List.mem_singleton.1 h
        exact ht
  have h3 := lens_le 100000 _ h2
  cases e : toldW t ns with
  | nil => simp [Lib.join]
  | cons x r =>
    rw [e] at h1 h3
    rw [Lib.join_length]
    simp at h1 h3 ⊢
    omega
set_option maxRecDepth 100000 in
set_option maxHeartbeats 2000000 in
theorem told_in (m : Nat) (t : List UInt8) (ns : List Int) (b cap : Nat) (w : World) (hb : b < w.heap.size) (ht : t.length ≤ 100000) (hne : ns ≠ []) (hl : ns.length ≤ 100) (hn : ∀ n ∈ ns, -9223372036854775808 ≤ n ∧ n ≤ 9223372036854775807)
    (hc : ∀ j (h : j < ns.length), w.cell? ⟨b, j, none⟩ = some (.int .i64 ns[j])) (tw : TW w) :
    CallsIn Fence.wide m Tryz.prog 53 #[.string ⟨t.toArray⟩, .slice (some ⟨b, 0, none⟩) ns.length cap] w fun e w' => e = .returned (.string ⟨(Lib.join (toldW t ns) [32]).toArray⟩) ∧ Gr w w' := by
  obtain ⟨i0, hi, hz0, hz1, hz2⟩ := info_parts info_str
  have HC := Lib.hid hc
  have HN := Lib.hid hn
  obtain ⟨L1, L2⟩ := toldW_len ht hl hn
  have HJ := Lib.hid (fun base v W hr => Join_row base v (toldW t ns) W hr (by cases ns with | nil => exact absurd rfl hne | cons a l => simp [toldW]) (by omega) L2)
  clear L1 L2 ht hne
  have HT := Lib.hid (fun w' (g : Gr w w') => tw.t.gr g)
  clear hc hn tw
  refine callsIn_of_wp Tryz.func53 rfl trivial ?_ rfl
  simp only [Tryz.ntmps53, List.size_toArray, List.length_cons, List.length_nil, Nat.reduceAdd, Nat.reduceSub, Array.replicate_succ, Array.replicate_zero, List.push_toArray, List.append_toArray, List.nil_append, List.cons_append]
  gi_wp2_with fail
  gi_loopw [5, 10] (fun p q wr => ∃ i : Nat, q = .int .i64 i ∧ i ≤ ns.length ∧ wr.ownsRow w.heap.size 9 1 p i ((ns.take i).map fun n => sv (Lib.itoa n)) ∧ Gr w wr) (fun _ q _ => ns.length - (intOf q).toNat)
  case atStart => exact ⟨0, rfl, by omega, World.ownsRow_nil _ _ _ _, Gr.refl _⟩
  case round =>
    obtain ⟨i, rfl, hil, hrow, gw⟩ := hrel
    by_cases h : i < ns.length
    · have h' : (i : Int) < ns.length := by omega
      have hcell := (gw.cells.1 b i hb).trans (HC.out i h)
      have hlt : b < wr.heap.size := Nat.lt_of_lt_of_le hb gw.b.size
      have IA := Lib.hid (fun w' (g : Gr w w') => Itoa_any ns[i] w' (HN.out _ (List.getElem_mem h)).1 (HN.out _ (List.getElem_mem h)).2 (HT.out w' g))
      have HST := Lib.hid (show ((ns.take (i+1)).map fun n => sv (Lib.itoa n)) = ((ns.take i).map fun n => sv (Lib.itoa n)) ++ [sv (Lib.itoa ns[i])] by rw [List.take_succ_eq_append_getElem h, List.map_append]; rfl)
      obtain ⟨n, hn⟩ : ∃ n, ns[i] = n := ⟨_, rfl⟩
      rw [hn] at hcell IA HST
      clear hn
      generalize Lib.itoa n = C at IA HST
      gi_wp2_with fail
      refine ⟨trivial, fun h => absurd h (by simp [Fence.wide]), (callsIn_wide.2 (IA.out _ gw)).mono ?_⟩
      rintro e w2 ⟨rfl, hg2⟩
      have hrow2 := ownsRow_gr hrow (GrL.of_gr (l := []) hg2) (by simp)
      have gz : w.heap.size ≤ w2.heap.size := (gw.trans hg2).b.size
      gi_wp2_with (gi_at_builtin; refine wpListIn_append_own _ rfl _ _ 84 rfl w.heap.size 9 i0 (.string ⟨#[]⟩) 1 16 Tryz.underlying84 hi hz0 hz1 hz2 rfl (by decide) _ _ _ rfl (hrow2.alloc _) ⟨w2.heap.size, 0, none⟩ 1 1 [sv C] rfl rfl (cell_one_new _ _ _) (by simp [Value.oneCell']) (by unfold maxLen; omega) (by omega) (by simp; omega) ?_; intro v' w3 hown' hgrow _)
      have gw3 : Gr w w3 := GrL.gr ((gw.trans hg2).alloc _) (GrL.of_grown (row := u5.ownBlock) hgrow u5.ownBlock.toList (fun k hk => by simp [hk])) (fun k hk => (hrow2.lt k (by simpa using hk)).1)
      go_roundw
      case rel => exact ⟨i+1, by simp, by omega, by rw [HST.out]; simpa using hown', gw3⟩
      case measure => simp only [intOf]; omega
    · have h' : ¬ (i : Int) < ns.length := by omega
      obtain rfl : i = ns.length := by omega
      rw [List.take_length] at hrow
      cases t with
      | nil =>
        have ew : toldW [] ns = ns.map Lib.itoa := by simp [toldW]
        gi_wp2_with fail
        refine ⟨trivial, fun h => absurd h (by simp [Fence.wide]), (callsIn_wide.2 (HJ.out w.heap.size _ _ (by rw [ew, List.length_map, List.map_map]; exact hrow))).mono ?_⟩
        rintro e w4 ⟨rfl, hg4⟩
        clear ew
        gi_wp2
        exact bodyPost_ret (v := sv (Lib.join (toldW [] ns) [32])) (by simp [results, Tryz.results53, go_sem]) rfl ⟨rfl, gw.trans hg4⟩
      | cons c t =>
        have gz : w.heap.size ≤ wr.heap.size := gw.b.size
        gi_wp2_with (gi_at_builtin; refine wpListIn_append_own _ rfl _ _ 84 rfl w.heap.size 9 i0 (.string ⟨#[]⟩) 1 16 Tryz.underlying84 hi hz0 hz1 hz2 rfl (by decide) _ _ _ rfl (hrow.alloc _) ⟨wr.heap.size, 0, none⟩ 1 1 [sv (c :: t)] rfl rfl (cell_one_new _ _ _) (by simp [Value.oneCell']) (by unfold maxLen; first | (simp; done) | (simp; omega) | omega) (by first | omega | (simp; done) | (simp; omega)) (by first | (simp; done) | (simp; omega) | omega) ?_; intro v' w3 hown' hgrow _)
        have gw3 : Gr w w3 := GrL.gr (gw.alloc _) (GrL.of_grown (row := u5.ownBlock) hgrow u5.ownBlock.toList (fun k hk => by simp [hk])) (fun k hk => (hrow.lt k (by simpa using hk)).1)
        have ew : toldW (c :: t) ns = ns.map Lib.itoa ++ [c :: t] := by simp [toldW]
        gi_wp2_with fail
        refine ⟨trivial, fun h => absurd h (by simp [Fence.wide]), (callsIn_wide.2 (HJ.out w.heap.size _ _ (by rw [ew, List.length_append, List.length_map, List.map_append, List.map_map]; exact hown'))).mono ?_⟩
        rintro e w4 ⟨rfl, hg4⟩
        clear ew
        gi_wp2
        exact bodyPost_ret (v := sv (Lib.join (toldW (c :: t) ns) [32])) (by simp [results, Tryz.results53, go_sem]) rfl ⟨rfl, gw3.trans hg4⟩
end
section
open Go.RowKit Go.Shelf
/-- the line of a record -/
def recL (s k d : Int) (t : ByteArray) : List UInt8 := Lib.join (toldW t.data.toList [s, k, d]) [32]
/-- may the record be written? -/
def recOk (n s k d : Int) (t : ByteArray) : Bool := (decide (n = 3) || decide (n = 5)) && formedB n s k d t
def recT (n s k d : Int) (t : ByteArray) : List UInt8 := if recOk n s k d t then recL s k d t else []
def recE (n s k d : Int) (t : ByteArray) : Int := if recOk n s k d t then 0 else 1
theorem told_any (t : ByteArray) (ns : List Int) (b cap : Nat) (w : World) (hb : b < w.heap.size) (ht : t.size ≤ 100000) (hne : ns ≠ []) (hl : ns.length ≤ 100) (hn : ∀ n ∈ ns, -9223372036854775808 ≤ n ∧ n ≤ 9223372036854775807)
    (hc : ∀ j (h : j < ns.length), w.cell? ⟨b, j, none⟩ = some (.int .i64 ns[j])) (tw : TW w) :
    Calls Tryz.prog 53 #[.string t, .slice (some ⟨b, 0, none⟩) ns.length cap] w fun e w' => e = .returned (sv (Lib.join (toldW t.data.toList ns) [32])) ∧ Gr w w' := by
  have h := callsIn_wide.1 (told_in 9 t.data.toList ns b cap w hb (by simpa using ht) hne hl hn hc tw)
  have e : (⟨t.data.toList.toArray⟩ : ByteArray) = t := by rw [Array.toArray_toList]
  rw [e] at h
  exact h
set_option maxRecDepth 100000 in
set_option maxHeartbeats 2000000 in
theorem WriteRecord_any (n s k d : Int) (t : ByteArray) (w : World) (ht : t.size ≤ 100000) (tw : TW w) :
    Calls Tryz.prog 9 #[.int .i64 n, rcd s k d t] w fun e w' => e = .returned (.tuple #[sv (recT n s k d t), .int .i64 (recE n s k d t)]) ∧ Gr w w' := by
  have HT := Lib.hid (fun w' (g : Gr w w') => tw.gr g)
  have IC := Lib.hid (fun w => isCount_any n w)
  have FO := Lib.hid (fun (hb : (decide (n = 3) || decide (n = 5)) = true) (w : World) => formed_any n s k d t w (by simp at hb; omega) (by simp at hb; omega) ht)
  have bx := heap_alloc_self w (.cells #[.int .i64 s, .int .i64 k, .int .i64 d, .string t] 23)
  have g0 : Gr w (w.alloc (.cells #[.int .i64 s, .int .i64 k, .int .i64 d, .string t] 23)) := (Gr.refl w).alloc _
  have TB := Lib.hid (fun (hq : (decide (n = 3) || decide (n = 5)) = true) (hf : formedB n s k d t = true) (b cap : Nat) (w : World) hb hc tw => told_any t [s, k, d] b cap w hb ht (by simp) (by simp) (by
    have hq' : n ≤ 5 := by simp at hq; omega
    unfold formedB at hf
    simp only [Bool.and_eq_true, decide_eq_true_eq] at hf
    obtain ⟨⟨⟨⟨a1, a2⟩, a3, a4⟩, a5, a6⟩, _⟩ := hf
    intro x hx
    simp only [List.mem_cons, List.not_mem_nil, or_false] at hx
    rcases hx with rfl | rfl | rfl <;> omega) hc tw)
  have RT : recT n s k d t = if (decide (n = 3) || decide (n = 5)) && formedB n s k d t then recL s k d t else [] := rfl
  have RE : recE n s k d t = if (decide (n = 3) || decide (n = 5)) && formedB n s k d t then 0 else 1 := rfl
  rw [RT, RE]
  change Hid ((decide (n = 3) || decide (n = 5)) = true → formedB n s k d t = true → ∀ (b cap : Nat) (w : World), b < w.heap.size → (∀ j (h : j < 3), w.cell? ⟨b, j, none⟩ = some (.int .i64 [s, k, d][j])) → TW w → Calls Tryz.prog 53 #[.string t, .slice (some ⟨b, 0, none⟩) (3 : Nat) cap] w fun e w' => e = .returned (sv (recL s k d t)) ∧ Gr w w') at TB
  generalize recL s k d t = L at *
  generalize (decide (n = 3) || decide (n = 5)) = b1 at *
  generalize formedB n s k d t = b2 at *
  clear RT RE ht tw
  go_enter Tryz.func9, Tryz.ntmps9
  go_wp2_with fail
  refine (IC.out _).mono ?_
  rintro e w1 ⟨rfl, hg1⟩
  have bx1 := hg1.heap bx
  have g1 := g0.trans hg1
  clear hg1 g0 bx IC
  obtain ⟨cx, fx, zx⟩ := blk_cells bx1
  cases b1
  · go_wp2
    exact bodyPost_ret (v := .tuple #[.string ⟨#[]⟩, .int .i64 1]) (by simp [results, Tryz.results9, go_sem]) rfl ⟨by simp, g1⟩
  · go_wp2_with fail
    refine (FO.out (by trivial) _).mono ?_
    rintro e w2 ⟨rfl, hg2⟩
    have bx2 := hg2.heap bx1
    have g2 := g1.trans hg2
    clear hg2 g1 bx1 cx fx zx FO
    obtain ⟨cx, fx, zx⟩ := blk_cells bx2
    cases b2
    · go_wp2
      exact bodyPost_ret (v := .tuple #[.string ⟨#[]⟩, .int .i64 1]) (by simp [results, Tryz.results9, go_sem]) rfl ⟨by simp, g2⟩
    · have by3 := heap_alloc_self w2 (.cells #[.int .i64 s, .int .i64 k, .int .i64 d] 3)
      go_wp2_with fail
      refine (TB.out (by trivial) (by trivial) _ _ _ (heap_lt by3) (fun j hj => ?_) (HT.out _ (g2.alloc _))).mono ?_
      · rw [(blk_cells by3).1 j]
        match j, hj with
        | 0, _ => rfl
        | 1, _ => rfl
        | 2, _ => rfl
      · rintro e w4 ⟨rfl, hg4⟩
        go_wp2
        exact bodyPost_ret (v := .tuple #[sv L, .int .i64 0]) (by simp [results, Tryz.results9, go_sem]) rfl ⟨by simp, (g2.alloc _).trans hg4⟩
end
end Go.Proofs.YthmimjofdmnakaaGreatDoor
