/- Plain laws of journals: what a journal is by its members; merged journals; what a journal adds. -/
import Derived.Test.YthmimjofdmnakaaGreatDoorJMrgF
import Derived.Test.YthmimjofdmnakaaGreatDoorJLack
import Derived.Test.YthmimjofdmnakaaGreatDoorJMerge
import Derived.Test.YthmimjofdmnakaaGreatDoorJROrd
namespace Go.Proofs.YthmimjofdmnakaaGreatDoor
section
/-- each record has the one before it -/
def Down (n : Int) (l : List Rc) : Prop := ∀ x ∈ l, okR n x = true ∧ (x.k = 1 ∨ ∃ p ∈ l, p.s = x.s ∧ p.k + 1 = x.k ∧ p.d ≤ x.d)
abbrev AllOk (n : Int) (l : List Rc) : Prop := ∀ j, j < l.length → chkA n l j = 0
theorem down_of {n : Int} {l : List Rc} (h : AllOk n l) : Down n l := fun x hx => by
  obtain ⟨j, hj, rfl⟩ := List.mem_iff_getElem.1 hx
  have hok := chkA_ok hj (h j hj)
  refine ⟨hok, ?_⟩
  cases j with
  | zero =>
    have := h 0 hj
    rw [show chkA n l 0 = chkP n none l[0] from chkA_0 hj] at this
    exact Or.inl (chkP_first this)
  | succ j =>
    have := h (j+1) hj
    rw [chkA_s hj] at this
    rcases chkP_next this with ⟨h1, h2⟩ | ⟨_, h2⟩
    · refine Or.inr ⟨l[j], List.getElem_mem _, h1.symm, h2.symm, ?_⟩
      rw [chkP_g hok h1 (by omega), if_pos h2] at this
      by_cases hd : l[j+1].d < l[j].d
      · rw [if_pos hd] at this; cases this
      · omega
    · exact Or.inl h2
theorem allok_s {n : Int} {l : List Rc} (h : AllOk n l) : ∀ x ∈ l, 0 ≤ x.s ∧ x.s ≤ n - 1 ∧ 1 ≤ x.k := fun x hx => by
  have := okR_d (down_of h x hx).1
  omega
/-- records with one key are one -/
def Agr (a b : List Rc) : Prop := ∀ y ∈ a, ∀ x ∈ b, sameK y x → y = x
theorem Agr.symm {a b : List Rc} (h : Agr a b) : Agr b a := fun y hy x hx hs => (h x hx y hy ⟨hs.1.symm, hs.2.symm⟩).symm
theorem mrg_len {a b m : List Rc} (h : mrgK a b = some m) : m.length ≤ a.length + b.length := by
  have go : ∀ (b l m : List Rc), mrgK l b = some m → m.length ≤ l.length + b.length := by
    intro b
    induction b with
    | nil => intro l m h; cases h; simp
    | cons x b ih =>
      intro l m h
      have e : mrgK l (x :: b) = (addK l x).bind fun l' => mrgK l' b := rfl
      rw [e] at h
      cases hq : addK l x with
      | none => rw [hq] at h; cases h
      | some l' =>
        rw [hq] at h
        have h1 := ih l' m h
        have h2 : l'.length ≤ l.length + 1 := by
          have hi : (insK l x).length = l.length + 1 := by
            have := posK_le l x
            unfold insK
            simp
            omega
          unfold addK at hq
          split at hq
          · split at hq
            · split at hq
              · cases hq; omega
              · cases hq
            · cases hq; omega
          · cases hq; omega
        rw [List.length_cons]
        omega
  exact go b a m h
theorem chk_split {n : Int} (l : List Rc) : ((chkL n l).2 = 0 → chkL n l = (0, 0) ∧ AllOk n l) := fun h => by
  have := chkL_zero h
  exact ⟨chkL_ok this, this⟩
theorem allok_chk {n : Int} {l : List Rc} (h : AllOk n l) : chkL n l = (0, 0) := chkL_ok h
end
section
open Go.RowKit Go.Shelf
/-- can there be so many branches? -/
def mny (n : Int) : Bool := decide (n = 3) || decide (n = 5)
theorem mny_le {n : Int} (h : mny n = true) : 3 ≤ n ∧ n ≤ 5 := by
  unfold mny at h
  simp only [Bool.or_eq_true, decide_eq_true_eq] at h
  omega
/-- what CheckRecords returns -/
def cR (n : Int) (l : List Rc) : Int × Int := if mny n = true then chkL n l else (0, 1)
def oR (n : Int) (l : List Rc) : Int × List Rc := if (cR n l).2 = 0 then (0, ordO l) else ((cR n l).2, [])
def mR (n : Int) (a b : List Rc) : Int × List Rc := if (cR n a).2 = 0 then (if (cR n b).2 = 0 then (match mrgK a b with | none => (96, []) | some m => (0, m)) else ((cR n b).2, [])) else ((cR n a).2, [])
def sR (n : Int) (l : List Rc) (f : Nat → Int) : Int × List Rc := if (cR n l).2 = 0 then (0, lackR f l) else ((cR n l).2, [])
theorem cR_ok {n : Int} {l : List Rc} (h : (cR n l).2 = 0) : mny n = true ∧ cR n l = (0, 0) ∧ AllOk n l := by
  unfold cR at h ⊢
  cases hm : mny n with
  | false => rw [hm] at h; cases h
  | true =>
    rw [hm] at h
    simp only [if_true] at h ⊢
    exact ⟨trivial, (chk_split l h).1, (chk_split l h).2⟩
theorem Chk_is (n : Int) (v : Value) (l : List Rc) (w : World) (hr : RecsAt w v l) (hl : l.length ≤ 1000) (ht : ∀ x ∈ l, x.t.size ≤ 1000) :
    Calls Tryz.prog 16 #[.int .i64 n, v] w fun e w' => e = .returned (.tuple #[.int .i64 (cR n l).1, .int .i64 (cR n l).2]) ∧ Gr w w' := by
  unfold cR
  cases hm : mny n with
  | false => exact CheckR_no n v w hm
  | true =>
    have := mny_le hm
    exact CheckR_any n v l w (by omega) (by omega) hr (by omega) (fun x hx => by have := ht x hx; omega) hm
theorem rChk_is (n : Int) (v : Value) (l : List Rc) (w : World) (hr : RecsAt w v l) (hl : l.length ≤ 1000) (ht : ∀ x ∈ l, x.t.size ≤ 1000) :
    Calls Tryz.prog 17 #[.int .i64 n, v] w fun e w' => e = .returned (.tuple #[.int .i64 (cR n l).1, .int .i64 (cR n l).2]) ∧ Gr w w' := by
  unfold cR
  cases hm : mny n with
  | false => exact rCheckR_no n v w hm
  | true =>
    have := mny_le hm
    exact rCheckR_any n v l w (by omega) (by omega) hr (by omega) (fun x hx => by have := ht x hx; omega) hm
/-- records in new memory, and an error -/
def Gives (r : Int × List Rc) (w : World) (e : Ending) (w' : World) : Prop := ∃ v', e = .returned (.tuple #[v', .int .i64 r.1]) ∧ w'.ownsRow w.heap.size 23 4 v' r.2.length (rcs r.2) ∧ Gr w w'
theorem Gives.no {w : World} {e0 : Int} {e : Ending} {w' : World} (h : e = .returned (.tuple #[.slice none 0 0, .int .i64 e0]) ∧ Gr w w') : Gives (e0, []) w e w' := ⟨_, h.1, World.ownsRow_nil _ _ _ _, h.2⟩
theorem Ord_is (n : Int) (v : Value) (l : List Rc) (w : World) (hr : RecsAt w v l) (hl : l.length ≤ 1000) (ht : ∀ x ∈ l, x.t.size ≤ 1000) :
    Calls Tryz.prog 18 #[.int .i64 n, v] w (Gives (oR n l) w) := by
  unfold oR
  by_cases h : (cR n l).2 = 0
  · rw [if_pos h]
    obtain ⟨hm, -, ha⟩ := cR_ok h
    have := mny_le hm
    refine (OrdA_is n v l w (by omega) (by omega) hr (by omega) (fun x hx => by have := ht x hx; omega) hm (allok_chk ha)).mono ?_
    rintro e w' ⟨v', h1, h2, h3⟩
    exact ⟨v', h1, h2, h3⟩
  · rw [if_neg h]
    cases hm : mny n with
    | false =>
      have e1 : cR n l = (0, 1) := by unfold cR; rw [hm]; rfl
      rw [e1]
      exact (OrdA_bad n v w hm).mono fun e w' h => Gives.no h
    | true =>
      have e1 : cR n l = chkL n l := by unfold cR; rw [if_pos hm]
      rw [e1] at h ⊢
      have := mny_le hm
      exact (OrdA_no n v l w (by omega) (by omega) hr (by omega) (fun x hx => by have := ht x hx; omega) hm _ _ rfl h).mono fun e w' h => Gives.no h
theorem rOrd_is (n : Int) (v : Value) (l : List Rc) (w : World) (hr : RecsAt w v l) (hl : l.length ≤ 1000) (ht : ∀ x ∈ l, x.t.size ≤ 1000) :
    Calls Tryz.prog 19 #[.int .i64 n, v] w (Gives (oR n l) w) := by
  have hc := fun u (g : Gr w u) => rChk_is n v l u (hr.gr g) hl ht
  unfold oR
  by_cases h : (cR n l).2 = 0
  · rw [if_pos h]
    obtain ⟨hm, he, ha⟩ := cR_ok h
    rw [he] at hc
    refine (rOrd_yes n v l w hr hl hc).mono ?_
    rintro e w' ⟨v', h1, h2, h3⟩
    exact ⟨v', h1, h2, h3⟩
  · rw [if_neg h]
    exact (rOrd_no n v _ _ w h hc).mono fun e w' h => Gives.no h
theorem Mis_is (n : Int) (v : Value) (l : List Rc) (a0 a1 a2 a3 a4 : Int) (w : World) (hr : RecsAt w v l) (hl : l.length ≤ 1000) (ht : ∀ x ∈ l, x.t.size ≤ 1000) :
    Calls Tryz.prog 22 #[.int .i64 n, v, havV a0 a1 a2 a3 a4] w (Gives (sR n l (hav a0 a1 a2 a3 a4)) w) := by
  have hc := fun u (g : Gr w u) => Chk_is n v l u (hr.gr g) hl ht
  unfold sR
  by_cases h : (cR n l).2 = 0
  · rw [if_pos h]
    obtain ⟨hm, he, ha⟩ := cR_ok h
    have hn := mny_le hm
    rw [he] at hc
    refine (Missing_yes n v l a0 a1 a2 a3 a4 w hr (by omega) (fun j hj => by have := allok_s ha l[j] (List.getElem_mem hj); omega) hc).mono ?_
    rintro e w' ⟨v', h1, h2, h3⟩
    exact ⟨v', h1, h2, h3⟩
  · rw [if_neg h]
    exact (Missing_no n v a0 a1 a2 a3 a4 _ _ w h hc).mono fun e w' h => Gives.no h
theorem rMis_is (n : Int) (v : Value) (l : List Rc) (a0 a1 a2 a3 a4 : Int) (w : World) (hr : RecsAt w v l) (hl : l.length ≤ 1000) (ht : ∀ x ∈ l, x.t.size ≤ 1000) :
    Calls Tryz.prog 23 #[.int .i64 n, v, havV a0 a1 a2 a3 a4] w (Gives (sR n l (hav a0 a1 a2 a3 a4)) w) := by
  have hc := fun u (g : Gr w u) => rChk_is n v l u (hr.gr g) hl ht
  unfold sR
  by_cases h : (cR n l).2 = 0
  · rw [if_pos h]
    obtain ⟨hm, he, ha⟩ := cR_ok h
    have hn := mny_le hm
    rw [he] at hc
    refine (rMissing_yes n v l a0 a1 a2 a3 a4 w hr (by omega) (fun j hj => by have := allok_s ha l[j] (List.getElem_mem hj); omega) hc).mono ?_
    rintro e w' ⟨v', h1, h2, h3⟩
    exact ⟨v', h1, h2, h3⟩
  · rw [if_neg h]
    exact (rMissing_no n v a0 a1 a2 a3 a4 _ _ w h hc).mono fun e w' h => Gives.no h
theorem Mrg_is (n : Int) (v1 v2 : Value) (a b : List Rc) (w : World) (hr : RecsAt w v1 a) (hr2 : RecsAt w v2 b) (hl : a.length ≤ 1000) (hl2 : b.length ≤ 1000) (ht : ∀ x ∈ a, x.t.size ≤ 1000) (ht2 : ∀ x ∈ b, x.t.size ≤ 1000) :
    Calls Tryz.prog 20 #[.int .i64 n, v1, v2] w (Gives (mR n a b) w) := by
  have hc := fun u (g : Gr w u) => Chk_is n v1 a u (hr.gr g) hl ht
  have hc2 := fun u (g : Gr w u) => Chk_is n v2 b u (hr2.gr g) hl2 ht2
  unfold mR
  by_cases h : (cR n a).2 = 0
  · rw [if_pos h]
    obtain ⟨hm, he, ha⟩ := cR_ok h
    rw [he] at hc
    by_cases h2 : (cR n b).2 = 0
    · rw [if_pos h2]
      obtain ⟨-, he2, hb⟩ := cR_ok h2
      rw [he2] at hc2
      refine (Merge_yes n v1 v2 a b w hr hr2 hl hl2 (chk_keys ha) hc hc2).mono ?_
      rintro e w' ⟨⟨h1, h2⟩ | ⟨m, v', h1, h2, h3⟩, h4⟩
      · rw [h1]
        exact Gives.no ⟨h2, h4⟩
      · rw [h1]
        exact ⟨v', h2, h3, h4⟩
    · rw [if_neg h2]
      exact (Merge_no2 n v1 v2 a b _ _ w hr hr2 h2 hc hc2).mono fun e w' h => Gives.no h
  · rw [if_neg h]
    exact (Merge_no n v1 v2 a b _ _ w hr hr2 h hc).mono fun e w' h => Gives.no h
theorem rMrg_is (n : Int) (v1 v2 : Value) (a b : List Rc) (w : World) (hr : RecsAt w v1 a) (hr2 : RecsAt w v2 b) (hl : a.length ≤ 1000) (hl2 : b.length ≤ 1000) (ht : ∀ x ∈ a, x.t.size ≤ 1000) (ht2 : ∀ x ∈ b, x.t.size ≤ 1000) :
    Calls Tryz.prog 21 #[.int .i64 n, v1, v2] w (Gives (mR n a b) w) := by
  have hc := fun u (g : Gr w u) => rChk_is n v1 a u (hr.gr g) hl ht
  have hc2 := fun u (g : Gr w u) => rChk_is n v2 b u (hr2.gr g) hl2 ht2
  unfold mR
  by_cases h : (cR n a).2 = 0
  · rw [if_pos h]
    obtain ⟨hm, he, ha⟩ := cR_ok h
    have hn := mny_le hm
    rw [he] at hc
    by_cases h2 : (cR n b).2 = 0
    · rw [if_pos h2]
      obtain ⟨-, he2, hb⟩ := cR_ok h2
      rw [he2] at hc2
      rw [mrg_one ha hb]
      refine (rMerge_yes n v1 v2 a b w (by omega) (by omega) hr hr2 hl hl2 hc hc2).mono ?_
      rintro e w' ⟨⟨h1, h2⟩ | ⟨m, v', h1, h2, h3⟩, h4⟩
      · rw [h1]
        exact Gives.no ⟨h2, h4⟩
      · rw [h1]
        exact ⟨v', h2, h3, h4⟩
    · rw [if_neg h2]
      exact (rMerge_no2 n v1 v2 _ _ w h2 hc hc2).mono fun e w' h => Gives.no h
  · rw [if_neg h]
    exact (rMerge_no n v1 v2 _ _ w h hc).mono fun e w' h => Gives.no h
end
end Go.Proofs.YthmimjofdmnakaaGreatDoor
