/- What CheckRecords, Order, Merge and Missing return, of the program and of the reference alike. -/
import Derived.Test.YthmimjofdmnakaaGreatDoorJMerge
import Derived.Test.YthmimjofdmnakaaGreatDoorJRMrg
import Derived.Test.YthmimjofdmnakaaGreatDoorStepsK
import Derived.Test.YthmimjofdmnakaaGreatDoorJJour
namespace Go.Proofs.YthmimjofdmnakaaGreatDoor
section
open Go.RowKit Go.Shelf
/-- can there be so many branches? -/
def mny (n : Int) : Bool := decide (n = 3) || decide (n = 5)
theorem mny_le {n : Int} (h : mny n = true) : 3 ≤ n ∧ n ≤ 5 := by
  unfold mny at h
  simp only [Bool.or_eq_true, decide_eq_true_eq] at h
  omega
/-- what CheckRecords returns -/
def cR (n : Int) (l : List Rc) : Int × Int := if mny n = true then chkL n l else (0, 1)
def mR (n : Int) (a b : List Rc) : Int × List Rc := if (cR n a).2 = 0 then (if (cR n b).2 = 0 then (match mrgK a b with | none => (96, []) | some m => (0, m)) else ((cR n b).2, [])) else ((cR n a).2, [])
def sR (n : Int) (l : List Rc) (f : Nat → Int) : Int × List Rc := if (cR n l).2 = 0 then (0, lackR f l) else ((cR n l).2, [])
theorem cR_ok {n : Int} {l : List Rc} (h : (cR n l).2 = 0) : mny n = true ∧ cR n l = (0, 0) ∧ AllOk n l := by
  unfold cR at h ⊢
  cases hm : mny n with
  | false => rw [hm] at h; cases h
  | true =>
    rw [hm] at h
    simp only [if_true] at h ⊢
    exact ⟨trivial, (chk_split l h).1, (chk_split l h).2⟩
theorem cR_of {n : Int} {l : List Rc} (hm : mny n = true) (h : AllOk n l) : cR n l = (0, 0) := by
  unfold cR
  rw [if_pos hm]
  exact allok_chk h
theorem Chk_is (n : Int) (v : Value) (l : List Rc) (w : World) (hr : RecsAt w v l) (hl : l.length ≤ 1000) (ht : ∀ x ∈ l, x.t.size ≤ 1000) :
    Calls Tryz.prog 16 #[.int .i64 n, v] w fun e w' => e = .returned (.tuple #[.int .i64 (cR n l).1, .int .i64 (cR n l).2]) ∧ Gr w w' := by
  unfold cR
  cases hm : mny n with
  | false => exact CheckR_no n v w hm
  | true =>
    have := mny_le hm
    exact CheckR_any n v l w (by omega) (by omega) hr (by omega) (fun x hx => by have := ht x hx; omega) hm
/-- records in new memory, and an error -/
def Gives (r : Int × List Rc) (w : World) (e : Ending) (w' : World) : Prop := ∃ v', e = .returned (.tuple #[v', .int .i64 r.1]) ∧ w'.ownsRow w.heap.size 23 4 v' r.2.length (rcs r.2) ∧ Gr w w'
theorem Gives.no {w : World} {e0 : Int} {e : Ending} {w' : World} (h : e = .returned (.tuple #[.slice none 0 0, .int .i64 e0]) ∧ Gr w w') : Gives (e0, []) w e w' := ⟨_, h.1, World.ownsRow_nil _ _ _ _, h.2⟩
theorem Mis_is (n : Int) (v : Value) (l : List Rc) (a0 a1 a2 a3 a4 : Int) (w : World) (hr : RecsAt w v l) (hl : l.length ≤ 1000) (ht : ∀ x ∈ l, x.t.size ≤ 1000) :
    Calls Tryz.prog 22 #[.int .i64 n, v, havV a0 a1 a2 a3 a4] w (Gives (sR n l (hav a0 a1 a2 a3 a4)) w) := by
  have hc := fun u (g : Gr w u) => Chk_is n v l u (hr.gr g) hl ht
  unfold sR
  by_cases h : (cR n l).2 = 0
  · rw [if_pos h]
    obtain ⟨hm, he, ha⟩ := cR_ok h
    have hn := mny_le hm
    rw [he] at hc
    refine (Missing_yes n v l a0 a1 a2 a3 a4 w hr (by omega) (fun j hj => by have := allok_s ha l[j] (List.getElem_mem hj); omega) hc).mono ?_
    rintro e w' ⟨v', h1, h2, h3⟩
    exact ⟨v', h1, h2, h3⟩
  · rw [if_neg h]
    exact (Missing_no n v a0 a1 a2 a3 a4 _ _ w h hc).mono fun e w' h => Gives.no h
theorem Mrg_is (n : Int) (v1 v2 : Value) (a b : List Rc) (w : World) (hr : RecsAt w v1 a) (hr2 : RecsAt w v2 b) (hl : a.length ≤ 1000) (hl2 : b.length ≤ 1000) (ht : ∀ x ∈ a, x.t.size ≤ 1000) (ht2 : ∀ x ∈ b, x.t.size ≤ 1000) :
    Calls Tryz.prog 20 #[.int .i64 n, v1, v2] w (Gives (mR n a b) w) := by
  have hc := fun u (g : Gr w u) => Chk_is n v1 a u (hr.gr g) hl ht
  have hc2 := fun u (g : Gr w u) => Chk_is n v2 b u (hr2.gr g) hl2 ht2
  unfold mR
  by_cases h : (cR n a).2 = 0
  · rw [if_pos h]
    obtain ⟨hm, he, ha⟩ := cR_ok h
    rw [he] at hc
    by_cases h2 : (cR n b).2 = 0
    · rw [if_pos h2]
      obtain ⟨-, he2, hb⟩ := cR_ok h2
      rw [he2] at hc2
      refine (Merge_yes n v1 v2 a b w hr hr2 hl hl2 (chk_keys ha) hc hc2).mono ?_
      rintro e w' ⟨⟨h1, h2⟩ | ⟨m, v', h1, h2, h3⟩, h4⟩
      · rw [h1]
        exact Gives.no ⟨h2, h4⟩
      · rw [h1]
        exact ⟨v', h2, h3, h4⟩
    · rw [if_neg h2]
      exact (Merge_no2 n v1 v2 a b _ _ w hr hr2 h2 hc hc2).mono fun e w' h => Gives.no h
  · rw [if_neg h]
    exact (Merge_no n v1 v2 a b _ _ w hr hr2 h hc).mono fun e w' h => Gives.no h
end
section
open Go.RowKit Go.Shelf
theorem mR_len (n : Int) (a b : List Rc) : (mR n a b).2.length ≤ a.length + b.length := by
  unfold mR
  split
  · split
    · cases h : mrgK a b with
      | none => exact Nat.zero_le _
      | some m => exact mrg_len h
    · exact Nat.zero_le _
  · exact Nat.zero_le _
theorem Same_yes (v v2 : Value) (l : List Rc) (w : World) (hv : RecsAt w v l) (hv2 : RecsAt w v2 l) (hl : l.length ≤ 1000) :
    Calls Tryz.prog 24 #[v, v2] w fun e w' => e = .returned (.bool true) ∧ Gr w w' := by
  have := Same_any v v2 l l w hv hv2 (by omega) (by omega)
  rw [decide_eq_true (rfl : l = l)] at this
  exact this
end
end Go.Proofs.YthmimjofdmnakaaGreatDoor
