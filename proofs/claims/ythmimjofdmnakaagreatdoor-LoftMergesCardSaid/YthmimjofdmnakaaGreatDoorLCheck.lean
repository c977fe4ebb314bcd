/- loft: CheckRecords. -/
import Derived.Test.YthmimjofdmnakaaGreatDoorLSrch
namespace Go.Proofs.YthmimjofdmnakaaGreatDoor
open Go.RowKit Go.Shelf
/-- is a record formed? -/
def okR (n : Int) (x : Rc) : Bool := formedB n x.s x.k x.d x.t
/-- what is wrong with a record behind another one -/
def chkE (n : Int) (num day : Int) (p : Option Rc) (x : Rc) : Int :=
  if okR n x = false then 1 else if (p.any fun q => decide (0 ≤ cmpR q x)) = true then 6 else if x.k ≠ num + 1 then 93 else if x.d < day then 7 else 0
def chkP (n : Int) (p : Option Rc) (x : Rc) : Int := match p with
  | none => chkE n 0 0 none x
  | some q => if q.s = x.s then chkE n q.k q.d (some q) x else chkE n 0 0 (some q) x
/-- what is wrong with record i of a list -/
def chkA (n : Int) (l : List Rc) (i : Nat) : Int := match l[i]? with
  | none => 0
  | some x => chkP n (if i = 0 then none else l[i-1]?) x
theorem chkA_0 {n : Int} {l : List Rc} (h : 0 < l.length) : chkA n l 0 = chkE n 0 0 none l[0] := by
  unfold chkA; rw [List.getElem?_eq_getElem h]; rfl
theorem chkA_s {n : Int} {l : List Rc} {i : Nat} (h : i + 1 < l.length) : chkA n l (i+1) = chkP n (some (l[i]'(by omega))) l[i+1] := by
  unfold chkA
  rw [List.getElem?_eq_getElem h, if_neg (by omega), Nat.add_sub_cancel, List.getElem?_eq_getElem (show i < l.length by omega)]
/-- what CheckRecords returns for a list, from place i on -/
def chkF (n : Int) (l : List Rc) : Nat → Nat → Int × Int
  | 0, _ => (0, 0)
  | f + 1, i => if i < l.length then if chkA n l i ≠ 0 then (i, chkA n l i) else chkF n l f (i+1) else (0, 0)
def chkL (n : Int) (l : List Rc) : Int × Int := chkF n l (l.length + 1) 0
theorem chkF_skip {n : Int} {l : List Rc} : ∀ (f i k : Nat), (∀ j, j < k → j < l.length → chkA n l j = 0) → k ≤ l.length → i ≤ k → l.length + 1 ≤ f + i → chkF n l f i = chkF n l (f - (k - i)) k
  | 0, i, k, _, h, h1, h2 => by have : i = k := by omega
                                subst this; simp
  | f + 1, i, k, h, hk, h1, h2 => by
    by_cases e : i = k
    · subst e; simp
    · rw [chkF, if_pos (by omega), if_neg (by rw [h i (by omega) (by omega)]; simp), chkF_skip f (i+1) k h hk (by omega) (by omega)]
      congr 1; omega
theorem chkL_at {n : Int} {l : List Rc} {i : Nat} {e : Int} (h : ∀ j, j < i → j < l.length → chkA n l j = 0) (hi : i < l.length) (he : chkA n l i = e) (h0 : e ≠ 0) : chkL n l = ((i : Int), e) := by
  unfold chkL
  rw [chkF_skip _ 0 i h (by omega) (by omega) (by omega)]
  obtain ⟨f, hf⟩ : ∃ f, l.length + 1 - (i - 0) = f + 1 := ⟨l.length - i, by omega⟩
  rw [hf, chkF, if_pos hi, if_pos (by rw [he]; exact h0), he]
theorem chkL_ok {n : Int} {l : List Rc} (h : ∀ j, j < l.length → chkA n l j = 0) : chkL n l = (0, 0) := by
  unfold chkL
  rw [chkF_skip _ 0 l.length (fun j hj _ => h j hj) (by omega) (by omega) (by omega)]
  obtain ⟨f, hf⟩ : ∃ f, l.length + 1 - (l.length - 0) = f + 1 := ⟨0, by omega⟩
  rw [hf, chkF, if_neg (by omega)]
theorem chkE_ok {n a b : Int} {p : Option Rc} {x : Rc} (h : chkE n a b p x = 0) : okR n x = true := by
  unfold chkE at h
  cases hb : okR n x with
  | true => rfl
  | false => rw [hb] at h; simp at h
theorem okR_k {n : Int} {x : Rc} (h : okR n x = true) : 1 ≤ x.k ∧ x.k ≤ 400 := by
  unfold okR formedB at h
  simp only [Bool.and_eq_true, decide_eq_true_eq] at h
  omega
theorem chkA_ok {n : Int} {l : List Rc} {i : Nat} (hi : i < l.length) (h : chkA n l i = 0) : okR n l[i] = true := by
  unfold chkA at h
  rw [List.getElem?_eq_getElem hi] at h
  dsimp only at h
  unfold chkP at h
  split at h
  · exact chkE_ok h
  · split at h
    · exact chkE_ok h
    · exact chkE_ok h
theorem formedR_any (n : Int) (x : Rc) (w : World) (hn1 : -1000000 ≤ n) (hn2 : n ≤ 1000000) (ht : x.t.size ≤ 100000) :
    Calls Tryz.prog 52 #[.int .i64 n, x.v] w fun e w' => e = .returned (.bool (okR n x)) ∧ Gr w w' := formed_any n x.s x.k x.d x.t w hn1 hn2 ht
end Go.Proofs.YthmimjofdmnakaaGreatDoor
