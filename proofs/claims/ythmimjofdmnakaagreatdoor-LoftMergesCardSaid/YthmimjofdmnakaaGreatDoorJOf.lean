/- strickleref09: of. -/
import Derived.Test.YthmimjofdmnakaaGreatDoorJSame
import Derived.Test.YthmimjofdmnakaaGreatDoorLDisk
import Derived.OwnWalk
namespace Go.Proofs.YthmimjofdmnakaaGreatDoor
section
open Go.RowKit Go.Shelf
/-- the records of a branch -/
def ofR (l : List Rc) (st : Int) : List Rc := l.filter fun r => decide (r.s = st)
theorem ofR_yes {l : List Rc} {st : Int} {i : Nat} (hi : i < l.length) (h : l[i].s = st) : ofR (l.take (i+1)) st = ofR (l.take i) st ++ [l[i]] := by
  unfold ofR
  rw [List.take_succ_eq_append_getElem hi, List.filter_append]
  simp [h]
theorem ofR_no {l : List Rc} {st : Int} {i : Nat} (hi : i < l.length) (h : ¬ l[i].s = st) : ofR (l.take (i+1)) st = ofR (l.take i) st := by
  unfold ofR
  rw [List.take_succ_eq_append_getElem hi, List.filter_append]
  simp [h]
theorem ofR_le (l : List Rc) (st : Int) : (ofR l st).length ≤ l.length := List.length_filter_le _ _
end
section
open Go.RowKit Go.Shelf
/-- how many somebody has of each branch -/
abbrev havV (a0 a1 a2 a3 a4 : Int) : Value := .agg #[.int .i64 a0, .int .i64 a1, .int .i64 a2, .int .i64 a3, .int .i64 a4]
def hav (a0 a1 a2 a3 a4 : Int) : Nat → Int
  | 0 => a0 | 1 => a1 | 2 => a2 | 3 => a3 | _ => a4
theorem hav_at (a0 a1 a2 a3 a4 : Int) {s : Nat} (h : s < 5) : (#[.int .i64 a0, .int .i64 a1, .int .i64 a2, .int .i64 a3, .int .i64 a4] : Array Value)[s]? = some (.int .i64 (hav a0 a1 a2 a3 a4 s)) := by
  match s, h with
  | 0, _ => rfl
  | 1, _ => rfl
  | 2, _ => rfl
  | 3, _ => rfl
  | 4, _ => rfl
/-- the records that somebody lacks -/
def lackR (f : Nat → Int) (l : List Rc) : List Rc := l.filter fun r => decide (f r.s.toNat < r.k)
theorem recs_of_own {w : World} {base : Nat} {v : Value} {l : List Rc} (h : w.ownsRow base 23 4 v l.length (rcs l)) : RecsAt w v l :=
  RowR.recs (World.ownsRow.mono (base' := 0) h (Nat.zero_le _))
end
end Go.Proofs.YthmimjofdmnakaaGreatDoor
