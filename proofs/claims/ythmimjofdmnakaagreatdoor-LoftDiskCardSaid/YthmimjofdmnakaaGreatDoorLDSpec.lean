/- LoftDisk: what a disk is, by its definition. No program in sight. -/
import Derived.Lib.Split
import Derived.Laws.AppendOwn
namespace Go.Proofs.YthmimjofdmnakaaGreatDoor
open Go
/-- what a disk contains; left: how many calls succeed before the power fails, -1: it does not fail -/
structure Sp where
  dur : List (List UInt8)
  pend : List (Nat × List UInt8)
  left : Int
  down : Bool
/-- the sectors as they are read -/
def setAll (d : List (List UInt8)) (l : List (Nat × List UInt8)) : List (List UInt8) := l.foldl (fun d x => d.set x.1 x.2) d
def Sp.now (S : Sp) : List (List UInt8) := setAll S.dur S.pend
structure Sp.Ok (S : Sp) (m : Nat) : Prop where
  n : S.dur.length = m
  s : ∀ x ∈ S.dur, x.length = 64
  p : ∀ x ∈ S.pend, x.1 < m ∧ x.2.length = 64
  l : -1 ≤ S.left
/-- 64 bytes -/
def padB (b : List UInt8) : List UInt8 := b ++ List.replicate (64 - b.length) 0
theorem padB_len {b : List UInt8} (h : b.length ≤ 64) : (padB b).length = 64 := by unfold padB; simp; omega
/-- why a disk can do nothing with a sector -/
def upV (down : Bool) (i n : Int) : Int := if down then 90 else if 0 ≤ i ∧ i ≤ n - 1 then 0 else 1
/-- a call is counted -/
def Sp.call (S : Sp) : Sp := if S.left = 0 then { S with down := true } else { S with left := if 0 < S.left then S.left - 1 else S.left }
def Sp.write (S : Sp) (m : Nat) (i : Int) (b : List UInt8) : Int × Sp :=
  if upV S.down i m ≠ 0 then (upV S.down i m, S) else if 64 < b.length then (2, S) else if S.left = 0 then (90, S.call) else (0, { S.call with pend := S.pend ++ [(i.toNat, padB b)] })
def Sp.flush (S : Sp) : Int × Sp := if S.down then (90, S) else if S.left = 0 then (90, S.call) else (0, { S.call with dur := S.now, pend := [] })
def Sp.stop (S : Sp) (n : Int) : Int × Sp := if S.down then (90, S) else if n < 0 then (1, S) else (0, { S with left := n })
/-- so much of a pending write happens -/
def keepN (keep : List Int) (i : Nat) : Nat := match keep[i]? with | some k => (min (max k 0) 64).toNat | none => 0
def crashF (keep : List Int) : Nat → List (List UInt8) → List (Nat × List UInt8) → List (List UInt8)
  | _, d, [] => d
  | i, d, x :: l => crashF keep (i + 1) (d.set x.1 (x.2.take (keepN keep i) ++ (d.getD x.1 []).drop (keepN keep i))) l
def Sp.crash (S : Sp) (keep : List Int) : Sp := { dur := crashF keep 0 S.dur S.pend, pend := [], left := -1, down := false }
def Sp.read (S : Sp) (m : Nat) (i : Int) : Int × List UInt8 := if upV S.down i m ≠ 0 then (upV S.down i m, []) else (0, S.now.getD i.toNat [])
theorem setAll_len : ∀ (l : List (Nat × List UInt8)) (d : List (List UInt8)), (setAll d l).length = d.length
  | [], _ => rfl
  | x :: l, d => by
    show (setAll (d.set x.1 x.2) l).length = _
    rw [setAll_len l, List.length_set]
theorem mem_set' {α : Type} {l : List α} {i : Nat} {a b : α} (h : b ∈ l.set i a) : b ∈ l ∨ b = a := by
  rcases List.mem_or_eq_of_mem_set h with h | h
  · exact .inl h
  · exact .inr h
theorem setAll_64 : ∀ (l : List (Nat × List UInt8)) (d : List (List UInt8)), (∀ x ∈ d, x.length = 64) → (∀ x ∈ l, x.2.length = 64) → ∀ x ∈ setAll d l, x.length = 64
  | [], d, h, _ => h
  | x :: l, d, h, h2 => setAll_64 l (d.set x.1 x.2) (fun y hy => by
      rcases mem_set' hy with hy | rfl
      · exact h y hy
      · exact h2 x (by simp)) (fun y hy => h2 y (by simp [hy]))
theorem setAll_snoc (d : List (List UInt8)) (l : List (Nat × List UInt8)) (x : Nat × List UInt8) : setAll d (l ++ [x]) = (setAll d l).set x.1 x.2 := by
  unfold setAll; rw [List.foldl_append]; rfl
theorem crashF_ok (keep : List Int) (m : Nat) : ∀ (l : List (Nat × List UInt8)) (i : Nat) (d : List (List UInt8)), d.length = m → (∀ x ∈ d, x.length = 64) → (∀ x ∈ l, x.1 < m ∧ x.2.length = 64) → (crashF keep i d l).length = m ∧ ∀ x ∈ crashF keep i d l, x.length = 64
  | [], _, d, h1, h2, _ => ⟨h1, h2⟩
  | x :: l, i, d, h1, h2, h3 => by
    refine crashF_ok keep m l (i + 1) _ (by simp [h1]) (fun y hy => ?_) (fun y hy => h3 y (by simp [hy]))
    rcases mem_set' hy with hy | rfl
    · exact h2 y hy
    · have hx := h3 x (by simp)
      have hd : (d.getD x.1 []).length = 64 := by
        rw [List.getD_eq_getElem?_getD, List.getElem?_eq_getElem (by omega)]
        exact h2 _ (List.getElem_mem _)
      have hk : keepN keep i ≤ 64 := by unfold keepN; split <;> omega
      simp only [List.length_append, List.length_take, List.length_drop, hx.2, hd]
      omega
theorem Sp.call_ok {S : Sp} {m : Nat} (h : S.Ok m) : S.call.Ok m := by
  unfold Sp.call
  split
  · exact ⟨h.n, h.s, h.p, h.l⟩
  · refine ⟨h.n, h.s, h.p, ?_⟩
    have := h.l
    show -1 ≤ (if 0 < S.left then S.left - 1 else S.left)
    split <;> omega
theorem Sp.call_dur (S : Sp) : S.call.dur = S.dur := by unfold Sp.call; split <;> rfl
theorem Sp.call_pend (S : Sp) : S.call.pend = S.pend := by unfold Sp.call; split <;> rfl
theorem upV_0 {down : Bool} {i n : Int} (h : upV down i n = 0) : down = false ∧ 0 ≤ i ∧ i < n := by
  unfold upV at h
  cases down
  · rw [if_neg (by simp)] at h
    split at h
    · exact ⟨rfl, by omega, by omega⟩
    · omega
  · rw [if_pos rfl] at h; omega
theorem Sp.write_ok {S : Sp} {m : Nat} (h : S.Ok m) (i : Int) (b : List UInt8) : (S.write m i b).2.Ok m := by
  unfold Sp.write
  split
  · exact h
  · rename_i h0
    split
    · exact h
    · split
      · exact Sp.call_ok h
      · have hc := Sp.call_ok h
        obtain ⟨_, h1, h2⟩ := upV_0 (by simpa using h0 : upV S.down i m = 0)
        refine ⟨hc.n, hc.s, fun x hx => ?_, hc.l⟩
        rcases List.mem_append.1 hx with hx | hx
        · exact h.p x hx
        · obtain rfl := List.mem_singleton.1 hx
          exact ⟨by show i.toNat < m; omega, padB_len (by omega)⟩
theorem Sp.now_ok {S : Sp} {m : Nat} (h : S.Ok m) : S.now.length = m ∧ ∀ x ∈ S.now, x.length = 64 :=
  ⟨(setAll_len _ _).trans h.n, setAll_64 _ _ h.s fun x hx => (h.p x hx).2⟩
theorem Sp.flush_ok {S : Sp} {m : Nat} (h : S.Ok m) : S.flush.2.Ok m := by
  unfold Sp.flush
  split
  · exact h
  · split
    · exact Sp.call_ok h
    · exact ⟨(Sp.now_ok h).1, (Sp.now_ok h).2, fun x hx => by simp at hx, (Sp.call_ok h).l⟩
theorem Sp.stop_ok {S : Sp} {m : Nat} (h : S.Ok m) (n : Int) : (S.stop n).2.Ok m := by
  unfold Sp.stop
  split
  · exact h
  · split
    · exact h
    · exact ⟨h.n, h.s, h.p, by show -1 ≤ n; omega⟩
theorem Sp.crash_ok {S : Sp} {m : Nat} (h : S.Ok m) (keep : List Int) : (S.crash keep).Ok m := by
  obtain ⟨h1, h2⟩ := crashF_ok keep m S.pend 0 S.dur h.n h.s h.p
  exact ⟨h1, h2, fun x hx => by simp [Sp.crash] at hx, by simp [Sp.crash]⟩
theorem flk_len {α : Type} {f : α → List Value} {k : Nat} (hf : ∀ x, (f x).length = k) (l : List α) : (l.flatMap f).length = l.length * k := by
  induction l with
  | nil => simp
  | cons x l ih => rw [List.flatMap_cons, List.length_append, ih, hf, List.length_cons, Nat.succ_mul]; omega
theorem flk_at {α : Type} {f : α → List Value} {k : Nat} (hf : ∀ x, (f x).length = k) : ∀ (l : List α) (j c : Nat) (hj : j < l.length) (_ : c < k), (l.flatMap f)[j * k + c]? = (f l[j])[c]?
  | [], j, c, hj, _ => by simp at hj
  | x :: l, 0, c, _, hc => by
    rw [List.flatMap_cons, List.getElem?_append_left (by rw [hf]; omega)]
    simp
  | x :: l, j + 1, c, hj, hc => by
    have e : (j + 1) * k = j * k + k := Nat.succ_mul _ _
    rw [List.flatMap_cons, List.getElem?_append_right (by rw [hf]; omega)]
    have := flk_at hf l j c (by simpa using hj) hc
    simp only [List.getElem_cons_succ]
    rw [← this, hf]
    congr 1
    omega
end Go.Proofs.YthmimjofdmnakaaGreatDoor
