/- Plain laws of journals: merging, record after record. -/
import Derived.Test.YthmimjofdmnakaaGreatDoorJNum
namespace Go.Proofs.YthmimjofdmnakaaGreatDoor
/-- where a record belongs -/
def posK (l : List Rc) (x : Rc) : Nat := (l.takeWhile fun r => decide (cmpR r x < 0)).length
def insK (l : List Rc) (x : Rc) : List Rc := l.take (posK l x) ++ [x] ++ l.drop (posK l x)
theorem cmpR_neg (a b : Rc) : cmpR a b < 0 ↔ keyL a b := cmpR_lt a b
theorem posK_le (l : List Rc) (x : Rc) : posK l x ≤ l.length := (List.takeWhile_prefix _).length_le
theorem posK_lt {x : Rc} : ∀ {l : List Rc} (j : Nat) (hj : j < l.length), j < posK l x → cmpR l[j] x < 0
  | a :: l, j, hj, h => by
    unfold posK at h
    by_cases ha : cmpR a x < 0
    · rw [List.takeWhile_cons_of_pos (p := fun r => decide (cmpR r x < 0)) (decide_eq_true ha), List.length_cons] at h
      cases j with
      | zero => exact ha
      | succ j => exact posK_lt j (by simpa using hj) (by unfold posK; omega)
    · rw [List.takeWhile_cons_of_neg (p := fun r => decide (cmpR r x < 0)) (by simpa using ha)] at h
      simp at h
theorem posK_ge {x : Rc} : ∀ {l : List Rc} (_ : KeyS l) (j : Nat) (hj : j < l.length), posK l x ≤ j → ¬ cmpR l[j] x < 0
  | a :: l, hk, j, hj, h => by
    have hk' := List.pairwise_cons.1 hk
    unfold posK at h
    by_cases ha : cmpR a x < 0
    · rw [List.takeWhile_cons_of_pos (p := fun r => decide (cmpR r x < 0)) (decide_eq_true ha), List.length_cons] at h
      cases j with
      | zero => omega
      | succ j => exact posK_ge hk'.2 j (by simpa using hj) (by unfold posK; omega)
    · cases j with
      | zero => exact ha
      | succ j =>
        intro hc
        rw [cmpR_neg] at ha hc
        exact ha (keyL_trans (hk'.1 _ (List.getElem_mem _)) hc)
/-- one record more -/
def addK (l : List Rc) (x : Rc) : Option (List Rc) :=
  if h : posK l x < l.length then
    if cmpR l[posK l x] x = 0 then (if l[posK l x] = x then some l else none) else some (insK l x)
  else some (insK l x)
def mrgK : List Rc → List Rc → Option (List Rc)
  | l, [] => some l
  | l, x :: b => (addK l x).bind fun l' => mrgK l' b
def sameK (a b : Rc) : Prop := a.s = b.s ∧ a.k = b.k
theorem insK_mem (l : List Rc) (x y : Rc) : y ∈ insK l x ↔ y = x ∨ y ∈ l := by
  unfold insK
  rw [List.mem_append, List.mem_append, List.mem_singleton]
  have : y ∈ l ↔ y ∈ l.take (posK l x) ∨ y ∈ l.drop (posK l x) := by
    rw [← List.mem_append, List.take_append_drop]
  rw [this]
  constructor
  · rintro ((h | h) | h)
    · exact Or.inr (Or.inl h)
    · exact Or.inl h
    · exact Or.inr (Or.inr h)
  · rintro (h | h | h)
    · exact Or.inl (Or.inr h)
    · exact Or.inl (Or.inl h)
    · exact Or.inr h
theorem insK_keys {l : List Rc} {x : Rc} (hk : KeyS l) (hn : ∀ y ∈ l, ¬ sameK y x) : KeyS (insK l x) := by
  unfold insK
  have h0 : KeyS (l.take (posK l x) ++ l.drop (posK l x)) := by rw [List.take_append_drop]; exact hk
  obtain ⟨h1, h2, h3⟩ := List.pairwise_append.1 h0
  have ha : ∀ y ∈ l.take (posK l x), keyL y x := fun y hy => by
    obtain ⟨j, hj, rfl⟩ := List.mem_take_iff_getElem.1 hy
    exact (cmpR_neg _ _).1 (posK_lt j (by omega) (by omega))
  have hb : ∀ y ∈ l.drop (posK l x), keyL x y := fun y hy => by
    obtain ⟨j, hj, rfl⟩ := List.mem_drop_iff_getElem.1 hy
    have h5 := posK_ge (x := x) hk (posK l x + j) (by omega) (by omega)
    rw [cmpR_neg] at h5
    have h6 := hn l[posK l x + j] (List.getElem_mem _)
    unfold keyL at h5 ⊢
    unfold sameK at h6
    omega
  refine List.pairwise_append.2 ⟨List.pairwise_append.2 ⟨h1, List.pairwise_singleton _ _, fun a ha' b hb' => ?_⟩, h2, fun a ha' b hb' => ?_⟩
  · rw [List.mem_singleton] at hb'; subst hb'; exact ha a ha'
  · rcases List.mem_append.1 ha' with h | h
    · exact h3 a h b hb'
    · rw [List.mem_singleton] at h; subst h; exact hb b hb'
theorem sameK_pos {l : List Rc} {x y : Rc} (hk : KeyS l) (hy : y ∈ l) (h : sameK y x) : ∃ hp : posK l x < l.length, l[posK l x] = y := by
  obtain ⟨j, hj, rfl⟩ := List.mem_iff_getElem.1 hy
  have h1 : ¬ j < posK l x := fun hlt => by
    have := posK_lt (x := x) j hj hlt
    rw [cmpR_neg] at this
    unfold keyL at this; unfold sameK at h; omega
  have hp : posK l x < l.length := by omega
  refine ⟨hp, ?_⟩
  by_cases e : posK l x = j
  · simp only [e]
  · have h2 := List.pairwise_iff_getElem.1 hk (posK l x) j hp hj (by omega)
    have h3 := posK_ge (x := x) hk (posK l x) hp (Nat.le_refl _)
    rw [cmpR_neg] at h3
    unfold keyL at h2 h3; unfold sameK at h; omega
/-- what one record more does -/
theorem addK_is {l : List Rc} {x : Rc} (hk : KeyS l) :
    (addK l x = none ∧ ∃ y ∈ l, sameK y x ∧ y ≠ x) ∨ ∃ l', addK l x = some l' ∧ KeyS l' ∧ (∀ y, y ∈ l' ↔ y = x ∨ y ∈ l) ∧ ∀ y ∈ l, sameK y x → y = x := by
  unfold addK
  by_cases hp : posK l x < l.length
  · rw [dif_pos hp]
    by_cases hc : cmpR l[posK l x] x = 0
    · rw [if_pos hc]
      have hs : sameK l[posK l x] x := (cmpR_eq _ _).1 hc
      by_cases he : l[posK l x] = x
      · rw [if_pos he]
        have hx : x ∈ l := by rw [← he]; exact List.getElem_mem hp
        refine Or.inr ⟨l, rfl, hk, fun y => ⟨Or.inr, fun h => h.elim (fun e => e ▸ hx) id⟩, fun y hy h => ?_⟩
        obtain ⟨_, e⟩ := sameK_pos hk hy h
        rw [← e, he]
      · rw [if_neg he]
        exact Or.inl ⟨rfl, _, List.getElem_mem hp, hs, he⟩
    · rw [if_neg hc]
      have hn : ∀ y ∈ l, ¬ sameK y x := fun y hy h => by
        obtain ⟨_, e⟩ := sameK_pos hk hy h
        rw [e] at hc
        exact hc ((cmpR_eq _ _).2 h)
      exact Or.inr ⟨_, rfl, insK_keys hk hn, insK_mem l x, fun y hy h => absurd h (hn y hy)⟩
  · rw [dif_neg hp]
    have hn : ∀ y ∈ l, ¬ sameK y x := fun y hy h => by
      obtain ⟨h1, _⟩ := sameK_pos hk hy h
      exact hp h1
    exact Or.inr ⟨_, rfl, insK_keys hk hn, insK_mem l x, fun y hy h => absurd h (hn y hy)⟩
/-- what merging does -/
theorem mrgK_is : ∀ {b l : List Rc}, KeyS l → KeyS b →
    (mrgK l b = none ∧ ∃ y ∈ l, ∃ x ∈ b, sameK y x ∧ y ≠ x) ∨ ∃ m, mrgK l b = some m ∧ KeyS m ∧ (∀ y, y ∈ m ↔ y ∈ l ∨ y ∈ b) ∧ ∀ y ∈ l, ∀ x ∈ b, sameK y x → y = x
  | [], l, hl, _ => Or.inr ⟨l, rfl, hl, fun y => by simp, fun y _ x hx => by cases hx⟩
  | x :: b, l, hl, hb => by
    have hb' := List.pairwise_cons.1 hb
    rcases addK_is (x := x) hl with ⟨h1, y, hy, h2, h3⟩ | ⟨l', h1, h2, h3, h4⟩
    · exact Or.inl ⟨by rw [mrgK, h1]; rfl, y, hy, x, List.mem_cons_self, h2, h3⟩
    · have e : mrgK l (x :: b) = mrgK l' b := by rw [mrgK, h1]; rfl
      rw [e]
      rcases mrgK_is h2 hb'.2 with ⟨k1, y, hy, z, hz, k2, k3⟩ | ⟨m, k1, k2, k3, k4⟩
      · rcases (h3 y).1 hy with rfl | hy'
        · have := hb'.1 z hz
          unfold keyL at this; unfold sameK at k2; omega
        · exact Or.inl ⟨k1, y, hy', z, List.mem_cons_of_mem _ hz, k2, k3⟩
      · refine Or.inr ⟨m, k1, k2, fun y => ?_, fun y hy z hz hs => ?_⟩
        · rw [k3, h3, List.mem_cons]
          constructor
          · rintro ((h | h) | h)
            · exact Or.inr (Or.inl h)
            · exact Or.inl h
            · exact Or.inr (Or.inr h)
          · rintro (h | h | h)
            · exact Or.inl (Or.inr h)
            · exact Or.inl (Or.inl h)
            · exact Or.inr h
        · rcases List.mem_cons.1 hz with rfl | hz'
          · exact h4 y hy hs
          · exact k4 y ((h3 y).2 (Or.inr hy)) z hz' hs
end Go.Proofs.YthmimjofdmnakaaGreatDoor
