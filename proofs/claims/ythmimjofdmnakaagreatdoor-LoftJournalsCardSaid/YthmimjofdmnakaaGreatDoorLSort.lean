/- Rows that the library sorts. -/
import Derived.Test.YthmimjofdmnakaaGreatDoorLOrd
import Derived.Shelf.SlSortCmp.NoneTotal
namespace Go.Proofs.YthmimjofdmnakaaGreatDoor
section
open Go.RowKit Go.Shelf Go.Lib Go.Sort
section
variable {α : Type} (enc : α → List Value) (k : Nat) (hk : ∀ x, (enc x).length = k)
include hk
theorem flat_len (l : List α) : (l.flatMap enc).length = l.length * k := by
  induction l with
  | nil => simp
  | cons x l ih => rw [List.flatMap_cons, List.length_append, ih, hk, List.length_cons, Nat.succ_mul]; omega
theorem flat_at : ∀ (l : List α) (j c : Nat) (hj : j < l.length) (_ : c < k), (l.flatMap enc)[j * k + c]? = (enc l[j])[c]?
  | [], j, c, hj, _ => by simp at hj
  | x :: l, 0, c, _, hc => by
    rw [List.flatMap_cons, List.getElem?_append_left (by rw [hk]; omega)]
    simp
  | x :: l, j + 1, c, hj, hc => by
    have e : (j + 1) * k = j * k + k := Nat.succ_mul _ _
    rw [List.flatMap_cons, List.getElem?_append_right (by rw [hk]; omega)]
    have := flat_at l j c (by simpa using hj) hc
    simp only [List.getElem_cons_succ]
    rw [← this, hk]
    congr 1
    omega
end
section
variable {α : Type} [Inhabited α] (enc : α → List Value) (k : Nat) (hk : ∀ x, (enc x).length = k)
include hk
theorem flatK_list (hk0 : 0 < k) (d : Array α) : (flatK enc k d).toList = d.toList.flatMap enc := by
  apply List.ext_getElem?
  intro t
  by_cases ht : t < d.size * k
  · have h1 : t / k < d.size := Nat.div_lt_of_lt_mul (by rw [Nat.mul_comm]; exact ht)
    have h2 : t % k < k := Nat.mod_lt _ hk0
    have h3 : t / k * k + t % k = t := by rw [Nat.mul_comm]; exact Nat.div_add_mod t k
    have f := flat_at enc k hk d.toList (t / k) (t % k) (by simpa using h1) h2
    rw [h3] at f
    rw [f]
    have g := get_flatK enc k d t ht
    have hs : t < (flatK enc k d).size := by simpa using ht
    rw [getElem!_pos _ t hs] at g
    have e1 : (flatK enc k d).toList[t]? = some ((flatK enc k d)[t]) := by simp
    rw [e1, g]
    have e2 : d[t / k]! = d.toList[t / k]'(by simpa using h1) := by rw [getElem!_pos d _ h1]; simp
    rw [e2, getElem!_pos _ _ (by rw [hk]; exact h2), List.getElem?_eq_getElem (by rw [hk]; exact h2)]
  · rw [List.getElem?_eq_none (by simpa using ht), List.getElem?_eq_none (by rw [flat_len enc k hk]; simpa using ht)]
theorem holds_of_owns (hk0 : 0 < k) {w : World} {base : Nat} {T : TypeId} {g cap : Nat} {l : List α} (h : w.ownsRow base T k (.slice (some ⟨g, 0, none⟩) l.length cap) l.length (l.flatMap enc)) : HoldsK enc k w g 0 l.toArray := by
  intro j hj
  have hj' : j < l.length * k := by simpa using hj
  have h1 := h.cellAt j hj'
  rw [Nat.zero_add, h1]
  refine ⟨?_, h.frozenAt j⟩
  rw [getElem!_pos _ j hj]
  have e := flatK_list enc k hk hk0 l.toArray
  rw [show (l.flatMap enc) = (flatK enc k l.toArray).toList from e.symm]
  simp [id]
theorem owns_sorted (hk0 : 0 < k) {w : World} {base : Nat} {T : TypeId} {g cap : Nat} {l : List α} (h : w.ownsRow base T k (.slice (some ⟨g, 0, none⟩) l.length cap) l.length (l.flatMap enc)) (d : Array α) (hd : d.size = l.length) (n : Nat) (os : Array Obj) :
    (sortWorldK enc k w g 0 n d os).ownsRow base T k (.slice (some ⟨g, 0, none⟩) l.length cap) l.length (d.toList.flatMap enc) ∧ GrL [g] w (sortWorldK enc k w g 0 n d os) := by
  rcases h.2 with ⟨hv, _⟩ | ⟨g', cap', cur, hv, hb, hg, hcap, hmax, hsz, htk⟩
  · cases hv
  injection hv with ha _ hc
  subst hc
  injection ha with ha
  injection ha with ha
  subst ha
  have hlt := heap_lt hg
  have hbl : (sortWorldK enc k w g 0 n d os).heap[g]? = some (.cells (putCells id 0 (flatK enc k d) cur) T (0, 0)) := by
    have : (sortWorldK enc k w g 0 n d os).heap = (w.heap.modify g (onCells (putCells id 0 (flatK enc k d)))) ++ os := rfl
    rw [this, Array.getElem?_append_left (by simpa using hlt), Array.getElem?_modify, if_pos rfl, hg]
    rfl
  have hsz' : (putCells id 0 (flatK enc k d) cur).size = cap * k := by simp [putCells, hsz]
  refine ⟨⟨by rw [flat_len enc k hk]; simp [hd], .inr ⟨g, cap, _, rfl, hb, hbl, hcap, hmax, hsz', ?_⟩⟩, ?_⟩
  · rw [← flatK_list enc k hk hk0 d]
    apply List.ext_getElem?
    intro t
    by_cases ht : t < l.length * k
    · have hle : l.length * k ≤ cap * k := Nat.mul_le_mul_right _ hcap
      have hs : t < (flatK enc k d).size := by simpa [hd] using ht
      rw [List.getElem?_take_of_lt ht]
      have hc : t < cur.size := by omega
      simp only [putCells, Array.toList_mapIdx, List.getElem?_mapIdx, Array.getElem?_toList, Array.getElem?_eq_getElem hc, Array.getElem?_eq_getElem hs, Option.map_some]
      rw [if_pos (by constructor; omega; omega)]
      rw [Nat.sub_zero, getElem!_pos _ t hs]
      rfl
    · rw [List.getElem?_eq_none (by simp; omega), List.getElem?_eq_none (by simp [hd]; omega)]
  · refine ⟨rfl, rfl, rfl, ?_, ?_, trivial⟩
    · show w.heap.size ≤ ((w.heap.modify g (onCells (putCells id 0 (flatK enc k d)))) ++ os).size
      simp
    · intro j hj hn
      show ((w.heap.modify g (onCells (putCells id 0 (flatK enc k d)))) ++ os)[j]? = _
      rw [Array.getElem?_append_left (by simpa using hj), Array.getElem?_modify, if_neg (fun e => hn (by simp [e]))]
end
end
section
open Go.RowKit Go.Shelf Go.Lib Go.Sort
theorem cmpR_lt (x y : Rc) : cmpR x y < 0 ↔ x.s < y.s ∨ x.s = y.s ∧ x.k < y.k := by
  unfold cmpR orI cmpI
  repeat' split
  all_goals omega
theorem cmpR_eq (x y : Rc) : cmpR x y = 0 ↔ x.s = y.s ∧ x.k = y.k := by
  unfold cmpR orI cmpI
  repeat' split
  all_goals omega
theorem cmpO_lt (x y : Rc) : cmpO x y < 0 ↔ x.d < y.d ∨ x.d = y.d ∧ (x.s < y.s ∨ x.s = y.s ∧ x.k < y.k) := by
  have h := cmpR_lt x y
  unfold cmpO orI cmpI
  repeat' split
  all_goals omega
theorem lt_cmpO (x y : Rc) : ltOf cmpO x y = decide (x.d < y.d ∨ x.d = y.d ∧ (x.s < y.s ∨ x.s = y.s ∧ x.k < y.k)) := by
  unfold ltOf
  exact decide_eq_decide.2 (cmpO_lt x y)
theorem swo_cmpO : SWO (ltOf cmpO) where
  irrefl x := by rw [lt_cmpO]; simp
  trans x y z h1 h2 := by rw [lt_cmpO] at *; simp only [decide_eq_true_eq] at *; omega
  ntrans x y z h1 h2 := by rw [lt_cmpO] at *; simp only [decide_eq_false_iff_not] at *; omega
theorem cmpLays_order (g size : Nat) (w : World) : CmpLays Tryz.prog 68 #[] Rc.cells 4 cmpO g 0 size w :=
  fun _ _ _ _ x y => (order1_D x y _).mono fun _ _ ⟨he, hg⟩ => ⟨he, hg.grow⟩
/-- in the one order -/
abbrev InOrder (l : List Rc) : Prop := l.Pairwise fun a b => ¬ cmpO b a < 0
theorem perm_lists {α : Type} [Inhabited α] {l : List α} {d : Array α} (h : PermIn 0 l.toArray.size l.toArray d) : d.toList.Perm l := by
  have h1 := h.1
  have h2 := h.2.2
  simp only [List.size_toArray] at h1 h2
  have e1 : d.extract 0 l.length = d := by rw [← h1]; simp
  have e2 : l.toArray.extract 0 l.length = l.toArray := by simp
  rw [e1, e2] at h2
  simpa using h2
theorem sorted_lists {α : Type} [Inhabited α] {lt : α → α → Bool} {d : Array α} (h : SortedIn lt 0 d.size d) : d.toList.Pairwise fun a b => lt b a = false := by
  rw [List.pairwise_iff_getElem]
  intro i j hi hj hij
  have := h i j (Nat.zero_le _) hij (by simpa using hj)
  rw [getElem!_pos d j (by simpa using hj), getElem!_pos d i (by simpa using hi)] at this
  simpa using this
theorem SortR_any (base g cap : Nat) (l : List Rc) (w : World) (hr : w.ownsRow base 23 4 (.slice (some ⟨g, 0, none⟩) l.length cap) l.length (rcs l)) (hl : l.length ≤ 1000000) :
    Calls Tryz.prog 67 #[.slice (some ⟨g, 0, none⟩) l.length cap, .func (.func 68) #[] #[]] w fun e w' => e = .returned (.tuple #[]) ∧ ∃ l', l'.Perm l ∧ InOrder l' ∧ w'.ownsRow base 23 4 (.slice (some ⟨g, 0, none⟩) l.length cap) l'.length (rcs l') ∧ GrL [g] w w' := by
  have hk : ∀ x : Rc, (Rc.cells x).length = 4 := fun _ => rfl
  have h1 : ∀ x : Rc, ∀ v ∈ Rc.cells x, v.oneCell' = true := fun x v hv => rcs_one [x] v (by simpa [rcs] using hv)
  have eg : ∀ args w, (callFunc 68 args).run Tryz.prog w = .ok (.enter 68 args) w := enters_of Tryz.func68 (by kernel_rfl) rfl
  have hg : g < w.heap.size := (hr.lt g rfl).2
  have hH := holds_of_owns Rc.cells 4 hk (by omega) hr
  have C := AnyQ.slices_SortFunc Tryz.sortRec 4 Tryz.isAgg23 Tryz.sizeOf23 Rc.cells hk h1 cmpO swo_cmpO 68 #[] g 0 cap l.toArray w eg (cmpLays_order g _ w) hH hg (by simp; omega)
  rw [List.size_toArray] at C
  refine C.mono ?_
  rintro e w' ⟨rfl, d', n, os, hp, hs, rfl⟩
  have hp' : PermIn 0 l.toArray.size l.toArray d' := by simpa using hp
  have hd : d'.size = l.length := by simpa using hp'.1
  obtain ⟨o1, o2⟩ := owns_sorted Rc.cells 4 hk (by omega) hr d' hd n os
  refine ⟨rfl, d'.toList, perm_lists hp', ?_, ?_, o2⟩
  · have hs' : SortedIn (ltOf cmpO) 0 d'.size d' := by rw [hd]; exact hs
    refine (sorted_lists hs').imp ?_
    intro a b h
    simpa [ltOf] using h
  · have : d'.toList.length = l.length := by simpa using hd
    rw [this]
    exact o1
/-- the sort at any row of records -/
theorem SortR_row (base : Nat) (v : Value) (l : List Rc) (w : World) (hr : w.ownsRow base 23 4 v l.length (rcs l)) (hl : l.length ≤ 1000000) :
    Calls Tryz.prog 67 #[v, .func (.func 68) #[] #[]] w fun e w' => e = .returned (.tuple #[]) ∧ ∃ l', l'.Perm l ∧ InOrder l' ∧ w'.ownsRow base 23 4 v l'.length (rcs l') ∧ GrL v.ownBlock.toList w w' := by
  have hr' := hr
  rcases hr.2 with ⟨rfl, hz⟩ | ⟨g, cap, cur, rfl, _⟩
  · obtain rfl := List.eq_nil_of_length_eq_zero hz
    refine (AnyF.slices_SortFunc_none Tryz.sortRec none 0 _ w).mono ?_
    rintro e w' ⟨rfl, rfl⟩
    exact ⟨rfl, [], List.Perm.refl _, List.Pairwise.nil, World.ownsRow_nil _ _ _ _, GrL.of_gr (Gr.refl _)⟩
  · exact (SortR_any base g cap l w hr' hl).mono fun e w' ⟨h, l', h1, h2, h3, h4⟩ => ⟨h, l', h1, h2, h3, h4⟩
end
end Go.Proofs.YthmimjofdmnakaaGreatDoor
