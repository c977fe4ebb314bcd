/- The methods of nil disks and branches. -/
import Derived.Test.YthmimjofdmnakaaGreatDoorPlan
import Derived.Lib.ConvBytes
import Derived.Lib.AtoiErrMem
import Derived.Laws.AppendOwn
import Derived.Laws.OwnMore
namespace Go.Proofs.YthmimjofdmnakaaGreatDoor
section
open Go.RowKit Go.Shelf

end
section
open Go.RowKit Go.Shelf
set_option maxHeartbeats 400000 in
theorem within_any (n a b : Int) (w : World) :
    Calls Tryz.prog 62 #[.int .i64 n, .int .i64 a, .int .i64 b] w fun e w' => e = .returned (.bool (decide (a ≤ n) && decide (n ≤ b))) ∧ Gr w w' := by
  by_cases h : a ≤ n
  · go_enter Tryz.func62, Tryz.ntmps62
    go_wp2
    go_ret
    exact ⟨ret_bool (by simp [h]), (by repeat (first | exact Gr.refl _ | assumption | refine Gr.alloc ?_ _ | refine Gr.drew ?_ | refine Gr.drewN ?_ _ | refine Gr.set ?_ _ _ (by first | (simp; done) | (simp; omega)) | refine Gr.trans ?_ (by assumption)))⟩
  · go_enter Tryz.func62, Tryz.ntmps62
    go_wp2
    go_ret
    exact ⟨ret_bool (by have : ¬ a ≤ n := by omega
                        simp [this]), (by repeat (first | exact Gr.refl _ | assumption | refine Gr.alloc ?_ _ | refine Gr.drew ?_ | refine Gr.drewN ?_ _ | refine Gr.set ?_ _ _ (by first | (simp; done) | (simp; omega)) | refine Gr.trans ?_ (by assumption)))⟩
set_option maxHeartbeats 400000 in
theorem isCount_any (n : Int) (w : World) :
    Calls Tryz.prog 51 #[.int .i64 n] w fun e w' => e = .returned (.bool (decide (n = 3) || decide (n = 5))) ∧ Gr w w' := by
  by_cases h : n = 3
  · subst h
    go_enter Tryz.func51, Tryz.ntmps51
    go_wp2
    go_ret
    exact ⟨ret_bool (by simp), (by repeat (first | exact Gr.refl _ | assumption | refine Gr.alloc ?_ _ | refine Gr.drew ?_ | refine Gr.drewN ?_ _ | refine Gr.set ?_ _ _ (by first | (simp; done) | (simp; omega)) | refine Gr.trans ?_ (by assumption)))⟩
  · go_enter Tryz.func51, Tryz.ntmps51
    go_wp2
    go_ret
    exact ⟨ret_bool (by by_cases h5 : n = 5 <;> simp [h, h5]), (by repeat (first | exact Gr.refl _ | assumption | refine Gr.alloc ?_ _ | refine Gr.drew ?_ | refine Gr.drewN ?_ _ | refine Gr.set ?_ _ _ (by first | (simp; done) | (simp; omega)) | refine Gr.trans ?_ (by assumption)))⟩
end
section
open Go.RowKit Go.Shelf
/-- may a byte not stand in a record's text? -/
def badB (c : UInt8) : Bool := decide (c.toNat < 32) || decide (126 < c.toNat)
set_option maxHeartbeats 400000 in
theorem plain1_any (k : Nat) (w : World) :
    Calls Tryz.prog 142 #[.int .u8 k] w fun e w' => e = .returned (.bool (decide (k < 32) || decide (126 < k))) ∧ w' = w := by
  by_cases h : k < 32
  · have h' : (k : Int) < 32 := by omega
    go_enter Tryz.func142, Tryz.ntmps142
    go_wp2
    go_ret
    exact ⟨ret_bool (by simp [h]), rfl⟩
  · have h' : ¬ (k : Int) < 32 := by omega
    go_enter Tryz.func142, Tryz.ntmps142
    go_wp2
    go_ret
    exact ⟨ret_bool (by simp; omega), rfl⟩
theorem any_take_succ {l : List UInt8} {i : Nat} (h : i < l.length) : (l.take (i+1)).any badB = ((l.take i).any badB || badB l[i]) := by
  rw [List.take_succ_eq_append_getElem h, List.any_append, List.any_cons, List.any_nil, Bool.or_false]
theorem any_of_take {l : List UInt8} {i : Nat} (h : (l.take i).any badB = true) : l.any badB = true := by
  obtain ⟨x, hx, hb⟩ := List.any_eq_true.1 h
  exact List.any_eq_true.2 ⟨x, List.mem_of_mem_take hx, hb⟩
set_option maxRecDepth 100000 in
set_option maxHeartbeats 1000000 in
theorem idxB (blk cap : Nat) (l : List UInt8) (w : World) (hb : blk < w.heap.size) (hl : l.length ≤ 1000)
    (hc : ∀ j, j < l.length → w.cell? ⟨blk, j, none⟩ = some (.int .u8 (l.getD j 0).toNat)) :
    Calls Tryz.prog 206 #[.slice (some ⟨blk, 0, none⟩) l.length cap, .func (.func 142) #[] #[]] w fun e w' => (∃ v : Int, e = .returned (.int .i64 v) ∧ (0 ≤ v ↔ l.any badB = true)) ∧ Gr w w' := by
  have HC := Lib.hid hc
  clear hc
  obtain ⟨q, hq⟩ : ∃ q, l.any badB = q := ⟨_, rfl⟩
  rw [hq]
  have HQ := Lib.hid hq
  clear hq
  go_enter Tryz.func206, Tryz.ntmps206
  go_wp2
  go_loopw [8] (fun p wr => ∃ i : Nat, p = .int .i64 i ∧ i ≤ l.length ∧ (l.take i).any badB = false ∧ Gr w wr) (fun p _ => l.length - (intOf p).toNat)
  case atStart => exact ⟨0, rfl, by omega, by simp, Gr.refl _⟩
  case round =>
    obtain ⟨i, rfl, hi, hno, gr⟩ := hrel
    by_cases hil : i < l.length
    · have hil' : (i : Int) < l.length := by omega
      have hcell := (gr.cells.1 blk i hb).trans (HC.out i hil)
      have hN := any_take_succ hil
      obtain ⟨k, hk⟩ : ∃ k, (l.getD i 0).toNat = k := ⟨_, rfl⟩
      have hbk : badB l[i] = (decide (k < 32) || decide (126 < k)) := by
        rw [← hk]; simp [badB, List.getD_eq_getElem?_getD, hil]
      rw [hk] at hcell
      have P1 := Lib.hid (fun w => plain1_any k w)
      rw [hno, hbk] at hN
      generalize (decide (k < 32) || decide (126 < k)) = bd at hN P1
      go_wp2_with fail
      refine (P1.out _).mono ?_
      rintro e w1 ⟨rfl, rfl⟩
      cases bd
      · go_wp2
        exact ⟨⟨i+1, by simp, by omega, by simpa using hN, gr⟩, by simp [intOf]; omega⟩
      · go_wp2
        go_ret
        exact ⟨⟨i, rfl, ⟨fun _ => HQ.out.symm.trans (any_of_take (i := i+1) (hN.trans (by rfl))), fun _ => by omega⟩⟩, gr⟩
    · have hil' : ¬ (i : Int) < l.length := by omega
      obtain rfl : i = l.length := by omega
      rw [List.take_length] at hno
      obtain rfl : q = false := HQ.out.symm.trans hno
      clear hno
      go_wp2
      go_ret
      exact ⟨⟨-1, rfl, by constructor <;> intro h <;> first | omega | cases h⟩, gr⟩
set_option maxHeartbeats 1000000 in
theorem hasB (blk cap : Nat) (l : List UInt8) (w : World) (hb : blk < w.heap.size) (hl : l.length ≤ 1000)
    (hc : ∀ j, j < l.length → w.cell? ⟨blk, j, none⟩ = some (.int .u8 (l.getD j 0).toNat)) :
    Calls Tryz.prog 141 #[.slice (some ⟨blk, 0, none⟩) l.length cap, .func (.func 142) #[] #[]] w fun e w' => e = .returned (.bool (l.any badB)) ∧ Gr w w' := by
  have IX := Lib.hid (idxB blk cap l w hb hl hc)
  generalize l.any badB = q at *
  clear hc
  go_enter Tryz.func141, Tryz.ntmps141
  go_wp2_with fail
  refine IX.out.mono ?_
  rintro e w1 ⟨⟨v, rfl, hv⟩, hg1⟩
  by_cases h : 0 ≤ v
  · obtain rfl : q = true := hv.1 h
    go_wp2
    go_ret
    exact ⟨rfl, hg1⟩
  · obtain rfl : q = false := by cases q; rfl; exact absurd (hv.2 rfl) h
    go_wp2
    go_ret
    exact ⟨rfl, hg1⟩
set_option maxRecDepth 100000 in
set_option maxHeartbeats 1000000 in
theorem plain_yes (s : ByteArray) (w : World) (h1 : 1 ≤ s.size) (h2 : s.size ≤ 240) :
    Calls Tryz.prog 90 #[.string s] w fun e w' => e = .returned (.bool (!(s.data.toList.any badB))) ∧ Gr w w' := by
  have W1 := Lib.hid (fun w => within_any s.size 1 240 w)
  have e1 : (decide ((1 : Int) ≤ s.size) && decide ((s.size : Int) ≤ 240)) = true := by simp; omega
  rw [e1] at W1
  have CV := fun w => Lib.run_convert_string_bytes (P := Tryz.prog) w 9 57 5 s Tryz.underlying9 Tryz.underlying57 Tryz.underlying5
  have hsz : s.size = s.data.toList.length := rfl
  have CF := Lib.hid (fun blk cap w hb hc => hasB blk cap s.data.toList w hb (by omega) hc)
  rw [← hsz] at CF
  have HSZ := Lib.hid hsz
  clear hsz
  generalize s.data.toList.any badB = q at CF ⊢
  go_enter Tryz.func90, Tryz.ntmps90
  go_wp2_with fail
  refine (W1.out _).mono ?_
  rintro e w1 ⟨rfl, hg1⟩
  go_wp2_with fail
  have g2 := hg1.trans (Gr.of_below (Lib.bytesWorld_below w1 5 s))
  refine (CF.out w1.heap.size (grownCap w1 s.size 0 5) (Lib.bytesWorld w1 5 s) (by rw [Lib.bytesWorld_size]; omega) (fun j hj => Lib.bytesWorld_cell w1 5 s j (by rw [HSZ.out]; exact hj))).mono ?_
  rintro e w3 ⟨rfl, hg3⟩
  go_wp2
  go_ret
  exact ⟨rfl, g2.trans hg3⟩
set_option maxRecDepth 100000 in
set_option maxHeartbeats 1000000 in
theorem plain_no (s : ByteArray) (w : World) (hs : s.size ≤ 4294967296) (h : ¬ (1 ≤ s.size ∧ s.size ≤ 240)) :
    Calls Tryz.prog 90 #[.string s] w fun e w' => e = .returned (.bool false) ∧ Gr w w' := by
  have W1 := Lib.hid (fun w => within_any s.size 1 240 w)
  have e1 : (decide ((1 : Int) ≤ s.size) && decide ((s.size : Int) ≤ 240)) = false := by simp; omega
  rw [e1] at W1
  clear h e1
  go_enter Tryz.func90, Tryz.ntmps90
  go_wp2_with fail
  refine (W1.out _).mono ?_
  rintro e w1 ⟨rfl, hg1⟩
  go_wp2
  go_ret
  exact ⟨rfl, (by repeat (first | exact Gr.refl _ | assumption | refine Gr.alloc ?_ _ | refine Gr.drew ?_ | refine Gr.drewN ?_ _ | refine Gr.set ?_ _ _ (by first | (simp; done) | (simp; omega)) | refine Gr.trans ?_ (by assumption)))⟩
/-- a record's text -/
def plainB (s : ByteArray) : Bool := decide (1 ≤ s.size ∧ s.size ≤ 240) && !(s.data.toList.any badB)
theorem plain_any (s : ByteArray) (w : World) (hs : s.size ≤ 4294967296) : Calls Tryz.prog 90 #[.string s] w fun e w' => e = .returned (.bool (plainB s)) ∧ Gr w w' := by
  unfold plainB
  by_cases h : 1 ≤ s.size ∧ s.size ≤ 240
  · rw [decide_eq_true h, Bool.true_and]; exact plain_yes s w h.1 h.2
  · rw [decide_eq_false h, Bool.false_and]; exact plain_no s w hs h
end
section
open Go.RowKit Go.Shelf
/-- a record -/
abbrev rcd (s k d : Int) (t : ByteArray) : Value := .agg #[.int .i64 s, .int .i64 k, .int .i64 d, .string t]
/-- a record is well-formed -/
def formedB (n s k d : Int) (t : ByteArray) : Bool := (decide (0 ≤ s) && decide (s ≤ n - 1)) && (decide (1 ≤ k) && decide (k ≤ 400)) && (decide (0 ≤ d) && decide (d ≤ 100000)) && plainB t
set_option maxRecDepth 100000 in
set_option maxHeartbeats 2000000 in
theorem formed_any (n s k d : Int) (t : ByteArray) (w : World) (hn1 : -1000000 ≤ n) (hn2 : n ≤ 1000000) (ht : t.size ≤ 100000) :
    Calls Tryz.prog 52 #[.int .i64 n, rcd s k d t] w fun e w' => e = .returned (.bool (formedB n s k d t)) ∧ Gr w w' := by
  have W1 := Lib.hid (fun w => within_any s 0 (n-1) w)
  have W2 := Lib.hid (fun w => within_any k 1 400 w)
  have W3 := Lib.hid (fun w => within_any d 0 100000 w)
  have W4 := Lib.hid (fun w => plain_any t w (by omega))
  have q1 : IntKind.i64.wrap (n - 1) = n - 1 := IntWalk.i64_in _ (by omega)
  unfold formedB
  generalize plainB t = b4 at W4 ⊢
  generalize (decide (0 ≤ s) && decide (s ≤ n - 1)) = b1 at W1 ⊢
  generalize (decide (1 ≤ k) && decide (k ≤ 400)) = b2 at W2 ⊢
  generalize (decide (0 ≤ d) && decide (d ≤ 100000)) = b3 at W3 ⊢
  have bx := heap_alloc_self w (.cells #[.int .i64 s, .int .i64 k, .int .i64 d, .string t] 23)
  have g0 : Gr w (w.alloc (.cells #[.int .i64 s, .int .i64 k, .int .i64 d, .string t] 23)) := (Gr.refl w).alloc _
  clear hn1 hn2 ht
  go_enter Tryz.func52, Tryz.ntmps52
  go_wp2_with fail
  refine (W1.out _).mono ?_
  rintro e w1 ⟨rfl, hg1⟩
  have bx1 := hg1.heap bx
  have g1 := g0.trans hg1
  clear hg1 g0 bx
  obtain ⟨cx, fx, zx⟩ := blk_cells bx1
  cases b1
  · go_wp2
    go_ret
    exact ⟨rfl, g1⟩
  · go_wp2_with fail
    refine (W2.out _).mono ?_
    rintro e w2 ⟨rfl, hg2⟩
    have bx2 := hg2.heap bx1
    have g2 := g1.trans hg2
    clear hg2 g1 bx1 cx fx zx
    obtain ⟨cx, fx, zx⟩ := blk_cells bx2
    cases b2
    · go_wp2
      go_ret
      exact ⟨rfl, g2⟩
    · go_wp2_with fail
      refine (W3.out _).mono ?_
      rintro e w3 ⟨rfl, hg3⟩
      have bx3 := hg3.heap bx2
      have g3 := g2.trans hg3
      clear hg3 g2 bx2 cx fx zx
      obtain ⟨cx, fx, zx⟩ := blk_cells bx3
      cases b3
      · go_wp2
        go_ret
        exact ⟨rfl, g3⟩
      · go_wp2_with fail
        refine (W4.out _).mono ?_
        rintro e w4 ⟨rfl, hg4⟩
        go_wp2
        go_ret
        exact ⟨by simp, g3.trans hg4⟩
end
section
open Go.RowKit Go.Shelf
/-- a record -/
structure Rc where
  s : Int
  k : Int
  d : Int
  t : ByteArray
  deriving DecidableEq, Inhabited
def Rc.cells (r : Rc) : List Value := [.int .i64 r.s, .int .i64 r.k, .int .i64 r.d, .string r.t]
abbrev Rc.v (r : Rc) : Value := rcd r.s r.k r.d r.t
def rcs (l : List Rc) : List Value := l.flatMap Rc.cells
theorem rcs_len (l : List Rc) : (rcs l).length = l.length * 4 := by
  unfold rcs
  induction l with
  | nil => rfl
  | cons x l ih => rw [List.flatMap_cons, List.length_append, ih]; simp [Rc.cells]; omega
theorem rcs_at : ∀ (l : List Rc) (j c : Nat) (hj : j < l.length) (_ : c < 4), (rcs l)[j * 4 + c]? = (l[j]).cells[c]?
  | [], j, c, hj, _ => by simp at hj
  | x :: l, 0, c, _, hc => by
    show (x.cells ++ rcs l)[0 * 4 + c]? = _
    rw [List.getElem?_append_left (by simpa [Rc.cells] using hc)]
    simp
  | x :: l, j + 1, c, hj, hc => by
    show (x.cells ++ rcs l)[(j + 1) * 4 + c]? = _
    rw [List.getElem?_append_right (by simp [Rc.cells]; omega)]
    have := rcs_at l j c (by simpa using hj) hc
    simp only [List.getElem_cons_succ]
    rw [← this]
    congr 1
    simp [Rc.cells]; omega
theorem rcs_append (a b : List Rc) : rcs (a ++ b) = rcs a ++ rcs b := by simp [rcs, List.flatMap_append]
theorem put_at {u : World} {g : Nat} {c : Array Value} {T : TypeId} (h : u.heap[g]? = some (.cells c T (0, 0))) (i : Nat) (x : Value) : (u.setCell ⟨g, i, none⟩ x).heap[g]? = some (.cells (c.setIfInBounds i x) T (0, 0)) := by
  have : (u.setCell ⟨g, i, none⟩ x).heap = u.heap.modify g fun | .cells c elem fr => .cells (c.setIfInBounds i x) elem fr | o => o := rfl
  rw [this, Array.getElem?_modify]
  simp [h]
theorem keep_at' {u : World} {g : Nat} {o : Obj} (p i : Nat) (x : Value) (h : u.heap[g]? = some o) (hn : g ≠ p) : (u.setCell ⟨p, i, none⟩ x).heap[g]? = some o := by
  rw [Below.heap_setCell u _ x g hn]; exact h
/-- a slice that holds these records -/
abbrev RowR (w : World) (v : Value) (l : List Rc) : Prop := w.ownsRow 0 23 4 v l.length (rcs l)
theorem ownsRow_gr {W W' : World} {base : Nat} {e : TypeId} {size : Nat} {v : Value} {k : Nat} {xs : List Value} {bs : List Nat} (h : W.ownsRow base e size v k xs) (g : GrL bs W W') (hb : ∀ i, v.ownBlock = some i → i ∉ bs) : W'.ownsRow base e size v k xs := by
  refine ⟨h.1, ?_⟩
  rcases h.2 with hn | ⟨i, cap, cur, rfl, hbi, hgg, rest⟩
  · exact .inl hn
  · exact .inr ⟨i, cap, cur, rfl, hbi, (g.block i (heap_lt hgg) (hb i rfl)).trans hgg, rest⟩
theorem ownsRow_g {W W' : World} {base : Nat} {e : TypeId} {size : Nat} {v : Value} {k : Nat} {xs : List Value} (h : W.ownsRow base e size v k xs) (g : Gr W W') : W'.ownsRow base e size v k xs :=
  ownsRow_gr h (GrL.of_gr (l := []) g) (by simp)
/-- what a row of records is: nil, or a block whose cells read -/
theorem RowR.form {w : World} {v : Value} {l : List Rc} (h : RowR w v l) : ∃ a cap, v = .slice a l.length cap ∧ l.length ≤ cap ∧ ∀ j (hj : j < l.length), ∃ g, a = some ⟨g, 0, none⟩ ∧ g < w.heap.size ∧
    w.cell? ⟨g, j * 4, none⟩ = some (.int .i64 l[j].s) ∧ w.cell? ⟨g, j * 4 + 1, none⟩ = some (.int .i64 l[j].k) ∧ w.cell? ⟨g, j * 4 + 2, none⟩ = some (.int .i64 l[j].d) ∧ w.cell? ⟨g, j * 4 + 3, none⟩ = some (.string l[j].t) := by
  have h' := h
  rcases h.2 with ⟨rfl, hn⟩ | ⟨g, cap, cur, rfl, hb, hg, hcap, hrest⟩
  · obtain rfl := List.eq_nil_of_length_eq_zero hn
    exact ⟨none, 0, rfl, Nat.le_refl _, fun j hj => absurd hj (by simp)⟩
  · refine ⟨some ⟨g, 0, none⟩, cap, rfl, hcap, fun j hj => ⟨g, rfl, heap_lt hg, ?_⟩⟩
    have c0 := h'.cellAt (j * 4 + 0) (by omega)
    have c1 := h'.cellAt (j * 4 + 1) (by omega)
    have c2 := h'.cellAt (j * 4 + 2) (by omega)
    have c3 := h'.cellAt (j * 4 + 3) (by omega)
    rw [rcs_at l j _ hj (by omega)] at c0 c1 c2 c3
    exact ⟨c0, c1, c2, c3⟩
end
end Go.Proofs.YthmimjofdmnakaaGreatDoor
