/- What slices.Insert of one record in the middle of a row of records does to its rows. -/
import Derived.Test.YthmimjofdmnakaaGreatDoorJMiss
import Derived.Test.YthmimjofdmnakaaGreatDoorJMrgF
import Derived.Lib.Overlaps
import Derived.Lib.AppendZerosOnto
namespace Go.Proofs.YthmimjofdmnakaaGreatDoor
open Go.RowKit Go.Shelf Go.Lib
/-- copy between rows whose elements have k cells -/
theorem run_copy_rows {P : Program} (w : World) (dT sT ty elem : TypeId) (b o dLen dCap : Nat) (a : Addr) (sLen sCap k : Nat) (cs : List Value)
    (hu : P.underlying dT = some (.slice elem)) (hs : (P.info? elem).map (·.size) = some k) (hn : cs.length = Nat.min sLen dLen * k)
    (hsrc : ∀ j v, cs[j]? = some v → w.cell? (a.add j) = some v) (hc : ∀ j, j < cs.length → (w.cell? ⟨b, o + j, none⟩).isSome = true) (hf : ∀ j, j < cs.length → w.frozen? ⟨b, o + j, none⟩ = false) (h1 : ∀ v ∈ cs, v.oneCell' = true) :
    (Builtin.copy_ #[dT, sT] ty #[.slice (some ⟨b, o, none⟩) dLen dCap, .slice (some a) sLen sCap]).run P w = .ok (goInt (Nat.min sLen dLen)) (w.setCells b o cs) := by
  have hl := run_firstCells_some (P := P) w k (Nat.min sLen dLen) a sLen sCap cs hn hsrc
  have hst := run_storeCells_cells (P := P) b o cs 0 w (by simpa using hc) (by simpa using hf) h1
  cases hq : P.info? elem with
  | none => simp [hq] at hs
  | some i =>
    have hi : i.size = k := by simpa [hq] using hs
    subst hi
    simp [Builtin.copy_, run_underlying hu, Builtin.lenOf, sizeOf, typeInfo, hq, hl, hst]
theorem wp_copy_runR {P : Program} (w : World) {o : Oper} {a : Act} {K : Act → World → Prop} {Q : Exit → Act → World → Prop} (d s : Operand) (t t' : TypeId)
    (ho : o.op = .call { callee := .builtin .copy, args := #[d, s], argTypes := #[t, t'] }) (v u : Value) (hd : a.eval d = v) (hs : a.eval s = u) {v' : Value} {w' : World}
    (hr : (Builtin.copy_ #[t, t'] o.type #[v, u]).run P w = .ok v' w') (h : K (a.put o.dst v') w') : o.wp P a w K Q := by
  unfold Oper.wp execOp
  simp only [ho, resolve, invoke, builtin, Sem.run_bind, Sem.run_pure, Result.andThen_ok, List.map_toArray, List.map_cons, List.map_nil, hd, hs, hr]
  exact h
theorem wpList_copy_runR {P : Program} (w : World) {ops : Array Oper} {rest : List Oper} {o : Oper} {a : Act} {Q : Exit → Act → World → Prop} (hgd : o.guard = none) (d s : Operand) (t t' : TypeId)
    (ho : o.op = .call { callee := .builtin .copy, args := #[d, s], argTypes := #[t, t'] }) (v u : Value) (hd : a.eval d = v) (hs : a.eval s = u) {v' : Value} {w' : World}
    (hr : (Builtin.copy_ #[t, t'] o.type #[v, u]).run P w = .ok v' w') (h : wpList P ops Q rest (a.put o.dst v') w') : wpList P ops Q (o :: rest) a w :=
  wpList_plain hgd fun _ hK => wp_copy_runR w d s t t' ho v u hd hs hr (hK _ _ h)
theorem shift_rows {pre post x L : List Value} (h : L.take (pre.length + post.length) = pre ++ post) (hx : pre.length + x.length + post.length ≤ L.length) :
    ∃ rest, (L.take (pre.length + x.length) ++ post ++ L.drop (pre.length + x.length + post.length)).take pre.length ++ x ++ (L.take (pre.length + x.length) ++ post ++ L.drop (pre.length + x.length + post.length)).drop (pre.length + x.length) = pre ++ x ++ post ++ rest ∧ (pre ++ x ++ post ++ rest).length = L.length := by
  refine ⟨L.drop (pre.length + x.length + post.length), ?_, ?_⟩
  · have e0 : (L.take (pre.length + x.length)).length = pre.length + x.length := by rw [List.length_take]; omega
    have e1 : L.take pre.length = pre := by
      have := congrArg (List.take pre.length) h
      rw [List.take_take, Nat.min_eq_left (by omega), List.take_left] at this
      exact this
    have e2 : (L.take (pre.length + x.length) ++ post ++ L.drop (pre.length + x.length + post.length)).take pre.length = pre := by
      rw [List.append_assoc, List.take_append_of_le_length (by omega), List.take_take, Nat.min_eq_left (by omega), e1]
    have e3 : (L.take (pre.length + x.length) ++ post ++ L.drop (pre.length + x.length + post.length)).drop (pre.length + x.length) = post ++ L.drop (pre.length + x.length + post.length) := by
      rw [List.append_assoc, List.drop_append_of_le_length (by omega), List.drop_eq_nil_of_le (by omega), List.nil_append]
    rw [e2, e3]
    simp only [List.append_assoc]
  · simp only [List.length_append, List.length_drop]
    omega
theorem rcs_drop : ∀ (l : List Rc) (i : Nat), (rcs l).drop (i * 4) = rcs (l.drop i)
  | _, 0 => by simp
  | [], i + 1 => by simp [rcs]
  | y :: l, i + 1 => by
    rw [show (i + 1) * 4 = i * 4 + 4 from by omega, List.drop_succ_cons]
    show (y.cells ++ rcs l).drop (i * 4 + 4) = rcs (l.drop i)
    rw [← rcs_drop l i, Nat.add_comm (i * 4) 4, ← List.drop_drop]
    rfl
theorem rcs_mid (l : List Rc) (i : Nat) (x : Rc) : rcs (l.take i ++ [x] ++ l.drop i) = rcs (l.take i) ++ x.cells ++ rcs (l.drop i) := by
  rw [rcs_append, rcs_append]
  simp [rcs]
theorem size_rec : (Tryz.prog.info? 23).map (·.size) = some 4 := by
  obtain ⟨i0, hi, hz0, hz1, hz2⟩ := info_parts info_rec
  rw [hi]; simp [hz1]
/-- cells copied into a block -/
theorem copy_into (u : World) (g o : Nat) (T : TypeId) (C : Array Value) (h : u.heap[g]? = some (.cells C T (0, 0))) (a : Addr) (dLen sLen : Nat) (cs : List Value) (hn : cs.length = Nat.min sLen dLen * 4)
    (hsrc : ∀ j v, cs[j]? = some v → u.cell? (a.add j) = some v) (hfit : o + cs.length ≤ C.size) (h1 : ∀ v ∈ cs, v.oneCell' = true) :
    (∀ ty dc sc, (Builtin.copy_ #[32, 32] ty #[.slice (some ⟨g, o, none⟩) dLen dc, .slice (some a) sLen sc]).run Tryz.prog u = .ok (goInt (Nat.min sLen dLen)) (u.setCells g o cs)) ∧
    (u.setCells g o cs).heap[g]? = some (.cells (C.toList.take o ++ cs ++ C.toList.drop (o + cs.length)).toArray T (0, 0)) ∧ GrL [g] u (u.setCells g o cs) := by
  refine ⟨fun ty dc sc => ?_, heap_setCells g T cs o u C h hfit, GrL.setCells g cs o u (GrL.of_gr (Gr.refl u)) (Or.inr (by simp))⟩
  obtain ⟨c1, f1, z1⟩ := blk_cells h
  exact run_copy_rows u _ _ ty 23 g o dLen dc a sLen sc 4 cs Tryz.underlying32 size_rec hn hsrc (fun j hj => by rw [c1, Array.getElem?_eq_getElem (by omega)]; rfl) (fun j _ => f1 _) h1
/-- the first copy, in place -/
theorem ins_copy1 {base g cap i : Nat} {l : List Rc} {u : World} (ho : u.ownsRow base 23 4 (.slice (some ⟨g, 0, none⟩) l.length cap) l.length (rcs l)) (hi : i < l.length) (hc : l.length + 1 ≤ cap) :
    ∃ (C : Array Value) (u' : World), C.size = cap * 4 ∧ C.toList.take (l.length * 4) = rcs l ∧ cap ≤ maxLen ∧ base ≤ g ∧
    (∀ ty dc sc, (Builtin.copy_ #[32, 32] ty #[.slice (some ⟨g, (i + 1) * 4, none⟩) (l.length - i) dc, .slice (some ⟨g, i * 4, none⟩) (l.length + 1 - i) sc]).run Tryz.prog u = .ok (goInt ((l.length - i : Nat) : Int)) u') ∧
    u'.heap[g]? = some (.cells (C.toList.take ((i + 1) * 4) ++ rcs (l.drop i) ++ C.toList.drop ((i + 1) * 4 + (l.length - i) * 4)).toArray 23 (0, 0)) ∧ GrL [g] u u' := by
  rcases ho.2 with ⟨hv, _⟩ | ⟨g', cap', cur, hv, hb, hg, hcap, hmax, hsz, htk⟩
  · cases hv
  injection hv with ha _ hcc
  subst hcc
  injection ha with ha
  injection ha with ha
  subst ha
  have hlen : (rcs (l.drop i)).length = (l.length - i) * 4 := by rw [rcs_len, List.length_drop]
  have hmin : Nat.min (l.length + 1 - i) (l.length - i) = l.length - i := Nat.min_eq_right (by omega)
  obtain ⟨h1, h2, h3⟩ := copy_into u g ((i + 1) * 4) _ cur hg ⟨g, i * 4, none⟩ (l.length - i) (l.length + 1 - i) (rcs (l.drop i)) (by rw [hmin, hlen]) (fun j v hj => by
      rw [Addr.add_mid]
      have hj4 : j < (l.length - i) * 4 := by rw [← hlen]; exact (List.getElem?_eq_some_iff.1 hj).1
      rw [ho.cellAt (i * 4 + j) (by omega), ← List.getElem?_drop, rcs_drop]
      exact hj) (by rw [hlen, hsz]; omega) (rcs_one _)
  rw [hmin] at h1
  rw [hlen] at h2
  exact ⟨cur, _, hsz, htk, hmax, hb, h1, h2, h3⟩
/-- the second copy, in place -/
theorem ins_copy2 {base g cap i g2 : Nat} {l : List Rc} {x : Rc} {u : World} {C : Array Value} (hsz : C.size = cap * 4) (htk : C.toList.take (l.length * 4) = rcs l) (hmax : cap ≤ maxLen) (hb : base ≤ g) (hi : i < l.length) (hc : l.length + 1 ≤ cap)
    (hg : u.heap[g]? = some (.cells (C.toList.take ((i + 1) * 4) ++ rcs (l.drop i) ++ C.toList.drop ((i + 1) * 4 + (l.length - i) * 4)).toArray 23 (0, 0))) (hx : u.heap[g2]? = some (.cells x.cells.toArray 23 (0, 0))) :
    ∃ u' : World, (∀ ty dc sc, (Builtin.copy_ #[32, 32] ty #[.slice (some ⟨g, i * 4, none⟩) (l.length + 1 - i) dc, .slice (some ⟨g2, 0, none⟩) 1 sc]).run Tryz.prog u = .ok (goInt 1) u') ∧
      u'.ownsRow base 23 4 (.slice (some ⟨g, 0, none⟩) (l.length + 1) cap) (l.length + 1) (rcs (l.take i ++ [x] ++ l.drop i)) ∧ GrL [g] u u' := by
  have hlen : (rcs (l.drop i)).length = (l.length - i) * 4 := by rw [rcs_len, List.length_drop]
  have hlt : (rcs (l.take i)).length = i * 4 := by rw [rcs_len, List.length_take, Nat.min_eq_left (by omega)]
  have hmin : Nat.min 1 (l.length + 1 - i) = 1 := Nat.min_eq_left (by omega)
  have hxl : x.cells.length = 4 := rfl
  have hCl : C.toList.length = cap * 4 := by rw [Array.length_toList, hsz]
  have hcs : rcs l = rcs (l.take i) ++ rcs (l.drop i) := by rw [← rcs_append, List.take_append_drop]
  obtain ⟨rest, e1, e2⟩ := shift_rows (pre := rcs (l.take i)) (post := rcs (l.drop i)) (x := x.cells) (L := C.toList) (by rw [hlt, hlen, ← hcs, ← htk]; congr 1; omega) (by rw [hlt, hlen, hxl, hCl]; omega)
  rw [hlt, hlen, hxl] at e1
  have e4 : i * 4 + 4 = (i + 1) * 4 := by omega
  rw [e4] at e1
  have hD : (C.toList.take ((i + 1) * 4) ++ rcs (l.drop i) ++ C.toList.drop ((i + 1) * 4 + (l.length - i) * 4)).length = cap * 4 := by
    simp only [List.length_append, List.length_take, List.length_drop, hCl, hlen]
    omega
  obtain ⟨c1, f1, z1⟩ := blk_cells hx
  obtain ⟨h1, h2, h3⟩ := copy_into u g (i * 4) _ _ hg ⟨g2, 0, none⟩ (l.length + 1 - i) 1 x.cells (by rw [hmin, hxl]) (fun j v hj => by
      rw [Addr.add_mid, Nat.zero_add, c1]
      simpa using hj) (by rw [hxl, List.size_toArray, hD]; omega) (fun v hv => rcs_one [x] v (by simpa [rcs] using hv))
  rw [hmin] at h1
  refine ⟨_, h1, ?_, h3⟩
  rw [hxl, e4] at h2
  simp only [] at h2
  rw [e1] at h2
  have hrl : (rcs (l.take i ++ [x] ++ l.drop i)).length = (l.length + 1) * 4 := by
    rw [rcs_len]
    simp only [List.length_append, List.length_take, List.length_drop, List.length_singleton]
    omega
  refine ⟨hrl, .inr ⟨g, cap, _, rfl, hb, h2, hc, hmax, by rw [List.size_toArray, e2, hCl], ?_⟩⟩
  rw [rcs_mid] at hrl ⊢
  rw [← hrl]
  exact List.take_left
theorem int_under : Tryz.prog.underlying 3 = some (.int .i64) := Tryz.underlying3
set_option maxRecDepth 100000 in
/-- the append of zeros, where there is no room -/
theorem ins_app {base g cap i : Nat} {l : List Rc} {u : World} (ho : u.ownsRow base 23 4 (.slice (some ⟨g, 0, none⟩) l.length cap) l.length (rcs l)) (hi : i < l.length) (hc : cap < l.length + 1) (hl : l.length ≤ 1000000) :
    ∃ (N G : Nat) (C : Array Value) (u' : World), (∀ ty, (Builtin.append_ #[32, 3] ty #[.slice (some ⟨g, 0, none⟩) i cap, .int .i64 ((l.length : Int) + 1 - i)]).run Tryz.prog u = .ok (.slice (some ⟨N, 0, none⟩) (l.length + 1) G) u') ∧
      u'.heap[N]? = some (.cells C 23 (0, 0)) ∧ C.size = G * 4 ∧ C.toList.take (i * 4) = rcs (l.take i) ∧ l.length + 1 ≤ G ∧ G ≤ maxLen ∧ u.heap.size ≤ N ∧ Gr u u' := by
  obtain ⟨i0, hI, hz0, hz1, hz2⟩ := info_parts info_rec
  have hcap : cap = l.length := by
    rcases ho.2 with ⟨hv, _⟩ | ⟨g', cap', cur, hv, hb, hg, hcap, hmax, hsz, htk⟩
    · cases hv
    injection hv with ha _ hcc
    omega
  have hlt : (rcs (l.take i)).length = i * 4 := by rw [rcs_len, List.length_take, Nat.min_eq_left (by omega)]
  have hold : (Builtin.firstCells i0.size i (.slice (some ⟨g, 0, none⟩) i cap)).run Tryz.prog u.drew = .ok (rcs (l.take i)).toArray u.drew := by
    rw [hz1]
    refine run_firstCells_some u.drew 4 i ⟨g, 0, none⟩ i cap (rcs (l.take i)) hlt (fun j v hj => ?_)
    rw [Addr.add_mid, Nat.zero_add]
    have hj4 : j < i * 4 := by rw [← hlt]; exact (List.getElem?_eq_some_iff.1 hj).1
    show u.cell? ⟨g, j, none⟩ = some v
    rw [ho.cellAt j (by omega), ← hj, ← rcs_take, List.getElem?_take, if_pos hj4]
  have hk : i + (l.length + 1 - i) = l.length + 1 := by omega
  have hkk : (l.length : Int) + 1 - i = ((l.length + 1 - i : Nat) : Int) := by omega
  have hbig : (l.length + 1) * i0.bytes ≤ 140737488355328 := by rw [hz2]; omega
  have hr := fun ty => Lib.run_append_grow_zeros u 32 3 ty 23 i0 _ .i64 .i64 Tryz.underlying32 int_under hI hz0 (some ⟨g, 0, none⟩) i cap (rcs (l.take i)) hold (l.length + 1 - i) (by omega) (by rw [hz1]; omega) (by omega) (by omega) (by rw [hz2]; omega) (by rw [hk]; exact growslice_fits hc hbig)
  rw [hk] at hr
  refine ⟨_, _, _, _, fun ty => by rw [hkk]; exact hr ty, heap_alloc_new u.drew _, ?_, ?_, grownCap_ge u _ _ _, grownCap_le_maxLen u _ _ _ (by unfold maxLen; omega), Nat.le_refl _, (Gr.refl u).drew.alloc _⟩
  · have hge := grownCap_ge u (l.length + 1) cap 23
    simp only [Array.size_append, List.size_toArray, size_zeroCells, hlt]
    show i * 4 + (l.length + 1 - i) * 4 + (grownCap u (l.length + 1) cap 23 - (l.length + 1)) * 4 = _
    omega
  · simp only [Array.toList_append, List.append_assoc]
    rw [← hlt]
    exact List.take_left
/-- the new record, in the new row -/
theorem ins_app2 {N G i n g2 : Nat} {pre : List Value} {x : Rc} {u : World} {C : Array Value} (hN : u.heap[N]? = some (.cells C 23 (0, 0))) (hsz : C.size = G * 4) (htk : C.toList.take (i * 4) = pre) (hi : i < n) (hG : n + 1 ≤ G)
    (hx : u.heap[g2]? = some (.cells x.cells.toArray 23 (0, 0))) :
    ∃ (D : Array Value) (u' : World), (∀ ty dc sc, (Builtin.copy_ #[32, 32] ty #[.slice (some ⟨N, i * 4, none⟩) (n + 1 - i) dc, .slice (some ⟨g2, 0, none⟩) 1 sc]).run Tryz.prog u = .ok (goInt 1) u') ∧
      u'.heap[N]? = some (.cells D 23 (0, 0)) ∧ D.size = G * 4 ∧ D.toList.take ((i + 1) * 4) = pre ++ x.cells ∧ GrL [N] u u' := by
  have hmin : Nat.min 1 (n + 1 - i) = 1 := Nat.min_eq_left (by omega)
  have hxl : x.cells.length = 4 := rfl
  obtain ⟨c1, f1, z1⟩ := blk_cells hx
  obtain ⟨h1, h2, h3⟩ := copy_into u N (i * 4) _ _ hN ⟨g2, 0, none⟩ (n + 1 - i) 1 x.cells (by rw [hmin, hxl]) (fun j v hj => by
      rw [Addr.add_mid, Nat.zero_add, c1]
      simpa using hj) (by rw [hxl, hsz]; omega) (fun v hv => rcs_one [x] v (by simpa [rcs] using hv))
  rw [hmin] at h1
  have hCl : C.toList.length = G * 4 := by rw [Array.length_toList, hsz]
  have hpl : pre.length = i * 4 := by rw [← htk, List.length_take, hCl]; omega
  refine ⟨_, _, h1, h2, ?_, ?_, h3⟩
  · rw [List.size_toArray]
    simp only [List.length_append, List.length_take, List.length_drop, hCl, hxl]
    omega
  · rw [htk]
    have : (i + 1) * 4 = (pre ++ x.cells).length := by rw [List.length_append, hpl, hxl]; omega
    rw [this]
    exact List.take_left
/-- the rest, in the new row -/
theorem ins_app3 {base base' g cap N G i : Nat} {l : List Rc} {x : Rc} {u : World} {D : Array Value} (ho : u.ownsRow base 23 4 (.slice (some ⟨g, 0, none⟩) l.length cap) l.length (rcs l)) (hb : base' ≤ N) (hi : i < l.length) (hG : l.length + 1 ≤ G) (hmax : G ≤ maxLen)
    (hN : u.heap[N]? = some (.cells D 23 (0, 0))) (hsz : D.size = G * 4) (htk : D.toList.take ((i + 1) * 4) = rcs (l.take i) ++ x.cells) :
    ∃ (u' : World), (∀ ty dc sc, (Builtin.copy_ #[32, 32] ty #[.slice (some ⟨N, (i + 1) * 4, none⟩) (l.length - i) dc, .slice (some ⟨g, i * 4, none⟩) (l.length - i) sc]).run Tryz.prog u = .ok (goInt ((l.length - i : Nat) : Int)) u') ∧
      u'.ownsRow base' 23 4 (.slice (some ⟨N, 0, none⟩) (l.length + 1) G) (l.length + 1) (rcs (l.take i ++ [x] ++ l.drop i)) ∧ GrL [N] u u' := by
  have hlen : (rcs (l.drop i)).length = (l.length - i) * 4 := by rw [rcs_len, List.length_drop]
  have hmin : Nat.min (l.length - i) (l.length - i) = l.length - i := Nat.min_eq_left (Nat.le_refl _)
  have hDl : D.toList.length = G * 4 := by rw [Array.length_toList, hsz]
  obtain ⟨h1, h2, h3⟩ := copy_into u N ((i + 1) * 4) _ _ hN ⟨g, i * 4, none⟩ (l.length - i) (l.length - i) (rcs (l.drop i)) (by rw [hmin, hlen]) (fun j v hj => by
      rw [Addr.add_mid]
      have hj4 : j < (l.length - i) * 4 := by rw [← hlen]; exact (List.getElem?_eq_some_iff.1 hj).1
      rw [ho.cellAt (i * 4 + j) (by omega), ← List.getElem?_drop, rcs_drop]
      exact hj) (by rw [hlen, hsz]; omega) (rcs_one _)
  rw [hmin] at h1
  refine ⟨_, h1, ?_, h3⟩
  have hrl : (rcs (l.take i ++ [x] ++ l.drop i)).length = (l.length + 1) * 4 := by
    rw [rcs_len]
    simp only [List.length_append, List.length_take, List.length_drop, List.length_singleton]
    omega
  refine ⟨hrl, .inr ⟨N, G, _, rfl, hb, h2, hG, hmax, ?_, ?_⟩⟩
  · rw [List.size_toArray]
    simp only [List.length_append, List.length_take, List.length_drop, hDl, hlen]
    omega
  · rw [htk, rcs_mid]
    rw [rcs_mid] at hrl
    rw [← hrl]
    exact List.take_left
end Go.Proofs.YthmimjofdmnakaaGreatDoor
