/- What regions owe where values of many cells are loaded, built, appended or copied. -/
import Derived.Test.YthmimjofdmnakaaGreatDoorLSum0
import Derived.Test.YthmimjofdmnakaaGreatDoorLDisk
import Derived.Laws.OwnMore
import Derived.Laws.CopyOwn
import Derived.Great.Walk
namespace Go.Proofs.YthmimjofdmnakaaGreatDoor
open Go.RowKit Go.Shelf
theorem rangeAt_gr {w w' : World} {b o : Nat} {cs : List Value} (h : w.rangeAt b o cs) (g : Gr w w') : w'.rangeAt b o cs := fun j v hv => by
  have := h j v hv
  exact (g.cells.1 b (o + j) (World.block_lt_of_cell? w _ this)).trans this
theorem rangeAt_ld (T : TypeId) (d : TypeDesc) (n : Nat) (hu : Tryz.prog.underlying T = some d) (hd : d.isRow = true) (hi : (Tryz.prog.info? T).map (·.size) = some n) (w : World) (b o : Nat) (C : Array Value) (hC : C.size = n) (h : w.rangeAt b o C.toList) :
    (Instr.loadAt T (.pointer (some ⟨b, o, none⟩))).run Tryz.prog w = .ok (.agg C) w := by
  have := run_loadAt_mid (P := Tryz.prog) w b o T C.toList d h hu hd (by rw [hi, ← hC]; rfl)
  simpa using this
theorem run_store_at (u : World) (b o : Nat) (Z : Array Value) (ht : u.there b o Z.size) (h1 : Z.all (·.oneCell') = true) : (storeCells ⟨b, o, none⟩ Z.toList).run Tryz.prog u = .ok () (u.setCells b o Z.toList) := by
  have := run_storeCells_cells (P := Tryz.prog) b o Z.toList 0 u (fun j hj => by simpa using (ht j (by simpa using hj)).1) (fun j hj => by simpa using (ht j (by simpa using hj)).2)
    (fun v hv => (Array.all_eq_true_iff_forall_mem.1 h1) v (by simpa using hv))
  simpa using this
theorem owes_load {P : Program} {ops : Array Oper} {pl : List Step} {w1 : World} {F : (Nat → Value) → Act} {k : Nat} {o : Oper} (T : TypeId) (x : Operand) (ho : o.op = .load T x) (hw : ∀ V, Region.wanted o (yielded ops (F V).tmps) = true) (b off : Nat)
    (hx : ∀ V, (F V).eval x = .pointer (some ⟨b, off, none⟩)) (Z : Array Value) (d : TypeDesc) (hu : P.underlying T = some d) (hd : d.isRow = true) (hi : (P.info? T).map (·.size) = some Z.size) (hr : w1.rangeAt b off Z.toList) :
    OwesT P ops pl w1 F k o (.val (.agg Z)) := by
  intro V u hg _
  refine ⟨hw V, ?_⟩
  have := run_loadVar_mid u b off T Z.toList d (rangeAt_gr hr hg) hu hd hi
  rw [Array.toArray_toList] at this
  unfold execOp
  simp only [ho, hx, Instr.loadAt, Instr.sureAddr, Sem.run_bind, Sem.run_pure, Result.andThen_ok, this]
  exact ⟨rfl, Gr.refl _⟩
/-- bytes in a block -/
def YB (w : World) (b n : Nat) (T : TypeId) : Prop := ∃ Z : List Int, Z.length = n ∧ w.heap[b]? = some (.cells (Z.map (Value.int .u8)).toArray T (0, 0))
theorem YB.gr {w w' : World} {b n : Nat} {T : TypeId} (h : YB w b n T) (g : Gr w w') : YB w' b n T := by
  obtain ⟨Z, h1, h2⟩ := h
  exact ⟨Z, h1, g.heap h2⟩
theorem YB.grl {w w' : World} {b n : Nat} {T : TypeId} {l : List Nat} (h : YB w b n T) (g : GrL l w w') (hb : b ∉ l) : YB w' b n T := by
  obtain ⟨Z, h1, h2⟩ := h
  exact ⟨Z, h1, (g.block b (heap_lt h2) hb).trans h2⟩
theorem YB.lt {w : World} {b n : Nat} {T : TypeId} (h : YB w b n T) : b < w.heap.size := by
  obtain ⟨Z, h1, h2⟩ := h
  exact heap_lt h2
theorem YB.cell {w : World} {b n : Nat} {T : TypeId} (h : YB w b n T) {i : Nat} (hi : i < n) : ∃ x, w.cell? ⟨b, i, none⟩ = some (.int .u8 x) := by
  obtain ⟨Z, rfl, h2⟩ := h
  refine ⟨Z[i], ?_⟩
  rw [(blk_cells h2).1]
  simp [hi]
theorem YB.fr {w : World} {b n : Nat} {T : TypeId} (h : YB w b n T) (i : Nat) : w.frozen? ⟨b, i, none⟩ = false := by
  obtain ⟨Z, rfl, h2⟩ := h
  exact (blk_cells h2).2.1 i
theorem YB.set {w : World} {b n : Nat} {T : TypeId} (h : YB w b n T) (i : Nat) (x : Int) : YB (w.setCell ⟨b, i, none⟩ (.int .u8 x)) b n T := by
  obtain ⟨Z, h1, h2⟩ := h
  refine ⟨Z.set i x, by simp [h1], ?_⟩
  rw [put_at h2]
  congr 2
  apply Array.ext'
  simp [List.map_set]
theorem YB.row {w : World} {b : Nat} {T : TypeId} {Z : List Int} (h : w.heap[b]? = some (.cells (Z.map (Value.int .u8)).toArray T (0, 0))) (o : Nat) (zs : List Int) (ho : o + zs.length ≤ Z.length) :
    YB (w.setRow b ((Z.map (Value.int .u8)).toArray.toList.take o ++ (zs.map (Value.int .u8) ++ (Z.map (Value.int .u8)).toArray.toList.drop (o + (zs.map (Value.int .u8)).length))).toArray) b Z.length T := by
  refine ⟨Z.take o ++ (zs ++ Z.drop (o + zs.length)), by simp; omega, ?_⟩
  rw [setRow_heap w b _ _ _ _ h]
  simp
theorem rangeAt_grl {w w' : World} {l : List Nat} {b o : Nat} {cs : List Value} (h : w.rangeAt b o cs) (g : GrL l w w') (hb : b ∉ l) : w'.rangeAt b o cs := fun j v hv => by
  have := h j v hv
  exact (World.cell?_of_block (g.block b (World.block_lt_of_cell? w _ this) hb)).trans this
/-- many bytes as a value -/
structure Bs (C : Array Value) (n : Nat) : Prop where
  s : C.size = n
  o : C.all (·.oneCell') = true
theorem Bs.of (Z : List Int) : Bs (Z.map (Value.int .u8)).toArray Z.length := ⟨by simp, all_oneCell_toArray (u8_one Z)⟩
theorem YB.cells {w : World} {b n : Nat} {T : TypeId} {Z : List Int} (h : w.heap[b]? = some (.cells (Z.map (Value.int .u8)).toArray T (0, 0))) (hZ : Z.length = n) (o : Nat) (zs : List Int) (ho : o + zs.length ≤ n) : YB (w.setCells b o (zs.map (Value.int .u8))) b n T := by
  refine ⟨Z.take o ++ (zs ++ Z.drop (o + zs.length)), by simp; omega, ?_⟩
  rw [heap_setCells b T _ o w _ h (by simp; omega)]
  simp
theorem YB.of_cells {w : World} {b n : Nat} {T : TypeId} {C : Array Value} (h : w.heap[b]? = some (.cells C T (0, 0))) (hC : C.size = n) (zs : List Int) (ho : zs.length = n) : YB (w.setCells b 0 (zs.map (Value.int .u8))) b n T := by
  refine ⟨zs, ho, ?_⟩
  rw [heap_setCells b T _ 0 w _ h (by simp; omega)]
  have : C.toList.length = C.size := rfl
  simp [List.drop_eq_nil_of_le, ho, hC, this]
theorem CloneC_any (g o cap : Nat) (zs : List Int) (w : World) (hr : w.rangeAt g o (zs.map (Value.int .u8))) (hl : zs.length ≤ 1000000) :
    Calls Tryz.prog 84 #[.slice (some ⟨g, o, none⟩) zs.length cap] w fun e w' => ∃ v', e = .returned v' ∧ RowB w' w.heap.size v' zs ∧ Gr w w' := by
  obtain ⟨i0, hi, hz0, hz1, hz2⟩ := info_parts info_u8
  refine (AnyE.slices_Clone Tryz.cloneByte i0 _ 1 1 hi hz0 hz1 hz2 rfl (by omega) Tryz.sizeOf5 g o zs.length cap (zs.map (Value.int .u8)) w (by simp) (by unfold maxLen; omega) (by omega) (fun j u hu => hr j u hu) (u8_one zs)).mono ?_
  rintro e w' ⟨v', rfl, h1, _, h2⟩
  exact ⟨v', rfl, h1, Gr.of_below h2⟩
theorem cameS_append {P : Program} {F : Value → World → Prop} {R : World → Prop} {o : Oper} {a : Act} {w : World} (s x : Operand) (t : TypeId)
    (ho : o.op = .call { callee := .builtin .append, args := #[s, x], argTypes := #[t, t] })
    (base : Nat) (e : TypeId) (i : TypeInfo) (z : Value) (size bytes : Nat) (ht : P.underlying t = some (.slice e)) (hi : P.info? e = some i) (hz : i.zero = some z)
    (hsize : i.size = size) (hby : i.bytes = bytes) (hzs : z.cells.size = size) (hsz : 0 < size)
    (v : Value) (n : Nat) (xs : List Value) (hs : a.eval s = v) (hown : w.ownsRow base e size v n xs)
    (ad : Addr) (m c : Nat) (news : List Value) (hx : a.eval x = .slice (some ad) m c) (hl : news.length = m * size) (hnews : ∀ j u, news[j]? = some u → w.cell? (ad.add j) = some u) (h1 : ∀ u ∈ news, u.oneCell' = true)
    (h63 : n + m ≤ maxLen) (hbytes : (n + m) * bytes ≤ 140737488355328) (hbase : base ≤ w.heap.size)
    (h : ∀ v' w', w'.ownsRow base e size v' (n + m) (xs ++ news) → w.grownBy w' v.ownBlock → F v' w' ∧ R w') : CameS P F R ((execOp a.eval o).run P w) := by
  obtain ⟨v', w', hr, h2, h3, _⟩ := run_append_own (P := P) w base t o.type e i z size bytes ht hi hz hsize hby hzs hsz v n xs hown ad m c news hl hnews h1 h63 hbytes hbase
  unfold execOp
  simp only [ho, resolve, invoke, builtin, Sem.run_bind, Sem.run_pure, Result.andThen_ok, List.map_toArray, List.map_cons, List.map_nil, hs, hx, hr]
  exact h v' w' h2 h3
theorem fold_set : ∀ (l : List Value) (k off : Nat) (Z : Array Value), off + k + l.length ≤ Z.size →
    ((l.zipIdx k).foldl (fun (cs : Array Value) (x : Value × Nat) => cs.setIfInBounds (off + x.2) x.1) Z).toList = Z.toList.take (off + k) ++ l ++ Z.toList.drop (off + k + l.length)
  | [], k, off, Z, h => by simp
  | v :: r, k, off, Z, h => by
    simp only [List.length_cons] at h
    rw [List.zipIdx_cons, List.foldl_cons, fold_set r (k + 1) off _ (by simp; omega)]
    simp only [Array.toList_setIfInBounds, List.length_cons]
    have hz : Z.toList.length = Z.size := rfl
    generalize Z.toList = L at *
    rw [List.set_eq_take_append_cons_drop, if_pos (by omega)]
    have ht : (L.take (off + k)).length = off + k := by rw [List.length_take]; omega
    have e1 : (L.take (off + k) ++ v :: L.drop (off + k + 1)).take (off + (k + 1)) = L.take (off + k) ++ [v] := by
      rw [List.take_append, ht, show off + (k + 1) - (off + k) = 1 by omega]
      simp [List.take_take]
    have e2 : (L.take (off + k) ++ v :: L.drop (off + k + 1)).drop (off + (k + 1) + r.length) = L.drop (off + k + (r.length + 1)) := by
      rw [List.drop_append, ht, show (L.take (off + k)).drop (off + (k + 1) + r.length) = [] from List.drop_eq_nil_of_le (by omega), show off + (k + 1) + r.length - (off + k) = r.length + 1 by omega]
      simp [List.drop_drop]
      congr 1
      omega
    rw [e1, e2]
    simp
theorem fill_fold (C Z : Array Value) (off : Nat) (h : off + C.size ≤ Z.size) :
    C.zipIdx.foldl (fun (cs : Array Value) (x : Value × Nat) => cs.setIfInBounds (off + x.2) x.1) Z = (Z.toList.take off ++ C.toList ++ Z.toList.drop (off + C.size)).toArray := by
  apply Array.ext'
  rw [← Array.foldl_toList, Array.toList_zipIdx, fold_set C.toList 0 off Z (by have : C.toList.length = C.size := rfl; omega)]
  simp
theorem info_change : (Tryz.prog.info? 143).map (fun i => (i.zero, i.size, i.bytes)) = some (some (.agg (#[.int .i64 0] ++ Array.replicate 64 (.int .u8 0))), 65, 72) := by kernel_rfl
theorem places_change : (match Tryz.prog.underlying 143 with | some (.struct fs) => fs.toList.mapM (fun f => (Tryz.prog.info? f.type).map fun i => (f.offset, i.size)) | _ => none) = some [(0, 1), (1, 64)] := by kernel_rfl
theorem built_change (i : Int) (C : Array Value) (hC : C.size = 64) : Tryz.prog.built 143 [(0, .int .i64 i), (1, .agg C)] = some (#[.int .i64 i] ++ C) := by
  obtain ⟨i0, hi, hz0, hz1, hz2⟩ := info_parts info_change
  have hp := places_change
  unfold Program.built
  rw [hi]
  cases hu : Tryz.prog.underlying 143 with
  | none => rw [hu] at hp; cases hp
  | some d =>
    rw [hu] at hp
    cases d with
    | struct fs =>
      simp only at hp
      simp only [hz0, hp, Instr.fill]
      have c1 : (Value.int IntKind.i64 i).cells = #[.int .i64 i] := rfl
      have c2 : (Value.agg C).cells = C := rfl
      have c3 : (Value.agg (#[Value.int IntKind.i64 0] ++ Array.replicate 64 (Value.int IntKind.u8 0))).cells = #[Value.int IntKind.i64 0] ++ Array.replicate 64 (Value.int IntKind.u8 0) := rfl
      rw [c1, c2, c3]
      have := fill_fold C (#[.int .i64 i] ++ Array.replicate 64 (.int .u8 0)) 1 (by simp [hC])
      simp [hC] at this ⊢
      rw [this]
      simp
    | _ => cases hp
theorem bslice_change (X Z : Array Value) (hX : X.size = 65) (hZ : Z.size = 65) : Instr.fill (fun i => some (i * 65, 65)) Z [(0, .agg X)] = some X := by
  have c2 : (Value.agg X).cells = X := rfl
  simp only [Instr.fill, c2]
  have := fill_fold X Z 0 (by omega)
  simp only [Nat.zero_mul, hX, hZ]
  rw [if_neg (by simp)]
  simp only [Nat.zero_add, hX, List.take_zero, List.nil_append] at this ⊢
  rw [this]
  have e : Z.toList.drop 65 = [] := List.drop_eq_nil_of_le (by have : Z.toList.length = Z.size := rfl; omega)
  rw [e]
  simp
theorem owes_build {P : Program} {ops : Array Oper} {pl : List Step} {w1 : World} {F : (Nat → Value) → Act} {k : Nat} {o : Oper} (T : TypeId) (parts : Array (Nat × Operand)) (ho : o.op = .build T parts) (hw : ∀ V, Region.wanted o (yielded ops (F V).tmps) = true)
    (ps : List (Nat × Value)) (hp : ∀ V, (parts.map fun (i, x) => (i, (F V).eval x)).toList = ps) (X : Array Value) (hX : P.built T ps = some X) : OwesT P ops pl w1 F k o (.val (.agg X)) := by
  intro V u hg _
  refine ⟨hw V, ?_⟩
  have := run_build u T (parts.map fun (i, x) => (i, (F V).eval x)) X (by rw [hp V]; exact hX)
  unfold execOp
  simp only [ho, Sem.run_bind, this, Result.andThen_ok]
  exact ⟨rfl, Gr.refl _⟩
theorem owes_bslice {P : Program} {ops : Array Oper} {pl : List Step} {w1 : World} {F : (Nat → Value) → Act} {k : Nat} {o : Oper} (T e : TypeId) (len : Nat) (parts : Array (Nat × Operand)) (ho : o.op = .buildSlice T len parts) (hw : ∀ V, Region.wanted o (yielded ops (F V).tmps) = true)
    (ps : List (Nat × Value)) (hp : ∀ V, (parts.map fun (i, x) => (i, (F V).eval x)).toList = ps) (X : Array Value) (ie : TypeInfo) (z : Value)
    (hu : P.underlying T = some (.slice e)) (hie : P.info? e = some ie) (hz : ie.zero = some z) (hsmall : ¬ len * ie.size > 2 ^ 24) (hpos : ¬ len * ie.size = 0)
    (hX : Instr.fill (fun i => some (i * ie.size, ie.size)) ((Array.range (len * ie.size)).map (z.cells[· % z.cells.size]!)) ps = some X) :
    OwesT P ops pl w1 F k o (.sat (fun v u => ∃ b, v = .slice (some ⟨b, 0, none⟩) len len ∧ w1.heap.size ≤ b ∧ u.heap[b]? = some (.cells X e (0, 0)))) := by
  refine ⟨fun v u u1 h g => by obtain ⟨b, h1, h2, h3⟩ := h; exact ⟨b, h1, h2, g.heap h3⟩, ?_⟩
  intro V u hg _
  refine ⟨hw V, ?_⟩
  have := run_buildSlice (P := P) u T e len (parts.map fun (i, x) => (i, (F V).eval x)) X ie z hu hie hz hsmall hpos (by rw [hp V]; exact hX)
  unfold execOp
  simp only [ho, Sem.run_bind, this, Result.andThen_ok]
  exact ⟨⟨_, rfl, hg.b.size, heap_alloc_self _ _⟩, (Gr.refl _).alloc _⟩
end Go.Proofs.YthmimjofdmnakaaGreatDoor
