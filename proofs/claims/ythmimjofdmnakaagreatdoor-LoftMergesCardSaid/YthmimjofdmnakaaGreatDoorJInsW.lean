/- slices.Insert of one record into a row of records. -/
import Derived.Test.YthmimjofdmnakaaGreatDoorJIns
import Derived.Shelf.RegionOpenPlain
namespace Go.Proofs.YthmimjofdmnakaaGreatDoor
open Go.RowKit Go.Shelf Go.Lib
theorem step_copy_runR {P : Program} {ops : Array Oper} {o : Oper} {a : Act} {w : World} {K : Act → World → Prop} {Q : Exit → Act → World → Prop} {E : Prop}
    (hg : o.guard = none) (d x : Operand) (dT sT : TypeId) (hop : o.op = Op.call { callee := Callee.builtin Builtin.copy, args := #[d, x], argTypes := #[dT, sT] })
    (v u : Value) (hd : a.eval d = v) (hx : a.eval x = u) {v' : Value} {w' : World} (hr : (Builtin.copy_ #[dT, sT] o.type #[v, u]).run P w = .ok v' w') (hK : K (a.put o.dst v') w') :
    if Region.wanted o (yielded ops a.tmps) = true then Oper.wp P o a w K Q else E := by
  have hw : Region.wanted o (yielded ops a.tmps) = true := by simp [Region.wanted, hg]
  rw [if_pos hw]
  exact wp_copy_runR w d x dT sT hop v u hd hx hr hK
theorem shape_cells {w : World} {b : Nat} {C : Array Value} {T : TypeId} {f : Nat × Nat} (h : w.heap[b]? = some (.cells C T f)) : w.shape? b = some (T, C.size) := by
  simp [World.shape?, h]
set_option maxRecDepth 100000 in
set_option maxHeartbeats 8000000 in
theorem InsertRoom_any (base g cap i : Nat) (l : List Rc) (x : Rc) (g2 c2 : Nat) (w : World) (hs : w.ownsRow base 23 4 (.slice (some ⟨g, 0, none⟩) l.length cap) l.length (rcs l)) (hx : w.heap[g2]? = some (.cells x.cells.toArray 23 (0, 0))) (hne : g2 ≠ g) (hi : i < l.length) (hl : l.length ≤ 1000000) (hroom : l.length + 1 ≤ cap) :
    Calls Tryz.prog 73 #[.slice (some ⟨g, 0, none⟩) l.length cap, .int .i64 i, .slice (some ⟨g2, 0, none⟩) 1 c2] w fun e w' => ∃ v', e = .returned v' ∧ w'.ownsRow base 23 4 v' (l.length + 1) (rcs (l.take i ++ [x] ++ l.drop i)) ∧ GrL [g] w w' := by
  obtain ⟨C, u1, hsz, htk, hmax, hb, hr1, hg1, hG1⟩ := ins_copy1 (u := w.drew) hs.drew hi hroom
  have hx1 : u1.heap[g2]? = some (.cells x.cells.toArray 23 (0, 0)) := (hG1.block g2 (heap_lt hx) (by simpa using hne)).trans hx
  obtain ⟨u2, hr2, ho2, hG2⟩ := ins_copy2 (base := base) hsz htk hmax hb hi hroom hg1 hx1
  have HO := Lib.hid ho2
  have G := ((GrL.of_gr (l := [g]) (Gr.refl w).drew).trans hG1).trans hG2
  have hov : ∀ lb cb, (callFunc 134 #[.slice (some ⟨g2, 0, none⟩) 1 c2, .slice (some ⟨g, (i + 1) * 4, none⟩) lb cb]).run Tryz.prog w = .ok (.value (.bool false)) w := fun lb cb => by
    rcases hs.2 with ⟨hv, _⟩ | ⟨g', cap', cur, hv, hb, hgg, hcap, hmax, hsz, htk⟩
    · cases hv
    injection hv with ha _ hcc
    injection ha with ha
    injection ha with ha
    subst ha; subst hcc
    rw [run_callFunc_extern Tryz.func134 (by kernel_rfl) (by kernel_rfl) (by kernel_rfl) (e := Extern.SlicesOverlaps.overlaps #[32, 32] #[4]) (by kernel_rfl),
      Lib.run_overlaps_apart w 32 4 23 Tryz.underlying32 4 Tryz.sizeOf23 ⟨g2, 0, none⟩ ⟨g, (i + 1) * 4, none⟩ 1 c2 lb cb hne _ _ _ _ (shape_cells hx) (shape_cells hgg) (by omega) ((blk_cells hx).2.1 0) ((blk_cells hx).2.1 _)]
    rfl
  have hz2 : ¬ ((i : Int) = (l.length : Int)) := by omega
  have hcm : cap ≤ 9223372036854775807 := by unfold maxLen at hmax; omega
  have hin : i ≤ l.length := by omega
  have hb2 : ¬ (cap = i + 1) := by omega
  have hb3 : (i : Int) ≤ (l.length : Int) + 1 := by omega
  have hb4 : ¬ (cap = i) := by omega
  have hb5 : ¬ (cap : Int) < (l.length : Int) + 1 := by omega
  have hb6 : i + 1 ≤ l.length + 1 := by omega
  have mixed : Tryz.prog.follows .mixedOrders = true := by kernel_rfl
  have hw1 : IntKind.i64.wrap ((i : Int) + 1) = (i : Int) + 1 := by rw [IntKind.wrap_i64]; omega
  have hb1 : (0 : Int) ≤ (i : Int) + 1 := by omega
  have htn : ((i : Int) + 1).toNat = i + 1 := by omega
  have hin' : (i : Int) ≤ (l.length : Int) := by omega
  clear ho2 hG1 hG2 hx hx1 hs hg1 hsz htk hmax
  go_enter Tryz.func73, Tryz.ntmps73
  go_wp2_with (simp only [hov])
  go_region_law_o (refine step_copy_runR rfl _ _ 32 32 rfl _ _ (by simp [Act.eval, Act.put]) (by simp [Act.eval, Act.put]) (hr1 _ _ _) ?_)
  go_wp2_with (at_builtin; refine wpList_copy_runR _ rfl _ _ 32 32 rfl _ _ rfl rfl (hr2 _ _ _) ?_)
  go_ret
  exact ⟨_, rfl, HO.out, G⟩
set_option maxRecDepth 100000 in
set_option maxHeartbeats 8000000 in
theorem InsertGrow_any (base g cap i : Nat) (l : List Rc) (x : Rc) (g2 c2 : Nat) (w : World) (hbw : base ≤ w.heap.size) (hs : w.ownsRow base 23 4 (.slice (some ⟨g, 0, none⟩) l.length cap) l.length (rcs l)) (hx : w.heap[g2]? = some (.cells x.cells.toArray 23 (0, 0))) (hi : i < l.length) (hl : l.length ≤ 1000000) (hroom : cap < l.length + 1) :
    Calls Tryz.prog 73 #[.slice (some ⟨g, 0, none⟩) l.length cap, .int .i64 i, .slice (some ⟨g2, 0, none⟩) 1 c2] w fun e w' => ∃ v', e = .returned v' ∧ w'.ownsRow base 23 4 v' (l.length + 1) (rcs (l.take i ++ [x] ++ l.drop i)) ∧ GrL [g] w w' := by
  obtain ⟨N, G, C, u1, hr1, hN1, hsz, htk, hG, hmax, hNw, g1⟩ := ins_app hs hi hroom hl
  obtain ⟨D, u2, hr2, hN2, hsz2, htk2, g2'⟩ := ins_app2 (i := i) hN1 hsz htk hi hG (g1.heap hx)
  have hgw : g < w.heap.size := (hs.lt g rfl).2
  have hgN : g ≠ N := by omega
  have hs2 : u2.ownsRow base 23 4 (.slice (some ⟨g, 0, none⟩) l.length cap) l.length (rcs l) := ownsRow_gr (ownsRow_g hs g1) g2' (fun k hk => by
    have : k = g := by simpa [Value.ownBlock, eq_comm] using hk
    subst this
    simpa using hgN)
  obtain ⟨u3, hr3, ho3, g3⟩ := ins_app3 (base' := base) (x := x) (u := u2.drew) hs2.drew (by omega) hi hG hmax hN2 hsz2 htk2
  have HO := Lib.hid ho3
  have GG : GrL [g] w u3 := GrL.of_gr (GrL.gr (GrL.gr g1 g2' (fun k hk => by simp at hk; omega)).drew g3 (fun k hk => by simp at hk; omega))
  have hz2 : ¬ ((i : Int) = (l.length : Int)) := by omega
  have hcm : G ≤ 9223372036854775807 := by unfold maxLen at hmax; omega
  have hin : i ≤ l.length := by omega
  have hGi : ¬ (G = i) := by omega
  have hGi1 : ¬ (G = i + 1) := by omega
  have hci : ¬ (cap = i) := by
    rcases hs.2 with ⟨hv, _⟩ | ⟨_, _, _, hv, _, _, hcap, _⟩
    · cases hv
    · injection hv with _ _ hcc; omega
  have hcc : cap ≤ 1000000 := by omega
  have hic : i ≤ cap := by
    rcases hs.2 with ⟨hv, _⟩ | ⟨_, _, _, hv, _, _, hcap, _⟩
    · cases hv
    · injection hv with _ _ hcc; omega
  have hb3 : (i : Int) ≤ (l.length : Int) + 1 := by omega
  have hb5 : (cap : Int) < (l.length : Int) + 1 := by omega
  have hb6 : i + 1 ≤ l.length + 1 := by omega
  have mixed : Tryz.prog.follows .mixedOrders = true := by kernel_rfl
  have hw1 : IntKind.i64.wrap ((i : Int) + 1) = (i : Int) + 1 := by rw [IntKind.wrap_i64]; omega
  have hb1 : (0 : Int) ≤ (i : Int) + 1 := by omega
  have htn : ((i : Int) + 1).toNat = i + 1 := by omega
  have hin' : (i : Int) ≤ (l.length : Int) := by omega
  clear ho3 g3 hs2 g2' hx hs hN2 hsz2 htk2 hN1 hsz htk hmax g1 hNw
  go_enter Tryz.func73, Tryz.ntmps73
  go_wp2_with (first
    | (at_builtin; refine Lib.wpList_append_run _ rfl _ _ _ _ rfl _ _ rfl rfl _ _ (hr1 _) ?_)
    | (at_builtin; refine wpList_copy_runR _ rfl _ _ 32 32 rfl _ _ rfl rfl (hr2 _ _ _) ?_))
  go_region_law_o (refine step_copy_runR rfl _ _ 32 32 rfl _ _ (by simp [Act.eval, Act.put]) (by simp [Act.eval, Act.put]) (hr3 _ _ _) ?_)
  go_wp2
  go_ret
  exact ⟨_, rfl, HO.out, GG⟩
/-- a record inserted into its place -/
theorem Insert_any (base : Nat) (s : Value) (l : List Rc) (x : Rc) (i g2 c2 : Nat) (w : World) (hb : base ≤ w.heap.size) (hs : w.ownsRow base 23 4 s l.length (rcs l)) (hx : w.heap[g2]? = some (.cells x.cells.toArray 23 (0, 0))) (hne : s.ownBlock ≠ some g2) (hi : i ≤ l.length) (hl : l.length ≤ 1000000) :
    Calls Tryz.prog 73 #[s, .int .i64 i, .slice (some ⟨g2, 0, none⟩) 1 c2] w fun e w' => ∃ v', e = .returned v' ∧ w'.ownsRow base 23 4 v' (l.take i ++ [x] ++ l.drop i).length (rcs (l.take i ++ [x] ++ l.drop i)) ∧ GrL s.ownBlock.toList w w' := by
  by_cases hil : i < l.length
  · have hlen : (l.take i ++ [x] ++ l.drop i).length = l.length + 1 := by
      simp only [List.length_append, List.length_take, List.length_drop, List.length_singleton]
      omega
    rw [hlen]
    have hs0 := hs
    rcases hs.2 with ⟨_, hz⟩ | ⟨g, cap, cur, rfl, -⟩
    · omega
    have hne' : g2 ≠ g := fun e => hne (by subst e; rfl)
    by_cases hroom : l.length + 1 ≤ cap
    · exact InsertRoom_any base g cap i l x g2 c2 w hs0 hx hne' hil hl hroom
    · exact InsertGrow_any base g cap i l x g2 c2 w hb hs0 hx hil hl (by omega)
  · obtain rfl : i = l.length := by omega
    rw [List.take_length, List.drop_length, List.append_nil]
    exact InsertEnd_any base s l x g2 c2 w hb hs hx hl
end Go.Proofs.YthmimjofdmnakaaGreatDoor
