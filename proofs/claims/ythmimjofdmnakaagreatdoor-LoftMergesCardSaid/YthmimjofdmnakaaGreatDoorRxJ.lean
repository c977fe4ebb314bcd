/- RX, part 10: conversions, the builtins of package unsafe. -/
import Derived.Test.YthmimjofdmnakaaGreatDoorRxE
import Derived.Laws.StructEq
namespace Go.Proofs.YthmimjofdmnakaaGreatDoor
section
namespace RX
noncomputable section
def asU8 : AV → Option Int
  | .int .u8 n => some n
  | _ => none
theorem asU8_some {a : AV} {n : Int} (h : asU8 a = some n) : a = .int .u8 n := by
  unfold asU8 at h
  split at h
  · obtain rfl := Option.some.inj h; rfl
  · cases h
def numsA : List AV → Option (List Int)
  | [] => some []
  | x :: xs => (asU8 x).bind fun n => (numsA xs).bind fun l => some (n :: l)
theorem numsA_ok {sg : Ids} : ∀ {xs : List AV} {ns : List Int} {vs : List Value}, numsA xs = some ns → VRs sg xs vs → vs = ns.map (Value.int .u8)
  | [], ns, vs, h, hv => by
    obtain rfl := Option.some.inj (show some [] = some ns from h)
    exact hv
  | x :: xs, ns, vs, h, hv => by
    obtain ⟨n, hn, h⟩ := bnd (show (asU8 x).bind _ = some ns from h)
    obtain ⟨l, hl, h⟩ := bnd h
    obtain rfl := Option.some.inj h
    obtain ⟨u, us, rfl, h1, h2⟩ := hv
    rw [asU8_some hn] at h1
    obtain rfl : u = _ := h1
    rw [numsA_ok hl h2]
    rfl
def byteOfI (n : Int) : UInt8 := UInt8.ofNat n.toNat
/-- pointers to and from unsafe.Pointer -/
def unsafeA (E : Env) (P : Program) (a d : TypeDesc) (x : AV) (s : St) : Option (AV × St) :=
  (asPtr x).bind fun y => (s.heap.get y.1).bind fun k => (asRow k).bind fun r => match ptrOf a with
    | some t => (grd (isUnsafe d)).bind fun _ => (E.info t).bind fun i => (grd (Nat.blt 0 i.size)).bind fun _ => (grd (Nat.blt y.2 r.size)).bind fun _ => some (x, s.saw y.1)
    | none => (grd (isUnsafe a)).bind fun _ => (ptrOf d).bind fun u => (E.info u).bind fun _ => (grd (!r.opn)).bind fun _ => (grd (liesAt P P.depth r.elem (r.size / P.cellsOf r.elem) y.2 u 1)).bind fun _ => some (x, s.saw y.1)
def convA (E : Env) (P : Program) (src dst : TypeId) (x : AV) (s : St) : Option (AV × St) :=
  (E.und src).bind fun a => (E.und dst).bind fun d => match intOf d with
    | some k => (asInt x).bind fun i => some (.int k (k.wrap i.2), s)
    | none => match asStr x with
      | some l => match isStrD d with
        | true => some (.str l, s)
        | false => (sliceOf d).bind fun e => (grd (isStrD a)).bind fun _ => (E.und e).bind fun de => (grd (isU8 de)).bind fun _ =>
          some (.slu s.fresh 0 l.length 1, s.new (.cells l.length true e l.length (l.map u8) .nil))
      | none => match isStrD d with
        | true => (sliceOf a).bind fun e => (E.und e).bind fun de => (grd (isU8 de)).bind fun _ => match asSl x with
          | some q => (s.heap.get q.b).bind fun k => (asRow k).bind fun r => (grd (Nat.ble (q.off + q.len) r.size)).bind fun _ => (numsA (cellsFrom r.per r.zs r.ov q.off q.len)).bind fun l => some (.str (l.map byteOfI), s.saw q.b)
          | none => (isNilSl x).bind fun _ => some (.str [], s)
        | false => unsafeA E P a d x s
/-- id b dies -/
def St.kill (s : St) (b : Nat) : St := { s with heap := s.heap.set b none, wr := s.wr ||| 2 ^ b }
theorem Abs.kill {s : St} {b : Nat} : Abs s (s.kill b) := by
  refine ⟨Nat.le_refl _, fun _ h => h, fun c h => (bit_or_pow _ _ _).2 (.inl h), fun c hc hw => ?_, fun c hc => ?_⟩
  · show (s.heap.set b none).get c = _
    rw [T.get_set, if_neg (bit_or_pow_false hw).2]
  · unfold St.alive at hc
    change ((s.heap.set b none).get c).isSome = true at hc
    rw [T.get_set] at hc
    split at hc
    · cases hc
    · exact .inl hc
def unsafeDataA (x : AV) : Option AV := (asSl x).bind fun q => (grd (match q.cap with | some c => Nat.blt 0 c | none => Nat.blt 0 q.len)).bind fun _ => some (.ptr q.b q.off)
/-- the bytes of a row become a string: the row is not written any more -/
def unsafeStrA (E : Env) (ts : Array TypeId) (x n : AV) (s : St) : Option (AV × St) :=
  (ts[0]?).bind fun t => (E.und t).bind fun d => (ptrOf d).bind fun e => (E.info e).bind fun i => (grd (Nat.beq i.size 1)).bind fun _ => (asPtr x).bind fun p => (grd (Nat.beq p.2 0)).bind fun _ => (asI64 n).bind fun m => (grd (Nat.blt 0 m)).bind fun _ => (grd (Nat.ble m 1000000000)).bind fun _ =>
    (s.heap.get p.1).bind fun k => (asRow k).bind fun r => (grd (Nat.beq r.elem e)).bind fun _ => (grd (Nat.ble m r.size)).bind fun _ => (numsA (cellsFrom r.per r.zs r.ov 0 m)).bind fun l => (grd (allByte l)).bind fun _ => some (.str (l.map byteOfI), (s.saw p.1).kill p.1)
where
  asI64 : AV → Option Nat
    | .int .i64 n => natOf n
    | _ => none
  allByte : List Int → Bool
    | [] => true
    | n :: l => match natOf n with
      | some m => match Nat.blt m 256 with
        | true => allByte l
        | false => false
      | none => false
section
variable {P : Program} {E : Env} {X : Nat → Prop} {sg : Ids} {w w' : World} {s s' s1 : St}
theorem Post.kill {b p : Nat} (H : Holds X sg s.heap w) (hb : X b) (hp : sg b = some p) (hs : w'.heap.size = w.heap.size) (hw : ∀ q, q ≠ p → w'.heap[q]? = w.heap[q]?) (os : w'.os = w.os) (tape : w'.tape = w.tape) (out : w'.output = w.output) : Post X sg w s sg w' (s.kill b) := by
  have get : ∀ c, (s.kill b).heap.get c = if c = b then none else s.heap.get c := fun c => T.get_set _ _ _ _
  have key : ∀ c, After X s (s.kill b) c → X c ∧ c ≠ b := fun c hc => by
    have ha := hc.2
    unfold St.alive at ha
    rw [get] at ha
    split at ha
    · cases ha
    · rename_i hcb
      rcases hc.1 with h | h
      · exact ⟨h, hcb⟩
      · have : c < s.fresh := h.2; omega
  refine ⟨Ext.refl _, fun _ _ e => .inl e, fun c q h1 h2 _ => by have : c < s.fresh := h2; omega, ⟨?_, fun c d q hc hd => H.inj c d q (key c hc).1 (key d hd).1⟩, by rw [hs]; exact Nat.le_refl _, os, tape, out, ?_⟩
  · intro c hc
    obtain ⟨hX, hcb⟩ := key c hc
    obtain ⟨k', q, o', h1, h2, h3, h4, h5⟩ := H.cell c hX
    have hq : q ≠ p := fun hqp => hcb (H.inj c b p hX hb (by rw [← hqp]; exact h2) hp)
    exact ⟨k', q, o', by rw [get, if_neg hcb]; exact h1, h2, by rw [hw q hq]; exact h3, h4, h5⟩
  · intro q _ hc
    refine hw q fun e => ?_
    subst e
    exact hc b hb ((bit_or_pow _ _ _).2 (.inr rfl)) hp
theorem unsafeA_ok (hE : E.Ok P) {src dst : TypeId} {a d : TypeDesc} {x v : AV} {u : Value} (ha : P.underlying src = some a) (hd : P.underlying dst = some d) (h : unsafeA E P a d x s = some (v, s')) (hx : VR sg x u) (A : Ask X sg w s s') : Got P X sg w s (Go.convert src dst u) v s' := by
  replace h := bnd h; obtain ⟨y, hy, h⟩ := h
  replace h := bnd h; obtain ⟨k, hk, h⟩ := h
  replace h := bnd h; obtain ⟨r, hr, h⟩ := h
  have hx' := hx
  rw [asPtr_some hy] at hx'
  obtain ⟨p, hp, rfl⟩ := hx'
  cases hpa : ptrOf a with
  | some t =>
    rw [hpa] at h
    obtain ⟨_, h1, h⟩ := bnd h
    obtain ⟨i, hi, h⟩ := bnd h
    obtain ⟨_, hz, h⟩ := bnd h
    obtain ⟨_, ho, h⟩ := bnd h
    obtain ⟨rfl, rfl⟩ : x = v ∧ _ = s' := Prod.mk.inj (Option.some.inj h)
    obtain ⟨_, q, o, e1, e2, e3, _⟩ := A.at hk (.inl (saw_bit s y.1))
    rw [hp] at e1
    obtain rfl := Option.some.inj e1
    rw [asRow_some hr] at e3
    obtain ⟨c, fz, rfl, _, h2, _, _⟩ := e3
    rw [ptrOf_some hpa] at ha
    rw [isUnsafe_true (grd_some h1)] at hd
    have hz : i.size ≠ 0 := by have := grd_some hz; rw [Nat.blt_eq] at this; omega
    have ho : y.2 < r.size := by have := grd_some ho; rwa [Nat.blt_eq] at this
    refine ⟨_, sg, w, Lib.run_to_unsafe w ⟨p, y.2, none⟩ ha hd (hE.info _ _ hi) hz (e := r.elem) (cells := c.size) ?_ (by show y.2 < c.size; omega), hx, Post.saw _ A.holds⟩
    simp [World.shape?, e2]
  | none =>
    rw [hpa] at h
    obtain ⟨_, h1, h⟩ := bnd h
    obtain ⟨u, hu, h⟩ := bnd h
    obtain ⟨i, hi, h⟩ := bnd h
    obtain ⟨_, ho, h⟩ := bnd h
    obtain ⟨_, hl, h⟩ := bnd h
    obtain ⟨rfl, rfl⟩ : x = v ∧ _ = s' := Prod.mk.inj (Option.some.inj h)
    obtain ⟨_, q, o, e1, e2, e3, _⟩ := A.at hk (.inl (saw_bit s y.1))
    rw [hp] at e1
    obtain rfl := Option.some.inj e1
    rw [asRow_some hr] at e3
    obtain ⟨c, fz, rfl, _, h2, h3, _⟩ := e3
    rw [isUnsafe_true (grd_some h1)] at ha
    rw [ptrOf_some hu] at hd
    have ho : c.size = r.size := h3 (by have := grd_some ho; simpa using this)
    refine ⟨_, sg, w, Lib.run_from_unsafe w ⟨p, y.2, none⟩ ha hd (hE.info _ _ hi) (e := r.elem) (cells := c.size) (by simp [World.shape?, e2]) (by rw [ho]; exact grd_some hl), hx, Post.saw _ A.holds⟩
theorem convA_ok (hE : E.Ok P) {src dst : TypeId} {x v : AV} {u : Value} (h : convA E P src dst x s = some (v, s')) (hx : VR sg x u) (A : Ask X sg w s s') : Got P X sg w s (Go.convert src dst u) v s' := by
  replace h := bnd h; obtain ⟨a, ha, h⟩ := h
  replace h := bnd h; obtain ⟨d, hd, h⟩ := h
  have ha' := hE.und _ _ ha
  have hd' := hE.und _ _ hd
  cases hk : intOf d with
  | some k =>
    rw [hk] at h
    obtain ⟨i, hi, h⟩ := bnd h
    obtain ⟨rfl, rfl⟩ : _ = v ∧ _ = s' := Prod.mk.inj (Option.some.inj h)
    rw [asInt_some hi] at hx
    obtain rfl : u = _ := hx
    rw [intOf_some hk] at hd'
    refine Got.pure A (u := .int k (k.wrap i.2)) ?_ rfl
    simp [convert, run_underlying ha', run_underlying hd', Conv.intToInt]
  | none =>
    rw [hk] at h
    dsimp only at h
    cases hs : asStr x with
    | some l =>
      rw [hs] at h
      dsimp only at h
      rw [asStr_some hs] at hx
      obtain rfl : u = _ := hx
      cases hds : isStrD d with
      | true =>
        rw [hds] at h
        obtain ⟨rfl, rfl⟩ : _ = v ∧ _ = s' := Prod.mk.inj (Option.some.inj h)
        rw [isStrD_true hds] at hd'
        refine Got.pure A (u := .string ⟨⟨l⟩⟩) ?_ rfl
        simp [convert, run_underlying ha', run_underlying hd']
      | false =>
        rw [hds] at h
        obtain ⟨e, he, h⟩ := bnd h
        obtain ⟨_, h1, h⟩ := bnd h
        obtain ⟨de, hde, h⟩ := bnd h
        obtain ⟨_, h2, h⟩ := bnd h
        obtain ⟨rfl, rfl⟩ : _ = v ∧ _ = s' := Prod.mk.inj (Option.some.inj h)
        rw [isStrD_true (grd_some h1)] at ha'
        rw [sliceOf_some he] at hd'
        have hde' := hE.und _ _ hde
        rw [isU8_true (grd_some h2)] at hde'
        have hn : sg s.fresh = none := A.new s.fresh (Nat.le_refl _) (Nat.lt_succ_self _)
        have hr := run_bytes_of_string w src dst e ⟨⟨l⟩⟩ ha' hd' hde'
        generalize hc : grownCap w (⟨⟨l⟩⟩ : ByteArray).size 0 e = c at hr
        have hle : l.length ≤ c := by rw [← hc]; unfold grownCap Question.cut; exact Nat.le_add_right _ _
        have hsz : (bytesRow ⟨⟨l⟩⟩ c).size = c := by
          have e1 : (⟨⟨l⟩⟩ : ByteArray).size = l.length := rfl
          simp [bytesRow, e1]; omega
        have hk : BR (sg.with s.fresh w.heap.size c) (.cells l.length true e l.length (l.map u8) .nil) (.cells (bytesRow ⟨⟨l⟩⟩ c) e ((bytesRow ⟨⟨l⟩⟩ c).size, (bytesRow ⟨⟨l⟩⟩ c).size + 1)) := by
          refine ⟨_, _, rfl, .inr (Nat.le_refl _), by rw [hsz]; exact hle, fun h => (by cases h), fun i hi => ?_⟩
          refine ⟨.int .u8 (l[i].toNat), ?_, rfl, ?_⟩
          · unfold bytesRow
            rw [Array.getElem?_append_left (by simpa using hi)]
            simp [hi]
          · unfold cellAt
            simp [Nat.mod_eq_of_lt hi, hi, u8, VR]
        refine ⟨_, sg.with s.fresh w.heap.size c, _, hr, ⟨w.heap.size, c, Ids.with_self .., hle, by rw [Ids.with_sz]; omega, rfl⟩, Post.alloc (n := c) A.holds A.lt hn hk hsz rfl rfl rfl rfl⟩
    | none =>
      rw [hs] at h
      dsimp only at h
      cases hds : isStrD d with
      | true =>
        rw [hds] at h
        obtain ⟨e, he, h⟩ := bnd h
        obtain ⟨de, hde, h⟩ := bnd h
        obtain ⟨_, h2, h⟩ := bnd h
        rw [sliceOf_some he] at ha'
        rw [isStrD_true hds] at hd'
        have hde' := hE.und _ _ hde
        rw [isU8_true (grd_some h2)] at hde'
        cases hq : asSl x with
        | some q =>
          rw [hq] at h
          obtain ⟨k, hk, h⟩ := bnd h
          obtain ⟨r, hr, h⟩ := bnd h
          obtain ⟨_, g, h⟩ := bnd h
          obtain ⟨ns, hns, h⟩ := bnd h
          obtain ⟨rfl, rfl⟩ : _ = v ∧ _ = s' := Prod.mk.inj (Option.some.inj h)
          obtain ⟨p, c, hp, _, _, _, rfl⟩ := asSl_some hq hx
          obtain ⟨_, q', o, e1, e2, e3, _⟩ := A.at hk (.inl (saw_bit s q.b))
          rw [hp] at e1
          obtain rfl := Option.some.inj e1
          rw [asRow_some hr] at e3
          obtain ⟨cs, c1, c2, c3, c4⟩ := read_ok e3 e2 (ble_le (grd_some g))
          obtain rfl := numsA_ok hns c1
          have hl : (loadCells ⟨p, q.off, none⟩ q.len).run P w = .ok (ns.map (Value.int .u8)).toArray w := by
            have := run_loadCells_list (P := P) w ⟨p, q.off, none⟩ (ns.map (Value.int .u8)) c4
            rwa [c3] at this
          refine ⟨.string ⟨⟨ns.map byteOfI⟩⟩, sg, w, ?_, rfl, Post.saw _ A.holds⟩
          rw [run_convert_bytes_string w src dst e _ q.len c ha' hde' hd', run_bytesToString w _ q.len c ns hl, foldl_push_bytes]
          simp [ByteArray.empty, ByteArray.emptyWithCapacity]
          rfl
        | none =>
          rw [hq] at h
          obtain ⟨_, hn, h⟩ := bnd h
          obtain ⟨rfl, rfl⟩ : _ = v ∧ _ = s' := Prod.mk.inj (Option.some.inj h)
          rw [isNilSl_some hn] at hx
          obtain rfl : u = _ := hx
          exact Got.pure A (u := .string ⟨⟨[]⟩⟩) (run_convert_bytes_nil w src e ha' hde' 0 0 dst hd') rfl
      | false =>
        rw [hds] at h
        exact unsafeA_ok hE ha' hd' h hx A
theorem unsafeDataA_ok {ts : Array TypeId} {ty : TypeId} {x v : AV} {u : Value} (h : unsafeDataA x = some v) (hx : VR sg x u) (A : Ask X sg w s s) : Got P X sg w s (Builtin.unsafeSliceData_ ts ty #[u]) v s := by
  obtain ⟨q, hq, h⟩ := bnd h
  obtain ⟨_, hc, h⟩ := bnd h
  obtain rfl := Option.some.inj h
  obtain ⟨p, c, hp, hle, hk, _, rfl⟩ := asSl_some hq hx
  refine Got.pure A (u := .pointer (some ⟨p, q.off, none⟩)) (Lib.run_unsafeSliceData_row w ts ty _ _ _ ?_) ⟨p, hp, rfl⟩
  have hc := grd_some hc
  cases e : q.cap with
  | some k => rw [e] at hc; have := hk k e; rw [Nat.blt_eq] at hc; omega
  | none => rw [e] at hc; rw [Nat.blt_eq] at hc; omega
theorem unsafeStrA_ok (hE : E.Ok P) {ts : Array TypeId} {ty : TypeId} {x n v : AV} {u y : Value} (h : unsafeStrA E ts x n s = some (v, s')) (hx : VR sg x u) (hn : VR sg n y) (hts : ts.size = 2) (A : Ask X sg w s s') : Got P X sg w s (Builtin.unsafeString_ ts ty #[u, y]) v s' := by
  obtain ⟨t, ht, h⟩ := bnd h
  obtain ⟨d, hd, h⟩ := bnd h
  obtain ⟨e, he, h⟩ := bnd h
  obtain ⟨i, hi, h⟩ := bnd h
  obtain ⟨_, hz, h⟩ := bnd h
  obtain ⟨p, hp, h⟩ := bnd h
  obtain ⟨_, h0, h⟩ := bnd h
  obtain ⟨m, hm, h⟩ := bnd h
  obtain ⟨_, hm0, h⟩ := bnd h
  obtain ⟨_, hmb, h⟩ := bnd h
  obtain ⟨k, hk, h⟩ := bnd h
  obtain ⟨r, hr, h⟩ := bnd h
  obtain ⟨_, hel, h⟩ := bnd h
  obtain ⟨_, hle, h⟩ := bnd h
  obtain ⟨ns, hns, h⟩ := bnd h
  obtain ⟨_, hb, h⟩ := bnd h
  obtain ⟨rfl, rfl⟩ : _ = v ∧ _ = s' := Prod.mk.inj (Option.some.inj h)
  have hz := Nat.eq_of_beq_eq_true (grd_some hz)
  have h0 := Nat.eq_of_beq_eq_true (grd_some h0)
  have hel := Nat.eq_of_beq_eq_true (grd_some hel)
  have hle := ble_le (grd_some hle)
  have hmb := ble_le (grd_some hmb)
  have hm0 : 0 < m := by have := grd_some hm0; rwa [Nat.blt_eq] at this
  have hd' := hE.und _ _ hd
  rw [ptrOf_some he] at hd'
  rw [asPtr_some hp] at hx
  obtain ⟨q, hq, rfl⟩ := hx
  have hn' : y = .int .i64 (m : Int) := by
    unfold unsafeStrA.asI64 at hm
    split at hm
    · obtain rfl : y = _ := hn
      rw [natOf_some hm]
    · cases hm
  subst hn'
  obtain ⟨hX, q', o, e1, e2, e3, _⟩ := A.at hk (.inr ((bit_or_pow _ _ _).2 (.inr rfl)))
  rw [hq] at e1
  obtain rfl := Option.some.inj e1
  rw [asRow_some hr, hel] at e3
  obtain ⟨cs, c1, c2, c3, c4⟩ := read_ok (off := 0) (n := m) e3 e2 (by omega)
  obtain rfl := numsA_ok hns c1
  obtain ⟨c, fz, rfl, _, g2, _, _⟩ := e3
  have back : ∀ (l : List Int), unsafeStrA.allByte l = true → ∀ z ∈ l, ((byteOfI z).toNat : Int) = z := by
    intro l
    induction l with
    | nil => intro _ z hz; cases hz
    | cons a l ih =>
      intro hl z hz
      unfold unsafeStrA.allByte at hl
      split at hl
      · rename_i k hk
        split at hl
        · rename_i hlt
          rcases List.mem_cons.1 hz with rfl | hz
          · rw [Nat.blt_eq] at hlt
            have := natOf_some hk
            subst this
            unfold byteOfI
            rw [Int.toNat_natCast, UInt8.toNat_ofNat']
            congr 1
            exact Nat.mod_eq_of_lt hlt
          · exact ih hl z hz
        · cases hl
      · cases hl
  have hlen : (ns.map byteOfI).length = m := by simpa using c3
  have hcell : ∀ j x, (ns.map byteOfI)[j]? = some x → w.cell? ((⟨q, 0, none⟩ : Addr).add j) = some (.int .u8 x.toNat) := fun j x hj => by
    rw [List.getElem?_map] at hj
    obtain ⟨z, hz, rfl⟩ := Option.map_eq_some_iff.1 hj
    rw [back ns (grd_some hb) z (List.mem_of_getElem? hz)]
    exact c4 j _ (by rw [List.getElem?_map, hz]; rfl)
  obtain ⟨tl⟩ := ts
  obtain ⟨t1, t2, rfl⟩ : ∃ a b, tl = [a, b] := by
    match tl, hts with
    | [a, b], _ => exact ⟨a, b, rfl⟩
  obtain rfl : t1 = t := by simpa using ht
  have hcells : P.cellsOf e = 1 := by unfold Program.cellsOf; rw [hE.info _ _ hi]; exact hz
  have run := Lib.run_unsafeString_row (P := P) w t1 t2 ty e hd' hcells q c.size (by simp [World.shape?, e2]) (ns.map byteOfI) (by intro e; rw [e] at hlen; simp at hlen; omega) (by omega) (by omega) hcell
  rw [hlen] at run
  refine ⟨.string ⟨⟨ns.map byteOfI⟩⟩, sg, w.freeze ⟨q, 0, none⟩ m, ?_, rfl, ?_⟩
  · rw [h0]; exact run
  · have hne : ¬ m = 0 := by omega
    refine (Post.kill (s := s.saw p.1) (X := X) A.holds hX hq ?_ ?_ ?_ ?_ ?_).like rfl
    all_goals unfold World.freeze
    all_goals rw [if_neg hne]
    · simp
    · intro z hz
      rw [Array.getElem?_modify, if_neg (Ne.symm hz)]
end
end
end RX
end
section
namespace RX
noncomputable section
def asMap : AV → Option Nat
  | .map b => some b
  | _ => none
theorem asMap_some {a : AV} {b : Nat} (h : asMap a = some b) : a = .map b := by
  cases a <;> first | (cases h; done) | (obtain rfl := Option.some.inj h; rfl)
def asMapB : Blk → Option (List AEnt × Nat)
  | .map es c => some (es, c)
  | _ => none
theorem asMapB_some {k : Blk} {r : List AEnt × Nat} (h : asMapB k = some r) : k = .map r.1 r.2 := by
  cases k <;> first | (cases h; done) | (obtain rfl := Option.some.inj h; rfl)
structure It where
  m : Nat
  since : Nat
  seen : List Nat
  stepped : Nat
def asIter : Blk → Option It
  | .iter m a b c => some ⟨m, a, b, c⟩
  | _ => none
theorem asIter_some {k : Blk} {r : It} (h : asIter k = some r) : k = .iter r.m r.since r.seen r.stepped := by
  cases k <;> first | (cases h; done) | (obtain rfl := Option.some.inj h; rfl)
def keyOk : TypeDesc → AV → Bool
  | .int _, .int .. => true
  | .string, .str _ => true
  | _, _ => false
def sameIK : IntKind → IntKind → Bool
  | a, b => decide (a = b)
def sameA : AV → AV → Option Bool
  | .int j a, .int k b => (grd (sameIK j k)).bind fun _ => some (a == b)
  | .str a, .str b => some (eqBytes a b)
  | _, _ => none
def findA (k : AV) : List AEnt → Nat → Option (Option (Nat × AV))
  | [], _ => some none
  | e :: es, i => (sameA k e.key).bind fun b => match b with
    | true => some (some (i, e.val))
    | false => findA k es (i + 1)
theorem str_beq (a b : List UInt8) : ((⟨⟨a⟩⟩ : ByteArray) == ⟨⟨b⟩⟩) = eqBytes a b := by
  rw [eqBytes_eq, beq_toListBytes, ByteArray.toList_eq, ByteArray.toList_eq]
theorem sameA_ok {sg : Ids} {d : TypeDesc} {x y : AV} {u v : Value} {b : Bool} (hk : keyOk d x = true) (h : sameA x y = some b) (hx : VR sg x u) (hy : VR sg y v) : Instr.sameNow d u v = some b ∧ (b = true → Instr.sameBits 10000 v u = true) := by
  unfold sameA at h
  split at h
  · obtain ⟨_, hg, h⟩ := bnd h
    obtain rfl := Option.some.inj h
    have hg : _ = _ := of_decide_eq_true (grd_some hg)
    subst hg
    obtain rfl : u = _ := hx
    obtain rfl : v = _ := hy
    cases d <;> first | (cases hk; done) | skip
    refine ⟨by simp [Instr.sameNow], fun e => ?_⟩
    have e := eq_of_beq e
    subst e
    simp [Instr.sameBits]
  · obtain rfl := Option.some.inj h
    obtain rfl : u = _ := hx
    obtain rfl : v = _ := hy
    cases d <;> first | (cases hk; done) | skip
    refine ⟨by simp [Instr.sameNow, str_beq], fun e => ?_⟩
    rename_i a b
    rw [eqBytes_eq] at e
    obtain rfl : a = b := eq_of_beq e
    unfold Instr.sameBits
    rw [str_beq, eqBytes_eq]
    exact beq_self_eq_true a
  · cases h
theorem findA_ok {sg : Ids} {d : TypeDesc} {k : AV} {u : Value} (hk : keyOk d k = true) (hu : VR sg k u) : ∀ {es : List AEnt} {ces : List MapEntry} {i : Nat} {r : Option (Nat × AV)}, findA k es i = some r → ERs sg es ces →
    match r with
    | none => Instr.findNow d u ces i = some none
    | some (j, v) => ∃ x, Instr.findNow d u ces i = some (some (j, x)) ∧ VR sg v x ∧ i ≤ j ∧ ∃ m, ces[j - i]? = some m ∧ Instr.sameBits 10000 m.key u = true
  | [], ces, i, r, h, he => by
    obtain rfl := Option.some.inj (show some none = some r from h)
    obtain rfl : ces = [] := he
    rfl
  | e :: es, ces, i, r, h, he => by
    obtain ⟨m, ms, rfl, hm, hms⟩ := he
    obtain ⟨b, hb, h⟩ := bnd (show (sameA k e.key).bind _ = some r from h)
    have hs := sameA_ok hk hb hu hm.1
    cases b with
    | true =>
      obtain rfl := Option.some.inj h
      refine ⟨m.val, ?_, hm.2.1, Nat.le_refl _, m, by simp, hs.2 rfl⟩
      simp [Instr.findNow, hs.1]
    | false =>
      have ih := findA_ok hk hu (i := i + 1) (r := r) h hms
      have e1 : Instr.findNow d u (m :: ms) i = Instr.findNow d u ms (i + 1) := by simp [Instr.findNow, hs.1]
      rw [e1]
      cases r with
      | none => exact ih
      | some jv =>
        obtain ⟨x, h1, h2, h3, m', h4, h5⟩ := ih
        refine ⟨x, h1, h2, by omega, m', ?_, h5⟩
        rw [show jv.1 - i = (jv.1 - (i + 1)) + 1 by omega, List.getElem?_cons_succ]
        exact h4
theorem ERs.length {sg : Ids} : ∀ {es : List AEnt} {ces : List MapEntry}, ERs sg es ces → ces.length = es.length
  | [], _, h => by obtain rfl : _ = [] := h; rfl
  | _ :: _, _, h => by obtain ⟨u, us, rfl, _, h2⟩ := h; simp [ERs.length h2]
theorem ERs.isEmpty {sg : Ids} : ∀ {es : List AEnt} {ces : List MapEntry}, ERs sg es ces → ces.isEmpty = es.isEmpty
  | [], _, h => by obtain rfl : _ = [] := h; rfl
  | _ :: _, _, h => by obtain ⟨u, us, rfl, _, h2⟩ := h; rfl
theorem ERs.append {sg : Ids} : ∀ {es fs : List AEnt} {a b : List MapEntry}, ERs sg es a → ERs sg fs b → ERs sg (es ++ fs) (a ++ b)
  | [], _, _, _, h, k => by obtain rfl : _ = [] := h; exact k
  | _ :: _, _, _, _, h, k => by obtain ⟨u, us, rfl, h1, h2⟩ := h; exact ⟨u, _, rfl, h1, ERs.append h2 k⟩
def modAt (k v : AV) : List AEnt → Nat → List AEnt
  | [], _ => []
  | e :: es, 0 => { e with key := k, val := v } :: es
  | e :: es, n + 1 => e :: modAt k v es n
theorem ERs.modAt {sg : Ids} {k v : AV} {a b : Value} (hk : VR sg k a) (hv : VR sg v b) : ∀ {es : List AEnt} {ces : List MapEntry} {n : Nat}, ERs sg es ces → ERs sg (RX.modAt k v es n) (ces.modify n fun e => { e with key := a, val := b })
  | [], _, _, h => by obtain rfl : _ = [] := h; simp [RX.modAt, ERs]
  | e :: es, _, 0, h => by
    obtain ⟨u, us, rfl, h1, h2⟩ := h
    exact ⟨{ u with key := a, val := b }, us, by simp, ⟨hk, hv, h1.2.2⟩, h2⟩
  | e :: es, _, n + 1, h => by
    obtain ⟨u, us, rfl, h1, h2⟩ := h
    exact ⟨u, us.modify n fun e => { e with key := a, val := b }, by simp, h1, ERs.modAt hk hv h2⟩
theorem ERs.filter {sg : Ids} (p : Nat → Bool) : ∀ {es : List AEnt} {ces : List MapEntry}, ERs sg es ces → ERs sg (es.filter fun e => p e.born) (ces.filter fun e => p e.born)
  | [], _, h => by obtain rfl : _ = [] := h; rfl
  | e :: es, _, h => by
    obtain ⟨u, us, rfl, h1, h2⟩ := h
    simp only [List.filter_cons, h1.2.2]
    split
    · exact ⟨u, _, rfl, h1, ERs.filter p h2⟩
    · exact ERs.filter p h2
theorem ERs.all {sg : Ids} (p : Nat → Bool) : ∀ {es : List AEnt} {ces : List MapEntry}, ERs sg es ces → (ces.all fun e => p e.born) = (es.all fun e => p e.born)
  | [], _, h => by obtain rfl : _ = [] := h; rfl
  | e :: es, _, h => by
    obtain ⟨u, us, rfl, h1, h2⟩ := h
    simp only [List.all_cons, h1.2.2, ERs.all p h2]
theorem ERs.find {sg : Ids} (p : Nat → Bool) : ∀ {es : List AEnt} {ces : List MapEntry} {e : AEnt}, ERs sg es ces → es.find? (fun e => p e.born) = some e → ∃ m, ces.find? (fun e => p e.born) = some m ∧ ER sg e m
  | [], _, _, h, k => by cases k
  | e :: es, _, _, h, k => by
    obtain ⟨u, us, rfl, h1, h2⟩ := h
    simp only [List.find?_cons, h1.2.2] at k ⊢
    split at k
    · obtain rfl := Option.some.inj k
      exact ⟨u, rfl, h1⟩
    · exact ERs.find p h2 k
section
variable {P : Program} {E : Env} {X : Nat → Prop} {sg : Ids} {w w' : World} {s s' s1 : St}
theorem checkKey_plain {d : TypeDesc} {t : TypeId} {k : AV} {u : Value} (hd : P.underlying t = some d) (hk : keyOk d k = true) (hu : VR sg k u) (b : Bool) (n : Nat) (w : World) : (Instr.checkKey b (n + 1) t u).run P w = .ok () w := by
  unfold keyOk at hk
  split at hk
  · obtain rfl : u = _ := hu
    simp [Instr.checkKey, run_underlying hd]
  · obtain rfl : u = _ := hu
    simp [Instr.checkKey, run_underlying hd]
  · cases hk
theorem findKey_ok {d : TypeDesc} {t : TypeId} {u : Value} {ces : List MapEntry} {r : Option (Nat × Value)} (hd : P.underlying t = some d) (h : Instr.findNow d u ces 0 = some r) (w : World) : (Instr.findKey t u ces).run P w = .ok r w := by
  simp [Instr.findKey, run_underlying hd, h]
theorem run_getObj_at {p : Nat} {o : Obj} (h : w.heap[p]? = some o) (ho : ∀ c e f, o ≠ .cells c e f) : (getObj p).run P w = .ok o w := by
  cases o <;> first | (exact absurd rfl (ho _ _ _)) | simp [getObj, Sem.run, h]
theorem run_setObj_at {p : Nat} {o o' : Obj} (h : w.heap[p]? = some o) (ho : ∀ c e f, o ≠ .cells c e f) : (setObj p o').run P w = .ok () { w with heap := w.heap.setIfInBounds p o' } := by
  cases o <;> first | (exact absurd rfl (ho _ _ _)) | simp [setObj, Sem.run, h]
def makeMapA (s : St) : AV × St := (.map s.fresh, s.new (.map [] 0))
theorem makeMapA_ok {t : TypeId} {v : AV} (h : some (makeMapA s) = some (v, s')) (A : Ask X sg w s s') : Got P X sg w s (Instr.makeMap t none) v s' := by
  obtain ⟨rfl, rfl⟩ : _ = v ∧ _ = s' := Prod.mk.inj (Option.some.inj h)
  have hn : sg s.fresh = none := A.new s.fresh (Nat.le_refl _) (Nat.lt_succ_self _)
  refine ⟨.map (some w.heap.size), sg.with s.fresh w.heap.size 0, { w with heap := w.heap.push (.map #[] 0) }, by simp [Instr.makeMap], ⟨_, Ids.with_self .., rfl⟩, Post.alloc (n := 0) (o := .map #[] 0) A.holds A.lt hn ⟨[], rfl, rfl⟩ trivial rfl rfl rfl rfl⟩
/-- the entries of a map -/
theorem map_at {b p : Nat} {k : Blk} {m : List AEnt × Nat} (A : Ask X sg w s s') (hk : s.heap.get b = some k) (hm : asMapB k = some m) (hr : s'.rd.testBit b = true ∨ s'.wr.testBit b = true) (hp : sg b = some p) : X b ∧ ∃ ces, w.heap[p]? = some (.map ⟨ces⟩ m.2) ∧ ERs sg m.1 ces := by
  obtain ⟨hX, q, o, e1, e2, e3, _⟩ := A.at hk hr
  rw [hp] at e1
  obtain rfl := Option.some.inj e1
  rw [asMapB_some hm] at e3
  obtain ⟨ces, rfl, h⟩ := e3
  exact ⟨hX, ces, e2, h⟩
def lookupA (E : Env) (t : TypeId) (x k : AV) (ok : Bool) (s : St) : Option (AV × St) :=
  (E.und t).bind fun d => (mapOf d).bind fun ke => (E.und ke.1).bind fun kd => (grd (keyOk kd k)).bind fun _ => (asMap x).bind fun b => (s.heap.get b).bind fun c => (asMapB c).bind fun m => (findA k m.1 0).bind fun r => match r with
    | some iv => some (match ok with | true => .tup [iv.2, .bool true] | false => iv.2, s.saw b)
    | none => (E.info ke.2).bind fun i => i.zero.bind fun z => some (match ok with | true => .tup [norm z, .bool false] | false => norm z, s.saw b)
theorem lookupA_ok (hE : E.Ok P) {t : TypeId} {x k v : AV} {ok : Bool} {u y : Value} (h : lookupA E t x k ok s = some (v, s')) (hx : VR sg x u) (hk : VR sg k y) (A : Ask X sg w s s') : Got P X sg w s (Instr.lookup t u y ok) v s' := by
  obtain ⟨d, hd, h⟩ := bnd h
  obtain ⟨ke, hke, h⟩ := bnd h
  obtain ⟨kd, hkd, h⟩ := bnd h
  obtain ⟨_, hko, h⟩ := bnd h
  obtain ⟨b, hb, h⟩ := bnd h
  obtain ⟨c, hc, h⟩ := bnd h
  obtain ⟨m, hm, h⟩ := bnd h
  obtain ⟨r, hr, h⟩ := bnd h
  have hko := grd_some hko
  have hd' := hE.und _ _ hd
  rw [mapOf_some hke] at hd'
  have hkd' := hE.und _ _ hkd
  rw [asMap_some hb] at hx
  obtain ⟨p, hp, rfl⟩ := hx
  have hs' : s' = s.saw b := by
    cases r with
    | some iv => exact (Prod.mk.inj (Option.some.inj h)).2.symm
    | none =>
      obtain ⟨i, _, h⟩ := bnd h
      obtain ⟨z, _, h⟩ := bnd h
      exact (Prod.mk.inj (Option.some.inj h)).2.symm
  subst hs'
  obtain ⟨_, ces, e2, e3⟩ := map_at A hc hm (.inl (saw_bit s b)) hp
  have hgo : (getObj p).run P w = .ok (.map ⟨ces⟩ m.2) w := run_getObj_at e2 (fun _ _ _ e => by cases e)
  have hck : ∀ b, (Instr.checkKey b 10000 ke.1 y).run P w = .ok () w := fun b => checkKey_plain (P := P) hkd' hko hk b 9999 w
  have hg := findA_ok hko hk hr e3
  cases r with
  | some iv =>
    obtain ⟨rfl, _⟩ := Prod.mk.inj (Option.some.inj h)
    obtain ⟨z, h1, h2, _⟩ := hg
    have hf := findKey_ok (P := P) hkd' h1 w
    cases ok with
    | true =>
      refine ⟨.tuple #[z, .bool true], sg, w, ?_, ⟨_, ⟨_, _, rfl, h2, ⟨_, _, rfl, rfl, rfl⟩⟩, rfl⟩, Post.saw _ A.holds⟩
      simp [Instr.lookup, run_underlying hd', hgo, hck, hf]
    | false =>
      refine ⟨z, sg, w, ?_, h2, Post.saw _ A.holds⟩
      simp [Instr.lookup, run_underlying hd', hgo, hck, hf]
  | none =>
    obtain ⟨i, hi, h⟩ := bnd h
    obtain ⟨z, hz, h⟩ := bnd h
    obtain ⟨rfl, _⟩ := Prod.mk.inj (Option.some.inj h)
    have hf := findKey_ok (P := P) hkd' hg w
    have hzv := run_zero_i (hE.info _ _ hi) hz w
    cases ok with
    | true =>
      refine ⟨.tuple #[z, .bool false], sg, w, ?_, ⟨_, ⟨_, _, rfl, norm_ok sg z, ⟨_, _, rfl, rfl, rfl⟩⟩, rfl⟩, Post.saw _ A.holds⟩
      simp [Instr.lookup, run_underlying hd', hgo, hck, hf, hzv]
    | false =>
      refine ⟨z, sg, w, ?_, norm_ok sg z, Post.saw _ A.holds⟩
      simp [Instr.lookup, run_underlying hd', hgo, hck, hf, hzv]
def updateA (E : Env) (t : TypeId) (x k v : AV) (s : St) : Option St :=
  (E.und t).bind fun d => (mapOf d).bind fun ke => (E.und ke.1).bind fun kd => (grd (keyOk kd k)).bind fun _ => (asMap x).bind fun b => (s.heap.get b).bind fun c => (asMapB c).bind fun m => (findA k m.1 0).bind fun r => match r with
    | some iv => some (s.put b (.map (modAt k v m.1 iv.1) m.2))
    | none => some (s.put b (.map (m.1 ++ [⟨k, v, m.2⟩]) (m.2 + 1)))
theorem updateA_ok (hE : E.Ok P) {t : TypeId} {x k v : AV} {u y z : Value} (h : updateA E t x k v s = some s') (hx : VR sg x u) (hk : VR sg k y) (hv : VR sg v z) (A : Ask X sg w s s') : Did P X sg w s (Instr.mapUpdate t u y z) s' := by
  obtain ⟨d, hd, h⟩ := bnd h
  obtain ⟨ke, hke, h⟩ := bnd h
  obtain ⟨kd, hkd, h⟩ := bnd h
  obtain ⟨_, hko, h⟩ := bnd h
  obtain ⟨b, hb, h⟩ := bnd h
  obtain ⟨c, hc, h⟩ := bnd h
  obtain ⟨m, hm, h⟩ := bnd h
  obtain ⟨r, hr, h⟩ := bnd h
  have hko := grd_some hko
  have hd' := hE.und _ _ hd
  rw [mapOf_some hke] at hd'
  have hkd' := hE.und _ _ hkd
  rw [asMap_some hb] at hx
  obtain ⟨p, hp, rfl⟩ := hx
  have hwr : s'.wr.testBit b = true := by
    cases r <;> (obtain rfl := Option.some.inj h; exact put_bit ..)
  obtain ⟨hX, ces, e2, e3⟩ := map_at A hc hm (.inr hwr) hp
  have hgo : (getObj p).run P w = .ok (.map ⟨ces⟩ m.2) w := run_getObj_at e2 (fun _ _ _ e => by cases e)
  have hck : (Instr.checkKey false 10000 ke.1 y).run P w = .ok () w := checkKey_plain (P := P) hkd' hko hk false 9999 w
  have hg := findA_ok hko hk hr e3
  have hset : ∀ o', (setObj p o').run P w = .ok () { w with heap := w.heap.setIfInBounds p o' } := fun o' => run_setObj_at e2 (fun _ _ _ e => by cases e)
  cases r with
  | some iv =>
    obtain rfl := Option.some.inj h
    obtain ⟨q, h1, h2, _, me, h4, h5⟩ := hg
    have hf := findKey_ok (P := P) hkd' h1 w
    rw [Nat.sub_zero] at h4
    have h4' : (⟨ces⟩ : Array MapEntry)[iv.1]? = some me := by simpa using h4
    refine ⟨sg, { w with heap := w.heap.setIfInBounds p (.map ((⟨ces⟩ : Array MapEntry).modify iv.1 fun e => { e with key := y, val := z }) m.2) }, ?_, Post.put A.holds hX hp (k := .map (modAt k v m.1 iv.1) m.2) (o := .map ((⟨ces⟩ : Array MapEntry).modify iv.1 fun e => { e with key := y, val := z }) m.2) ⟨ces.modify iv.1 fun e => { e with key := y, val := z }, by simp, ERs.modAt hk hv e3⟩ trivial rfl rfl rfl rfl⟩
    simp only [Instr.mapUpdate, Sem.run_bind, run_underlying hd', Result.andThen_ok, hgo, hck, hf, h4', Option.map_some, Option.getD_some, Instr.keyThatStays, h5, if_true, Sem.run_pure, hset]
  | none =>
    obtain rfl := Option.some.inj h
    have hf := findKey_ok (P := P) hkd' hg w
    have hbr : BR sg (.map (m.1 ++ [⟨k, v, m.2⟩]) (m.2 + 1)) (.map ((⟨ces⟩ : Array MapEntry).push { key := y, val := z, born := m.2 }) (m.2 + 1)) := ⟨ces ++ [{ key := y, val := z, born := m.2 }], by simp, e3.append ⟨{ key := y, val := z, born := m.2 }, [], rfl, ⟨hk, hv, rfl⟩, rfl⟩⟩
    refine ⟨sg, { w with heap := w.heap.setIfInBounds p (.map ((⟨ces⟩ : Array MapEntry).push { key := y, val := z, born := m.2 }) (m.2 + 1)) }, ?_, Post.put A.holds hX hp hbr trivial rfl rfl rfl rfl⟩
    simp only [Instr.mapUpdate, Sem.run_bind, run_underlying hd', Result.andThen_ok, hgo, hck, hf, hset]
def isNilMap : AV → Option Unit
  | .val (.map none) => some ()
  | _ => none
theorem isNilMap_some {a : AV} {u : Unit} (h : isNilMap a = some u) : a = .val (.map none) := by
  unfold isNilMap at h
  split at h
  · rfl
  · cases h
def isIter0 : Blk → Bool
  | .iter0 => true
  | _ => false
theorem isIter0_true {k : Blk} (h : isIter0 k = true) : k = .iter0 := by cases k <;> first | rfl | (cases h; done)
def rangeA (E : Env) (t : TypeId) (x : AV) (s : St) : Option (AV × St) :=
  (E.und t).bind fun d => (mapOf d).bind fun _ => match asMap x with
    | some b => (s.heap.get b).bind fun c => (asMapB c).bind fun m => some (.ptr s.fresh 0, (s.saw b).new (.iter b m.2 [] m.2))
    | none => (isNilMap x).bind fun _ => some (.ptr s.fresh 0, s.new .iter0)
theorem rangeA_ok (hE : E.Ok P) {t : TypeId} {x v : AV} {u : Value} (h : rangeA E t x s = some (v, s')) (hx : VR sg x u) (A : Ask X sg w s s') : Got P X sg w s (Instr.range t u) v s' := by
  replace h := bnd h; obtain ⟨d, hd, h⟩ := h
  replace h := bnd h; obtain ⟨ke, hke, h⟩ := h
  have hd' := hE.und _ _ hd
  rw [mapOf_some hke] at hd'
  cases hb : asMap x with
  | some b =>
    rw [hb] at h
    replace h := bnd h; obtain ⟨c, hc, h⟩ := h
    replace h := bnd h; obtain ⟨m, hm, h⟩ := h
    obtain ⟨rfl, rfl⟩ : _ = v ∧ _ = s' := Prod.mk.inj (Option.some.inj h)
    rw [asMap_some hb] at hx
    obtain ⟨p, hp, rfl⟩ := hx
    obtain ⟨hX, ces, e2, e3⟩ := map_at A hc hm (.inl (saw_bit s b)) hp
    have hgo : (getObj p).run P w = .ok (.map ⟨ces⟩ m.2) w := run_getObj_at e2 (fun _ _ _ e => by cases e)
    have A1 := A.like (s1 := s.saw b) rfl rfl
    have hn : sg s.fresh = none := A.new s.fresh (Nat.le_refl _) (Nat.lt_succ_self _)
    have hbr : BR (sg.with s.fresh w.heap.size 0) (.iter b m.2 [] m.2) (.mapIter (some p) m.2 #[] m.2) := ⟨p, (Ids.with_ext w.heap.size 0 hn b p hp).1, rfl⟩
    refine ⟨.pointer (some ⟨w.heap.size, 0, none⟩), sg.with s.fresh w.heap.size 0, { w with heap := w.heap.push (.mapIter (some p) m.2 #[] m.2) }, ?_, ⟨_, Ids.with_self .., rfl⟩, (Post.alloc (w' := { w with heap := w.heap.push (.mapIter (some p) m.2 #[] m.2) }) (n := 0) (o := .mapIter (some p) m.2 #[] m.2) A1.holds A1.lt hn hbr trivial rfl rfl rfl rfl).like rfl⟩
    simp [Instr.range, run_underlying hd', hgo]
  | none =>
    rw [hb] at h
    replace h := bnd h; obtain ⟨_, hn0, h⟩ := h
    obtain ⟨rfl, rfl⟩ : _ = v ∧ _ = s' := Prod.mk.inj (Option.some.inj h)
    rw [isNilMap_some hn0] at hx
    obtain rfl : u = _ := hx
    have hn : sg s.fresh = none := A.new s.fresh (Nat.le_refl _) (Nat.lt_succ_self _)
    refine ⟨.pointer (some ⟨w.heap.size, 0, none⟩), sg.with s.fresh w.heap.size 0, { w with heap := w.heap.push (.mapIter none 0 #[] 0) }, ?_, ⟨_, Ids.with_self .., rfl⟩, Post.alloc (w' := { w with heap := w.heap.push (.mapIter none 0 #[] 0) }) (k := .iter0) (n := 0) (o := .mapIter none 0 #[] 0) A.holds A.lt hn rfl trivial rfl rfl rfl rfl⟩
    simp [Instr.range, run_underlying hd']
/-- the next entry, where there is at most one left -/
def nextI (x : AV) (s : St) : Option (AV × St) :=
  (asPtr x).bind fun q => (grd (Nat.beq q.2 0)).bind fun _ => (s.heap.get q.1).bind fun k => (asIter k).bind fun it => (s.heap.get it.m).bind fun c => (asMapB c).bind fun m =>
    (grd (!(!it.seen.isEmpty && !m.1.isEmpty && m.1.all fun e => decide (e.born ≥ it.stepped)))).bind fun _ =>
    match (m.1.filter fun e => !it.seen.contains e.born).filter (fun e => decide (e.born ≥ it.since)), (m.1.filter fun e => !it.seen.contains e.born).filter (fun e => decide (e.born < it.since)) with
    | [], [] => some (.tup [.bool false], (s.saw q.1).saw it.m)
    | [], [e] => some (.tup [.bool true, e.key, e.val], ((s.saw q.1).saw it.m).put q.1 (.iter it.m it.since (it.seen ++ [e.born]) m.2))
    | _, _ => none
theorem iter_at {b p : Nat} {k : Blk} {it : It} (A : Ask X sg w s s') (hk : s.heap.get b = some k) (hm : asIter k = some it) (hr : s'.rd.testBit b = true ∨ s'.wr.testBit b = true) (hp : sg b = some p) : X b ∧ ∃ pm, sg it.m = some pm ∧ w.heap[p]? = some (.mapIter (some pm) it.since ⟨it.seen⟩ it.stepped) := by
  obtain ⟨hX, q, o, e1, e2, e3, _⟩ := A.at hk hr
  rw [hp] at e1
  obtain rfl := Option.some.inj e1
  rw [asIter_some hm] at e3
  obtain ⟨pm, h1, rfl⟩ := e3
  exact ⟨hX, pm, h1, e2⟩
theorem ERs.nil_of {sg : Ids} {ces : List MapEntry} (h : ERs sg [] ces) : ces = [] := h
theorem ERs.one_of {sg : Ids} {e : AEnt} {ces : List MapEntry} (h : ERs sg [e] ces) : ∃ m, ces = [m] ∧ ER sg e m := by
  obtain ⟨m, ms, rfl, h1, h2⟩ := h
  obtain rfl : ms = [] := h2
  exact ⟨m, rfl, h1⟩
theorem nextI_ok {x v : AV} {u : Value} {ty : TypeId} (h : nextI x s = some (v, s')) (hx : VR sg x u) (A : Ask X sg w s s') : Got P X sg w s (Instr.next u false ty) v s' := by
  obtain ⟨q, hq, h⟩ := bnd h
  obtain ⟨_, h0, h⟩ := bnd h
  obtain ⟨k, hk, h⟩ := bnd h
  obtain ⟨it, hit, h⟩ := bnd h
  obtain ⟨c, hc, h⟩ := bnd h
  obtain ⟨m, hm, h⟩ := bnd h
  obtain ⟨_, hst, h⟩ := bnd h
  have h0 := Nat.eq_of_beq_eq_true (grd_some h0)
  rw [asPtr_some hq, h0] at hx
  obtain ⟨p, hp, rfl⟩ := hx
  have hst := grd_some hst
  split at h
  · rename_i hnew hold
    obtain ⟨rfl, rfl⟩ : _ = v ∧ _ = s' := Prod.mk.inj (Option.some.inj h)
    obtain ⟨_, pm, hpm, e1⟩ := iter_at A hk hit (.inl (by show ((s.rd ||| 2 ^ q.1) ||| 2 ^ it.m).testBit q.1 = true; exact bit_keeps ((bit_or_pow _ _ _).2 (.inr rfl)))) hp
    obtain ⟨_, ces, e2, e3⟩ := map_at A hc hm (.inl (saw_bit (s.saw q.1) it.m)) hpm
    have g1 : (getObj p).run P w = .ok (.mapIter (some pm) it.since ⟨it.seen⟩ it.stepped) w := run_getObj_at e1 (fun _ _ _ e => by cases e)
    have g2 : (getObj pm).run P w = .ok (.map ⟨ces⟩ m.2) w := run_getObj_at e2 (fun _ _ _ e => by cases e)
    have f1 := ((e3.filter fun b => !it.seen.contains b).filter fun b => decide (b ≥ it.since))
    have f2 := ((e3.filter fun b => !it.seen.contains b).filter fun b => decide (b < it.since))
    rw [hnew] at f1
    rw [hold] at f2
    have f1 := ERs.nil_of f1
    have f2 := ERs.nil_of f2
    have f3 := e3.all fun b => decide (b ≥ it.stepped)
    have f4 := e3.isEmpty
    rw [← f3, ← f4] at hst
    refine ⟨.tuple #[.bool false], sg, w, ?_, ⟨_, ⟨_, _, rfl, rfl, rfl⟩, rfl⟩, Post.same rfl rfl A.holds rfl rfl rfl rfl⟩
    have hst' := hst
    rw [Bool.not_eq_true'] at hst'
    simp only [Instr.next, Sem.run_bind, g1, g2, Result.andThen_ok, List.isEmpty_toArray, List.all_toArray, List.contains_toArray, hst', Bool.false_eq_true, if_false, List.filter_toArray, f1, f2]
    simp [Question.forced]
  · rename_i e hnew hold
    obtain ⟨rfl, rfl⟩ : _ = v ∧ _ = s' := Prod.mk.inj (Option.some.inj h)
    obtain ⟨hX, pm, hpm, e1⟩ := iter_at A hk hit (.inr (put_bit ..)) hp
    obtain ⟨_, ces, e2, e3⟩ := map_at A hc hm (.inl (saw_bit (s.saw q.1) it.m)) hpm
    have g1 : (getObj p).run P w = .ok (.mapIter (some pm) it.since ⟨it.seen⟩ it.stepped) w := run_getObj_at e1 (fun _ _ _ e => by cases e)
    have g2 : (getObj pm).run P w = .ok (.map ⟨ces⟩ m.2) w := run_getObj_at e2 (fun _ _ _ e => by cases e)
    have f1 := ((e3.filter fun b => !it.seen.contains b).filter fun b => decide (b ≥ it.since))
    have f2 := ((e3.filter fun b => !it.seen.contains b).filter fun b => decide (b < it.since))
    rw [hnew] at f1
    rw [hold] at f2
    have f1 := ERs.nil_of f1
    obtain ⟨me, f2, hme⟩ := ERs.one_of f2
    have f3 := e3.all fun b => decide (b ≥ it.stepped)
    have f4 := e3.isEmpty
    rw [← f3, ← f4] at hst
    have hst' := hst
    rw [Bool.not_eq_true'] at hst'
    have g3 : ∀ o', (setObj p o').run P w = .ok () { w with heap := w.heap.setIfInBounds p o' } := fun o' => run_setObj_at e1 (fun _ _ _ e => by cases e)
    have hbr : BR sg (.iter it.m it.since (it.seen ++ [e.born]) m.2) (.mapIter (some pm) it.since ((⟨it.seen⟩ : Array Nat).push me.born) m.2) := ⟨pm, hpm, by rw [hme.2.2]; simp⟩
    refine ⟨.tuple #[.bool true, me.key, me.val], sg, { w with heap := w.heap.setIfInBounds p (.mapIter (some pm) it.since ((⟨it.seen⟩ : Array Nat).push me.born) m.2) }, ?_, ⟨_, ⟨_, _, rfl, rfl, ⟨_, _, rfl, hme.1, ⟨_, _, rfl, hme.2.1, rfl⟩⟩⟩, rfl⟩, (Post.put (w' := { w with heap := w.heap.setIfInBounds p (.mapIter (some pm) it.since ((⟨it.seen⟩ : Array Nat).push me.born) m.2) }) (s := (s.saw q.1).saw it.m) (X := X) A.holds hX hp hbr trivial rfl rfl rfl rfl).like rfl⟩
    simp only [Instr.next, Sem.run_bind, g1, g2, Result.andThen_ok, List.isEmpty_toArray, List.all_toArray, List.contains_toArray, hst', Bool.false_eq_true, if_false, List.filter_toArray, f1, f2]
    simp [Question.forced, g3]
  · cases h
def nextA (x : AV) (s : St) : Option (AV × St) :=
  (asPtr x).bind fun q => (s.heap.get q.1).bind fun k => match isIter0 k with
    | true => (grd (Nat.beq q.2 0)).bind fun _ => some (.tup [.bool false], s.saw q.1)
    | false => nextI x s
theorem nextA_ok {x v : AV} {u : Value} {ty : TypeId} (h : nextA x s = some (v, s')) (hx : VR sg x u) (A : Ask X sg w s s') : Got P X sg w s (Instr.next u false ty) v s' := by
  replace h := bnd h; obtain ⟨q, hq, h⟩ := h
  replace h := bnd h; obtain ⟨k, hk, h⟩ := h
  cases hi : isIter0 k with
  | true =>
    rw [hi] at h
    replace h := bnd h; obtain ⟨_, h0, h⟩ := h
    obtain ⟨rfl, rfl⟩ : _ = v ∧ _ = s' := Prod.mk.inj (Option.some.inj h)
    have h0 := Nat.eq_of_beq_eq_true (grd_some h0)
    rw [asPtr_some hq, h0] at hx
    obtain ⟨p, hp, rfl⟩ := hx
    obtain ⟨_, p', o, e1, e2, e3, _⟩ := A.at hk (.inl (saw_bit s q.1))
    rw [hp] at e1
    obtain rfl := Option.some.inj e1
    rw [isIter0_true hi] at e3
    obtain rfl : o = .mapIter none 0 #[] 0 := e3
    have g1 : (getObj p).run P w = .ok (.mapIter none 0 #[] 0) w := run_getObj_at e2 (fun _ _ _ e => by cases e)
    refine ⟨.tuple #[.bool false], sg, w, ?_, ⟨_, ⟨_, _, rfl, rfl, rfl⟩, rfl⟩, Post.saw _ A.holds⟩
    simp [Instr.next, g1]
  | false =>
    rw [hi] at h
    exact nextI_ok h hx A
def entryA (x : AV) (s : St) : Option (AV × St) :=
  (asPtr x).bind fun q => (grd (Nat.beq q.2 0)).bind fun _ => (s.heap.get q.1).bind fun k => (asIter k).bind fun it => (s.heap.get it.m).bind fun c => (asMapB c).bind fun m => (grd (Nat.beq m.2 it.stepped)).bind fun _ => (it.seen.getLast?).bind fun a => (m.1.find? fun e => e.born == a).bind fun e => some (.tup [e.key, e.val], (s.saw q.1).saw it.m)
theorem entryA_ok {x v : AV} {u : Value} (h : entryA x s = some (v, s')) (hx : VR sg x u) (A : Ask X sg w s s') : Got P X sg w s (Instr.entry u) v s' := by
  obtain ⟨q, hq, h⟩ := bnd h
  obtain ⟨_, h0, h⟩ := bnd h
  obtain ⟨k, hk, h⟩ := bnd h
  obtain ⟨it, hit, h⟩ := bnd h
  obtain ⟨c, hc, h⟩ := bnd h
  obtain ⟨m, hm, h⟩ := bnd h
  obtain ⟨_, hst, h⟩ := bnd h
  obtain ⟨a, ha, h⟩ := bnd h
  obtain ⟨e, he, h⟩ := bnd h
  obtain ⟨rfl, rfl⟩ : _ = v ∧ _ = s' := Prod.mk.inj (Option.some.inj h)
  have h0 := Nat.eq_of_beq_eq_true (grd_some h0)
  have hst := Nat.eq_of_beq_eq_true (grd_some hst)
  rw [asPtr_some hq, h0] at hx
  obtain ⟨p, hp, rfl⟩ := hx
  obtain ⟨_, pm, hpm, e1⟩ := iter_at A hk hit (.inl (by show ((s.rd ||| 2 ^ q.1) ||| 2 ^ it.m).testBit q.1 = true; exact bit_keeps ((bit_or_pow _ _ _).2 (.inr rfl)))) hp
  obtain ⟨_, ces, e2, e3⟩ := map_at A hc hm (.inl (saw_bit (s.saw q.1) it.m)) hpm
  have g1 : (getObj p).run P w = .ok (.mapIter (some pm) it.since ⟨it.seen⟩ it.stepped) w := run_getObj_at e1 (fun _ _ _ e => by cases e)
  have g2 : (getObj pm).run P w = .ok (.map ⟨ces⟩ m.2) w := run_getObj_at e2 (fun _ _ _ e => by cases e)
  obtain ⟨me, f1, f2⟩ := e3.find (fun b => b == a) he
  have ha' : (⟨it.seen⟩ : Array Nat).back? = some a := by rw [← ha]; simp [Array.back?, List.getLast?_eq_getElem?]
  have hne : (m.2 != it.stepped) = false := by rw [hst]; exact bne_self_eq_false _
  refine ⟨.tuple #[me.key, me.val], sg, w, ?_, ⟨_, ⟨_, _, rfl, f2.1, ⟨_, _, rfl, f2.2.1, rfl⟩⟩, rfl⟩, Post.same rfl rfl A.holds rfl rfl rfl rfl⟩
  have f1' : (⟨ces⟩ : Array MapEntry).find? (fun x => x.born == a) = some me := by simpa using f1
  simp only [Instr.entry, Sem.run_bind, g1, g2, Result.andThen_ok, ha', hne, Bool.false_eq_true, if_false, f1', Sem.run_pure]
def noCap : Option Nat → Option Unit
  | none => some ()
  | some _ => none
/-- a slice of a slice of which it is not known whether it has room: some slice -/
def sliceU (E : Env) (t : TypeId) (x : AV) (lo hi mx : Option AV) : Option AV := (E.und t).bind fun d => (sliceOf d).bind fun e => (E.info e).bind fun _ => (asSl x).bind fun q => (noCap q.cap).bind fun _ => (noMax mx).bind fun _ => (bounds lo hi q.len q.len).bind fun _ => some .unk
def sliceB (E : Env) (t : TypeId) (x : AV) (lo hi mx : Option AV) : Option AV := match sliceA E t x lo hi mx with
  | some r => some r
  | none => sliceU E t x lo hi mx
theorem sliceB_ok (hE : E.Ok P) {t : TypeId} {x v : AV} {u : Value} {lo hi mx : Option AV} {lo' hi' mx' : Option Value} (h : sliceB E t x lo hi mx = some v) (hx : VR sg x u) (h1 : OptR sg lo lo') (h2 : OptR sg hi hi') (h3 : OptR sg mx mx') (A : Ask X sg w s s) :
    Got P X sg w s (Instr.sliceAt t u lo' hi' mx') v s := by
  unfold sliceB at h
  split at h
  · rename_i r hr
    obtain rfl := Option.some.inj h
    exact sliceA_ok hE hr hx h1 h2 h3 A
  · replace h := bnd h; obtain ⟨d, hd, h⟩ := h
    replace h := bnd h; obtain ⟨e, he, h⟩ := h
    replace h := bnd h; obtain ⟨i, hi0, h⟩ := h
    replace h := bnd h; obtain ⟨q, hq, h⟩ := h
    replace h := bnd h; obtain ⟨_, hc0, h⟩ := h
    replace h := bnd h; obtain ⟨_, hm, h⟩ := h
    replace h := bnd h; obtain ⟨⟨l, h'⟩, hb, h⟩ := h
    obtain rfl := Option.some.inj h
    have hd' := hE.und _ _ hd
    rw [sliceOf_some he] at hd'
    obtain rfl := noMax_some hm
    obtain rfl : mx' = none := h3
    obtain ⟨p, c, hp, hc, hk, hsz, rfl⟩ := asSl_some hq hx
    have e1 := bounds_ok (P := P) hb h1 h2 true c hc w
    refine Got.pure A (u := .slice (if c = l then some ⟨p, q.off, none⟩ else some ((⟨p, q.off, none⟩ : Addr).add (l * i.size))) (h' - l) (c - l)) ?_ rfl
    simp only [Instr.sliceAt, Instr.slice, Sem.run_bind, run_underlying hd', Result.andThen_ok, e1, run_sizeOf_i (hE.info _ _ hi0), Option.map_some, Sem.run_pure]
end
end
end RX
end
section
namespace RX
noncomputable section
/-- a program, as the interpreter reads it -/
structure Mach where
  E : Env
  P : Program
  /-- so many package-level variables have ids of their own -/
  ng : Nat
  fn : FuncId → Option Func
  ext : FuncId → Option (List AV → St → Option (AV × St))
/-- what a summary of a function without a body says -/
def ExtOk (P : Program) (f : FuncId) (g : List AV → St → Option (AV × St)) : Prop :=
  ∀ {X : Nat → Prop} {sg : Ids} {w : World} {s s' : St} {args : List AV} {us : List Value} {v : AV}, g args s = some (v, s') → VRs sg args us → Ask X sg w s s' → ∃ u sg' w', (callFunc f ⟨us⟩).run P w = .ok (.value u) w' ∧ VR sg' v u ∧ Post X sg w s sg' w' s'
structure Mach.Ok (M : Mach) : Prop where
  env : M.E.Ok M.P
  fn : ∀ f F, M.fn f = some F → M.P.funcs[f]? = some F ∧ (F.name == "runtime.NumGoroutine") = false ∧ F.body.isNone = false
  ext : ∀ f g, M.ext f = some g → ExtOk M.P f g
/-- what an operation comes to -/
inductive Out where
  | val (v : AV) (s : St)
  | skip (s : St)
  | call (f : FuncId) (args : List AV) (s : St)
  | yield (b : Nat) (args : List AV) (s : St)
  | defer (f : FuncId) (k : Nat) (s : St)
def Out.st : Out → St
  | .val _ s => s
  | .skip s => s
  | .call _ _ s => s
  | .yield _ _ s => s
  | .defer _ _ s => s
def OutOk (P : Program) (X : Nat → Prop) (sg : Ids) (w : World) (s : St) : Out → Result Next → Prop
  | .val v s', r => ∃ u sg' w', r = .ok (.value u) w' ∧ VR sg' v u ∧ Post X sg w s sg' w' s'
  | .skip s', r => ∃ sg' w', r = .ok .skip w' ∧ Post X sg w s sg' w' s'
  | .call f args s', r => ∃ us sg' w', r = .ok (.enter f ⟨us⟩) w' ∧ VRs sg' args us ∧ Post X sg w s sg' w' s'
  | .yield b args s', r => s' = s ∧ ∃ p us, r = (Instr.yield p ⟨us⟩).run P w ∧ sg b = some p ∧ VRs sg args us
  | .defer f k s', r => s' = s ∧ ∃ cap args, r = .ok (.defer { target := .fn (.func f) cap, args }) w ∧ (args ++ cap).size = k
def rhos (ρ : Operand → Option AV) : List Operand → Option (List AV)
  | [] => some []
  | x :: xs => (ρ x).bind fun v => (rhos ρ xs).bind fun vs => some (v :: vs)
def rhoO (ρ : Operand → Option AV) : Option Operand → Option (Option AV)
  | none => some none
  | some x => (ρ x).bind fun v => some (some v)
def ofVal (x : Option (AV × St)) : Option Out := x.bind fun p => some (.val p.1 p.2)
def ofSkip (x : Option St) : Option Out := x.bind fun p => some (.skip p)
def ofPure (s : St) (x : Option AV) : Option Out := x.bind fun v => some (.val v s)
def methodA (M : Mach) (t : TypeId) (name : String) : Option FuncId :=
  (M.E.info t).bind fun i => (i.methods.find? (·.name == name)).bind fun m => match m.path.toList, m.func with
    | [], some (f, pr) => (M.E.und t).bind fun d => match ptrOf d, pr with
      | some _, true => some f
      | none, false => some f
      | _, _ => none
    | _, _ => none
def callF (M : Mach) (f : FuncId) (args : List AV) (s : St) : Option Out := match M.ext f with
  | some g => ofVal (g args s)
  | none => (M.fn f).bind fun _ => some (.call f args s)
def asFn : AV → Option (FuncId × List AV × List AV)
  | .fn (.func f) a c => some (f, a, c)
  | _ => none
def asYield : AV → Option Nat
  | .yield b => some b
  | _ => none
def asBoolA : AV → Option Bool
  | .bool b => some b
  | _ => none
def asTup : AV → Option (List AV)
  | .tup l => some l
  | _ => none
def one1 (f : AV → Option Out) : List AV → Option Out
  | [x] => f x
  | _ => none
def two2 (f : AV → AV → Option Out) : List AV → Option Out
  | [x, y] => f x y
  | _ => none
def builtinS : Builtin → Mach → Array TypeId → List AV → St → Option Out
  | .append => fun M ts args s => two2 (fun x y => ofVal (appendA M.E ts x y s)) args
  | .copy => fun M ts args s => two2 (fun x y => ofVal (copyA M.E ts x y s)) args
  | .len => fun M ts args s => one1 (fun x => ofPure s (lenA M.E ts x)) args
  | .cap => fun M ts args s => one1 (fun x => ofPure s (capA M.E ts x)) args
  | .clear => fun M ts args s => one1 (fun x => ofVal (clearA M.E ts x s)) args
  | .max => fun M _ l s => (grounds l).bind fun u => (ev M.P (Builtin.max_ #[] 0 ⟨u⟩)).bind fun v => some (.val (norm v) s)
  | .min => fun M _ l s => (grounds l).bind fun u => (ev M.P (Builtin.min_ #[] 0 ⟨u⟩)).bind fun v => some (.val (norm v) s)
  | .unsafeSliceData => fun _ _ args s => one1 (fun x => ofPure s (unsafeDataA x)) args
  | .unsafeString => fun M ts args s => two2 (fun x n => (grd (Nat.beq ts.size 2)).bind fun _ => ofVal (unsafeStrA M.E ts x n s)) args
  | _ => fun _ _ _ _ => none
def builtinA (M : Mach) (b : Builtin) (ts : Array TypeId) (args : List AV) (s : St) : Option Out := builtinS b M ts args s
theorem one1_some {f : AV → Option Out} {l : List AV} {o : Out} (h : one1 f l = some o) : ∃ x, l = [x] ∧ f x = some o := by
  unfold one1 at h
  split at h
  · exact ⟨_, rfl, h⟩
  · cases h
theorem two2_some {f : AV → AV → Option Out} {l : List AV} {o : Out} (h : two2 f l = some o) : ∃ x y, l = [x, y] ∧ f x y = some o := by
  unfold two2 at h
  split at h
  · exact ⟨_, _, rfl, h⟩
  · cases h
def calleeA : Callee → Mach → (Operand → Option AV) → Array TypeId → List AV → St → Option Out
  | .builtin b => fun M _ ts args s => builtinA M b ts args s
  | .value f => fun M ρ _ args s => (ρ f).bind fun v => match asFn v with
    | some f => callF M f.1 (f.2.1 ++ args ++ f.2.2) s
    | none => (asYield v).bind fun b => some (.yield b args s)
  | .invoke r name => fun M ρ _ args s => (ρ r).bind fun v => (asIface v).bind fun y => (methodA M y.1 name).bind fun f => callF M f (y.2 :: args) s
def callA (M : Mach) (ρ : Operand → Option AV) (c : Call) (s : St) : Option Out := (rhos ρ c.args.toList).bind fun args => calleeA c.callee M ρ c.argTypes args s
def opSel : Op → Mach → (Operand → Option AV) → St → Option Out
  | .move x => fun _M ρ s => ofPure s (ρ x)
  | .assign x => fun _M ρ s => ofPure s (ρ x)
  | .pick c a b => fun _M ρ s => (ρ c).bind fun v => (asBoolA v).bind fun t => match t with
    | true => ofPure s (ρ a)
    | false => ofPure s (ρ b)
  | .alloc t => fun M _ρ s => ofVal (allocA M.E t s)
  | .box t x => fun _M ρ s => (ρ x).bind fun v => ofVal (boxA t v s)
  | .build t ps => fun M ρ s => ofPure s (buildA M.E ρ t ps.toList)
  | .buildSlice t n ps => fun M ρ s => ofVal (buildSliceA M.E ρ t n ps.toList s)
  | .load t a => fun M ρ s => (ρ a).bind fun v => ofVal (loadA M.E t v s)
  | .store t a x => fun M ρ s => (ρ a).bind fun v => (ρ x).bind fun u => ofSkip (storeA M.E t v u s)
  | .nilCheck x => fun _M ρ s => (ρ x).bind fun v => (asPtr v).bind fun _ => some (.val v s)
  | .binOp op t x y _ => fun M ρ s => (ρ x).bind fun a => (ρ y).bind fun b => ofPure s (binA M.E M.P op t x y a b)
  | .unOp op _ x => fun M ρ s => (ρ x).bind fun a => (ground a).bind fun u => (ev M.P (Op.unary op u)).bind fun v => some (.val (norm v) s)
  | .convert a b x => fun M ρ s => (ρ x).bind fun v => ofVal (convA M.E M.P a b v s)
  | .makeInterface t x => fun M ρ s => (ρ x).bind fun v => (M.E.und t).bind fun d => match ifaceOf d with
    | none => some (.val (.iface t v) s)
    | some _ => none
  | .makeFunc f a b => fun _M ρ s => (rhos ρ a.toList).bind fun a => (rhos ρ b.toList).bind fun b => some (.val (.fn f a b) s)
  | .makeMap _ none => fun _M _ρ s => some (.val (makeMapA s).1 (makeMapA s).2)
  | .makeSlice t a b => fun M ρ s => (ρ a).bind fun u => (ρ b).bind fun v => ofVal (makeSliceA M.E t u v s)
  | .slice t x lo hi mx => fun M ρ s => (ρ x).bind fun v => (rhoO ρ lo).bind fun lo => (rhoO ρ hi).bind fun hi => (rhoO ρ mx).bind fun mx => ofPure s (sliceB M.E t v lo hi mx)
  | .sliceToArrayPointer t x => fun M ρ s => (ρ x).bind fun v => (M.E.und t).bind fun d => (arrOf d).bind fun q => (asSl v).bind fun y => (grd (Nat.ble q.1 y.len)).bind fun _ => some (.val (.ptr y.b y.off) s)
  | .fieldAddr t x f => fun M ρ s => (ρ x).bind fun v => ofPure s (fieldAtA M.E t v f)
  | .indexAddr t x i => fun M ρ s => (ρ x).bind fun v => (ρ i).bind fun k => ofPure s (indexAtA M.E t v k)
  | .index t x i => fun M ρ s => (ρ x).bind fun v => (ρ i).bind fun k => ofPure s (indexA M.E t v k)
  | .lookup t x k ok => fun M ρ s => (ρ x).bind fun v => (ρ k).bind fun k => ofVal (lookupA M.E t v k ok s)
  | .mapUpdate t m k x => fun M ρ s => (ρ m).bind fun m => (ρ k).bind fun k => (ρ x).bind fun x => ofSkip (updateA M.E t m k x s)
  | .insert t m k x => fun M ρ s => (ρ m).bind fun m => (ρ k).bind fun k => (ρ x).bind fun x => ofSkip (updateA M.E t m k x s)
  | .range t x => fun M ρ s => (ρ x).bind fun v => ofVal (rangeA M.E t v s)
  | .next i false => fun _M ρ s => (ρ i).bind fun v => ofVal (nextA v s)
  | .entry i => fun _M ρ s => (ρ i).bind fun v => ofVal (entryA v s)
  | .typeAssert x _ t ok => fun M ρ s => (ρ x).bind fun v => ofPure s (assertA M.E v t ok)
  | .extract x i => fun _M ρ s => (ρ x).bind fun v => (asTup v).bind fun l => (l[i]?).bind fun v => some (.val v s)
  | .call c => fun M ρ s => callA M ρ c s
  | .defer c => fun _M ρ s => (rhos ρ c.args.toList).bind fun args => match c.callee with
    | .value f => (ρ f).bind fun v => (asFn v).bind fun f => some (.defer f.1 (f.2.1.length + args.length + f.2.2.length) s)
    | _ => none
  | _ => fun _ _ _ => none
def opA (M : Mach) (ρ : Operand → Option AV) (o : Op) (s : St) : Option Out := opSel o M ρ s
section
variable {M : Mach} {X : Nat → Prop} {sg : Ids} {w : World} {s s' s1 : St} {ρ : Operand → Option AV} {r : Operand → Value} {out : Out}
theorem rhos_ok (hr : RhoR sg ρ r) : ∀ {l : List Operand} {vs : List AV}, rhos ρ l = some vs → VRs sg vs (l.map r)
  | [], vs, h => by obtain rfl := Option.some.inj (show some [] = some vs from h); rfl
  | x :: xs, vs, h => by
    obtain ⟨v, hv, h⟩ := bnd (show (ρ x).bind _ = some vs from h)
    obtain ⟨l, hl, h⟩ := bnd h
    obtain rfl := Option.some.inj h
    exact ⟨_, _, rfl, hr _ _ hv, rhos_ok hr hl⟩
theorem rhoO_ok (hr : RhoR sg ρ r) {o : Option Operand} {v : Option AV} (h : rhoO ρ o = some v) : OptR sg v (o.map r) := by
  cases o with
  | none => obtain rfl := Option.some.inj (show some none = some v from h); rfl
  | some x =>
    obtain ⟨u, hu, h⟩ := bnd (show (ρ x).bind _ = some v from h)
    obtain rfl := Option.some.inj h
    exact ⟨_, rfl, hr _ _ hu⟩
theorem asFn_some {v : AV} {x : FuncId × List AV × List AV} (h : asFn v = some x) : v = .fn (.func x.1) x.2.1 x.2.2 := by
  unfold asFn at h
  split at h
  · obtain rfl := Option.some.inj h; rfl
  · cases h
theorem asYield_some {v : AV} {b : Nat} (h : asYield v = some b) : v = .yield b := by
  cases v <;> first | (cases h; done) | (obtain rfl := Option.some.inj h; rfl)
theorem asBoolA_some {v : AV} {b : Bool} (h : asBoolA v = some b) : v = .bool b := by
  cases v <;> first | (cases h; done) | (obtain rfl := Option.some.inj h; rfl)
theorem asTup_some {v : AV} {b : List AV} (h : asTup v = some b) : v = .tup b := by
  cases v <;> first | (cases h; done) | (obtain rfl := Option.some.inj h; rfl)
/-- a value -/
theorem got_val {P : Program} {m : Sem Value} {q : Option (AV × St)} (h : ofVal q = some out) (A : Ask X sg w s out.st) (G : ∀ v s', q = some (v, s') → Ask X sg w s s' → Got P X sg w s m v s') :
    OutOk P X sg w s out ((do pure (.value (← m)) : Sem Next).run P w) := by
  obtain ⟨⟨v, s'⟩, hq, h⟩ := bnd h
  obtain rfl := Option.some.inj h
  obtain ⟨u, sg', w', e1, e2, e3⟩ := G v s' hq A
  exact ⟨u, sg', w', by simp [e1], e2, e3⟩
theorem got_pure {P : Program} {m : Sem Value} {q : Option AV} (h : ofPure s q = some out) (A : Ask X sg w s out.st) (G : ∀ v, q = some v → Ask X sg w s s → Got P X sg w s m v s) :
    OutOk P X sg w s out ((do pure (.value (← m)) : Sem Next).run P w) := by
  obtain ⟨v, hq, h⟩ := bnd h
  obtain rfl := Option.some.inj h
  obtain ⟨u, sg', w', e1, e2, e3⟩ := G v hq A
  exact ⟨u, sg', w', by simp [e1], e2, e3⟩
theorem got_skip {P : Program} {m : Sem Unit} {q : Option St} (h : ofSkip q = some out) (A : Ask X sg w s out.st) (G : ∀ s', q = some s' → Ask X sg w s s' → Did P X sg w s m s') :
    OutOk P X sg w s out ((do m; pure .skip : Sem Next).run P w) := by
  obtain ⟨s', hq, h⟩ := bnd h
  obtain rfl := Option.some.inj h
  obtain ⟨sg', w', e1, e3⟩ := G s' hq A
  exact ⟨sg', w', by simp [e1], e3⟩
theorem got_one {P : Program} {v : AV} {u : Value} (h : some (Out.val v s) = some out) (A : Ask X sg w s out.st) (hv : VR sg v u) : OutOk P X sg w s out ((pure (.value u) : Sem Next).run P w) := by
  obtain rfl := Option.some.inj h
  exact ⟨u, sg, w, rfl, hv, Post.refl A.holds⟩
theorem callF_ok (hM : M.Ok) {f : FuncId} {args : List AV} {us : List Value} (h : callF M f args s = some out) (ha : VRs sg args us) (A : Ask X sg w s out.st) : OutOk M.P X sg w s out ((callFunc f ⟨us⟩).run M.P w) := by
  unfold callF at h
  cases hg : M.ext f with
  | some g =>
    rw [hg] at h
    obtain ⟨⟨v, s'⟩, hq, h⟩ := bnd h
    obtain rfl := Option.some.inj h
    obtain ⟨u, sg', w', e1, e2, e3⟩ := hM.ext f g hg hq ha A
    exact ⟨u, sg', w', e1, e2, e3⟩
  | none =>
    rw [hg] at h
    obtain ⟨F, hF, h⟩ := bnd h
    obtain rfl := Option.some.inj h
    obtain ⟨h1, h2, h3⟩ := hM.fn f F hF
    refine ⟨us, sg, w, ?_, ha, Post.refl A.holds⟩
    simp only [callFunc, Sem.run_bind, run_program, Result.andThen_ok, h1, h2, h3, Bool.false_eq_true, if_false, Sem.run_pure]
theorem method_ok (hM : M.Ok) {t : TypeId} {name : String} {f : FuncId} (h : methodA M t name = some f) (v : Value) (n : Nat) : (method (n + 1) t v name).run M.P w = .ok (f, v) w := by
  obtain ⟨i, hi, h⟩ := bnd h
  obtain ⟨m, hm, h⟩ := bnd h
  split at h
  · rename_i f' pr hp hf
    obtain ⟨d, hd, h⟩ := bnd h
    have hd' := hM.env.und _ _ hd
    have hti := run_typeInfo_i (hM.env.info _ _ hi) w
    cases he : ptrOf d with
    | some e =>
      rw [he] at h
      cases pr with
      | true =>
        obtain rfl := Option.some.inj h
        rw [ptrOf_some he] at hd'
        simp [method, hti, hm, hp, follow, hf, receiverAt, run_underlying hd', Place.get]
      | false => cases h
    | none =>
      rw [he] at h
      cases pr with
      | true => cases h
      | false =>
        obtain rfl := Option.some.inj h
        cases d <;> first | (cases he; done) | simp [method, hti, hm, hp, follow, hf, receiverAt, run_underlying hd', Place.get]
  · cases h
theorem callA_ok (hM : M.Ok) {c : Call} {ty : TypeId} (h : callA M ρ c s = some out) (hr : RhoR sg ρ r) (A : Ask X sg w s out.st) : OutOk M.P X sg w s out ((do let d ← resolve r c ty; invoke d.target d.args : Sem Next).run M.P w) := by
  obtain ⟨args, hargs, h⟩ := bnd h
  have ha := rhos_ok hr hargs
  have ea : c.args.map r = ⟨c.args.toList.map r⟩ := by
    obtain ⟨l⟩ := c.args; simp
  cases hc : c.callee with
  | builtin b =>
    rw [hc] at h
    have hres : (resolve r c ty).run M.P w = .ok { target := .builtin b c.argTypes ty (c.args.map fun | .const _ => true | _ => false), args := ⟨c.args.toList.map r⟩ } w := by
      simp only [resolve, hc, ea]; rfl
    simp only [Sem.run_bind, hres, Result.andThen_ok, invoke]
    generalize (c.args.map fun | .const _ => true | _ => false) = cs
    generalize c.args.toList.map r = us at ha ⊢
    cases b with
    | append =>
      obtain ⟨x1, x2, rfl, h⟩ := two2_some h
      obtain ⟨u1, _, rfl, h1, ⟨u2, _, rfl, h2, h3⟩⟩ := ha
      obtain rfl : _ = [] := h3
      exact got_val (m := Builtin.append_ c.argTypes ty #[u1, u2]) h A fun v s' hq A => appendA_ok hM.env hq h1 h2 A
    | copy =>
      obtain ⟨x1, x2, rfl, h⟩ := two2_some h
      obtain ⟨u1, _, rfl, h1, ⟨u2, _, rfl, h2, h3⟩⟩ := ha
      obtain rfl : _ = [] := h3
      exact got_val (m := Builtin.copy_ c.argTypes ty #[u1, u2]) h A fun v s' hq A => copyA_ok hM.env hq h1 h2 A
    | len =>
      obtain ⟨x1, rfl, h⟩ := one1_some h
      obtain ⟨u1, _, rfl, h1, h3⟩ := ha
      obtain rfl : _ = [] := h3
      exact got_pure (m := Builtin.len_ c.argTypes ty #[u1]) h A fun v hq A => lenA_ok hM.env hq h1 A
    | cap =>
      obtain ⟨x1, rfl, h⟩ := one1_some h
      obtain ⟨u1, _, rfl, h1, h3⟩ := ha
      obtain rfl : _ = [] := h3
      exact got_pure (m := Builtin.cap_ c.argTypes ty #[u1]) h A fun v hq A => capA_ok hM.env hq h1 A
    | clear =>
      obtain ⟨x1, rfl, h⟩ := one1_some h
      obtain ⟨u1, _, rfl, h1, h3⟩ := ha
      obtain rfl : _ = [] := h3
      exact got_val (m := Builtin.clear_ c.argTypes ty #[u1]) h A fun v s' hq A => clearA_ok hM.env hq h1 A
    | max =>
      obtain ⟨u, hu, h⟩ := bnd (show (grounds args).bind _ = some out from h)
      obtain ⟨v, hv, h⟩ := bnd h
      obtain rfl := Option.some.inj h
      obtain rfl := grounds_ok _ _ _ hu ha
      refine ⟨v, sg, w, ?_, norm_ok sg v, Post.refl A.holds⟩
      have := ev_ok hv w
      show ((do pure (.value (← Builtin.max_ #[] 0 ⟨us⟩)) : Sem Next).run M.P w) = _
      simp [this]
    | min =>
      obtain ⟨u, hu, h⟩ := bnd (show (grounds args).bind _ = some out from h)
      obtain ⟨v, hv, h⟩ := bnd h
      obtain rfl := Option.some.inj h
      obtain rfl := grounds_ok _ _ _ hu ha
      refine ⟨v, sg, w, ?_, norm_ok sg v, Post.refl A.holds⟩
      have := ev_ok hv w
      show ((do pure (.value (← Builtin.min_ #[] 0 ⟨us⟩)) : Sem Next).run M.P w) = _
      simp [this]
    | unsafeSliceData =>
      obtain ⟨x1, rfl, h⟩ := one1_some h
      obtain ⟨u1, _, rfl, h1, h3⟩ := ha
      obtain rfl : _ = [] := h3
      exact got_pure (m := Builtin.unsafeSliceData_ c.argTypes ty #[u1]) h A fun v hq A => unsafeDataA_ok hq h1 A
    | unsafeString =>
      obtain ⟨x1, x2, rfl, h⟩ := two2_some h
      obtain ⟨u1, _, rfl, h1, ⟨u2, _, rfl, h2, h3⟩⟩ := ha
      obtain rfl : _ = [] := h3
      obtain ⟨_, hts, h⟩ := bnd h
      exact got_val (m := Builtin.unsafeString_ c.argTypes ty #[u1, u2]) h A fun v s' hq A => unsafeStrA_ok hM.env hq h1 h2 (Nat.eq_of_beq_eq_true (grd_some hts)) A
    | _ => cases h
  | value f =>
    rw [hc] at h
    obtain ⟨v, hv, h⟩ := bnd h
    have hv' := hr _ _ hv
    cases hf : asFn v with
    | some g =>
      rw [hf] at h
      rw [asFn_some hf] at hv'
      obtain ⟨a, cap, h1, h2, hv'⟩ := hv'
      have hres : (resolve r c ty).run M.P w = .ok { target := .fn (.func g.1) ⟨cap⟩, args := ⟨a ++ c.args.toList.map r⟩ } w := by
        simp [resolve, hc, ea, Deferred.ofValue, hv']
      simp only [Sem.run_bind, hres, Result.andThen_ok, invoke]
      have := callF_ok hM h ((h1.append ha).append h2) A
      simpa using this
    | none =>
      rw [hf] at h
      obtain ⟨b, hb, h⟩ := bnd h
      obtain rfl := Option.some.inj h
      rw [asYield_some hb] at hv'
      obtain ⟨p, hp, hv'⟩ := hv'
      have hres : (resolve r c ty).run M.P w = .ok { target := .fn (.yield p) #[], args := ⟨c.args.toList.map r⟩ } w := by
        simp [resolve, hc, ea, Deferred.ofValue, hv']
      simp only [Sem.run_bind, hres, Result.andThen_ok, invoke]
      exact ⟨rfl, p, _, rfl, hp, ha⟩
  | invoke x name =>
    rw [hc] at h
    obtain ⟨v, hv, h⟩ := bnd h
    have hv' := hr _ _ hv
    obtain ⟨y, hy, h⟩ := bnd h
    obtain ⟨f, hf, h⟩ := bnd h
    rw [asIface_some hy] at hv'
    obtain ⟨u, hu, hv'⟩ := hv'
    have hres : (resolve r c ty).run M.P w = .ok { target := .fn (.method name) #[], args := ⟨.iface y.1 u :: c.args.toList.map r⟩ } w := by
      simp [resolve, hc, ea, hv']
    simp only [Sem.run_bind, hres, Result.andThen_ok, invoke]
    have := callF_ok hM h (us := u :: c.args.toList.map r) ⟨_, _, rfl, hu, ha⟩ A
    have hm := method_ok (w := w) hM hf u (M.P.types.size + 99)
    have hm' : (method (M.P.types.size + Made.depth) y.1 u name).run M.P w = .ok (f, u) w := hm
    have e : (List.map r c.args.toList).take c.args.size = List.map r c.args.toList := List.take_of_length_le (by simp)
    simpa [callMethod, hm', List.extract_eq_take_drop, e] using this
/-- one operation -/
theorem opA_ok (hM : M.Ok) (o : Oper) (h : opA M ρ o.op s = some out) (hr : RhoR sg ρ r) (A : Ask X sg w s out.st) : OutOk M.P X sg w s out ((execOp r o).run M.P w) := by
  unfold execOp
  cases ho : o.op with
  | move x =>
    rw [ho] at h
    obtain ⟨v, hv, h⟩ := bnd h
    exact got_one h A (hr _ _ hv)
  | assign x =>
    rw [ho] at h
    obtain ⟨v, hv, h⟩ := bnd h
    exact got_one h A (hr _ _ hv)
  | pick c a b =>
    rw [ho] at h
    obtain ⟨v, hv, h⟩ := bnd h
    obtain ⟨t, ht, h⟩ := bnd h
    have hv' := hr _ _ hv
    rw [asBoolA_some ht] at hv'
    have hv' : r c = .bool t := hv'
    cases t with
    | true =>
      obtain ⟨u, hu, h⟩ := bnd h
      have := got_one (P := M.P) h A (hr _ _ hu)
      simpa [hv', asBool] using this
    | false =>
      obtain ⟨u, hu, h⟩ := bnd h
      have := got_one (P := M.P) h A (hr _ _ hu)
      simpa [hv', asBool] using this
  | alloc t =>
    rw [ho] at h
    exact got_val h A fun v s' hq A => allocA_ok hM.env hq A
  | box t x =>
    rw [ho] at h
    obtain ⟨v, hv, h⟩ := bnd h
    exact got_val h A fun u s' hq A => boxA_ok hq (hr _ _ hv) A
  | build t ps =>
    rw [ho] at h
    exact got_pure h A fun v hq A => buildA_ok hM.env hr hq A
  | buildSlice t n ps =>
    rw [ho] at h
    exact got_val h A fun v s' hq A => buildSliceA_ok hM.env hr hq A
  | load t a =>
    rw [ho] at h
    obtain ⟨v, hv, h⟩ := bnd h
    exact got_val h A fun u s' hq A => loadA_ok hM.env hq (hr _ _ hv) A
  | store t a x =>
    rw [ho] at h
    obtain ⟨v, hv, h⟩ := bnd h
    obtain ⟨u, hu, h⟩ := bnd h
    exact got_skip h A fun s' hq A => storeA_ok hM.env hq (hr _ _ hv) (hr _ _ hu) A
  | nilCheck x =>
    rw [ho] at h
    obtain ⟨v, hv, h⟩ := bnd h
    obtain ⟨p, hp, h⟩ := bnd h
    have hv' := hr _ _ hv
    have hv2 := hv'
    rw [asPtr_some hp] at hv2
    obtain ⟨q, hq, e⟩ := hv2
    have := got_one (P := M.P) h A hv'
    rw [e] at this
    simpa [e] using this
  | binOp op t x y ty =>
    rw [ho] at h
    obtain ⟨a, ha, h⟩ := bnd h
    obtain ⟨b, hb, h⟩ := bnd h
    exact got_pure h A fun v hq A => binA_ok hM.env hq (hr _ _ ha) (hr _ _ hb) A
  | unOp op t x =>
    rw [ho] at h
    obtain ⟨a, ha, h⟩ := bnd h
    obtain ⟨u, hu, h⟩ := bnd h
    obtain ⟨v, hv, h⟩ := bnd h
    obtain rfl := Option.some.inj h
    have e := ground_ok _ _ _ hu (hr _ _ ha)
    refine ⟨v, sg, w, ?_, norm_ok sg v, Post.refl A.holds⟩
    have := ev_ok hv w
    simp [e, this]
  | convert a b x =>
    rw [ho] at h
    obtain ⟨v, hv, h⟩ := bnd h
    exact got_val h A fun u s' hq A => convA_ok hM.env hq (hr _ _ hv) A
  | sliceToArrayPointer t x =>
    rw [ho] at h
    obtain ⟨v, hv, h⟩ := bnd h
    obtain ⟨d, hd, h⟩ := bnd h
    obtain ⟨q, hq, h⟩ := bnd h
    obtain ⟨y, hy, h⟩ := bnd h
    obtain ⟨_, hg, h⟩ := bnd h
    obtain ⟨p, c, hp, hc, _, _, e⟩ := asSl_some hy (hr _ _ hv)
    have hd' := hM.env.und _ _ hd
    rw [arrOf_some hq] at hd'
    have hg := ble_le (grd_some hg)
    have := got_one (P := M.P) (u := .pointer (some ⟨p, y.off, none⟩)) h A ⟨p, hp, rfl⟩
    have hlt : ¬ y.len < q.1 := by omega
    simpa [Instr.arrayAt, e, run_underlying hd', hlt] using this
  | makeInterface t x =>
    rw [ho] at h
    obtain ⟨v, hv, h⟩ := bnd h
    obtain ⟨d, hd, h⟩ := bnd h
    have hd' := hM.env.und _ _ hd
    cases hi : ifaceOf d with
    | some m => rw [hi] at h; cases h
    | none =>
      rw [hi] at h
      have := got_one (P := M.P) (u := .iface t (r x)) h A ⟨_, hr _ _ hv, rfl⟩
      cases d <;> first | (cases hi; done) | simpa [Instr.makeInterface, run_underlying hd'] using this
  | makeFunc f a b =>
    rw [ho] at h
    obtain ⟨va, hva, h⟩ := bnd h
    obtain ⟨vb, hvb, h⟩ := bnd h
    have ea : a.map r = ⟨a.toList.map r⟩ := by obtain ⟨l⟩ := a; simp
    have eb : b.map r = ⟨b.toList.map r⟩ := by obtain ⟨l⟩ := b; simp
    have := got_one (P := M.P) (u := .func f (a.map r) (b.map r)) h A ⟨_, _, rhos_ok hr hva, rhos_ok hr hvb, by rw [ea, eb]⟩
    simpa [Instr.makeFunc] using this
  | makeMap t res =>
    rw [ho] at h
    cases res with
    | some x => cases h
    | none =>
      obtain rfl := Option.some.inj h
      obtain ⟨u, sg', w', e1, e2, e3⟩ := makeMapA_ok (P := M.P) (t := t) (v := (makeMapA s).1) (s' := (makeMapA s).2) rfl A
      exact ⟨u, sg', w', by simp [e1], e2, e3⟩
  | makeSlice t a b =>
    rw [ho] at h
    obtain ⟨va, hva, h⟩ := bnd h
    obtain ⟨vb, hvb, h⟩ := bnd h
    exact got_val h A fun v s' hq A => makeSliceA_ok hM.env hq (hr _ _ hva) (hr _ _ hvb) A
  | slice t x lo hi mx =>
    rw [ho] at h
    obtain ⟨v, hv, h⟩ := bnd h
    obtain ⟨l, hl, h⟩ := bnd h
    obtain ⟨k, hk, h⟩ := bnd h
    obtain ⟨m, hm, h⟩ := bnd h
    exact got_pure h A fun u hq A => sliceB_ok hM.env hq (hr _ _ hv) (rhoO_ok hr hl) (rhoO_ok hr hk) (rhoO_ok hr hm) A
  | fieldAddr t x f =>
    rw [ho] at h
    obtain ⟨v, hv, h⟩ := bnd h
    exact got_pure h A fun u hq A => fieldAtA_ok hM.env hq (hr _ _ hv) A
  | indexAddr t x i =>
    rw [ho] at h
    obtain ⟨v, hv, h⟩ := bnd h
    obtain ⟨k, hk, h⟩ := bnd h
    exact got_pure h A fun u hq A => indexAtA_ok hM.env hq (hr _ _ hv) (hr _ _ hk) A
  | index t x i =>
    rw [ho] at h
    obtain ⟨v, hv, h⟩ := bnd h
    obtain ⟨k, hk, h⟩ := bnd h
    exact got_pure h A fun u hq A => indexA_ok hM.env hq (hr _ _ hv) (hr _ _ hk) A
  | lookup t x k ok =>
    rw [ho] at h
    obtain ⟨v, hv, h⟩ := bnd h
    obtain ⟨k, hk, h⟩ := bnd h
    exact got_val h A fun u s' hq A => lookupA_ok hM.env hq (hr _ _ hv) (hr _ _ hk) A
  | mapUpdate t m k x =>
    rw [ho] at h
    obtain ⟨v, hv, h⟩ := bnd h
    obtain ⟨y, hy, h⟩ := bnd h
    obtain ⟨z, hz, h⟩ := bnd h
    exact got_skip h A fun s' hq A => updateA_ok hM.env hq (hr _ _ hv) (hr _ _ hy) (hr _ _ hz) A
  | insert t m k x =>
    rw [ho] at h
    obtain ⟨v, hv, h⟩ := bnd h
    obtain ⟨y, hy, h⟩ := bnd h
    obtain ⟨z, hz, h⟩ := bnd h
    exact got_skip h A fun s' hq A => updateA_ok hM.env hq (hr _ _ hv) (hr _ _ hy) (hr _ _ hz) A
  | range t x =>
    rw [ho] at h
    obtain ⟨v, hv, h⟩ := bnd h
    exact got_val h A fun u s' hq A => rangeA_ok hM.env hq (hr _ _ hv) A
  | next i b =>
    rw [ho] at h
    cases b with
    | true => cases h
    | false =>
      obtain ⟨v, hv, h⟩ := bnd h
      exact got_val h A fun u s' hq A => nextA_ok hq (hr _ _ hv) A
  | entry i =>
    rw [ho] at h
    obtain ⟨v, hv, h⟩ := bnd h
    exact got_val h A fun u s' hq A => entryA_ok hq (hr _ _ hv) A
  | typeAssert x xt t ok =>
    rw [ho] at h
    obtain ⟨v, hv, h⟩ := bnd h
    exact got_pure h A fun u hq A => assertA_ok hM.env hq (hr _ _ hv) A
  | extract x i =>
    rw [ho] at h
    obtain ⟨v, hv, h⟩ := bnd h
    obtain ⟨l, hl, h⟩ := bnd h
    obtain ⟨u, hu, h⟩ := bnd h
    have hv' := hr _ _ hv
    rw [asTup_some hl] at hv'
    obtain ⟨cs, hcs, e⟩ := hv'
    obtain ⟨z, hz, hzr⟩ := hcs.get i u hu
    have := got_one (P := M.P) (u := z) h A hzr
    simpa [Instr.extract, e, hz] using this
  | call c =>
    rw [ho] at h
    exact callA_ok hM h hr A
  | defer c =>
    rw [ho] at h
    obtain ⟨args, hargs, h⟩ := bnd h
    cases hc : c.callee with
    | builtin b => rw [hc] at h; cases h
    | invoke a b => rw [hc] at h; cases h
    | value f =>
      rw [hc] at h
      obtain ⟨v, hv, h⟩ := bnd h
      obtain ⟨g, hg, h⟩ := bnd h
      obtain rfl := Option.some.inj h
      have hv' := hr _ _ hv
      rw [asFn_some hg] at hv'
      obtain ⟨a, cap, h1, h2, hv'⟩ := hv'
      refine ⟨rfl, ⟨cap⟩, ⟨a⟩ ++ c.args.map r, by simp [resolve, hc, Deferred.ofValue, hv'], ?_⟩
      have e1 := h1.length
      have e2 := h2.length
      have e3 : c.args.toList.length = args.length := by have := (rhos_ok hr hargs).length; rwa [List.length_map] at this
      have e4 : c.args.size = c.args.toList.length := rfl
      simp only [Array.size_append, List.size_toArray, Array.size_map, e1, e2, e4, e3]
  | _ => rw [ho] at h; cases h
end
end
end RX
end
end Go.Proofs.YthmimjofdmnakaaGreatDoor
