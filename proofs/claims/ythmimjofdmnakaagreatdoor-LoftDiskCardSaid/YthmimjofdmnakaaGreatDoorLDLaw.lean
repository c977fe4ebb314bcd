/- stricklelaw09: step, little. -/
import Derived.Test.YthmimjofdmnakaaGreatDoorLDSte2
namespace Go.Proofs.YthmimjofdmnakaaGreatDoor
open Go.RowKit Go.Shelf
theorem lstep_any (W0 w : World) (p q m : Nat) (S : Sp) (K : Int) (o : DOp) (v : Value) (g0 : Gr W0 w) (HB : Both W0.heap.size w p q m S K) (HF : Fine S m) (ho : OpAt W0 v o) (hdl : o.data.length ≤ 200) (hkl : o.keep.length ≤ 200) (hn : S.pend.length ≤ 1000) (hK0 : 0 ≤ K) (hK : K ≤ 1000000) (hm0 : 0 < m) (hm : m ≤ 1000000) :
    Calls Tryz.prog 29 #[.pointer (some ⟨p, 0, none⟩), .pointer (some ⟨q, 0, none⟩), v] w fun e w' => e = .returned (.bool true) ∧ Gr W0 w' ∧ ∃ S', Fine S' m ∧ S'.pend.length ≤ S.pend.length + 1 ∧ Both W0.heap.size w' p q m S' (K + 1) := by
  obtain ⟨xd, xk, rfl, hxd, hxk⟩ := ho.s
  have hb := ho.kb
  have hr : o.k.tmod 5 = 0 ∨ o.k.tmod 5 = 1 ∨ o.k.tmod 5 = 2 ∨ o.k.tmod 5 = 3 ∨ o.k.tmod 5 = 4 := by
    rw [Int.tmod_eq_emod_of_nonneg hb.1]
    omega
  rcases hr with h | h | h | h | h
  · exact step0 W0 w p q m S K o.k o.sec o.n o.data o.keep xd xk g0 HB HF hxd hxk hdl hkl hn hK0 hK hm0 hm ho.nb h
  · exact step1 W0 w p q m S K o.k o.sec o.n o.data o.keep xd xk g0 HB HF hxd hxk hdl hkl hn hK0 hK hm0 hm ho.nb h
  · exact step2 W0 w p q m S K o.k o.sec o.n o.data o.keep xd xk g0 HB HF hxd hxk hdl hkl hn hK0 hK hm0 hm ho.nb h
  · exact step3 W0 w p q m S K o.k o.sec o.n o.data o.keep xd xk g0 HB HF hxd hxk hdl hkl hn hK0 hK hm0 hm ho.nb h
  · exact step4 W0 w p q m S K o.k o.sec o.n o.data o.keep xd xk g0 HB HF hxd hxk hdl hkl hn hK0 hK hm0 hm ho.nb h
/-- a script of operations among the arguments -/
structure OpsAt (w : World) (v : Value) (l : List DOp) : Prop where
  s : ∃ a cap, v = .slice a l.length cap ∧ ∀ j (hj : j < l.length), ∃ g o xd xk, a = some ⟨g, o, none⟩ ∧ g < w.heap.size ∧ w.cell? ⟨g, o + j * 5, none⟩ = some (.int .u8 l[j].k) ∧ w.cell? ⟨g, o + j * 5 + 1, none⟩ = some (.int .i64 l[j].sec) ∧ w.cell? ⟨g, o + j * 5 + 2, none⟩ = some (.int .i64 l[j].n) ∧
    w.cell? ⟨g, o + j * 5 + 3, none⟩ = some xd ∧ w.cell? ⟨g, o + j * 5 + 4, none⟩ = some xk ∧ OpAt w (.agg #[.int .u8 l[j].k, .int .i64 l[j].sec, .int .i64 l[j].n, xd, xk]) l[j] ∧ ArgBytes w xd l[j].data ∧ ArgInts w xk l[j].keep
def smallO (o : DOp) : Bool := decide (o.data.length ≤ 200) && decide (o.keep.length ≤ 200)
def littleB (l : List DOp) : Bool := (l.take 300).all smallO && decide (l.length ≤ 200)
theorem all_take1 {l : List DOp} {i : Nat} (h : i < l.length) : (l.take (i+1)).all smallO = ((l.take i).all smallO && smallO l[i]) := by
  rw [List.take_succ_eq_append_getElem h, List.all_append, List.all_cons, List.all_nil, Bool.and_true]
theorem big_no {l : List DOp} {i : Nat} (h : i < l.length) (h3 : i < 300) (hs : smallO l[i] = false) : littleB l = false := by
  unfold littleB
  have : (l.take 300).all smallO = false := by
    cases e : (l.take 300).all smallO with
    | false => rfl
    | true =>
      have hm : l[i] ∈ l.take 300 := List.mem_take_iff_getElem.2 ⟨i, by omega, rfl⟩
      have := List.all_eq_true.1 e _ hm
      rw [hs] at this; cases this
  rw [this]; rfl
set_option maxRecDepth 100000 in
set_option maxHeartbeats 4000000 in
theorem little_any (v : Value) (l : List DOp) (w : World) (hv : OpsAt w v l) :
    Calls Tryz.prog 26 #[v] w fun e w' => e = .returned (.bool (littleB l)) ∧ w' = w := by
  obtain ⟨a, cap, rfl, hc⟩ := hv.s
  have HC := Lib.hid hc
  obtain ⟨q, hq⟩ : ∃ q, littleB l = q := ⟨_, rfl⟩
  have HQ := Lib.hid hq
  rw [hq]
  clear hc hv hq
  go_enter Tryz.func26, Tryz.ntmps26
  go_wp2
  go_loopw [3] (fun r wr => ∃ i : Nat, r = .int .i64 i ∧ i ≤ l.length ∧ i ≤ 300 ∧ Hid ((l.take i).all smallO = true) ∧ wr = w) (fun r _ => l.length - (intOf r).toNat)
  case atStart => exact ⟨0, rfl, by omega, by omega, Lib.hid (by simp), rfl⟩
  case round =>
    obtain ⟨i, rfl, hi, hi3, HS, rfl⟩ := hrel
    by_cases hil : i < l.length
    · have hil' : (i : Int) < l.length := by omega
      by_cases h3 : i < 300
      · have h3' : (i : Int) < 300 := by omega
        obtain ⟨g, o, xd, xk, rfl, hgl, -, -, -, c3, c4, -, ⟨ad, capd, rfl, -⟩, ⟨ak, capk, rfl, -⟩⟩ := HC.out i hil
        have HN := Lib.hid (fun (hs : smallO l[i] = false) => big_no hil h3 hs)
        have HT := Lib.hid (all_take1 hil)
        obtain ⟨x, hx⟩ : ∃ x, l[i] = x := ⟨_, rfl⟩
        rw [hx] at c3 c4 HN HT
        obtain ⟨xk', xs', xn', dd, kk⟩ := x
        dsimp only at c3 c4
        clear hx
        by_cases hd : 200 < dd.length
        · have hd' : (200 : Int) < dd.length := by omega
          obtain rfl : q = false := by rw [← HQ.out]; exact HN.out (by unfold smallO; simp; omega)
          clear HN HT hd
          go_wp2
          go_ret
          exact ⟨rfl, rfl⟩
        · have hd' : ¬ (200 : Int) < dd.length := by omega
          by_cases hk : 200 < kk.length
          · have hk' : (200 : Int) < kk.length := by omega
            obtain rfl : q = false := by rw [← HQ.out]; exact HN.out (by unfold smallO; simp; omega)
            clear HN HT hd hk
            go_wp2
            go_ret
            exact ⟨rfl, rfl⟩
          · have hk' : ¬ (200 : Int) < kk.length := by omega
            have HT2 := Lib.hid (show (l.take (i+1)).all smallO = true by rw [HT.out, HS.out]; unfold smallO; simp; omega)
            clear HN HT hd hk HS
            go_wp2
            exact ⟨⟨i+1, by simp, by omega, by omega, HT2, trivial⟩, by simp [intOf]; omega⟩
      · have h3' : ¬ (i : Int) < 300 := by omega
        have hb : ¬ ((l.length : Int) ≤ 200) := by omega
        obtain rfl : q = false := by rw [← HQ.out]; unfold littleB; simp; intro _; omega
        go_wp2
        go_ret
        exact ⟨rfl, rfl⟩
    · have hil' : ¬ (i : Int) < l.length := by omega
      obtain rfl : i = l.length := by omega
      have hS := HS.out
      rw [List.take_length] at hS
      have e300 : l.take 300 = l := List.take_of_length_le (by omega)
      obtain rfl : q = decide (l.length ≤ 200) := by rw [← HQ.out]; unfold littleB; rw [e300, hS]; rfl
      clear HQ hS e300 HS
      go_wp2
      go_ret
      exact ⟨ret_bool (by first | rfl | (simp; omega) | (simp; done)), rfl⟩
end Go.Proofs.YthmimjofdmnakaaGreatDoor
