/- Plain laws of numerals: what is written is read again. No program in sight. -/
import Derived.Lib.ItoaNum
import Derived.Lib.ItoaMem
import Derived.Lib.AtoiAll
import Derived.Lib.IndexMore
import Derived.Test.YthmimjofdmnakaaGreatDoorPlan
import Derived.Laws.BytesArg
import Derived.Lib.ItoaLen
import Derived.Deep.RegionWith
import Derived.Deep.RegionHeld3
import Derived.Test.YthmimjofdmnakaaGreatDoorLNil
namespace Go.Proofs.YthmimjofdmnakaaGreatDoor
section
open Go
theorem u8 {k : Nat} (h : k < 256) : (UInt8.ofNat k).toNat = k := UInt8.toNat_ofNat_of_lt (show k < UInt8.size from h)
theorem dec_digits : ∀ (k u : Nat), u ≤ k → ∀ c ∈ Lib.decDigits u, 48 ≤ c.toNat ∧ c.toNat ≤ 57
  | 0, u, h, c, hc => by
    obtain rfl : u = 0 := by omega
    rw [Lib.decDigits, dif_pos (by omega)] at hc
    simp at hc
    subst hc
    decide
  | k+1, u, h, c, hc => by
    by_cases hu : u < 10
    · rw [Lib.decDigits, dif_pos hu] at hc
      obtain rfl := List.mem_singleton.1 hc
      rw [u8 (by omega)]
      omega
    · rw [Lib.decDigits, dif_neg hu] at hc
      rcases List.mem_append.1 hc with hc | hc
      · exact dec_digits k (u/10) (by omega) c hc
      · obtain rfl := List.mem_singleton.1 hc
        rw [u8 (by omega)]
        omega
theorem dec_ne (u : Nat) : Lib.decDigits u ≠ [] := by
  rw [Lib.decDigits]
  split <;> simp
theorem parse_snoc : ∀ (l : List UInt8) (acc : Nat) (c : UInt8), Lib.parseUint10 acc (l ++ [c]) = match Lib.parseUint10 acc l with | .ok v => Lib.parseUint10 v [c] | e => e
  | [], acc, c => rfl
  | b :: l, acc, c => by
    simp only [List.cons_append, Lib.parseUint10]
    split
    · split
      · rfl
      · split
        · rfl
        · exact parse_snoc l _ c
    · rfl
theorem parse_dec : ∀ (k u : Nat), u ≤ k → u ≤ 1000000000000000000 → Lib.parseUint10 0 (Lib.decDigits u) = .ok u
  | 0, u, h, _ => by
    obtain rfl : u = 0 := by omega
    decide +kernel
  | k+1, u, h, hu => by
    by_cases h10 : u < 10
    · rw [Lib.decDigits, dif_pos h10]
      have e : (UInt8.ofNat (48 + u)).toNat = 48 + u := u8 (by omega)
      simp only [Lib.parseUint10, e]
      rw [if_pos (by omega), if_neg (by omega), if_neg (by omega)]
      simp
    · rw [Lib.decDigits, dif_neg h10, parse_snoc, parse_dec k (u/10) (by omega) (by omega)]
      have e : (UInt8.ofNat (48 + u % 10)).toNat = 48 + u % 10 := u8 (by omega)
      simp only [Lib.parseUint10, e]
      rw [if_pos (by omega), if_neg (by omega), if_neg (by omega)]
      congr 1
      omega
theorem dec_cons (u : Nat) : ∃ c l, Lib.decDigits u = c :: l ∧ 48 ≤ c.toNat ∧ c.toNat ≤ 57 := by
  cases h : Lib.decDigits u with
  | nil => exact absurd h (dec_ne u)
  | cons c l => exact ⟨c, l, rfl, dec_digits u u (Nat.le_refl _) c (by rw [h]; simp)⟩
theorem atoi_itoa (n : Int) (h1 : -1000000000 ≤ n) (h2 : n ≤ 1000000000) : Lib.atoiAll (Lib.itoa n) = .ok n := by
  unfold Lib.itoa
  split
  · rename_i hn
    simp only [Lib.atoiAll]
    have e : (45 : UInt8).toNat = 45 := rfl
    rw [e, if_pos (.inr rfl)]
    unfold Lib.parseMag
    rw [if_neg (dec_ne _), parse_dec _ _ (Nat.le_refl _) (by omega)]
    simp only
    rw [if_neg (by omega), if_neg (by omega), if_pos trivial]
    congr 1
    omega
  · rename_i hn
    obtain ⟨c, l, hc, c1, c2⟩ := dec_cons n.toNat
    have hp := parse_dec _ n.toNat (Nat.le_refl _) (by omega)
    rw [hc] at hp ⊢
    simp only [Lib.atoiAll]
    rw [if_neg (by omega)]
    unfold Lib.parseMag
    rw [if_neg (by simp), hp]
    simp only
    rw [if_neg (by omega), if_neg (by omega), if_neg (by omega)]
    congr 1
    omega
theorem itoa_no (n : Int) : (47 : UInt8) ∉ Lib.itoa n := by
  have hd : ∀ u, (47 : UInt8) ∉ Lib.decDigits u := fun u h => by
    have := dec_digits u u (Nat.le_refl _) 47 h
    have e : (47 : UInt8).toNat = 47 := rfl
    omega
  unfold Lib.itoa
  split
  · intro h
    rcases List.mem_cons.1 h with h | h
    · exact absurd h (by decide)
    · exact hd _ h
  · exact hd _
theorem index_no : ∀ (l : List UInt8), (47 : UInt8) ∉ l → Lib.index l [47] = -1
  | [], _ => rfl
  | b :: l, h => by
    have hb : ¬ (47 : UInt8) = b := fun e => h (by simp [e])
    have hl := index_no l (fun hm => h (by simp [hm]))
    simp [Lib.index, hl, hb]
theorem index_at : ∀ (l m : List UInt8), (47 : UInt8) ∉ l → Lib.index (l ++ 47 :: m) [47] = l.length
  | [], m, _ => by simp [Lib.index]
  | b :: l, m, h => by
    have hb : ¬ (47 : UInt8) = b := fun e => h (by simp [e])
    have hl := index_at l m (fun hm => h (by simp [hm]))
    simp only [List.cons_append, Lib.index, hl]
    simp [hb]
theorem cut_no {l : List UInt8} (h : (47 : UInt8) ∉ l) : Lib.cut l [47] = (l, [], false) := by
  unfold Lib.cut
  rw [index_no l h, if_neg (by omega)]
theorem cut_at {l m : List UInt8} (h : (47 : UInt8) ∉ l) : Lib.cut (l ++ 47 :: m) [47] = (l, m, true) := by
  unfold Lib.cut
  rw [index_at l m h, if_pos (by omega)]
  simp
/-- what Atoi gives, whatever it says besides -/
def atoiV (l : List UInt8) : Int := match Lib.atoiAll l with | .ok v => v | .range => Lib.atoiSat l | _ => 0
theorem atoiV_itoa (n : Int) (h1 : -1000000000 ≤ n) (h2 : n ≤ 1000000000) : atoiV (Lib.itoa n) = n := by simp [atoiV, atoi_itoa n h1 h2]
/-- what may be meant by a text -/
def pN (s : List UInt8) : Int := atoiV (Lib.cut s [47]).1
def pD (s : List UInt8) : Int := if (Lib.cut s [47]).2.2 then atoiV (Lib.cut s [47]).2.1 else 1
/-- the reference's way to read: sign, which part, the parts -/
def rdS (st : Int × Bool × Int × Int) (c : UInt8) : Int × Bool × Int × Int :=
  let s := if c.toNat = 45 then -1 else st.1
  let at' := if c.toNat = 47 then true else st.2.1
  let d := (c.toNat : Int) - 48
  let dig := 48 ≤ c.toNat ∧ c.toNat ≤ 57
  (s, at', if dig ∧ at' = false then min (10*st.2.2.1 + d) 10000000000 else st.2.2.1, if dig ∧ at' = true then min (10*st.2.2.2 + d) 10000000000 else st.2.2.2)
def rdF (s : List UInt8) : Int × Bool × Int × Int := s.foldl rdS (1, false, 0, 0)
def qS (s : List UInt8) : Int × Bool × Int × Int := if s.length ≤ 20 then rdF s else (1, false, 0, 0)
def qN (s : List UInt8) : Int := (qS s).1 * (qS s).2.2.1
def qD (s : List UInt8) : Int := if (qS s).2.1 then (qS s).2.2.2 else 1
theorem rd_dec0 (g y : Int) : ∀ (k u : Nat), u ≤ k → u ≤ 1000000000 → (Lib.decDigits u).foldl rdS (g, false, 0, y) = (g, false, (u : Int), y)
  | 0, u, h, _ => by
    obtain rfl : u = 0 := by omega
    rw [Lib.decDigits, dif_pos (by omega)]
    simp [rdS]
    decide
  | k+1, u, h, hu => by
    by_cases h10 : u < 10
    · rw [Lib.decDigits, dif_pos h10]
      have e : (UInt8.ofNat (48 + u)).toNat = 48 + u := u8 (by omega)
      simp only [List.foldl_cons, List.foldl_nil, rdS, e]
      rw [if_neg (by omega), if_neg (by omega), if_pos ⟨by omega, rfl⟩, if_neg (by simp)]
      simp; omega
    · rw [Lib.decDigits, dif_neg h10, List.foldl_append, rd_dec0 g y k (u/10) (by omega) (by omega)]
      have e : (UInt8.ofNat (48 + u % 10)).toNat = 48 + u % 10 := u8 (by omega)
      simp only [List.foldl_cons, List.foldl_nil, rdS, e]
      rw [if_neg (by omega), if_neg (by omega), if_pos ⟨by omega, rfl⟩, if_neg (by simp)]
      simp; omega
theorem rd_dec1 (g x : Int) : ∀ (k u : Nat), u ≤ k → u ≤ 1000000000 → (Lib.decDigits u).foldl rdS (g, true, x, 0) = (g, true, x, (u : Int))
  | 0, u, h, _ => by
    obtain rfl : u = 0 := by omega
    rw [Lib.decDigits, dif_pos (by omega)]
    simp [rdS]
    decide
  | k+1, u, h, hu => by
    by_cases h10 : u < 10
    · rw [Lib.decDigits, dif_pos h10]
      have e : (UInt8.ofNat (48 + u)).toNat = 48 + u := u8 (by omega)
      simp only [List.foldl_cons, List.foldl_nil, rdS, e]
      rw [if_neg (by omega), if_neg (by omega), if_neg (by simp), if_pos ⟨by omega, rfl⟩]
      simp; omega
    · rw [Lib.decDigits, dif_neg h10, List.foldl_append, rd_dec1 g x k (u/10) (by omega) (by omega)]
      have e : (UInt8.ofNat (48 + u % 10)).toNat = 48 + u % 10 := u8 (by omega)
      simp only [List.foldl_cons, List.foldl_nil, rdS, e]
      rw [if_neg (by omega), if_neg (by omega), if_neg (by simp), if_pos ⟨by omega, rfl⟩]
      simp; omega
theorem rd_itoa (a : Int) (a1 : -1000000000 ≤ a) (a2 : a ≤ 1000000000) : (Lib.itoa a).foldl rdS (1, false, 0, 0) = (if a < 0 then -1 else 1, false, (a.natAbs : Int), 0) := by
  unfold Lib.itoa
  split
  · rename_i h
    have e : rdS (1, false, 0, 0) 45 = (-1, false, 0, 0) := by decide
    rw [List.foldl_cons, e, rd_dec0 _ _ _ _ (Nat.le_refl _) (by omega)]
  · rename_i h
    rw [rd_dec0 _ _ _ _ (Nat.le_refl _) (by omega)]
    simp; omega
end
section
open Go.RowKit
theorem conv_one (w : World) (b : Nat) (c : Int) (hw : w.cell? ⟨b, 0, none⟩ = some (.int .u8 c)) : (convert 57 9 (.slice (some ⟨b, 0, none⟩) 1 1)).run Tryz.prog w = .ok (.string (strOfNums [c])) w :=
  run_convert_bytes_arg w 57 5 Tryz.underlying57 Tryz.underlying5 b 0 1 1 [c] rfl (fun i hi => by
    obtain rfl : i = 0 := by omega
    simpa using hw) 9 Tryz.underlying9
theorem one_nums (k : Nat) : strOfNums [48 + (k : Int)] = ⟨#[UInt8.ofNat (48 + k)]⟩ := by
  have : (48 + (k : Int)).toNat = 48 + k := by omega
  simp only [strOfNums, List.map_cons, List.map_nil, this]
theorem cat_one (A : List UInt8) (c : UInt8) : (⟨(A ++ [c]).toArray⟩ : ByteArray) = ⟨A.toArray⟩ ++ ⟨#[c]⟩ := by
  apply ByteArray.ext
  simp
set_option maxRecDepth 100000 in
set_option maxHeartbeats 1000000 in
theorem digits_small (n : Nat) (w : World) (h : n < 10) :
    Calls Tryz.prog 57 #[.int .i64 n] w fun e w' => e = .returned (.string ⟨(Lib.decDigits n).toArray⟩) ∧ Gr w w' := by
  have e0 : Lib.decDigits n = [UInt8.ofNat (48 + n)] := by rw [Lib.decDigits, dif_pos h]
  rw [e0]
  have cv := conv_one (w.alloc (.cells #[.int .u8 (48 + (n : Int))] 5)) w.heap.size (48 + (n : Int)) ((blk_cells (heap_alloc_self w _)).1 0)
  rw [one_nums] at cv
  obtain ⟨c, hc⟩ : ∃ c, UInt8.ofNat (48 + n) = c := ⟨_, rfl⟩
  rw [hc] at cv ⊢
  clear hc e0
  go_enter Tryz.func57, Tryz.ntmps57
  go_wp2_with fail
  go_ret
  exact ⟨rfl, (by repeat (first | exact Gr.refl _ | assumption | refine Gr.alloc ?_ _ | refine Gr.drew ?_ | refine Gr.drewN ?_ _ | refine Gr.set ?_ _ _ (by first | (simp; done) | (simp; omega)) | refine Gr.trans ?_ (by assumption)))⟩
set_option maxRecDepth 100000 in
set_option maxHeartbeats 2000000 in
theorem digits_ind (k : Nat) : ∀ (n : Nat) (w : World), n ≤ k → n ≤ 1000000000 →
    Calls Tryz.prog 57 #[.int .i64 n] w fun e w' => e = .returned (.string ⟨(Lib.decDigits n).toArray⟩) ∧ Gr w w' := by
  induction k with
  | zero => intro n w h _; exact digits_small n w (by omega)
  | succ k ih =>
    intro n w h hb
    by_cases h10 : n < 10
    · exact digits_small n w h10
    have e0 : Lib.decDigits n = Lib.decDigits (n/10) ++ [UInt8.ofNat (48 + n % 10)] := by rw [Lib.decDigits, dif_neg h10]
    rw [e0]
    have IH := Lib.hid (fun w => ih (n/10) w (by omega) (by omega))
    have q1 : ((n : Int)).tdiv 10 = ((n / 10 : Nat) : Int) := by rw [Int.tdiv_eq_ediv_of_nonneg (by omega)]; omega
    have q2 : ((n : Int)).tmod 10 = ((n % 10 : Nat) : Int) := by rw [Int.tmod_eq_emod_of_nonneg (by omega)]; omega
    have CV := Lib.hid (fun (w : World) (b : Nat) (hb : w.cell? ⟨b, 0, none⟩ = some (.int .u8 (48 + ((n % 10 : Nat) : Int)))) => (conv_one w b _ hb).trans (by rw [one_nums]))
    obtain ⟨c, hc⟩ : ∃ c, UInt8.ofNat (48 + n % 10) = c := ⟨_, rfl⟩
    rw [hc] at CV ⊢
    have hm : n % 10 < 10 := Nat.mod_lt _ (by omega)
    have hm2 : n / 10 ≤ 1000000000 := by omega
    have q3 : IntKind.i64.wrap ((n / 10 : Nat) : Int) = ((n / 10 : Nat) : Int) := IntWalk.i64_in _ (by omega)
    have hl : (Lib.decDigits (n/10)).length ≤ 21 := by
      have := Lib.itoa_length_le ((n/10 : Nat) : Int) (by omega) (by omega)
      rwa [Lib.itoa_nonneg] at this
    have q4 : IntKind.i64.wrap (48 + ((n % 10 : Nat) : Int)) = 48 + ((n % 10 : Nat) : Int) := IntWalk.i64_in _ (by omega)
    have q5 : IntKind.u8.wrap (48 + ((n % 10 : Nat) : Int)) = 48 + ((n % 10 : Nat) : Int) := IntWalk.u8_in _ (by omega)
    generalize n % 10 = r at *
    generalize Lib.decDigits (n/10) = A at *
    generalize n / 10 = m at *
    have l1 : ¬ 9223372036854775807 < A.length + 1 := by omega
    clear ih e0 hc
    go_enter Tryz.func57, Tryz.ntmps57
    go_wp2_with fail
    have CV2 := CV.out
    clear CV
    go_region_with (go_at_call_of 57 (Value.int .i64 (m : Int)); refine (IH.out _).mono ?_; rintro e w1 ⟨rfl, hg1⟩; obtain ⟨hc1, hf1, hz1⟩ := hg1.cells)
    all_goals go_wp2
    all_goals exact bodyPost_ret (v := .string ⟨(A ++ [c]).toArray⟩) (by simp [results, Tryz.results57, go_sem]; exact (cat_one A c).symm) rfl ⟨rfl, (by repeat (first | exact Gr.refl _ | assumption | refine Gr.alloc ?_ _ | refine Gr.drew ?_ | refine Gr.drewN ?_ _ | refine Gr.set ?_ _ _ (by first | (simp; done) | (simp; omega)) | refine Gr.trans ?_ (by assumption)))⟩
theorem digits_any (n : Nat) (w : World) (h : n ≤ 1000000000) :
    Calls Tryz.prog 57 #[.int .i64 n] w fun e w' => e = .returned (.string ⟨(Lib.decDigits n).toArray⟩) ∧ Gr w w' := digits_ind n n w (Nat.le_refl _) h
end
section
open Go.RowKit Go.Shelf
theorem indexc_no (c : UInt8) : ∀ (l : List UInt8), c ∉ l → Lib.index l [c] = -1
  | [], _ => rfl
  | b :: l, h => by
    have hb : ¬ c = b := fun e => h (by simp [e])
    have hl := indexc_no c l (fun hm => h (by simp [hm]))
    simp [Lib.index, hl, hb]
theorem indexc_at (c : UInt8) : ∀ (l m : List UInt8), c ∉ l → Lib.index (l ++ c :: m) [c] = l.length
  | [], m, _ => by simp [Lib.index]
  | b :: l, m, h => by
    have hb : ¬ c = b := fun e => h (by simp [e])
    have hl := indexc_at c l m (fun hm => h (by simp [hm]))
    simp only [List.cons_append, Lib.index, hl]
    simp [hb]
theorem cutc_no {c : UInt8} {l : List UInt8} (h : c ∉ l) : Lib.cut l [c] = (l, [], false) := by
  unfold Lib.cut
  rw [indexc_no c l h, if_neg (by omega)]
theorem cutc_at {c : UInt8} {l m : List UInt8} (h : c ∉ l) : Lib.cut (l ++ c :: m) [c] = (l, m, true) := by
  unfold Lib.cut
  rw [indexc_at c l m h, if_pos (by omega)]
  simp
theorem notin_succ {c : UInt8} {l : List UInt8} {i : Nat} (h : i < l.length) (h1 : c ∉ l.take i) (h2 : l[i] ≠ c) : c ∉ l.take (i+1) := by
  rw [List.take_succ_eq_append_getElem h]
  simp only [List.mem_append, List.mem_singleton, not_or]
  exact ⟨h1, fun e => h2 e.symm⟩
set_option maxRecDepth 100000 in
set_option maxHeartbeats 2000000 in
theorem rcut_any (s : ByteArray) (c : UInt8) (w : World) (hs : s.size ≤ 100000) :
    Calls Tryz.prog 60 #[.string s, .int .u8 c.toNat] w fun e w' => e = .returned (.tuple #[.string ⟨(Lib.cut s.data.toList [c]).1.toArray⟩, .string ⟨(Lib.cut s.data.toList [c]).2.1.toArray⟩, .bool (Lib.cut s.data.toList [c]).2.2]) ∧ Gr w w' := by
  obtain ⟨l, hl⟩ : ∃ l, s.data.toList = l := ⟨_, rfl⟩
  have hsz : s.size = l.length := by rw [← hl]; rfl
  have HX := Lib.hid (fun (i : Nat) (h : i < l.length) => show s[i]'(by omega) = l[i] by subst hl; rfl)
  have HS := Lib.hid (show (⟨l.toArray⟩ : ByteArray) = s by rw [← hl])
  rw [hl]
  obtain ⟨x, y, z, hc⟩ : ∃ x y z, Lib.cut l [c] = (x, y, z) := ⟨_, _, _, rfl⟩
  rw [hc]
  have HC := Lib.hid hc
  clear hl hc
  obtain ⟨k, hk⟩ : ∃ k, c.toNat = k := ⟨_, rfl⟩
  rw [hk]
  have HK := Lib.hid hk
  clear hk
  go_enter Tryz.func60, Tryz.ntmps60
  go_wp2
  go_loopw [7] (fun p wr => ∃ i : Nat, p = .int .i64 i ∧ i ≤ l.length ∧ Hid (c ∉ l.take i) ∧ Gr w wr) (fun p _ => l.length - (intOf p).toNat)
  case atStart => exact ⟨0, rfl, by omega, Lib.hid (by simp), Gr.refl _⟩
  case round =>
    obtain ⟨i, rfl, hi, HN, gr⟩ := hrel
    by_cases hil : i < l.length
    · have hil' : (i : Int) < l.length := by omega
      have his : i < s.size := by omega
      have hx := HX.out i hil
      by_cases he : l[i] = c
      · have hcc : (s[i]'his).toNat = k := by rw [hx, he]; exact HK.out
        have hsp : l = l.take i ++ c :: l.drop (i+1) := by
          rw [← he, List.getElem_cons_drop, List.take_append_drop]
        have hcut := cutc_at (c := c) (l := l.take i) (m := l.drop (i+1)) HN.out
        rw [← hsp, HC.out] at hcut
        simp only [Prod.mk.injEq] at hcut
        obtain ⟨e1, e2, e3⟩ := hcut
        subst e3
        have E1 := Lib.hid (show (⟨x.toArray⟩ : ByteArray) = s.extract 0 i by rw [e1, ← HS.out]; apply ByteArray.ext; simp)
        have E2 := Lib.hid (show (⟨y.toArray⟩ : ByteArray) = s.extract (i+1) l.length by rw [e2, ← HS.out]; apply ByteArray.ext; simp; rw [List.take_of_length_le (by simp)])
        clear hx he hsp e1 e2 HX
        have hi1 : i + 1 ≤ s.size := by omega
        have w1 : IntKind.i64.wrap ((i : Int) + 1) = (i : Int) + 1 := IntWalk.i64_in _ (by omega)
        go_wp2_with fail
        refine wp_region_plan [.val (.string s), .val (.int .i64 i), .val (.string (s.extract 0 i)), .val (.string s), .val (.int .i64 i), .val (.int .i64 (i + 1)), .val (.string (s.extract (i+1) l.length)), .val (.string (s.extract 0 i)), .val (.string (s.extract (i+1) l.length)), .val (.bool true)] (by kernel_rfl) (by kernel_rfl) (fun G => by first | (simp only [finAct, Act.put, Plan.value, List.setIfInBounds_toArray, List.set_cons_zero, List.set_cons_succ]; rfl) | (simp only [finAct, Act.put, Plan.value, List.setIfInBounds_toArray, List.set_cons_zero, List.set_cons_succ, Nat.zero_add, Nat.reduceAdd]; rfl)) ?_ ?_
        · refine ⟨?_, ?_, ?_, ?_, ?_, ?_, ?_, ?_, ?_, ?_, trivial⟩ <;> (first | exact trivial | (intro G; first | (refine ⟨by kernel_rfl, fun u hu => ?_⟩; obtain ⟨hc, hf, hz⟩ := hu.cells; go_simp; first | exact ⟨rfl, Gr.refl _⟩ | skip) | (refine ⟨by kernel_rfl, fun u T z hu hG hj hb => ?_⟩; cases hj; obtain ⟨hbc, hbf, hbz⟩ := blk_cells hb; first | (refine ⟨_, ?_, ((GrL.of_gr (Gr.refl _)).set _ _ (Or.inr (by simp))).set _ _ (Or.inr (by simp)), put_two hb⟩; go_simp; done) | (refine ⟨_, ?_, (GrL.of_gr (Gr.refl _)).set _ _ (Or.inr (by simp)), put_one hb⟩; go_simp; done)) | (refine ⟨by kernel_rfl, fun u => ?_⟩; go_simp; done) | (show _ = false; kernel_rfl)))
          all_goals (rw [if_pos ⟨by omega, by omega⟩]; exact ⟨rfl, Gr.refl _⟩)
        · intro G u hg hb hd
          clear hb hd
          have gu := gr.trans hg
          go_simp
          go_wp2
          rw [E1.out, E2.out]
          exact bodyPost_ret (v := .tuple #[.string (s.extract 0 i), .string (s.extract (i+1) l.length), .bool true]) (by simp [results, Tryz.results60, go_sem]) rfl ⟨rfl, gu⟩
      · have hcc : ¬ (s[i]'his).toNat = k := by rw [hx, ← HK.out]; exact fun e => he (UInt8.toNat_inj.1 e)
        have hcc' : ¬ ((s[i]'his).toNat : Int) = k := by omega
        have HN' := Lib.hid (notin_succ hil HN.out he)
        clear hx he
        go_wp2
        exact ⟨⟨i+1, by simp, by omega, HN', gr⟩, by simp [intOf]; omega⟩
    · have hil' : ¬ (i : Int) < l.length := by omega
      obtain rfl : i = l.length := by omega
      have hno := HN.out
      rw [List.take_length] at hno
      have hcut := cutc_no hno
      rw [HC.out] at hcut
      simp only [Prod.mk.injEq] at hcut
      obtain ⟨rfl, rfl, rfl⟩ := hcut
      clear hno HN
      go_wp2
      rw [HS.out]
      exact bodyPost_ret (v := .tuple #[.string s, .string ⟨#[]⟩, .bool false]) (by simp [results, Tryz.results60, go_sem]) rfl ⟨rfl, gr⟩
end
section
open Go.RowKit Go.Shelf
def isDig (c : UInt8) : Bool := decide (48 ≤ c.toNat) && decide (c.toNat ≤ 57)
/-- the number that digits write -/
def valI (l : List UInt8) : Int := l.foldl (fun a c => 10*a + ((c.toNat : Int) - 48)) 0
/-- the number that at most seven digits write; -1 for anything else -/
def valV (l : List UInt8) : Int := if 1 ≤ l.length ∧ l.length ≤ 7 ∧ l.all isDig = true then valI l else -1
theorem valI_succ {l : List UInt8} {i : Nat} (h : i < l.length) : valI (l.take (i+1)) = 10 * valI (l.take i) + ((l[i].toNat : Int) - 48) := by
  unfold valI
  rw [List.take_succ_eq_append_getElem h, List.foldl_append]
  rfl
theorem all_take_succ {l : List UInt8} {i : Nat} (h : i < l.length) : (l.take (i+1)).all isDig = ((l.take i).all isDig && isDig l[i]) := by
  rw [List.take_succ_eq_append_getElem h, List.all_append, List.all_cons, List.all_nil, Bool.and_true]
theorem not_all {l : List UInt8} {i : Nat} (h : i < l.length) (hd : isDig l[i] = false) : l.all isDig = false := by
  cases e : l.all isDig
  · rfl
  · have := List.all_eq_true.1 e l[i] (List.getElem_mem h)
    rw [hd] at this
    cases this
set_option maxRecDepth 100000 in
set_option maxHeartbeats 2000000 in
theorem rvalue_any (s : ByteArray) (w : World) (hs : s.size ≤ 100000) :
    Calls Tryz.prog 61 #[.string s] w fun e w' => e = .returned (.int .i64 (valV s.data.toList)) ∧ Gr w w' := by
  obtain ⟨l, hl⟩ : ∃ l, s.data.toList = l := ⟨_, rfl⟩
  have hsz : s.size = l.length := by rw [← hl]; rfl
  have HX := Lib.hid (fun (i : Nat) (h : i < l.length) => show s[i]'(by omega) = l[i] by subst hl; rfl)
  rw [hl]
  obtain ⟨v, hv⟩ : ∃ v, valV l = v := ⟨_, rfl⟩
  rw [hv]
  have HV := Lib.hid hv
  clear hl hv
  by_cases z1 : l.length = 0
  · have z1' : (l.length : Int) = 0 := by omega
    obtain rfl : v = -1 := by rw [← HV.out]; unfold valV; rw [if_neg (by omega)]
    go_enter Tryz.func61, Tryz.ntmps61
    go_wp2
    go_ret
    exact ⟨rfl, Gr.refl _⟩
  · by_cases z2 : 7 < l.length
    · have z1' : ¬ (l.length : Int) = 0 := by omega
      have z2' : (7 : Int) < l.length := by omega
      obtain rfl : v = -1 := by rw [← HV.out]; unfold valV; rw [if_neg (by omega)]
      go_enter Tryz.func61, Tryz.ntmps61
      go_wp2
      go_ret
      exact ⟨rfl, Gr.refl _⟩
    · have z1' : ¬ (l.length : Int) = 0 := by omega
      have z2' : ¬ (7 : Int) < l.length := by omega
      go_enter Tryz.func61, Tryz.ntmps61
      go_wp2
      go_loopw [3, 4] (fun n p wr => ∃ (i : Nat) (x : Int), p = .int .i64 i ∧ i ≤ l.length ∧ n = .int .i64 x ∧ Hid (x = valI (l.take i) ∧ (l.take i).all isDig = true ∧ 0 ≤ x ∧ x < (10 : Int)^i) ∧ Gr w wr) (fun _ p _ => l.length - (intOf p).toNat)
      case atStart => exact ⟨0, 0, rfl, by omega, rfl, Lib.hid ⟨rfl, by simp, by omega, by simp⟩, Gr.refl _⟩
      case round =>
        obtain ⟨i, x, rfl, hi, rfl, HR, gr⟩ := hrel
        by_cases hil : i < l.length
        · have hil' : (i : Int) < l.length := by omega
          have his : i < s.size := by omega
          have hx := HX.out i hil
          obtain ⟨k, hk⟩ : ∃ k, l[i].toNat = k := ⟨_, rfl⟩
          have hc : (s[i]'his).toNat = k := by rw [hx]; exact hk
          by_cases kd : 48 ≤ k ∧ k ≤ 57
          · obtain ⟨k1, k2⟩ := kd
            have k1' : ¬ (k : Int) < 48 := by omega
            have k2' : ¬ (57 : Int) < k := by omega
            obtain ⟨r1, r2, r3, r4⟩ := HR.out
            have hp : (10 : Int)^i ≤ 10^7 := by
              have := Nat.pow_le_pow_right (show 0 < 10 by omega) (show i ≤ 7 by omega)
              exact_mod_cast this
            have hps : (10 : Int)^(i+1) = 10^i * 10 := Int.pow_succ ..
            have HN : Hid (10*x + k - 48 = valI (l.take (i+1)) ∧ (l.take (i+1)).all isDig = true ∧ 0 ≤ 10*x + (k : Int) - 48 ∧ 10*x + (k : Int) - 48 < (10 : Int)^(i+1)) :=
              Lib.hid ⟨by rw [valI_succ hil, hk, ← r1]; omega, by rw [all_take_succ hil, r2]; simp [isDig, hk, k1, k2], by omega, by omega⟩
            have w1 : IntKind.i64.wrap (10*x) = 10*x := IntWalk.i64_in _ (by omega)
            have w2 : IntKind.i64.wrap (10*x + k) = 10*x + k := IntWalk.i64_in _ (by omega)
            have w3 : IntKind.i64.wrap (10*x + k - 48) = 10*x + k - 48 := IntWalk.i64_in _ (by omega)
            have w4 : IntKind.i64.wrap (k : Int) = k := IntWalk.i64_in _ (by omega)
            clear hx hk r1 r2 r3 r4 hp hps HR
            go_wp2
            exact ⟨⟨i+1, 10*x + k - 48, by simp, by omega, rfl, HN, gr⟩, by simp [intOf]; omega⟩
          · have hd : isDig l[i] = false := by simp only [isDig, hk]; simp; omega
            obtain rfl : v = -1 := by rw [← HV.out]; unfold valV; rw [not_all hil hd, if_neg (by simp)]
            clear hx hk hd HR
            by_cases k1 : k < 48
            · have k1' : (k : Int) < 48 := by omega
              go_wp2
              go_ret
              exact ⟨rfl, gr⟩
            · have k1' : ¬ (k : Int) < 48 := by omega
              have k2' : (57 : Int) < k := by omega
              go_wp2
              go_ret
              exact ⟨rfl, gr⟩
        · have hil' : ¬ (i : Int) < l.length := by omega
          obtain rfl : i = l.length := by omega
          obtain ⟨r1, r2, r3, r4⟩ := HR.out
          rw [List.take_length] at r1 r2
          obtain rfl : v = x := by rw [← HV.out, r1]; unfold valV; rw [if_pos ⟨by omega, by omega, r2⟩]
          clear r1 r2 r3 r4 HR
          go_wp2
          go_ret
          exact ⟨rfl, gr⟩
end
section
open Go.RowKit Go.Shelf
/-- a first word with numbers behind it -/
def rowL (A : List UInt8) (ns : List Nat) : List UInt8 := ns.foldl (fun a n => a ++ 32 :: Lib.decDigits n) A
theorem rowL_succ {A : List UInt8} {ns : List Nat} {i : Nat} (h : i < ns.length) : rowL A (ns.take (i+1)) = rowL A (ns.take i) ++ 32 :: Lib.decDigits ns[i] := by
  unfold rowL
  rw [List.take_succ_eq_append_getElem h, List.foldl_append]
  rfl
theorem dec_len20 (n : Nat) (h : n ≤ 1000000000) : (Lib.decDigits n).length ≤ 21 := by
  have := Lib.itoa_length_le (n : Int) (by omega) (by omega)
  rwa [Lib.itoa_nonneg] at this
theorem rowL_len {A : List UInt8} {ns : List Nat} (hA : A.length ≤ 100000) (hn : ∀ n ∈ ns, n ≤ 1000000000) : ∀ i, i ≤ ns.length → (rowL A (ns.take i)).length ≤ 100000 + 22 * i := by
  intro i
  induction i with
  | zero => intro _; simpa [rowL] using hA
  | succ i ih =>
    intro h
    rw [rowL_succ (by omega), List.length_append, List.length_cons]
    have := ih (by omega)
    have := dec_len20 ns[i] (hn _ (List.getElem_mem _))
    omega
set_option maxRecDepth 100000 in
set_option maxHeartbeats 2000000 in
theorem Row_any (A : List UInt8) (ns : List Nat) (b cap : Nat) (w : World) (hb : b < w.heap.size) (hA : A.length ≤ 100000) (hl : ns.length ≤ 100) (hn : ∀ n ∈ ns, n ≤ 1000000000)
    (hc : ∀ j (h : j < ns.length), w.cell? ⟨b, j, none⟩ = some (.int .i64 (ns[j] : Nat))) :
    Calls Tryz.prog 56 #[.string ⟨A.toArray⟩, .slice (some ⟨b, 0, none⟩) ns.length cap] w fun e w' => e = .returned (.string ⟨(rowL A ns).toArray⟩) ∧ Gr w w' := by
  have HC := Lib.hid hc
  have HL := Lib.hid (rowL_len hA hn)
  have HN := Lib.hid hn
  clear hc hA hn
  go_enter Tryz.func56, Tryz.ntmps56
  go_wp2
  go_loopw [0, 5] (fun q p wr => ∃ (i : Nat) (B : List UInt8), p = .int .i64 i ∧ i ≤ ns.length ∧ q = .string ⟨B.toArray⟩ ∧ Hid (B = rowL A (ns.take i)) ∧ Gr w wr) (fun _ p _ => ns.length - (intOf p).toNat)
  case atStart => exact ⟨0, A, rfl, by omega, rfl, Lib.hid rfl, Gr.refl _⟩
  case round =>
    obtain ⟨i, B, rfl, hi, rfl, HB, gr⟩ := hrel
    by_cases hil : i < ns.length
    · have hil' : (i : Int) < ns.length := by omega
      have hcell := (gr.cells.1 b i hb).trans (HC.out i hil)
      have hlen := HL.out i hi
      rw [← HB.out] at hlen
      have hlt : b < wr.heap.size := Nat.lt_of_lt_of_le hb gr.b.size
      have HS := Lib.hid (rowL_succ (A := A) hil)
      obtain ⟨n, hn⟩ : ∃ n, ns[i] = n := ⟨_, rfl⟩
      have hn9 : n ≤ 1000000000 := by rw [← hn]; exact HN.out _ (List.getElem_mem _)
      rw [hn] at hcell HS
      clear hn
      have hd := dec_len20 n hn9
      have DG := Lib.hid (fun w => digits_any n w hn9)
      generalize Lib.decDigits n = C at DG hd HS
      have l1 : ¬ 9223372036854775807 < B.length + 1 := by omega
      have l2 : ¬ 9223372036854775807 < B.length + 1 + C.length := by omega
      clear hn9
      go_wp2_with fail
      refine (DG.out _).mono ?_
      rintro e w1 ⟨rfl, hg1⟩
      go_wp2
      refine ⟨⟨i+1, B ++ 32 :: C, by simp, by omega, ?_, Lib.hid (by rw [HS.out, ← HB.out]), gr.trans hg1⟩, by simp [intOf]; omega⟩
      first | (congr 1; apply ByteArray.ext; simp; done) | (simp; done) | trace_state
    · have hil' : ¬ (i : Int) < ns.length := by omega
      obtain rfl : i = ns.length := by omega
      have hB := HB.out
      rw [List.take_length] at hB
      subst hB
      go_wp2
      go_ret
      exact ⟨rfl, gr⟩
end
end Go.Proofs.YthmimjofdmnakaaGreatDoor
