/- Plain laws of numerals: what is written is read again. No program in sight. -/
import Derived.Lib.ItoaNum
import Derived.Lib.ItoaMem
import Derived.Lib.AtoiAll
import Derived.Lib.IndexMore
namespace Go.Proofs.YtconhikflghkdaaGreatDoor
open Go
theorem u8 {k : Nat} (h : k < 256) : (UInt8.ofNat k).toNat = k := UInt8.toNat_ofNat_of_lt (show k < UInt8.size from h)
theorem dec_digits : ∀ (k u : Nat), u ≤ k → ∀ c ∈ Lib.decDigits u, 48 ≤ c.toNat ∧ c.toNat ≤ 57
  | 0, u, h, c, hc => by
    obtain rfl : u = 0 := by omega
    rw [Lib.decDigits, dif_pos (by omega)] at hc
    simp at hc
    subst hc
    decide
  | k+1, u, h, c, hc => by
    by_cases hu : u < 10
    · rw [Lib.decDigits, dif_pos hu] at hc
      obtain rfl := List.mem_singleton.1 hc
      rw [u8 (by omega)]
      omega
    · rw [Lib.decDigits, dif_neg hu] at hc
      rcases List.mem_append.1 hc with hc | hc
      · exact dec_digits k (u/10) (by omega) c hc
      · obtain rfl := List.mem_singleton.1 hc
        rw [u8 (by omega)]
        omega
theorem dec_ne (u : Nat) : Lib.decDigits u ≠ [] := by
  rw [Lib.decDigits]
  split <;> simp
theorem parse_snoc : ∀ (l : List UInt8) (acc : Nat) (c : UInt8), Lib.parseUint10 acc (l ++ [c]) = match Lib.parseUint10 acc l with | .ok v => Lib.parseUint10 v [c] | e => e
  | [], acc, c => rfl
  | b :: l, acc, c => by
    simp only [List.cons_append, Lib.parseUint10]
    split
    · split
      · rfl
      · split
        · rfl
        · exact parse_snoc l _ c
    · rfl
theorem parse_dec : ∀ (k u : Nat), u ≤ k → u ≤ 1000000000000000000 → Lib.parseUint10 0 (Lib.decDigits u) = .ok u
  | 0, u, h, _ => by
    obtain rfl : u = 0 := by omega
    decide +kernel
  | k+1, u, h, hu => by
    by_cases h10 : u < 10
    · rw [Lib.decDigits, dif_pos h10]
      have e : (UInt8.ofNat (48 + u)).toNat = 48 + u := u8 (by omega)
      simp only [Lib.parseUint10, e]
      rw [if_pos (by omega), if_neg (by omega), if_neg (by omega)]
      simp
    · rw [Lib.decDigits, dif_neg h10, parse_snoc, parse_dec k (u/10) (by omega) (by omega)]
      have e : (UInt8.ofNat (48 + u % 10)).toNat = 48 + u % 10 := u8 (by omega)
      simp only [Lib.parseUint10, e]
      rw [if_pos (by omega), if_neg (by omega), if_neg (by omega)]
      congr 1
      omega
theorem dec_cons (u : Nat) : ∃ c l, Lib.decDigits u = c :: l ∧ 48 ≤ c.toNat ∧ c.toNat ≤ 57 := by
  cases h : Lib.decDigits u with
  | nil => exact absurd h (dec_ne u)
  | cons c l => exact ⟨c, l, rfl, dec_digits u u (Nat.le_refl _) c (by rw [h]; simp)⟩
theorem atoi_itoa (n : Int) (h1 : -1000000000 ≤ n) (h2 : n ≤ 1000000000) : Lib.atoiAll (Lib.itoa n) = .ok n := by
  unfold Lib.itoa
  split
  · rename_i hn
    simp only [Lib.atoiAll]
    have e : (45 : UInt8).toNat = 45 := rfl
    rw [e, if_pos (.inr rfl)]
    unfold Lib.parseMag
    rw [if_neg (dec_ne _), parse_dec _ _ (Nat.le_refl _) (by omega)]
    simp only
    rw [if_neg (by omega), if_neg (by omega), if_pos trivial]
    congr 1
    omega
  · rename_i hn
    obtain ⟨c, l, hc, c1, c2⟩ := dec_cons n.toNat
    have hp := parse_dec _ n.toNat (Nat.le_refl _) (by omega)
    rw [hc] at hp ⊢
    simp only [Lib.atoiAll]
    rw [if_neg (by omega)]
    unfold Lib.parseMag
    rw [if_neg (by simp), hp]
    simp only
    rw [if_neg (by omega), if_neg (by omega), if_neg (by omega)]
    congr 1
    omega
theorem itoa_no (n : Int) : (47 : UInt8) ∉ Lib.itoa n := by
  have hd : ∀ u, (47 : UInt8) ∉ Lib.decDigits u := fun u h => by
    have := dec_digits u u (Nat.le_refl _) 47 h
    have e : (47 : UInt8).toNat = 47 := rfl
    omega
  unfold Lib.itoa
  split
  · intro h
    rcases List.mem_cons.1 h with h | h
    · exact absurd h (by decide)
    · exact hd _ h
  · exact hd _
theorem index_no : ∀ (l : List UInt8), (47 : UInt8) ∉ l → Lib.index l [47] = -1
  | [], _ => rfl
  | b :: l, h => by
    have hb : ¬ (47 : UInt8) = b := fun e => h (by simp [e])
    have hl := index_no l (fun hm => h (by simp [hm]))
    simp [Lib.index, hl, hb]
theorem index_at : ∀ (l m : List UInt8), (47 : UInt8) ∉ l → Lib.index (l ++ 47 :: m) [47] = l.length
  | [], m, _ => by simp [Lib.index]
  | b :: l, m, h => by
    have hb : ¬ (47 : UInt8) = b := fun e => h (by simp [e])
    have hl := index_at l m (fun hm => h (by simp [hm]))
    simp only [List.cons_append, Lib.index, hl]
    simp [hb]
theorem cut_no {l : List UInt8} (h : (47 : UInt8) ∉ l) : Lib.cut l [47] = (l, [], false) := by
  unfold Lib.cut
  rw [index_no l h, if_neg (by omega)]
theorem cut_at {l m : List UInt8} (h : (47 : UInt8) ∉ l) : Lib.cut (l ++ 47 :: m) [47] = (l, m, true) := by
  unfold Lib.cut
  rw [index_at l m h, if_pos (by omega)]
  simp
/-- what Atoi gives, whatever it says besides -/
def atoiV (l : List UInt8) : Int := match Lib.atoiAll l with | .ok v => v | .range => Lib.atoiSat l | _ => 0
theorem atoiV_itoa (n : Int) (h1 : -1000000000 ≤ n) (h2 : n ≤ 1000000000) : atoiV (Lib.itoa n) = n := by simp [atoiV, atoi_itoa n h1 h2]
/-- what may be meant by a text -/
def pN (s : List UInt8) : Int := atoiV (Lib.cut s [47]).1
def pD (s : List UInt8) : Int := if (Lib.cut s [47]).2.2 then atoiV (Lib.cut s [47]).2.1 else 1
/-- the reference's way to read: sign, which part, the parts -/
def rdS (st : Int × Bool × Int × Int) (c : UInt8) : Int × Bool × Int × Int :=
  let s := if c.toNat = 45 then -1 else st.1
  let at' := if c.toNat = 47 then true else st.2.1
  let d := (c.toNat : Int) - 48
  let dig := 48 ≤ c.toNat ∧ c.toNat ≤ 57
  (s, at', if dig ∧ at' = false then min (10*st.2.2.1 + d) 10000000000 else st.2.2.1, if dig ∧ at' = true then min (10*st.2.2.2 + d) 10000000000 else st.2.2.2)
def rdF (s : List UInt8) : Int × Bool × Int × Int := s.foldl rdS (1, false, 0, 0)
def qS (s : List UInt8) : Int × Bool × Int × Int := if s.length ≤ 20 then rdF s else (1, false, 0, 0)
def qN (s : List UInt8) : Int := (qS s).1 * (qS s).2.2.1
def qD (s : List UInt8) : Int := if (qS s).2.1 then (qS s).2.2.2 else 1
theorem rd_dec0 (g y : Int) : ∀ (k u : Nat), u ≤ k → u ≤ 1000000000 → (Lib.decDigits u).foldl rdS (g, false, 0, y) = (g, false, (u : Int), y)
  | 0, u, h, _ => by
    obtain rfl : u = 0 := by omega
    rw [Lib.decDigits, dif_pos (by omega)]
    simp [rdS]
    decide
  | k+1, u, h, hu => by
    by_cases h10 : u < 10
    · rw [Lib.decDigits, dif_pos h10]
      have e : (UInt8.ofNat (48 + u)).toNat = 48 + u := u8 (by omega)
      simp only [List.foldl_cons, List.foldl_nil, rdS, e]
      rw [if_neg (by omega), if_neg (by omega), if_pos ⟨by omega, rfl⟩, if_neg (by simp)]
      simp; omega
    · rw [Lib.decDigits, dif_neg h10, List.foldl_append, rd_dec0 g y k (u/10) (by omega) (by omega)]
      have e : (UInt8.ofNat (48 + u % 10)).toNat = 48 + u % 10 := u8 (by omega)
      simp only [List.foldl_cons, List.foldl_nil, rdS, e]
      rw [if_neg (by omega), if_neg (by omega), if_pos ⟨by omega, rfl⟩, if_neg (by simp)]
      simp; omega
theorem rd_dec1 (g x : Int) : ∀ (k u : Nat), u ≤ k → u ≤ 1000000000 → (Lib.decDigits u).foldl rdS (g, true, x, 0) = (g, true, x, (u : Int))
  | 0, u, h, _ => by
    obtain rfl : u = 0 := by omega
    rw [Lib.decDigits, dif_pos (by omega)]
    simp [rdS]
    decide
  | k+1, u, h, hu => by
    by_cases h10 : u < 10
    · rw [Lib.decDigits, dif_pos h10]
      have e : (UInt8.ofNat (48 + u)).toNat = 48 + u := u8 (by omega)
      simp only [List.foldl_cons, List.foldl_nil, rdS, e]
      rw [if_neg (by omega), if_neg (by omega), if_neg (by simp), if_pos ⟨by omega, rfl⟩]
      simp; omega
    · rw [Lib.decDigits, dif_neg h10, List.foldl_append, rd_dec1 g x k (u/10) (by omega) (by omega)]
      have e : (UInt8.ofNat (48 + u % 10)).toNat = 48 + u % 10 := u8 (by omega)
      simp only [List.foldl_cons, List.foldl_nil, rdS, e]
      rw [if_neg (by omega), if_neg (by omega), if_neg (by simp), if_pos ⟨by omega, rfl⟩]
      simp; omega
theorem rd_itoa (a : Int) (a1 : -1000000000 ≤ a) (a2 : a ≤ 1000000000) : (Lib.itoa a).foldl rdS (1, false, 0, 0) = (if a < 0 then -1 else 1, false, (a.natAbs : Int), 0) := by
  unfold Lib.itoa
  split
  · rename_i h
    have e : rdS (1, false, 0, 0) 45 = (-1, false, 0, 0) := by decide
    rw [List.foldl_cons, e, rd_dec0 _ _ _ _ (Nat.le_refl _) (by omega)]
  · rename_i h
    rw [rd_dec0 _ _ _ _ (Nat.le_refl _) (by omega)]
    simp; omega
end Go.Proofs.YtconhikflghkdaaGreatDoor
