/- Plain laws: the Dens tried one after the other, the best size, the sizes that serve. No program in sight. -/
import Derived.Test.YtconhikflghkdaaDoorMathNear
namespace Go.Proofs.YtconhikflghkdaaDoor.Rm
/-- no Den below that of the simplest fraction serves -/
theorem PS.upto {ln ld hn hd xn xd k : Int} (hl : 1 ≤ ld) (hh : 1 ≤ hd) (h : PS ln ld hn hd xn xd) (k1 : 1 ≤ k) (hk : k < xd) : fl (hn*k) hd < cl (ln*k) ld := by
  have c := @le_cl (ln*k) ld hl
  have f := @fl_le (hn*k) hd hh
  by_cases e : fl (hn*k) hd < cl (ln*k) ld
  · exact e
  · exfalso
    have m : cl (ln*k) ld * hd ≤ fl (hn*k) hd * hd := mulle (by omega) (by omega)
    have := h.md (cl (ln*k) ld) k k1 (by omega) (by omega)
    omega
/-- the simplest fraction's Den serves, and this is its Num -/
theorem PS.at {ln ld hn hd xn xd : Int} (hl : 1 ≤ ld) (hh : 1 ≤ hd) (h : PS ln ld hn hd xn xd) : cl (ln*xd) ld ≤ fl (hn*xd) hd ∧ max (cl (ln*xd) ld) (min 0 (fl (hn*xd) hd)) = xn := by
  have c := @cl_le (ln*xd) ld xn hl h.lo
  have f := @le_fl (hn*xd) hd xn hh h.hi
  refine ⟨by omega, ?_⟩
  have c2 := @le_cl (ln*xd) ld hl
  have f2 := @fl_le (hn*xd) hd hh
  generalize cl (ln*xd) ld = a at *
  generalize fl (hn*xd) hd = b at *
  have key : ∀ m, a ≤ m → m ≤ b → xn.natAbs ≤ m.natAbs := fun m h1 h2 => by
    have e1 : a*ld ≤ m*ld := mulle h1 (by omega)
    have e2 : m*hd ≤ b*hd := mulle h2 (by omega)
    exact h.mn m xd h.d1 (by omega) (by omega)
  by_cases p : 0 ≤ a
  · have := key a (by omega) (by omega); omega
  · by_cases q : 0 ≤ b
    · have := key 0 (by omega) (by omega); omega
    · have := key b (by omega) (by omega); omega
/-- the neighbours of a fraction lie on one side of 0 -/
theorem Nb.side {n d an ad bn bd : Int} (h : Nb n d an ad bn bd) (hd : 2 ≤ d) : (0 ≤ an ∧ 0 ≤ bn) ∨ (an ≤ 0 ∧ bn ≤ 0) := by
  have h1 := h.ab1
  obtain ⟨a1, b1, rfl, rfl, h2⟩ := h
  by_cases p : 0 ≤ an
  · left
    refine ⟨p, ?_⟩
    have e : 0 ≤ an*bd := Int.mul_nonneg p (by omega)
    have : 0 < bn*ad := by omega
    have := posl this (by omega)
    omega
  · right
    refine ⟨by omega, ?_⟩
    have e : an*bd ≤ -1*bd := mulle (by omega) (by omega)
    by_cases q : bn ≤ 0
    · exact q
    · have : 1*ad ≤ bn*ad := mulle (by omega) (by omega)
      omega
/-- a fraction of the range whose neighbours lie outside is the simplest one -/
theorem PS.of_nb {ln ld hn hd n d an ad bn bd : Int} (hl : 1 ≤ ld) (hh : 1 ≤ hd) (h : Nb n d an ad bn bd) (d2 : 2 ≤ d) (lo : ln*d ≤ n*ld) (hi : n*hd ≤ hn*d) (na : an*ld < ln*ad) (nb : hn*bd < bn*hd) : PS ln ld hn hd n d := by
  have h1 := h.ab1
  have a1 := h.a1
  have b1 := h.b1
  have key : ∀ yn yd : Int, 1 ≤ yd → ln*yd ≤ yn*ld → yn*hd ≤ hn*yd → an*yd < yn*ad ∧ yn*bd < bn*yd := by
    intro yn yd y1 y2 y3
    constructor
    · have e1 : (an*ld)*yd < (ln*ad)*yd := Int.mul_lt_mul_of_pos_right na (by omega)
      have e2 : (ln*yd)*ad ≤ (yn*ld)*ad := mulle y2 (by omega)
      have e3 : (an*yd)*ld < (yn*ad)*ld := by grind
      exact ltmul e3 (by omega)
    · have e1 : (hn*bd)*yd < (bn*hd)*yd := Int.mul_lt_mul_of_pos_right nb (by omega)
      have e2 : (yn*hd)*bd ≤ (hn*yd)*bd := mulle y3 (by omega)
      have e3 : (yn*bd)*hd < (bn*yd)*hd := by grind
      exact ltmul e3 (by omega)
  refine ⟨by omega, lo, hi, ?_, ?_⟩
  · intro yn yd y1 y2 y3
    obtain ⟨k1, k2⟩ := key yn yd y1 y2 y3
    have := adj_sum h1 a1 b1 k1 k2
    have := h.sd
    omega
  · intro yn yd y1 y2 y3
    obtain ⟨k1, k2⟩ := key yn yd y1 y2 y3
    have s := h.side d2
    have sn := h.sn
    have e' : yn = (yn*ad - an*yd)*bn + (bn*yd - yn*bd)*an := by grind
    generalize hu : yn*ad - an*yd = u at *
    generalize hv : bn*yd - yn*bd = v at *
    rcases s with ⟨s1, s2⟩ | ⟨s1, s2⟩
    · have p1 : 1*bn ≤ u*bn := mulle (by omega) s2
      have p2 : 1*an ≤ v*an := mulle (by omega) s1
      omega
    · have p1 : 1*(-bn) ≤ u*(-bn) := mulle (by omega) (by omega)
      have p2 : 1*(-an) ≤ v*(-an) := mulle (by omega) (by omega)
      simp only [Int.mul_neg] at p1 p2
      omega
/-- the simplest fraction's neighbours lie outside -/
theorem PS.nb {ln ld hn hd n d an ad bn bd : Int} (hl : 1 ≤ ld) (hh : 1 ≤ hd) (p : PS ln ld hn hd n d) (h : Nb n d an ad bn bd) : an*ld < ln*ad ∧ hn*bd < bn*hd := by
  have h1 := h.ab1
  have h2 := h.ad1
  have h3 := h.bd1
  have a1 := h.a1
  have b1 := h.b1
  have sd := h.sd
  constructor
  · by_cases e : an*ld < ln*ad
    · exact e
    · exfalso
      have := p.md an ad a1 (by omega) (by
        have e1 : (an*hd)*d ≤ (hn*ad)*d := by
          have q := mulle p.hi (show 0 ≤ ad by omega)
          have : an*d ≤ n*ad := by omega
          have q2 := mulle this (show 0 ≤ hd by omega)
          grind
        exact lemul e1 (by omega))
      omega
  · by_cases e : hn*bd < bn*hd
    · exact e
    · exfalso
      have := p.md bn bd b1 (by
        have e1 : (ln*bd)*d ≤ (bn*ld)*d := by
          have q := mulle p.lo (show 0 ≤ bd by omega)
          have : n*bd ≤ bn*d := by omega
          have q2 := mulle this (show 0 ≤ ld by omega)
          grind
        exact lemul e1 (by omega)) (by omega)
      omega
/-- whole numbers: the next one to 0 lies outside -/
theorem PS.whole {ln ld hn hd n : Int} (hl : 1 ≤ ld) (hh : 1 ≤ hd) (lo : ln ≤ n*ld) (hi : n*hd ≤ hn) :
    PS ln ld hn hd n 1 ↔ (n = 0 ∨ ¬ (ln ≤ (if n < 0 then n+1 else n-1)*ld ∧ (if n < 0 then n+1 else n-1)*hd ≤ hn)) := by
  constructor
  · intro p
    by_cases z : n = 0
    · exact .inl z
    · right
      rintro ⟨h1, h2⟩
      by_cases s : n < 0
      · rw [if_pos s] at h1 h2
        have := p.mn (n+1) 1 (by omega) (by omega) (by omega)
        omega
      · rw [if_neg s] at h1 h2
        have := p.mn (n-1) 1 (by omega) (by omega) (by omega)
        omega
  · rintro h
    refine ⟨by omega, by omega, by omega, fun _ _ y1 _ _ => y1, ?_⟩
    intro yn yd y1 y2 y3
    rcases h with rfl | h
    · simp
    · by_cases z : n = 0
      · subst z; simp
      · by_cases q : n.natAbs ≤ yn.natAbs
        · exact q
        · exfalso
          apply h
          -- |yn| < |n|
          by_cases s : n < 0
          · rw [if_pos s]
            refine ⟨?_, ?_⟩
            · have : n*ld ≤ (n+1)*ld := mulle (by omega) (by omega)
              omega
            · -- (n+1)*hd ≤ hn : since yn ≥ n+1.. yn*hd ≤ hn*yd
              by_cases t : 0 ≤ hn
              · have : (n+1)*hd ≤ 0*hd := mulle (by omega) (by omega)
                omega
              · have e1 : hn*yd ≤ hn*1 := by
                  have := mulle y1 (show 0 ≤ -hn by omega)
                  rw [Int.mul_neg, Int.mul_neg] at this
                  rw [Int.mul_comm hn yd, Int.mul_comm hn 1]; omega
                have e2 : (n+1)*hd ≤ yn*hd := mulle (by omega) (by omega)
                omega
          · rw [if_neg s]
            refine ⟨?_, ?_⟩
            · by_cases t : ln ≤ 0
              · have : 0*ld ≤ (n-1)*ld := mulle (by omega) (by omega)
                omega
              · have e1 : ln*1 ≤ ln*yd := by
                  rw [Int.mul_comm ln 1, Int.mul_comm ln yd]; exact mulle y1 (by omega)
                have e2 : yn*ld ≤ (n-1)*ld := mulle (by omega) (by omega)
                omega
            · have : (n-1)*hd ≤ n*hd := mulle (by omega) (by omega)
              omega
/-- how far a casting lies below the wanted size, and above, times its Den -/
def msB (c d n want : Int) : Int := want*d - n*(d-c)
def msA (a b n want : Int) : Int := n*(b-a) - want*b
def msN (a b c d n want : Int) : Int := if 0 < msB c d n want * b - msA a b n want * d then msB c d n want else msA a b n want
def msD (a b c d n want : Int) : Int := if 0 < msB c d n want * b - msA a b n want * d then d else b
theorem msD_pos {a b c d n want : Int} (hb : 1 ≤ b) (hd : 1 ≤ d) : 1 ≤ msD a b c d n want := by unfold msD; split <;> omega
/-- miss of n against miss of m, times both Dens -/
def msX (a b c d want n m : Int) : Int := msN a b c d n want * msD a b c d m want - msN a b c d m want * msD a b c d n want
theorem ms_hi {a b c d n want : Int} (h : 2*want*b*d ≤ n*((d-c)*b+(b-a)*d)) : msN a b c d n want = msA a b n want ∧ msD a b c d n want = b := by
  have : ¬ 0 < msB c d n want * b - msA a b n want * d := by unfold msB msA; grind
  unfold msN msD
  rw [if_neg this, if_neg this]
  exact ⟨rfl, rfl⟩
theorem ms_lo {a b c d n want : Int} (h : n*((d-c)*b+(b-a)*d) < 2*want*b*d) : msN a b c d n want = msB c d n want ∧ msD a b c d n want = d := by
  have : 0 < msB c d n want * b - msA a b n want * d := by unfold msB msA; grind
  unfold msN msD
  rw [if_pos this, if_pos this]
  exact ⟨rfl, rfl⟩
/-- the first size of which a casting is at least as far above as below -/
def bsT (a b c d want : Int) : Int := cl (2*want*b*d) ((d-c)*b+(b-a)*d)
theorem bsE_pos {a b c d : Int} (hb : 1 ≤ b) (hd : 1 ≤ d) (hab : 1 ≤ b - a) (hcd : 1 ≤ d - c) : 1 ≤ (d-c)*b+(b-a)*d := by
  have := Int.mul_pos (show 0 < d-c by omega) (show 0 < b by omega)
  have := Int.mul_pos (show 0 < b-a by omega) (show 0 < d by omega)
  omega
theorem bsT_iff {a b c d want n : Int} (hb : 1 ≤ b) (hd : 1 ≤ d) (hab : 1 ≤ b - a) (hcd : 1 ≤ d - c) : bsT a b c d want ≤ n ↔ 2*want*b*d ≤ n*((d-c)*b+(b-a)*d) := by
  have e := bsE_pos hb hd hab hcd
  constructor
  · intro h
    have := @le_cl (2*want*b*d) _ e
    have := mulle h (show 0 ≤ (d-c)*b+(b-a)*d by omega)
    unfold bsT at this
    omega
  · intro h
    exact cl_le e h
theorem bsT_iff' {a b c d want n : Int} (hb : 1 ≤ b) (hd : 1 ≤ d) (hab : 1 ≤ b - a) (hcd : 1 ≤ d - c) : bsT a b c d want ≤ n ↔ msB c d n want * b - msA a b n want * d ≤ 0 := by
  rw [bsT_iff hb hd hab hcd]
  have : msB c d n want * b - msA a b n want * d = 2*want*b*d - n*((d-c)*b+(b-a)*d) := by unfold msB msA; grind
  omega
/-- in front of the threshold the miss falls -/
theorem ms_fall {a b c d want n m : Int} (hd : 1 ≤ d) (hcd : 1 ≤ d - c) (hnm : n < m) (h : m*((d-c)*b+(b-a)*d) < 2*want*b*d) (e : 1 ≤ (d-c)*b+(b-a)*d) : 0 < msX a b c d want n m := by
  have hn : n*((d-c)*b+(b-a)*d) < 2*want*b*d := by
    have := mulle (show n ≤ m by omega) (show 0 ≤ (d-c)*b+(b-a)*d by omega)
    omega
  obtain ⟨e1, e2⟩ := ms_lo h
  obtain ⟨e3, e4⟩ := ms_lo hn
  unfold msX
  rw [e1, e2, e3, e4]
  unfold msB
  have : (want*d - n*(d-c))*d - (want*d - m*(d-c))*d = ((m-n)*(d-c))*d := by grind
  rw [this]
  exact Int.mul_pos (Int.mul_pos (by omega) (by omega)) (by omega)
/-- from the threshold on it rises -/
theorem ms_rise {a b c d want n m : Int} (hb : 1 ≤ b) (hab : 1 ≤ b - a) (hnm : n < m) (h : 2*want*b*d ≤ n*((d-c)*b+(b-a)*d)) (e : 1 ≤ (d-c)*b+(b-a)*d) : msX a b c d want n m < 0 := by
  have hm : 2*want*b*d ≤ m*((d-c)*b+(b-a)*d) := by
    have := mulle (show n ≤ m by omega) (show 0 ≤ (d-c)*b+(b-a)*d by omega)
    omega
  obtain ⟨e1, e2⟩ := ms_hi h
  obtain ⟨e3, e4⟩ := ms_hi hm
  unfold msX
  rw [e1, e2, e3, e4]
  unfold msA
  have : (n*(b-a) - want*b)*b - (m*(b-a) - want*b)*b = -(((m-n)*(b-a))*b) := by grind
  rw [this]
  have := Int.mul_pos (Int.mul_pos (show 0 < m - n by omega) (show 0 < b - a by omega)) (show 0 < b by omega)
  omega
/-- less and at most of fractions go on -/
theorem cross_trans {x dx y dy z dz : Int} (hx : 1 ≤ dx) (hy : 1 ≤ dy) (hz : 1 ≤ dz) (h1 : x*dy - y*dx ≤ 0) (h2 : y*dz - z*dy ≤ 0) : x*dz - z*dx ≤ 0 ∧ (x*dy - y*dx < 0 ∨ y*dz - z*dy < 0 → x*dz - z*dx < 0) := by
  have p1 : (x*dy - y*dx)*dz ≤ 0*dz := mulle h1 (by omega)
  have p2 : (y*dz - z*dy)*dx ≤ 0*dx := mulle h2 (by omega)
  have e : (x*dz - z*dx)*dy = (x*dy - y*dx)*dz + (y*dz - z*dy)*dx := by grind
  constructor
  · have : (x*dz - z*dx)*dy ≤ 0*dy := by omega
    exact lemul this (by omega)
  · intro h
    have : (x*dz - z*dx)*dy < 0*dy := by
      rcases h with h | h
      · have := Int.mul_lt_mul_of_pos_right h (show 0 < dz by omega); omega
      · have := Int.mul_lt_mul_of_pos_right h (show 0 < dx by omega); omega
    exact ltmul this (by omega)
/-- n is the least of the sizes up to top with the least miss -/
structure IsBest (a b c d want top n : Int) : Prop where
  n1 : 1 ≤ n
  nt : n ≤ top
  le : ∀ m, 1 ≤ m → m ≤ top → msX a b c d want n m ≤ 0
  lt : ∀ m, 1 ≤ m → m < n → msX a b c d want n m < 0
theorem msX_neg {a b c d want n m : Int} : msX a b c d want n m = - msX a b c d want m n := by unfold msX; omega
theorem IsBest.unique {a b c d want top n m : Int} (h : IsBest a b c d want top n) (g : IsBest a b c d want top m) : n = m := by
  by_cases e : n < m
  · have := g.lt n h.n1 e
    have := h.le m g.n1 g.nt
    rw [msX_neg] at this
    omega
  · by_cases e2 : m < n
    · have := h.lt m g.n1 e2
      have := g.le n h.n1 h.nt
      rw [msX_neg] at this
      omega
    · omega
/-- the reference's loop: the best of the sizes 1 .. k+1 -/
def rbest (a b c d want : Int) : Nat → Int
  | 0 => 1
  | k+1 => if msN a b c d ((k : Int)+1+1) want * msD a b c d (rbest a b c d want k) want < msN a b c d (rbest a b c d want k) want * msD a b c d ((k : Int)+1+1) want then (k : Int)+1+1 else rbest a b c d want k
theorem rbest_is {a b c d want : Int} (hb : 1 ≤ b) (hd : 1 ≤ d) (k : Nat) : IsBest a b c d want ((k : Int)+1) (rbest a b c d want k) := by
  induction k with
  | zero =>
    have z : msX a b c d want 1 1 = 0 := by unfold msX; omega
    refine ⟨by simp [rbest], by simp [rbest], ?_, ?_⟩
    · intro m h1 h2
      have : m = 1 := by omega
      subst this
      simp only [rbest]; omega
    · intro m h1 h2; simp only [rbest] at h2; omega
  | succ k ih =>
    have pn := fun m => @msD_pos a b c d m want hb hd
    have ek : ((k+1 : Nat) : Int) + 1 = (k : Int)+1+1 := by omega
    rw [ek]
    simp only [rbest]
    generalize rbest a b c d want k = r at *
    split
    · rename_i hlt
      have hx : msX a b c d want ((k : Int)+1+1) r < 0 := by unfold msX; omega
      have all : ∀ m, 1 ≤ m → m ≤ (k : Int)+1 → msX a b c d want ((k : Int)+1+1) m < 0 := fun m h1 h2 =>
        (cross_trans (pn _) (pn r) (pn m) (show msX a b c d want ((k : Int)+1+1) r ≤ 0 by omega) (ih.le m h1 h2)).2 (.inl hx)
      refine ⟨by omega, by omega, ?_, fun m h1 h2 => all m h1 (by omega)⟩
      intro m h1 h2
      by_cases e : m = (k : Int)+1+1
      · subst e; unfold msX; omega
      · have := all m h1 (by omega); omega
    · rename_i hlt
      have hx : msX a b c d want r ((k : Int)+1+1) ≤ 0 := by unfold msX; omega
      refine ⟨ih.n1, by have := ih.nt; omega, ?_, ih.lt⟩
      intro m h1 h2
      by_cases e : m = (k : Int)+1+1
      · subst e; exact hx
      · exact ih.le m h1 (by omega)
/-- what rule.Best finds -/
def best (a b c d want : Int) : Int :=
  if 1 < min (bsT a b c d want) 1000000 ∧ msX a b c d want (min (bsT a b c d want) 1000000 - 1) (min (bsT a b c d want) 1000000) ≤ 0 then min (bsT a b c d want) 1000000 - 1 else min (bsT a b c d want) 1000000
theorem bsT_pos {a b c d want : Int} (hb : 1 ≤ b) (hd : 1 ≤ d) (hab : 1 ≤ b - a) (hcd : 1 ≤ d - c) (hw : 1 ≤ want) : 1 ≤ bsT a b c d want := by
  have e := bsE_pos hb hd hab hcd
  have h1 := @le_cl (2*want*b*d) _ e
  have q : 0 < 2*want*b*d := Int.mul_pos (Int.mul_pos (by omega) (by omega)) (by omega)
  have : 0 < cl (2*want*b*d) ((d-c)*b+(b-a)*d) * ((d-c)*b+(b-a)*d) := by omega
  have := posl this (by omega)
  unfold bsT; omega
theorem best_is {a b c d want : Int} (hb : 1 ≤ b) (hd : 1 ≤ d) (hab : 1 ≤ b - a) (hcd : 1 ≤ d - c) (hw : 1 ≤ want) : IsBest a b c d want 1000000 (best a b c d want) := by
  have e := bsE_pos hb hd hab hcd
  have t1 := bsT_pos hb hd hab hcd hw
  have pn := fun m => @msD_pos a b c d m want hb hd
  have ti := fun n => @bsT_iff a b c d want n hb hd hab hcd
  have z : ∀ n, msX a b c d want n n = 0 := fun n => by unfold msX; omega
  unfold best
  generalize bsT a b c d want = T at *
  have rise : ∀ n m, T ≤ n → n ≤ m → msX a b c d want n m ≤ 0 := fun n m h1 h2 => by
    by_cases q : n = m
    · subst q; rw [z]; omega
    · have := ms_rise (want := want) hb hab (show n < m by omega) ((ti n).1 h1) e; omega
  have fall : ∀ n m, n < m → m < T → msX a b c d want m n < 0 := fun n m h1 h2 => by
    have := ms_fall (a := a) (b := b) (want := want) hd hcd h1 (by have := (ti m).2; omega) e
    rw [msX_neg]; omega
  split
  · rename_i h
    obtain ⟨h1, h2⟩ := h
    by_cases hT : T ≤ 1000000
    · have em : min T 1000000 = T := by omega
      rw [em] at h1 h2 ⊢
      refine ⟨by omega, by omega, ?_, fun m m1 m2 => fall m (T-1) (by omega) (by omega)⟩
      intro m m1 m2
      by_cases q : m < T
      · by_cases q2 : m = T - 1
        · subst q2; rw [z]; omega
        · have := fall m (T-1) (by omega) (by omega); omega
      · exact (cross_trans (pn _) (pn T) (pn m) h2 (rise T m (by omega) (by omega))).1
    · have em : min T 1000000 = 1000000 := by omega
      rw [em] at h1 h2
      have := fall 999999 1000000 (by omega) (by omega)
      rw [msX_neg] at this
      have e9 : (1000000 : Int) - 1 = 999999 := rfl
      rw [e9] at h2
      omega
  · rename_i h
    by_cases hT : T ≤ 1000000
    · have em : min T 1000000 = T := by omega
      rw [em] at h ⊢
      have lts : ∀ m, 1 ≤ m → m < T → msX a b c d want T m < 0 := fun m m1 m2 => by
        have q : 0 < msX a b c d want (T-1) T := by
          have : ¬ msX a b c d want (T-1) T ≤ 0 := fun k => h ⟨by omega, k⟩
          omega
        have q' : msX a b c d want T (T-1) < 0 := by rw [msX_neg]; omega
        by_cases q2 : m = T - 1
        · subst q2; exact q'
        · exact (cross_trans (pn _) (pn (T-1)) (pn m) (show msX a b c d want T (T-1) ≤ 0 by omega) (show msX a b c d want (T-1) m ≤ 0 by have := fall m (T-1) (by omega) (by omega); omega)).2 (.inl q')
      refine ⟨by omega, by omega, ?_, lts⟩
      intro m m1 m2
      by_cases q : m < T
      · have := lts m m1 q; omega
      · exact rise T m (by omega) (by omega)
    · have em : min T 1000000 = 1000000 := by omega
      rw [em]
      refine ⟨by omega, by omega, ?_, fun m m1 m2 => fall m 1000000 m2 (by omega)⟩
      intro m m1 m2
      by_cases q : m = 1000000
      · subst q; rw [z]; omega
      · have := fall m 1000000 (by omega) (by omega); omega
theorem best_eq {a b c d want : Int} (hb : 1 ≤ b) (hd : 1 ≤ d) (hab : 1 ≤ b - a) (hcd : 1 ≤ d - c) (hw : 1 ≤ want) : rbest a b c d want 999999 = best a b c d want :=
  (rbest_is hb hd 999999).unique (best_is hb hd hab hcd hw)
example : best 1 100 1 50 1000 = 1015 := by decide
/-- the reference's loop over the sizes 1 .. k: the least and the greatest that serve; 0: none -/
def srv (a b c d low high n : Int) : Bool := decide (low*d ≤ n*(d-c)) && decide (n*(b-a) ≤ high*b)
def rsL (a b c d low high : Int) : Nat → Int
  | 0 => 0
  | k+1 => if srv a b c d low high ((k : Int)+1) = true ∧ rsL a b c d low high k = 0 then (k : Int)+1 else rsL a b c d low high k
def rsM (a b c d low high : Int) : Nat → Int
  | 0 => 0
  | k+1 => if srv a b c d low high ((k : Int)+1) = true then (k : Int)+1 else rsM a b c d low high k
/-- where exactly the sizes from L to M serve -/
theorem rs_eq {a b c d low high L M : Int} (hL : 1 ≤ L) (h : ∀ n : Int, 1 ≤ n → (srv a b c d low high n = true ↔ L ≤ n ∧ n ≤ M)) (k : Nat) :
    rsL a b c d low high k = (if L ≤ M ∧ L ≤ k then L else 0) ∧ rsM a b c d low high k = (if L ≤ M ∧ L ≤ k then min M k else 0) := by
  induction k with
  | zero =>
    have : ¬ (L ≤ M ∧ L ≤ ((0 : Nat) : Int)) := by omega
    rw [if_neg this, if_neg this]; exact ⟨rfl, rfl⟩
  | succ k ih =>
    obtain ⟨i1, i2⟩ := ih
    have ek : ((k+1 : Nat) : Int) = (k : Int) + 1 := by omega
    simp only [rsL, rsM]
    rw [i1, i2, ek]
    have := h ((k : Int)+1) (by omega)
    by_cases s : srv a b c d low high ((k : Int)+1) = true
    · obtain ⟨s1, s2⟩ := this.1 s
      constructor
      · by_cases q : L ≤ k
        · rw [if_pos (show L ≤ M ∧ L ≤ (k : Int) by omega), if_neg (show ¬ (srv a b c d low high ((k : Int)+1) = true ∧ L = 0) by omega), if_pos (by omega)]
        · rw [if_neg (show ¬ (L ≤ M ∧ L ≤ (k : Int)) by omega), if_pos ⟨s, rfl⟩, if_pos (by omega)]; omega
      · rw [if_pos s, if_pos (by omega)]; omega
    · have n1 : ¬ (L ≤ (k : Int)+1 ∧ (k : Int)+1 ≤ M) := fun q => s (this.2 q)
      constructor
      · rw [if_neg (show ¬ (srv a b c d low high ((k : Int)+1) = true ∧ (if L ≤ M ∧ L ≤ (k : Int) then L else 0) = 0) from fun q => s q.1)]
        by_cases q : L ≤ M ∧ L ≤ (k : Int)
        · rw [if_pos q, if_pos (by omega)]
        · rw [if_neg q, if_neg (by omega)]
      · rw [if_neg s]
        by_cases q : L ≤ M ∧ L ≤ (k : Int)
        · rw [if_pos q, if_pos (by omega)]; omega
        · rw [if_neg q, if_neg (by omega)]
theorem srv_iff {a b c d low high : Int} (hab : 1 ≤ b - a) (hcd : 1 ≤ d - c) (n : Int) : srv a b c d low high n = true ↔ cl (low*d) (d-c) ≤ n ∧ n ≤ fl (high*b) (b-a) := by
  unfold srv
  rw [Bool.and_eq_true, decide_eq_true_eq, decide_eq_true_eq]
  constructor
  · rintro ⟨h1, h2⟩
    exact ⟨cl_le hcd h1, le_fl hab h2⟩
  · rintro ⟨h1, h2⟩
    have := @le_cl (low*d) (d-c) hcd
    have := mulle h1 (show 0 ≤ d-c by omega)
    have := @fl_le (high*b) (b-a) hab
    have := mulle h2 (show 0 ≤ b-a by omega)
    omega
theorem fl_rest {n d : Int} (hd : 1 ≤ d) : 0 ≤ n - fl n d * d ∧ n - fl n d * d < d := by
  have h1 := @fl_le n d hd
  have h2 := @lt_fl n d hd
  have : (fl n d + 1)*d = fl n d * d + d := by grind
  omega
theorem terms_fuel : ∀ (k k' : Nat) (n d : Int), 1 ≤ d → d.toNat ≤ k → d.toNat ≤ k' → terms k n d = terms k' n d
  | 0, _, n, d, hd, h, _ => by omega
  | _, 0, n, d, hd, _, h => by omega
  | k+1, k'+1, n, d, hd, h1, h2 => by
    have := @fl_rest n d hd
    simp only [terms]
    split
    · rfl
    · rename_i he
      rw [terms_fuel k k' d (n - fl n d * d) (by omega) (by omega) (by omega)]
/-- the terms of a fraction -/
def tm (n d : Int) : List Int := terms d.toNat n d
theorem tm_eq {n d : Int} (hd : 1 ≤ d) : tm n d = if fl n d * d = n then [fl n d] else fl n d :: tm d (n - fl n d * d) := by
  have h := @fl_rest n d hd
  unfold tm
  obtain ⟨k, hk⟩ : ∃ k, d.toNat = k + 1 := ⟨d.toNat - 1, by omega⟩
  rw [hk]
  simp only [terms]
  split
  · rfl
  · rename_i he
    rw [terms_fuel k (n - fl n d * d).toNat d (n - fl n d * d) (by omega) (by omega) (by omega)]
theorem tm_last {n d : Int} (hd : 1 ≤ d) (h : fl n d * d = n) : tm n d = [fl n d] := by rw [tm_eq hd, if_pos h]
theorem tm_cons {n d : Int} (hd : 1 ≤ d) (h : ¬ fl n d * d = n) : tm n d = fl n d :: tm d (n - fl n d * d) := by rw [tm_eq hd, if_neg h]
theorem tm_len : ∀ (k : Nat) (n d : Int), 1 ≤ d → d < 2^k → (tm n d).length + 1 ≤ 2*k
  | 0, n, d, h1, h2 => by simp at h2; omega
  | k+1, n, d, h1, h2 => by
    by_cases h : fl n d * d = n
    · rw [tm_last h1 h]; simp; omega
    · have r := @fl_rest n d h1
      rw [tm_cons h1 h]
      by_cases h' : fl d (n - fl n d * d) * (n - fl n d * d) = d
      · rw [tm_last (by omega) h']
        simp
        have : k ≠ 0 := by
          rintro rfl
          simp at h2
          omega
        omega
      · have r' := @fl_rest d (n - fl n d * d) (by omega)
        rw [tm_cons (by omega) h']
        have f1 : 1 ≤ fl d (n - fl n d * d) := le_fl (by omega) (by omega)
        have f2 : 1*(n - fl n d * d) ≤ fl d (n - fl n d * d) * (n - fl n d * d) := mulle f1 (by omega)
        have := tm_len k (n - fl n d * d) (d - fl d (n - fl n d * d) * (n - fl n d * d)) (by omega) (by
          have : (2 : Int)^(k+1) = 2 * 2^k := by rw [Int.pow_succ]; omega
          omega)
        simp at this ⊢
        omega
theorem tm_len40 {n d : Int} (h1 : 1 ≤ d) (h2 : d ≤ 1000000) : (tm n d).length ≤ 39 := by
  have := tm_len 20 n d h1 (by have : (2 : Int)^20 = 1048576 := by decide
                               omega)
  omega
end Go.Proofs.YtconhikflghkdaaDoor.Rm
