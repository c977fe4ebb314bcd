/- Plain laws of fractions: simplest ones, neighbours, brackets, convergents, the search in the tree of fractions, lowest terms. No program in sight. -/
namespace Go.Proofs.YtconhikflghkdaaGreatDoor.Rm
section
theorem mulle {a b c : Int} (h : a ≤ b) (hc : 0 ≤ c) : a*c ≤ b*c := Int.mul_le_mul_of_nonneg_right h hc
theorem ltmul {a b c : Int} (h : a*c < b*c) (hc : 0 ≤ c) : a < b := Int.lt_of_mul_lt_mul_right h hc
theorem lemul {a b c : Int} (h : a*c ≤ b*c) (hc : 0 < c) : a ≤ b := Int.le_of_mul_le_mul_right h hc
theorem posl {a b : Int} (h : 0 < a*b) (hb : 0 < b) : 0 < a := by
  have := @ltmul 0 a b (by simpa using h) (by omega); exact this

/-- x lies in the range, and no other fraction of the range has a lesser part -/
structure PS (ln ld hn hd xn xd : Int) : Prop where
  d1 : 1 ≤ xd
  lo : ln*xd ≤ xn*ld
  hi : xn*hd ≤ hn*xd
  md : ∀ yn yd : Int, 1 ≤ yd → ln*yd ≤ yn*ld → yn*hd ≤ hn*yd → xd ≤ yd
  mn : ∀ yn yd : Int, 1 ≤ yd → ln*yd ≤ yn*ld → yn*hd ≤ hn*yd → xn.natAbs ≤ yn.natAbs

theorem PS.unique {ln ld hn hd xn xd zn zd : Int} (h : PS ln ld hn hd xn xd) (g : PS ln ld hn hd zn zd) : xn = zn ∧ xd = zd := by
  have d : xd = zd := by
    have := h.md zn zd g.d1 g.lo g.hi
    have := g.md xn xd h.d1 h.lo h.hi
    omega
  subst d
  have a1 := h.mn zn xd g.d1 g.lo g.hi
  have a2 := g.mn xn xd h.d1 h.lo h.hi
  refine ⟨?_, rfl⟩
  by_cases e : xn = zn
  · exact e
  · exfalso
    have e2 : zn = -xn := by omega
    subst e2
    -- 0/1 lies in the range
    have p1 := h.lo
    have p2 := g.lo
    have p3 := h.hi
    have p4 := g.hi
    have q1 : ln*1 ≤ 0*ld := by
      have : ln * xd ≤ 0 * xd := by
        have : -xn*ld = -(xn*ld) := Int.neg_mul _ _
        rw [this] at p2; omega
      have := lemul this (by have := h.d1; omega)
      omega
    have q2 : 0*hd ≤ hn*1 := by
      have : 0 * xd ≤ hn * xd := by
        have : -xn*hd = -(xn*hd) := Int.neg_mul _ _
        rw [this] at p4; omega
      have := lemul this (by have := h.d1; omega)
      omega
    have := h.mn 0 1 (by omega) q1 q2
    omega

theorem PS.neg {ln ld hn hd xn xd : Int} (h : PS (-hn) hd (-ln) ld xn xd) : PS ln ld hn hd (-xn) xd := by
  refine ⟨h.d1, ?_, ?_, ?_, ?_⟩
  · have := h.hi; simp only [Int.neg_mul] at *; omega
  · have := h.lo; simp only [Int.neg_mul] at *; omega
  · intro yn yd h1 h2 h3
    refine h.md (-yn) yd h1 ?_ ?_ <;> (simp only [Int.neg_mul] at *; omega)
  · intro yn yd h1 h2 h3
    have := h.mn (-yn) yd h1 ?_ ?_
    · simpa using this
    all_goals (simp only [Int.neg_mul] at *; omega)

theorem PS.zero {ln ld hn hd : Int} (h1 : ln ≤ 0) (h2 : 0 ≤ hn) : PS ln ld hn hd 0 1 := by
  refine ⟨by omega, by omega, by omega, ?_, ?_⟩
  · intro yn yd h _ _; exact h
  · intro yn yd h _ _; simp

theorem PS.low {ln hn hd : Int} (h1 : 0 < ln) (h2 : ln*hd ≤ hn*1) : PS ln 1 hn hd ln 1 := by
  refine ⟨by omega, by omega, by omega, ?_, ?_⟩
  · intro yn yd h _ _; exact h
  · intro yn yd h a _
    have : ln*1 ≤ ln*yd := Int.mul_le_mul_of_nonneg_left h (by omega)
    omega

theorem PS.next {ln ld hn hd f : Int} (hld : 1 ≤ ld) (f0 : 0 ≤ f) (h1 : f*ld < ln) (h2 : ln < (f+1)*ld) (h3 : (f+1)*hd ≤ hn) : PS ln ld hn hd (f+1) 1 := by
  refine ⟨by omega, by omega, by omega, ?_, ?_⟩
  · intro yn yd h _ _; exact h
  · intro yn yd h a _
    have p : f*yd*ld < yn*ld := by
      have : f*ld*yd < ln*yd := Int.mul_lt_mul_of_pos_right h1 (by omega)
      have e : f*ld*yd = f*yd*ld := by grind
      omega
    have q := ltmul p (by omega)
    have : f*1 ≤ f*yd := Int.mul_le_mul_of_nonneg_left h f0
    omega

theorem PS.step {ln ld hn hd f xn xd : Int} (hld : 1 ≤ ld) (hhd : 1 ≤ hd) (f0 : 0 ≤ f) (h1 : f*ld < ln) (hr : ln*hd ≤ hn*ld)
    (h : PS hd (hn - f*hd) ld (ln - f*ld) xn xd) : PS ln ld hn hd (f*xn + xd) xn := by
  obtain ⟨d1, lo, hi, md, mn⟩ := h
  have a1 : 1 ≤ ln - f*ld := by omega
  have b1 : 1 ≤ hn - f*hd := by
    have : 0 < (hn - f*hd)*ld := by
      have : 0 < (ln - f*ld)*hd := Int.mul_pos (by omega) (by omega)
      grind
    have := posl this (by omega)
    omega
  have x1 : 1 ≤ xn := by
    have : 0 < hd*xd := Int.mul_pos (by omega) (by omega)
    have : 0 < xn*(hn - f*hd) := by omega
    have := posl this (by omega)
    omega
  have key : ∀ yn yd : Int, 1 ≤ yd → ln*yd ≤ yn*ld → yn*hd ≤ hn*yd → xn ≤ yd ∧ xd ≤ yn - f*yd := by
    intro yn yd h a b
    have z1 : 1 ≤ yn - f*yd := by
      have : 0 < (ln - f*ld)*yd := Int.mul_pos (by omega) (by omega)
      have : 0 < (yn - f*yd)*ld := by grind
      have := posl this (by omega)
      omega
    have r1 : hd*(yn - f*yd) ≤ yd*(hn - f*hd) := by grind
    have r2 : yd*(ln - f*ld) ≤ ld*(yn - f*yd) := by grind
    have := md yd (yn - f*yd) z1 r1 r2
    have := mn yd (yn - f*yd) z1 r1 r2
    omega
  refine ⟨x1, by grind, by grind, fun yn yd h a b => (key yn yd h a b).1, ?_⟩
  intro yn yd h a b
  have ⟨k1, k2⟩ := key yn yd h a b
  have : f*xn ≤ f*yd := Int.mul_le_mul_of_nonneg_left k1 f0
  have : 0 ≤ f*xn := Int.mul_nonneg f0 (by omega)
  omega

/-- no part of the simplest fraction is greater than those of the low end, where this is above zero -/
theorem PS.le_low {ln ld hn hd xn xd : Int} (hl : 1 ≤ ld) (hr : ln*hd ≤ hn*ld) (h : PS ln ld hn hd xn xd) : xd ≤ ld ∧ xn.natAbs ≤ ln.natAbs :=
  ⟨h.md ln ld hl (by omega) hr, h.mn ln ld hl (by omega) hr⟩
/-- the pair a, b of neighbours of x = n/d -/
structure Nb (n d an ad bn bd : Int) : Prop where
  a1 : 1 ≤ ad
  b1 : 1 ≤ bd
  sn : an + bn = n
  sd : ad + bd = d
  ad1 : n*ad - an*d = 1

theorem Nb.bd1 {n d an ad bn bd : Int} (h : Nb n d an ad bn bd) : bn*d - n*bd = 1 := by
  obtain ⟨_, _, rfl, rfl, h⟩ := h; grind
theorem Nb.ab1 {n d an ad bn bd : Int} (h : Nb n d an ad bn bd) : bn*ad - an*bd = 1 := by
  obtain ⟨_, _, rfl, rfl, h⟩ := h; grind

/-- between a pair of neighbours lie only fractions with greater parts -/
theorem adj_sum {an ad bn bd yn yd : Int} (h : bn*ad - an*bd = 1) (ha : 1 ≤ ad) (hb : 1 ≤ bd) (h1 : an*yd < yn*ad) (h2 : yn*bd < bn*yd) : ad + bd ≤ yd := by
  have e : yd = (yn*ad - an*yd)*bd + (bn*yd - yn*bd)*ad := by grind
  have p1 : 1*bd ≤ (yn*ad - an*yd)*bd := mulle (by omega) (by omega)
  have p2 : 1*ad ≤ (bn*yd - yn*bd)*ad := mulle (by omega) (by omega)
  omega
theorem adj_eq {an ad bn bd yn yd : Int} (h : bn*ad - an*bd = 1) (ha : 1 ≤ ad) (hb : 1 ≤ bd) (h1 : an*yd < yn*ad) (h2 : yn*bd < bn*yd) (h3 : yd ≤ ad + bd) : yn = an + bn ∧ yd = ad + bd := by
  have e : yd = (yn*ad - an*yd)*bd + (bn*yd - yn*bd)*ad := by grind
  have e' : yn = (yn*ad - an*yd)*bn + (bn*yd - yn*bd)*an := by grind
  generalize hu : yn*ad - an*yd = u at *
  generalize hv : bn*yd - yn*bd = v at *
  have p1 : 1*bd ≤ u*bd := mulle (by omega) (by omega)
  have p2 : 1*ad ≤ v*ad := mulle (by omega) (by omega)
  have hu1 : u = 1 := by
    by_cases c : u = 1
    · exact c
    · have : 2*bd ≤ u*bd := mulle (by omega) (by omega)
      omega
  have hv1 : v = 1 := by
    by_cases c : v = 1
    · exact c
    · have : 2*ad ≤ v*ad := mulle (by omega) (by omega)
      omega
  subst hu1 hv1
  omega

/-- a and b are the nearest ones with a Den of at most m: a at most x, b at least x, nothing lies between them that is small enough but x itself -/
structure Brk (n d m an ad bn bd : Int) : Prop where
  a1 : 1 ≤ ad
  am : ad ≤ m
  b1 : 1 ≤ bd
  bm : bd ≤ m
  al : an*d ≤ n*ad
  bl : n*bd ≤ bn*d
  /-- each fraction that is small enough and at most x is at most a; of those that equal a, none has a lesser Den -/
  ag : ∀ yn yd : Int, 1 ≤ yd → yd ≤ m → yn*d ≤ n*yd → yn*ad ≤ an*yd ∧ (yn*ad = an*yd → ad ≤ yd)
  bg : ∀ yn yd : Int, 1 ≤ yd → yd ≤ m → n*yd ≤ yn*d → bn*yd ≤ yn*bd ∧ (bn*yd = yn*bd → bd ≤ yd)

theorem Brk.unique {n d m an ad bn bd cn cd en ed : Int} (h : Brk n d m an ad bn bd) (g : Brk n d m cn cd en ed) : an = cn ∧ ad = cd ∧ bn = en ∧ bd = ed := by
  have h1 := h.ag cn cd g.a1 g.am g.al
  have g1 := g.ag an ad h.a1 h.am h.al
  have h2 := h.bg en ed g.b1 g.bm g.bl
  have g2 := g.bg bn bd h.b1 h.bm h.bl
  have e1 : cn*ad = an*cd := by omega
  have e2 : bn*ed = en*bd := by omega
  have d1 : ad = cd := by have := h1.2 e1; have := g1.2 (by omega); omega
  have d2 : bd = ed := by have := h2.2 e2; have := g2.2 (by omega); omega
  subst d1 d2
  refine ⟨?_, rfl, ?_, rfl⟩
  · have := lemul (Int.le_of_eq e1) (by have := h.a1; omega)
    have := lemul (Int.le_of_eq e1.symm) (by have := h.a1; omega)
    omega
  · have := lemul (Int.le_of_eq e2) (by have := h.b1; omega)
    have := lemul (Int.le_of_eq e2.symm) (by have := h.b1; omega)
    omega

/-- neighbouring fractions on both sides of x, the sum of whose Dens is too great, bracket x -/
theorem Brk.of_adj {n d m an ad bn bd : Int} (hd : 1 ≤ d) (h : bn*ad - an*bd = 1) (ha : 1 ≤ ad) (hb : 1 ≤ bd) (ham : ad ≤ m) (hbm : bd ≤ m) (hs : m < ad + bd)
    (h1 : an*d < n*ad) (h2 : n*bd < bn*d) : Brk n d m an ad bn bd := by
  refine ⟨ha, ham, hb, hbm, by omega, by omega, ?_, ?_⟩
  · intro yn yd y1 ym yl
    -- y ≤ x < b
    have yb : yn*bd < bn*yd := by
      have p1 : yn*d*bd ≤ n*yd*bd := mulle yl (by omega)
      have p2 : n*bd*yd < bn*d*yd := Int.mul_lt_mul_of_pos_right h2 (by omega)
      have : (yn*bd)*d < (bn*yd)*d := by grind
      exact ltmul this (by omega)
    have q : yn*ad ≤ an*yd := by
      by_cases c : yn*ad ≤ an*yd
      · exact c
      · have := adj_sum (yn := yn) (yd := yd) h ha hb (by omega) yb
        omega
    refine ⟨q, fun e => ?_⟩
    -- yd = (bn yd - yn bd) ad
    have e2 : yd = (bn*yd - yn*bd)*ad := by grind
    have : 1*ad ≤ (bn*yd - yn*bd)*ad := mulle (by omega) (by omega)
    omega
  · intro yn yd y1 ym yl
    have ya : an*yd < yn*ad := by
      have p1 : n*yd*ad ≤ yn*d*ad := mulle yl (by omega)
      have p2 : an*d*yd < n*ad*yd := Int.mul_lt_mul_of_pos_right h1 (by omega)
      have : (an*yd)*d < (yn*ad)*d := by grind
      exact ltmul this (by omega)
    have q : bn*yd ≤ yn*bd := by
      by_cases c : bn*yd ≤ yn*bd
      · exact c
      · have := adj_sum (yn := yn) (yd := yd) h ha hb ya (by omega)
        omega
    refine ⟨q, fun e => ?_⟩
    have e2 : yd = (yn*ad - an*yd)*bd := by grind
    have : 1*bd ≤ (yn*ad - an*yd)*bd := mulle (by omega) (by omega)
    omega

/-- a fraction in lowest terms that is small enough brackets itself -/
theorem dvd_of_eq {n d yn yd : Int} (hd : 1 ≤ d) (hg : Int.gcd n d = 1) (hy : 1 ≤ yd) (e : yn*d = n*yd) : d ≤ yd := by
  have : d ∣ n * yd := ⟨yn, by grind⟩
  have h2 : d.natAbs ∣ n.natAbs * yd.natAbs := by
    have := Int.natAbs_dvd_natAbs.2 this
    rwa [Int.natAbs_mul] at this
  have hc : Nat.Coprime d.natAbs n.natAbs := by
    have : Nat.gcd n.natAbs d.natAbs = 1 := hg
    rw [Nat.Coprime, Nat.gcd_comm]; exact this
  have h3 := Nat.le_of_dvd (by omega) (hc.dvd_of_dvd_mul_left h2)
  omega
theorem Brk.self {n d m : Int} (hd : 1 ≤ d) (hg : Int.gcd n d = 1) (hm : d ≤ m) : Brk n d m n d n d := by
  refine ⟨hd, hm, hd, hm, by omega, by omega, ?_, ?_⟩
  · intro yn yd y1 _ yl
    exact ⟨yl, fun e => dvd_of_eq hd hg y1 e⟩
  · intro yn yd y1 _ yl
    exact ⟨yl, fun e => dvd_of_eq hd hg y1 e.symm⟩
/-- the neighbours bracket x among the Dens that are less than its own -/
theorem Nb.brk {n d an ad bn bd : Int} (h : Nb n d an ad bn bd) : Brk n d (d-1) an ad bn bd := by
  have h1 := h.ab1
  have h2 := h.bd1
  obtain ⟨a1, b1, sn, sd, h3⟩ := h
  exact Brk.of_adj (by omega) h1 a1 b1 (by omega) (by omega) (by omega) (by omega) (by omega)
/-- a is the greatest fraction that is at most n/d, of those with a Den of at most m, with the least Den -/
structure LowB (n d m an ad : Int) : Prop where
  a1 : 1 ≤ ad
  am : ad ≤ m
  al : an*d ≤ n*ad
  ag : ∀ yn yd : Int, 1 ≤ yd → yd ≤ m → yn*d ≤ n*yd → yn*ad ≤ an*yd ∧ (yn*ad = an*yd → ad ≤ yd)
structure HighB (n d m an ad : Int) : Prop where
  a1 : 1 ≤ ad
  am : ad ≤ m
  al : n*ad ≤ an*d
  ag : ∀ yn yd : Int, 1 ≤ yd → yd ≤ m → n*yd ≤ yn*d → an*yd ≤ yn*ad ∧ (an*yd = yn*ad → ad ≤ yd)
theorem Brk.mk' {n d m an ad bn bd : Int} (h : LowB n d m an ad) (g : HighB n d m bn bd) : Brk n d m an ad bn bd :=
  ⟨h.a1, h.am, g.a1, g.am, h.al, g.al, h.ag, g.ag⟩

def fl (n d : Int) : Int := n / d
def cl (n d : Int) : Int := -((-n) / d)
theorem fl_le {n d : Int} (hd : 1 ≤ d) : fl n d * d ≤ n := Int.ediv_mul_le n (by omega)
theorem lt_fl {n d : Int} (hd : 1 ≤ d) : n < (fl n d + 1)*d := Int.lt_ediv_add_one_mul_self n (by omega)
theorem le_fl {n d y : Int} (hd : 1 ≤ d) (h : y*d ≤ n) : y ≤ fl n d := (Int.le_ediv_iff_mul_le (by omega)).2 h
theorem le_cl {n d : Int} (hd : 1 ≤ d) : n ≤ cl n d * d := by
  have := @fl_le (-n) d hd
  unfold cl fl at *
  rw [Int.neg_mul]; omega
theorem cl_le {n d y : Int} (hd : 1 ≤ d) (h : n ≤ y*d) : cl n d ≤ y := by
  have : -y ≤ fl (-n) d := le_fl hd (by rw [Int.neg_mul]; omega)
  unfold cl fl at *
  omega
theorem fl_unique {n d y : Int} (hd : 1 ≤ d) (h : y*d ≤ n) (g : n < (y+1)*d) : y = fl n d := by
  have := le_fl hd h
  have h2 := @fl_le n d hd
  have : fl n d * d < (y+1)*d := by omega
  have := ltmul this (by omega)
  omega
theorem cl_unique {n d y : Int} (hd : 1 ≤ d) (h : n ≤ y*d) (g : (y-1)*d < n) : y = cl n d := by
  have := cl_le hd h
  have h2 := @le_cl n d hd
  have : (y-1)*d < cl n d*d := by omega
  have := ltmul this (by omega)
  omega

theorem LowB.one {n d : Int} (hd : 1 ≤ d) : LowB n d 1 (fl n d) 1 := by
  refine ⟨by omega, by omega, by have := @fl_le n d hd; omega, ?_⟩
  intro yn yd y1 ym yl
  have : yd = 1 := by omega
  subst this
  have := le_fl hd (show yn*d ≤ n by omega)
  omega
theorem HighB.one {n d : Int} (hd : 1 ≤ d) : HighB n d 1 (cl n d) 1 := by
  refine ⟨by omega, by omega, by have := @le_cl n d hd; omega, ?_⟩
  intro yn yd y1 ym yl
  have : yd = 1 := by omega
  subst this
  have := cl_le hd (show n ≤ yn*d by omega)
  omega
theorem LowB.yes {n d k an ad : Int} (hd : 1 ≤ d) (hk : 1 ≤ k) (h : LowB n d k an ad) (c : 0 < fl (n*(k+1)) d * ad - an*(k+1)) : LowB n d (k+1) (fl (n*(k+1)) d) (k+1) := by
  have f1 := @fl_le (n*(k+1)) d hd
  refine ⟨by omega, by omega, by omega, ?_⟩
  intro yn yd y1 ym yl
  by_cases e : yd = k+1
  · subst e
    have := le_fl hd yl
    exact ⟨mulle this (by omega), fun _ => by omega⟩
  · have ⟨h1, _⟩ := h.ag yn yd y1 (by omega) yl
    have a1 := h.a1
    have p1 : yn*ad*(k+1) ≤ an*yd*(k+1) := mulle h1 (by omega)
    have p2 : an*(k+1)*yd < fl (n*(k+1)) d*ad*yd := Int.mul_lt_mul_of_pos_right (by omega) (by omega)
    have : (yn*(k+1))*ad < (fl (n*(k+1)) d*yd)*ad := by grind
    have := ltmul this (by omega)
    omega
theorem LowB.no {n d k an ad : Int} (hd : 1 ≤ d) (h : LowB n d k an ad) (c : fl (n*(k+1)) d * ad - an*(k+1) ≤ 0) : LowB n d (k+1) an ad := by
  refine ⟨h.a1, by have := h.am; omega, h.al, ?_⟩
  intro yn yd y1 ym yl
  by_cases e : yd = k+1
  · subst e
    have := le_fl hd yl
    have : yn*ad ≤ fl (n*(k+1)) d*ad := mulle this (by have := h.a1; omega)
    exact ⟨by omega, fun _ => by have := h.am; omega⟩
  · exact h.ag yn yd y1 (by omega) yl
theorem HighB.yes {n d k an ad : Int} (hd : 1 ≤ d) (hk : 1 ≤ k) (h : HighB n d k an ad) (c : cl (n*(k+1)) d * ad - an*(k+1) < 0) : HighB n d (k+1) (cl (n*(k+1)) d) (k+1) := by
  have f1 := @le_cl (n*(k+1)) d hd
  refine ⟨by omega, by omega, by omega, ?_⟩
  intro yn yd y1 ym yl
  by_cases e : yd = k+1
  · subst e
    have := cl_le hd yl
    exact ⟨mulle this (by omega), fun _ => by omega⟩
  · have ⟨h1, _⟩ := h.ag yn yd y1 (by omega) yl
    have a1 := h.a1
    have p1 : an*yd*(k+1) ≤ yn*ad*(k+1) := mulle h1 (by omega)
    have p2 : cl (n*(k+1)) d*ad*yd < an*(k+1)*yd := Int.mul_lt_mul_of_pos_right (by omega) (by omega)
    have : (cl (n*(k+1)) d*yd)*ad < (yn*(k+1))*ad := by grind
    have := ltmul this (by omega)
    omega
theorem HighB.no {n d k an ad : Int} (hd : 1 ≤ d) (h : HighB n d k an ad) (c : 0 ≤ cl (n*(k+1)) d * ad - an*(k+1)) : HighB n d (k+1) an ad := by
  refine ⟨h.a1, by have := h.am; omega, h.al, ?_⟩
  intro yn yd y1 ym yl
  by_cases e : yd = k+1
  · subst e
    have := cl_le hd yl
    have : cl (n*(k+1)) d*ad ≤ yn*ad := mulle this (by have := h.a1; omega)
    exact ⟨by omega, fun _ => by have := h.am; omega⟩
  · exact h.ag yn yd y1 (by omega) yl
/-- the state of the loop that makes convergents: r is what is left of x = n/d; p is the last convergent, q the one before; s is their determinant -/
structure CS (n d rn rd pn pd qn qd s : Int) : Prop where
  en : n = rn*pn + rd*qn
  ed : d = rn*pd + rd*qd
  det : pn*qd - qn*pd = s
theorem CS.start (n d : Int) : CS n d n d 1 0 0 1 1 := ⟨by omega, by omega, by omega⟩
theorem CS.step {n d rn rd pn pd qn qd s : Int} (t : Int) (h : CS n d rn rd pn pd qn qd s) : CS n d rd (rn - t*rd) (t*pn + qn) (t*pd + qd) pn pd (-s) := by
  obtain ⟨h1, h2, h3⟩ := h
  exact ⟨by grind, by grind, by grind⟩
theorem CS.off {n d rn rd pn pd qn qd s : Int} (h : CS n d rn rd pn pd qn qd s) : n*pd - pn*d = -s*rd := by
  obtain ⟨h1, h2, h3⟩ := h
  grind
/-- the last round: what it makes is x -/
theorem CS.last {n d rn pn pd qn qd s : Int} (h : CS n d rn 1 pn pd qn qd s) : rn*pn + qn = n ∧ rn*pd + qd = d := by
  obtain ⟨h1, h2, h3⟩ := h
  exact ⟨by omega, by omega⟩

/-- gcd of what is left -/
theorem gcd_step {n d t : Int} : Int.gcd d (n - t*d) = Int.gcd n d := by
  rw [Int.gcd_comm n d]
  have : n - t*d = n + d*(-t) := by grind
  rw [this, Int.gcd_add_mul_left_right]
theorem rd_one {n d t : Int} (hd : 1 ≤ d) (hg : Int.gcd n d = 1) (e : t*d = n) : d = 1 := by
  have := @gcd_step n d t
  rw [hg, e, Int.sub_self, Int.gcd_zero_right] at this
  omega

/-- the invariant of neighbours: at least one round has been done, one is left at least -/
theorem Nb.of_conv {n d rn pn pd qn qd s : Int} (hs : s = 1 ∨ s = -1) (h : CS n d rn 1 pn pd qn qd s) (hr : 2 ≤ rn) (hp : 1 ≤ pd) (hq : 0 ≤ qd) :
    (s = 1 → Nb n d (n - pn) (d - pd) pn pd) ∧ (s = -1 → Nb n d pn pd (n - pn) (d - pd)) := by
  have o := h.off
  obtain ⟨h1, h2, h3⟩ := h
  have k : 2*pd ≤ rn*pd := mulle hr (by omega)
  constructor
  · intro e
    subst e
    exact ⟨by omega, hp, by omega, by omega, by grind⟩
  · intro e
    subst e
    exact ⟨hp, by omega, by omega, by omega, by grind⟩

/-- a convergent that is not the last one has a lesser Den than x -/
theorem conv_lt {n d rn rd pn pd qn qd s t : Int} (h : CS n d rn rd pn pd qn qd s) (ht : 0 ≤ t) (h2 : t*rd < rn) (hq : 0 ≤ qd) (hp : 0 ≤ pd) (hpq : 2 ≤ rd) (hx : 1 ≤ pd + qd) : t*pd + qd < d := by
  obtain ⟨_, e, _⟩ := h
  have a : (t + 1)*pd ≤ rn*pd := mulle (by
    have : t*2 ≤ t*rd := Int.mul_le_mul_of_nonneg_left hpq ht
    omega) hp
  have b : 2*qd ≤ rd*qd := mulle hpq hq
  have : (t+1)*pd = t*pd + pd := by grind
  omega

/-- the terms of a fraction -/
def terms : Nat → Int → Int → List Int
  | 0, _, _ => []
  | k+1, n, d => if fl n d * d = n then [fl n d] else fl n d :: terms k d (n - fl n d * d)
/-- terms put together from behind -/
def back : List Int → Int × Int
  | [] => (1, 0)
  | a :: l => (a*(back l).1 + (back l).2, (back l).1)
/-- terms put together from the front: the convergents -/
def fwd : Int → Int → Int → Int → List Int → List (Int × Int)
  | _, _, _, _, [] => []
  | pn, pd, qn, qd, a :: l => (a*pn + qn, a*pd + qd) :: fwd (a*pn + qn) (a*pd + qd) pn pd l
def fwdEnd : Int → Int → Int → Int → List Int → Int × Int
  | pn, pd, _, _, [] => (pn, pd)
  | pn, pd, qn, qd, a :: l => fwdEnd (a*pn + qn) (a*pd + qd) pn pd l
theorem fwdEnd_eq (l : List Int) : ∀ pn pd qn qd : Int, fwdEnd pn pd qn qd l = ((back l).1*pn + (back l).2*qn, (back l).1*pd + (back l).2*qd) := by
  induction l with
  | nil => intro pn pd qn qd; simp [fwdEnd, back]
  | cons a l ih =>
    intro pn pd qn qd
    rw [fwdEnd, ih]
    simp only [back, Prod.mk.injEq]
    constructor <;> grind
theorem fwdEnd_start (l : List Int) : fwdEnd 1 0 0 1 l = back l := by
  rw [fwdEnd_eq]; simp
theorem fwd_length (l : List Int) : ∀ pn pd qn qd : Int, (fwd pn pd qn qd l).length = l.length := by
  induction l with
  | nil => intros; rfl
  | cons a l ih => intros; simp [fwd, ih]
theorem fwd_get (l : List Int) : ∀ (pn pd qn qd : Int) (i : Nat) (h : i < l.length), (fwd pn pd qn qd l)[i]'(by rw [fwd_length]; exact h) = fwdEnd pn pd qn qd (l.take (i+1)) := by
  induction l with
  | nil => intro _ _ _ _ i h; simp at h
  | cons a l ih =>
    intro pn pd qn qd i h
    cases i with
    | zero => simp [fwd, fwdEnd]
    | succ i =>
      simp only [fwd, List.getElem_cons_succ, List.take_succ_cons, fwdEnd]
      exact ih _ _ _ _ i (by simpa using h)
/-- the state of the search in the tree of fractions -/
structure AS (n d m ln ld hn hd : Int) : Prop where
  l1 : 1 ≤ ld
  lm : ld ≤ m
  h1 : 1 ≤ hd
  hm : hd ≤ m
  det : hn*ld - ln*hd = 1
  ll : ln*d < n*ld
  hh : n*hd < hn*d
  lf : fl n d * ld ≤ ln
  hf : hn ≤ (fl n d + 1)*hd
theorem AS.start {n d m : Int} (hg : Int.gcd n d = 1) (hm : 1 ≤ m) (hd : m < d) : AS n d m (fl n d) 1 (fl n d + 1) 1 := by
  have h1 := @fl_le n d (by omega)
  have h2 := @lt_fl n d (by omega)
  refine ⟨by omega, hm, by omega, hm, by omega, ?_, by omega, by omega, by omega⟩
  by_cases e : fl n d * d = n
  · have := rd_one (by omega) hg e; omega
  · omega
theorem AS.low {n d m ln ld hn hd k : Int} (hg : Int.gcd n d = 1) (hmd : m < d) (h : AS n d m ln ld hn hd) (k0 : 0 ≤ k) (k1 : k*(hn*d - n*hd) ≤ n*ld - ln*d) (k2 : k*hd ≤ m - ld) :
    AS n d m (ln + k*hn) (ld + k*hd) hn hd := by
  obtain ⟨l1, lm, h1, hm, det, ll, hh, lf, hf⟩ := h
  have p : 0 ≤ k*hd := Int.mul_nonneg k0 (by omega)
  refine ⟨by omega, by omega, h1, hm, by grind, ?_, hh, ?_, hf⟩
  · by_cases e : (ln + k*hn)*d = n*(ld + k*hd)
    · have := dvd_of_eq (by omega) hg (by omega) e
      omega
    · have : (ln + k*hn)*d ≤ n*(ld + k*hd) := by grind
      omega
  · -- high lies above the floor
    have : fl n d * hd ≤ hn := by
      have a := @fl_le n d (by omega)
      have b : fl n d * d * hd ≤ n*hd := mulle a (by omega)
      have c : (fl n d * hd)*d ≤ hn*d := by grind
      exact lemul c (by omega)
    have : k*(fl n d*hd) ≤ k*hn := Int.mul_le_mul_of_nonneg_left this k0
    grind
theorem AS.high {n d m ln ld hn hd k : Int} (hg : Int.gcd n d = 1) (hmd : m < d) (h : AS n d m ln ld hn hd) (k0 : 0 ≤ k) (k1 : k*(n*ld - ln*d) ≤ hn*d - n*hd) (k2 : k*ld ≤ m - hd) :
    AS n d m ln ld (hn + k*ln) (hd + k*ld) := by
  obtain ⟨l1, lm, h1, hm, det, ll, hh, lf, hf⟩ := h
  have p : 0 ≤ k*ld := Int.mul_nonneg k0 (by omega)
  refine ⟨l1, lm, by omega, by omega, by grind, ll, ?_, lf, ?_⟩
  · by_cases e : (hn + k*ln)*d = n*(hd + k*ld)
    · have := dvd_of_eq (by omega) hg (by omega) e
      omega
    · have : n*(hd + k*ld) ≤ (hn + k*ln)*d := by grind
      omega
  · have : ln ≤ (fl n d + 1)*ld := by
      have a := @lt_fl n d (by omega)
      have b : n*ld ≤ (fl n d + 1)*d*ld := mulle (by omega) (by omega)
      have c : ln*d ≤ ((fl n d + 1)*ld)*d := by grind
      exact lemul c (by omega)
    have : k*ln ≤ k*((fl n d + 1)*ld) := Int.mul_le_mul_of_nonneg_left this k0
    grind
/-- how often a fraction can be added -/
def far (A B M h : Int) : Int := min (A / B) (M / h)
theorem far_nonneg {A B M h : Int} (hA : 0 ≤ A) (hB : 1 ≤ B) (hM : 0 ≤ M) (hh : 1 ≤ h) : 0 ≤ far A B M h := by
  unfold far
  have := Int.ediv_nonneg hA (show 0 ≤ B by omega)
  have := Int.ediv_nonneg hM (show 0 ≤ h by omega)
  omega
theorem far_le1 {A B M h : Int} (hA : 0 ≤ A) (hB : 1 ≤ B) (hM : 0 ≤ M) (hh : 1 ≤ h) : far A B M h * B ≤ A := by
  have := far_nonneg hA hB hM hh
  have h1 : far A B M h ≤ A/B := by unfold far; omega
  have := mulle h1 (show 0 ≤ B by omega)
  have := Int.ediv_mul_le A (show B ≠ 0 by omega)
  omega
theorem far_le2 {A B M h : Int} (hA : 0 ≤ A) (hB : 1 ≤ B) (hM : 0 ≤ M) (hh : 1 ≤ h) : far A B M h * h ≤ M := by
  have := far_nonneg hA hB hM hh
  have h1 : far A B M h ≤ M/h := by unfold far; omega
  have := mulle h1 (show 0 ≤ h by omega)
  have := Int.ediv_mul_le M (show h ≠ 0 by omega)
  omega
theorem far_zero {A B M h : Int} (hA : 0 ≤ A) (hB : 1 ≤ B) (hM : 0 ≤ M) (hh : 1 ≤ h) (e : far A B M h = 0) : A < B ∨ M < h := by
  have a := Int.ediv_nonneg hA (show 0 ≤ B by omega)
  have b := Int.ediv_nonneg hM (show 0 ≤ h by omega)
  have : A/B = 0 ∨ M/h = 0 := by unfold far at e; omega
  rcases this with c | c
  · left; have := Int.lt_ediv_add_one_mul_self A (show 0 < B by omega); rw [c] at this; omega
  · right; have := Int.lt_ediv_add_one_mul_self M (show 0 < h by omega); rw [c] at this; omega
theorem AS.done {n d m ln ld hn hd : Int} (hmd : m < d) (h : AS n d m ln ld hn hd) (e1 : far (n*ld - ln*d) (hn*d - n*hd) (m - ld) hd = 0) (e2 : far (hn*d - n*hd) (n*ld - ln*d) (m - hd) ld = 0) :
    Brk n d m ln ld hn hd := by
  obtain ⟨l1, lm, h1, hm, det, ll, hh, lf, hf⟩ := h
  have z1 := far_zero (by omega) (by omega) (by omega) (by omega) e1
  have z2 := far_zero (by omega) (by omega) (by omega) (by omega) e2
  exact Brk.of_adj (by omega) det l1 h1 lm hm (by omega) ll hh
/-- how great the parts can be -/
theorem AS.bound {n d m ln ld hn hd : Int} (hmd : m < d) (h : AS n d m ln ld hn hd) : -(n.natAbs : Int) - d ≤ ln ∧ ln ≤ n.natAbs + d ∧ -(n.natAbs : Int) - d ≤ hn ∧ hn ≤ n.natAbs + d := by
  obtain ⟨l1, lm, h1, hm, det, ll, hh, lf, hf⟩ := h
  have f1 := @fl_le n d (by omega)
  have f2 := @lt_fl n d (by omega)
  by_cases c : 0 ≤ n
  · have f0 : 0 ≤ fl n d := le_fl (by omega) (by omega)
    have a : ln ≤ n := by
      have : n*ld ≤ n*d := Int.mul_le_mul_of_nonneg_left (by omega) c
      exact lemul (show ln*d ≤ n*d by omega) (by omega)
    have b : 0 ≤ ln := by have := Int.mul_nonneg f0 (show 0 ≤ ld by omega); omega
    have b2 : 0 < hn := by
      have : 0 ≤ n*hd := Int.mul_nonneg c (by omega)
      exact posl (show 0 < hn*d by omega) (by omega)
    have b3 : hn ≤ n + d := by
      have : (fl n d + 1)*hd ≤ (fl n d + 1)*d := Int.mul_le_mul_of_nonneg_left (by omega) (by omega)
      have : (fl n d + 1)*d = fl n d * d + d := by grind
      omega
    omega
  · have f0 : fl n d + 1 ≤ 0 := by
      have : fl n d * d < 0*d := by omega
      have := ltmul this (by omega)
      omega
    have a1 : ln < 0 := by
      have : n*ld ≤ -1*ld := mulle (by omega) (by omega)
      have : ln*d < 0*d := by omega
      exact ltmul this (by omega)
    have a2 : n - d ≤ ln := by
      have : -(fl n d)*ld ≤ -(fl n d)*d := Int.mul_le_mul_of_nonneg_left (by omega) (by omega)
      have : (fl n d + 1)*d = fl n d * d + d := by grind
      simp only [Int.neg_mul] at *
      omega
    have a3 : n ≤ hn := by
      have : -n*hd ≤ -n*d := Int.mul_le_mul_of_nonneg_left (by omega) (by omega)
      simp only [Int.neg_mul] at *
      exact lemul (show n*d ≤ hn*d by omega) (by omega)
    have a4 : hn ≤ 0 := by
      have : -(fl n d + 1)*1 ≤ -(fl n d + 1)*hd := Int.mul_le_mul_of_nonneg_left (by omega) (by omega)
      simp only [Int.neg_mul] at *
      omega
    omega
/-- a fraction as said -/
def okF (n d : Int) : Bool := decide (-1000000000 ≤ n) && decide (n ≤ 1000000000) && decide (1 ≤ d) && decide (d ≤ 1000000) && decide (Int.gcd n d = 1)
theorem okF_iff {n d : Int} : okF n d = true ↔ -1000000000 ≤ n ∧ n ≤ 1000000000 ∧ 1 ≤ d ∧ d ≤ 1000000 ∧ Int.gcd n d = 1 := by
  simp [okF, and_assoc]
/-- in lowest terms -/
def redN (n d : Int) : Int := n / Int.gcd n d
def redD (n d : Int) : Int := d / Int.gcd n d
theorem gcd_pos {n d : Int} (hd : 1 ≤ d) : 1 ≤ (Int.gcd n d : Int) := by
  have := Int.gcd_pos_of_ne_zero_right n (show d ≠ 0 by omega)
  omega
theorem red_mul {n d : Int} : redN n d * Int.gcd n d = n ∧ redD n d * Int.gcd n d = d :=
  ⟨Int.ediv_mul_cancel (Int.gcd_dvd_left n d), Int.ediv_mul_cancel (Int.gcd_dvd_right n d)⟩
theorem redD_pos {n d : Int} (hd : 1 ≤ d) : 1 ≤ redD n d := by
  have h := (@red_mul n d).2
  have g := @gcd_pos n d hd
  have : 0 < redD n d := posl (show 0 < redD n d * Int.gcd n d by omega) (by omega)
  omega
theorem red_gcd {n d : Int} (hd : 1 ≤ d) : Int.gcd (redN n d) (redD n d) = 1 := by
  have := Int.gcd_ediv_gcd_ediv_gcd (i := n) (j := d) (by have := @gcd_pos n d hd; omega)
  exact this
theorem red_self {n d : Int} (h : Int.gcd n d = 1) : redN n d = n ∧ redD n d = d := by
  simp [redN, redD, h]
theorem red_ne {n d : Int} (hd : 1 ≤ d) (h : Int.gcd n d ≠ 1) : redD n d ≠ d := by
  intro e
  have a := (@red_mul n d).2
  rw [e] at a
  have : d * (Int.gcd n d : Int) = d * 1 := by omega
  have := Int.eq_of_mul_eq_mul_left (show d ≠ 0 by omega) this
  omega
/-- fractions in lowest terms that are equal as numbers are the same -/
theorem eq_of_cross {a b c d : Int} (hb : 1 ≤ b) (hd : 1 ≤ d) (h1 : Int.gcd a b = 1) (h2 : Int.gcd c d = 1) (e : a*d = c*b) : a = c ∧ b = d := by
  have l1 := dvd_of_eq hb h1 hd (show c*b = a*d by omega)
  have l2 := dvd_of_eq hd h2 hb (show a*d = c*b by omega)
  have hbd : b = d := by omega
  subst hbd
  exact ⟨Int.eq_of_mul_eq_mul_right (show b ≠ 0 by omega) e, rfl⟩
/-- what is in lowest terms and equal as a number is what reducing gives -/
theorem red_eq {n d a b : Int} (hd : 1 ≤ d) (hb : 1 ≤ b) (h : Int.gcd a b = 1) (e : a*d = n*b) : redN n d = a ∧ redD n d = b := by
  have m := @red_mul n d
  have g := @gcd_pos n d hd
  refine eq_of_cross (redD_pos hd) hb (red_gcd hd) h ?_
  have : (redN n d * b) * Int.gcd n d = (a * redD n d) * Int.gcd n d := by grind
  exact Int.eq_of_mul_eq_mul_right (show (Int.gcd n d : Int) ≠ 0 by omega) this
def small (n d : Int) : Bool := decide (-1000000000 ≤ n) && decide (n ≤ 1000000000) && decide (1 ≤ d) && decide (d ≤ 1000000)
theorem okF_red {n d : Int} (hd : 1 ≤ d) : okF (redN n d) (redD n d) = small (redN n d) (redD n d) := by
  simp [okF, small, red_gcd hd]
/-- the loop of the greatest common divisor -/
theorem gcd_tmod (a b : Int) : Int.gcd b (a.tmod b) = Int.gcd a b := by
  unfold Int.gcd
  rw [Int.natAbs_tmod, Nat.gcd_comm a.natAbs, Nat.gcd_rec b.natAbs a.natAbs, Nat.gcd_comm]
theorem tmod_lt (a b : Int) (h : b ≠ 0) : (a.tmod b).natAbs < b.natAbs := by
  rw [Int.natAbs_tmod]; exact Nat.mod_lt _ (by omega)
theorem tdiv_exact {n g : Int} (h : g ∣ n) : n.tdiv g = n / g := Int.tdiv_eq_ediv_of_dvd h
theorem tdiv_red (n d : Int) : n.tdiv (Int.gcd n d) = redN n d ∧ d.tdiv (Int.gcd n d) = redD n d :=
  ⟨tdiv_exact (Int.gcd_dvd_left n d), tdiv_exact (Int.gcd_dvd_right n d)⟩
/-- no error where something is so -/
def err (ok : Bool) (e : Int) : Int := if ok then 0 else e
theorem err_true {e : Int} {b : Bool} (h : b = true) : err b e = 0 := by rw [h]; rfl
theorem err_false {e : Int} {b : Bool} (h : b = false) : err b e = e := by rw [h]; rfl
theorem okF_small {n d : Int} (h : okF n d = true) : small n d = true := by
  simp [okF, small] at *; omega
theorem okF_no {n d : Int} (h : small n d = false) : okF n d = false := by
  cases c : okF n d
  · rfl
  · rw [okF_small c] at h; exact h
theorem okF_of {n d : Int} (h : small n d = true) : okF n d = decide (Int.gcd n d = 1) := by
  simp [okF, small] at *; simp [h]
/-- a fraction in lowest terms, and whether it is too great -/
def okR (n d : Int) : Bool := small (redN n d) (redD n d)
def mN (n d : Int) : Int := if okR n d then redN n d else 0
def mD (n d : Int) : Int := if okR n d then redD n d else 0
def mE (n d : Int) : Int := if okR n d then 0 else 10
theorem made_yes {n d : Int} (h : okR n d = true) : mN n d = redN n d ∧ mD n d = redD n d ∧ mE n d = 0 := by simp [mN, mD, mE, h]
theorem made_no {n d : Int} (h : okR n d = false) : mN n d = 0 ∧ mD n d = 0 ∧ mE n d = 10 := by simp [mN, mD, mE, h]
end
section
/-- the parts of a quotient -/
def quoN (a _b c d : Int) : Int := if c < 0 then -a*d else a*d
def quoD (_a b c _d : Int) : Int := if c < 0 then -b*c else b*c
theorem mul_bound {a b A B : Int} (hA : 0 ≤ A) (h1 : -A ≤ a) (h2 : a ≤ A) (h3 : -B ≤ b) (h4 : b ≤ B) : -(A*B) ≤ a*b ∧ a*b ≤ A*B := by
  have n : (a*b).natAbs ≤ (A*B).natAbs := by
    rw [Int.natAbs_mul, Int.natAbs_mul]
    exact Nat.mul_le_mul (by omega) (by omega)
  have p : 0 ≤ A*B := Int.mul_nonneg hA (by omega)
  omega
/-- products of parts of fractions as said -/
theorem nd_bound {a d : Int} (h1 : -1000000000 ≤ a) (h2 : a ≤ 1000000000) (h3 : 1 ≤ d) (h4 : d ≤ 1000000) : -1000000000000000 ≤ a*d ∧ a*d ≤ 1000000000000000 := by
  have := @mul_bound a d 1000000000 1000000 (by omega) h1 h2 (by omega) h4; omega
theorem nn_bound {a c : Int} (h1 : -1000000000 ≤ a) (h2 : a ≤ 1000000000) (h3 : -1000000000 ≤ c) (h4 : c ≤ 1000000000) : -1000000000000000000 ≤ a*c ∧ a*c ≤ 1000000000000000000 := by
  have := @mul_bound a c 1000000000 1000000000 (by omega) h1 h2 (by omega) h4; omega
theorem dd_bound {b d : Int} (h1 : 1 ≤ b) (h2 : b ≤ 1000000) (h3 : 1 ≤ d) (h4 : d ≤ 1000000) : 1 ≤ b*d ∧ b*d ≤ 1000000000000 := by
  have := @mul_bound b d 1000000 1000000 (by omega) (by omega) h2 (by omega) h4
  have := Int.mul_pos (show 0 < b by omega) (show 0 < d by omega)
  omega
/-- the four operations: what they make of the parts, and whether they are to be carried out -/
def opN (k : Nat) (a b c d : Int) : Int := match k with | 0 => a*d + c*b | 1 => a*d - c*b | 2 => a*c | _ => quoN a b c d
def opD (k : Nat) (a b c d : Int) : Int := match k with | 0 => b*d | 1 => b*d | 2 => b*d | _ => quoD a b c d
theorem op_bound {k : Nat} {a b c d : Int} (hk3 : k ≤ 3) (h : k = 3 → c ≠ 0) (a1 : -1000000000 ≤ a) (a2 : a ≤ 1000000000) (b1 : 1 ≤ b) (b2 : b ≤ 1000000) (c1 : -1000000000 ≤ c) (c2 : c ≤ 1000000000) (d1 : 1 ≤ d) (d2 : d ≤ 1000000) :
    1 ≤ opD k a b c d ∧ opD k a b c d ≤ 4000000000000000000 ∧ -4000000000000000000 ≤ opN k a b c d ∧ opN k a b c d ≤ 4000000000000000000 := by
  have e1 := nd_bound a1 a2 d1 d2
  have e2 := nd_bound c1 c2 b1 b2
  have e3 := dd_bound b1 b2 d1 d2
  have e4 := nn_bound a1 a2 c1 c2
  match k with
  | 0 => simp only [opN, opD]; omega
  | 1 => simp only [opN, opD]; omega
  | 2 => simp only [opN, opD]; omega
  | k+3 =>
    simp only [opN, opD, quoN, quoD]
    split
    · rename_i hc
      have : 0 < -b*c := by
        have := Int.mul_pos (show 0 < b by omega) (show 0 < -c by omega)
        have : b * -c = -b*c := by grind
        omega
      have : b*c = c*b := Int.mul_comm _ _
      simp only [Int.neg_mul] at *
      omega
    · rename_i hc
      by_cases hz : c = 0
      · by_cases hk : k = 0
        · exact absurd hz (h (by omega))
        · omega
      · have := Int.mul_pos (show 0 < b by omega) (show 0 < c by omega)
        have : b*c = c*b := Int.mul_comm _ _
        omega
end
section
/-- the simplest fraction of a range above zero; k: how many steps -/
def simP : Nat → Int → Int → Int → Int → Int × Int
  | 0, _, _, _, _ => (0, 1)
  | k+1, ln, ld, hn, hd =>
    if fl ln ld * ld = ln then (ln, ld) else if (fl ln ld + 1)*hd ≤ hn then (fl ln ld + 1, 1)
    else (fl ln ld * (simP k hd (hn - fl ln ld * hd) ld (ln - fl ln ld * ld)).1 + (simP k hd (hn - fl ln ld * hd) ld (ln - fl ln ld * ld)).2, (simP k hd (hn - fl ln ld * hd) ld (ln - fl ln ld * ld)).1)
/-- the simplest fraction of a range -/
def sim (ln ld hn hd : Int) : Int × Int :=
  if 1 ≤ ln then simP (ld + hd).toNat ln ld hn hd
  else if hn < 0 then (-(simP (hd + ld).toNat (-hn) hd (-ln) ld).1, (simP (hd + ld).toNat (-hn) hd (-ln) ld).2) else (0, 1)
theorem simP_PS (k : Nat) : ∀ (ln ld hn hd : Int), (ld + hd).toNat ≤ k → 1 ≤ ln → 1 ≤ ld → 1 ≤ hn → 1 ≤ hd → Int.gcd ln ld = 1 → Int.gcd hn hd = 1 → ln*hd ≤ hn*ld →
    PS ln ld hn hd (simP k ln ld hn hd).1 (simP k ln ld hn hd).2 := by
  induction k with
  | zero => intro ln ld hn hd hk _ _ _ _; omega
  | succ k ih =>
    intro ln ld hn hd hk a1 a3 a5 a7 hg hgh hr
    have f1 := @fl_le ln ld a3
    have f2 := @lt_fl ln ld a3
    have f0 : 0 ≤ fl ln ld := le_fl a3 (by omega)
    rw [simP]
    by_cases h1 : fl ln ld * ld = ln
    · rw [if_pos h1]
      have hd1 : ld = 1 := rd_one a3 hg h1
      subst hd1
      exact @PS.low ln hn hd (by omega) (by omega)
    · rw [if_neg h1]
      by_cases h2 : (fl ln ld + 1)*hd ≤ hn
      · rw [if_pos h2]
        exact @PS.next ln ld hn hd _ a3 f0 (by omega) (by omega) h2
      · rw [if_neg h2]
        have fh2 : (fl ln ld+1)*hd = fl ln ld*hd + hd := by grind
        have q1 : 1 ≤ ln - fl ln ld*ld := by omega
        have q2 : ln - fl ln ld*ld < ld := by
          have : (fl ln ld+1)*ld = fl ln ld*ld + ld := by grind
          omega
        have q3 : 1 ≤ hn - fl ln ld*hd := by
          have : 0 < (hn - fl ln ld*hd)*ld := by
            have : 0 < (ln - fl ln ld*ld)*hd := Int.mul_pos (by omega) (by omega)
            grind
          have := posl this (by omega)
          omega
        exact @PS.step ln ld hn hd _ _ _ a3 a7 f0 (by omega) hr (ih hd (hn - fl ln ld*hd) ld (ln - fl ln ld*ld) (by omega) (by omega) q3 (by omega) q1 (by rw [gcd_step]; exact hgh) (by rw [gcd_step]; exact hg) (by grind))
theorem sim_PS {ln ld hn hd : Int} (a3 : 1 ≤ ld) (a7 : 1 ≤ hd) (hg : Int.gcd ln ld = 1) (hgh : Int.gcd hn hd = 1) (hr : ln*hd ≤ hn*ld) : PS ln ld hn hd (sim ln ld hn hd).1 (sim ln ld hn hd).2 := by
  unfold sim
  by_cases h0 : 1 ≤ ln
  · rw [if_pos h0]
    have : 1 ≤ hn := by
      have : 0 < ln*hd := Int.mul_pos (by omega) (by omega)
      have : 0 < hn*ld := by omega
      have := posl this (by omega)
      omega
    exact simP_PS _ ln ld hn hd (Nat.le_refl _) h0 a3 this a7 hg hgh hr
  · rw [if_neg h0]
    by_cases h1 : hn < 0
    · rw [if_pos h1]
      exact (simP_PS _ (-hn) hd (-ln) ld (Nat.le_refl _) (by omega) a7 (by
        have : ln < 0 := by
          have : hn*ld < 0*ld := Int.mul_lt_mul_of_pos_right h1 (by omega)
          have : ln*hd < 0*hd := by omega
          exact ltmul this (by omega)
        omega) a3 (by rw [Int.neg_gcd]; exact hgh) (by rw [Int.neg_gcd]; exact hg) (by simp only [Int.neg_mul]; omega)).neg
    · rw [if_neg h1]
      exact PS.zero (by omega) (by omega)
theorem sim_eq {ln ld hn hd xn xd : Int} (a3 : 1 ≤ ld) (a7 : 1 ≤ hd) (hg : Int.gcd ln ld = 1) (hgh : Int.gcd hn hd = 1) (hr : ln*hd ≤ hn*ld) (h : PS ln ld hn hd xn xd) : (sim ln ld hn hd).1 = xn ∧ (sim ln ld hn hd).2 = xd :=
  (sim_PS a3 a7 hg hgh hr).unique h
example : sim 31 100 8 25 = (5, 16) := by decide
end
section
/-- the greatest fraction that is at most n/d, with a Den of at most k + 1, tried one after the other -/
def loB (n d : Int) : Nat → Int × Int
  | 0 => (fl n d, 1)
  | k+1 => if 0 < fl (n*((k : Int)+1+1)) d * (loB n d k).2 - (loB n d k).1*((k : Int)+1+1) then (fl (n*((k : Int)+1+1)) d, (k : Int)+1+1) else loB n d k
def hiB (n d : Int) : Nat → Int × Int
  | 0 => (cl n d, 1)
  | k+1 => if cl (n*((k : Int)+1+1)) d * (hiB n d k).2 - (hiB n d k).1*((k : Int)+1+1) < 0 then (cl (n*((k : Int)+1+1)) d, (k : Int)+1+1) else hiB n d k
theorem loB_low {n d : Int} (hd : 1 ≤ d) (k : Nat) : LowB n d ((k : Int)+1) (loB n d k).1 (loB n d k).2 := by
  induction k with
  | zero => exact LowB.one hd
  | succ k ih =>
    rw [loB]
    split
    · rename_i h; rw [show (((k+1 : Nat) : Int) + 1) = (k : Int) + 1 + 1 by omega]; exact LowB.yes hd (by omega) ih h
    · rename_i h; rw [show (((k+1 : Nat) : Int) + 1) = (k : Int) + 1 + 1 by omega]; exact LowB.no hd ih (by omega)
theorem hiB_high {n d : Int} (hd : 1 ≤ d) (k : Nat) : HighB n d ((k : Int)+1) (hiB n d k).1 (hiB n d k).2 := by
  induction k with
  | zero => exact HighB.one hd
  | succ k ih =>
    rw [hiB]
    split
    · rename_i h; rw [show (((k+1 : Nat) : Int) + 1) = (k : Int) + 1 + 1 by omega]; exact HighB.yes hd (by omega) ih h
    · rename_i h; rw [show (((k+1 : Nat) : Int) + 1) = (k : Int) + 1 + 1 by omega]; exact HighB.no hd ih (by omega)
/-- the bracket of n/d with Dens of at most m -/
def bkN (n d m : Int) : Int := (loB n d (m-1).toNat).1
def bkD (n d m : Int) : Int := (loB n d (m-1).toNat).2
def bhN (n d m : Int) : Int := (hiB n d (m-1).toNat).1
def bhD (n d m : Int) : Int := (hiB n d (m-1).toNat).2
theorem bk_brk {n d m : Int} (hd : 1 ≤ d) (hm : 1 ≤ m) : Brk n d m (bkN n d m) (bkD n d m) (bhN n d m) (bhD n d m) := by
  have e : (((m-1).toNat : Nat) : Int) + 1 = m := by omega
  have h1 := @loB_low n d hd (m-1).toNat
  have h2 := @hiB_high n d hd (m-1).toNat
  rw [e] at h1 h2
  exact Brk.mk' h1 h2
theorem bk_eq {n d m an ad bn bd : Int} (hd : 1 ≤ d) (hm : 1 ≤ m) (h : Brk n d m an ad bn bd) : bkN n d m = an ∧ bkD n d m = ad ∧ bhN n d m = bn ∧ bhD n d m = bd :=
  (bk_brk hd hm).unique h
end
section
/-- how far the ends of a bracket are off -/
theorem Brk.off {n d m an ad bn bd : Int} (hd : 1 ≤ d) (hm : 1 ≤ m) (h : Brk n d m an ad bn bd) : 0 ≤ n*ad - an*d ∧ n*ad - an*d ≤ ad*d ∧ 0 ≤ bn*d - n*bd ∧ bn*d - n*bd ≤ bd*d := by
  have f1 := @fl_le n d hd
  have f2 := @lt_fl n d hd
  have l := h.al
  have r := h.bl
  have a1 := h.a1
  have b1 := h.b1
  have p := (h.ag (fl n d) 1 (by omega) hm (by omega)).1
  have q := (h.bg (fl n d + 1) 1 (by omega) hm (by omega)).1
  have p2 : fl n d * ad * d ≤ an*1*d := mulle p (by omega)
  have p3 : n * ad ≤ (fl n d + 1)*d*ad := mulle (by omega) (by omega)
  have q2 : bn*1*d ≤ (fl n d + 1)*bd*d := mulle q (by omega)
  have q3 : fl n d * d*bd ≤ n*bd := mulle f1 (by omega)
  have e1 : (fl n d + 1)*d*ad = fl n d * ad * d + ad*d := by grind
  have e2 : (fl n d + 1)*bd*d = fl n d * d*bd + bd*d := by grind
  have e3 : an*1*d = an*d := by rw [Int.mul_one]
  have e4 : bn*1*d = bn*d := by rw [Int.mul_one]
  omega
/-- the nearer one of the two ends -/
def nearB (n d an ad bn bd : Int) : Bool := decide ((n*ad - an*d)*bd < (bn*d - n*bd)*ad) || (decide ((n*ad - an*d)*bd = (bn*d - n*bd)*ad) && decide (ad ≤ bd))
theorem near_bd {d ad bd x : Int} (h0 : 0 ≤ x) (h1 : x ≤ ad*d) (a1 : 1 ≤ ad) (a2 : ad ≤ 1000000) (d1 : 1 ≤ d) (d2 : d ≤ 1000000) (b1 : 1 ≤ bd) (b2 : bd ≤ 1000000) : 0 ≤ x ∧ x ≤ 1000000000000 ∧ 0 ≤ x*bd ∧ x*bd ≤ 1000000000000000000 := by
  have p := (dd_bound a1 a2 d1 d2).2
  have q := @mul_bound x bd 1000000000000 1000000 (by omega) (by omega) (by omega) (by omega) b2
  have r := Int.mul_nonneg h0 (show 0 ≤ bd by omega)
  omega
end
section
/-- no Den below that of the simplest fraction serves -/
theorem PS.upto {ln ld hn hd xn xd k : Int} (hl : 1 ≤ ld) (hh : 1 ≤ hd) (h : PS ln ld hn hd xn xd) (k1 : 1 ≤ k) (hk : k < xd) : fl (hn*k) hd < cl (ln*k) ld := by
  have c := @le_cl (ln*k) ld hl
  have f := @fl_le (hn*k) hd hh
  by_cases e : fl (hn*k) hd < cl (ln*k) ld
  · exact e
  · exfalso
    have m : cl (ln*k) ld * hd ≤ fl (hn*k) hd * hd := mulle (by omega) (by omega)
    have := h.md (cl (ln*k) ld) k k1 (by omega) (by omega)
    omega
/-- the simplest fraction's Den serves, and this is its Num -/
theorem PS.at {ln ld hn hd xn xd : Int} (hl : 1 ≤ ld) (hh : 1 ≤ hd) (h : PS ln ld hn hd xn xd) : cl (ln*xd) ld ≤ fl (hn*xd) hd ∧ max (cl (ln*xd) ld) (min 0 (fl (hn*xd) hd)) = xn := by
  have c := @cl_le (ln*xd) ld xn hl h.lo
  have f := @le_fl (hn*xd) hd xn hh h.hi
  refine ⟨by omega, ?_⟩
  have c2 := @le_cl (ln*xd) ld hl
  have f2 := @fl_le (hn*xd) hd hh
  generalize cl (ln*xd) ld = a at *
  generalize fl (hn*xd) hd = b at *
  have key : ∀ m, a ≤ m → m ≤ b → xn.natAbs ≤ m.natAbs := fun m h1 h2 => by
    have e1 : a*ld ≤ m*ld := mulle h1 (by omega)
    have e2 : m*hd ≤ b*hd := mulle h2 (by omega)
    exact h.mn m xd h.d1 (by omega) (by omega)
  by_cases p : 0 ≤ a
  · have := key a (by omega) (by omega); omega
  · by_cases q : 0 ≤ b
    · have := key 0 (by omega) (by omega); omega
    · have := key b (by omega) (by omega); omega
/-- the neighbours of a fraction lie on one side of 0 -/
theorem Nb.side {n d an ad bn bd : Int} (h : Nb n d an ad bn bd) (hd : 2 ≤ d) : (0 ≤ an ∧ 0 ≤ bn) ∨ (an ≤ 0 ∧ bn ≤ 0) := by
  have h1 := h.ab1
  obtain ⟨a1, b1, rfl, rfl, h2⟩ := h
  by_cases p : 0 ≤ an
  · left
    refine ⟨p, ?_⟩
    have e : 0 ≤ an*bd := Int.mul_nonneg p (by omega)
    have : 0 < bn*ad := by omega
    have := posl this (by omega)
    omega
  · right
    refine ⟨by omega, ?_⟩
    have e : an*bd ≤ -1*bd := mulle (by omega) (by omega)
    by_cases q : bn ≤ 0
    · exact q
    · have : 1*ad ≤ bn*ad := mulle (by omega) (by omega)
      omega
/-- a fraction of the range whose neighbours lie outside is the simplest one -/
theorem PS.of_nb {ln ld hn hd n d an ad bn bd : Int} (hl : 1 ≤ ld) (hh : 1 ≤ hd) (h : Nb n d an ad bn bd) (d2 : 2 ≤ d) (lo : ln*d ≤ n*ld) (hi : n*hd ≤ hn*d) (na : an*ld < ln*ad) (nb : hn*bd < bn*hd) : PS ln ld hn hd n d := by
  have h1 := h.ab1
  have a1 := h.a1
  have b1 := h.b1
  have key : ∀ yn yd : Int, 1 ≤ yd → ln*yd ≤ yn*ld → yn*hd ≤ hn*yd → an*yd < yn*ad ∧ yn*bd < bn*yd := by
    intro yn yd y1 y2 y3
    constructor
    · have e1 : (an*ld)*yd < (ln*ad)*yd := Int.mul_lt_mul_of_pos_right na (by omega)
      have e2 : (ln*yd)*ad ≤ (yn*ld)*ad := mulle y2 (by omega)
      have e3 : (an*yd)*ld < (yn*ad)*ld := by grind
      exact ltmul e3 (by omega)
    · have e1 : (hn*bd)*yd < (bn*hd)*yd := Int.mul_lt_mul_of_pos_right nb (by omega)
      have e2 : (yn*hd)*bd ≤ (hn*yd)*bd := mulle y3 (by omega)
      have e3 : (yn*bd)*hd < (bn*yd)*hd := by grind
      exact ltmul e3 (by omega)
  refine ⟨by omega, lo, hi, ?_, ?_⟩
  · intro yn yd y1 y2 y3
    obtain ⟨k1, k2⟩ := key yn yd y1 y2 y3
    have := adj_sum h1 a1 b1 k1 k2
    have := h.sd
    omega
  · intro yn yd y1 y2 y3
    obtain ⟨k1, k2⟩ := key yn yd y1 y2 y3
    have s := h.side d2
    have sn := h.sn
    have e' : yn = (yn*ad - an*yd)*bn + (bn*yd - yn*bd)*an := by grind
    generalize hu : yn*ad - an*yd = u at *
    generalize hv : bn*yd - yn*bd = v at *
    rcases s with ⟨s1, s2⟩ | ⟨s1, s2⟩
    · have p1 : 1*bn ≤ u*bn := mulle (by omega) s2
      have p2 : 1*an ≤ v*an := mulle (by omega) s1
      omega
    · have p1 : 1*(-bn) ≤ u*(-bn) := mulle (by omega) (by omega)
      have p2 : 1*(-an) ≤ v*(-an) := mulle (by omega) (by omega)
      simp only [Int.mul_neg] at p1 p2
      omega
/-- the simplest fraction's neighbours lie outside -/
theorem PS.nb {ln ld hn hd n d an ad bn bd : Int} (hl : 1 ≤ ld) (hh : 1 ≤ hd) (p : PS ln ld hn hd n d) (h : Nb n d an ad bn bd) : an*ld < ln*ad ∧ hn*bd < bn*hd := by
  have h1 := h.ab1
  have h2 := h.ad1
  have h3 := h.bd1
  have a1 := h.a1
  have b1 := h.b1
  have sd := h.sd
  constructor
  · by_cases e : an*ld < ln*ad
    · exact e
    · exfalso
      have := p.md an ad a1 (by omega) (by
        have e1 : (an*hd)*d ≤ (hn*ad)*d := by
          have q := mulle p.hi (show 0 ≤ ad by omega)
          have : an*d ≤ n*ad := by omega
          have q2 := mulle this (show 0 ≤ hd by omega)
          grind
        exact lemul e1 (by omega))
      omega
  · by_cases e : hn*bd < bn*hd
    · exact e
    · exfalso
      have := p.md bn bd b1 (by
        have e1 : (ln*bd)*d ≤ (bn*ld)*d := by
          have q := mulle p.lo (show 0 ≤ bd by omega)
          have : n*bd ≤ bn*d := by omega
          have q2 := mulle this (show 0 ≤ ld by omega)
          grind
        exact lemul e1 (by omega)) (by omega)
      omega
/-- whole numbers: the next one to 0 lies outside -/
theorem PS.whole {ln ld hn hd n : Int} (hl : 1 ≤ ld) (hh : 1 ≤ hd) (lo : ln ≤ n*ld) (hi : n*hd ≤ hn) :
    PS ln ld hn hd n 1 ↔ (n = 0 ∨ ¬ (ln ≤ (if n < 0 then n+1 else n-1)*ld ∧ (if n < 0 then n+1 else n-1)*hd ≤ hn)) := by
  constructor
  · intro p
    by_cases z : n = 0
    · exact .inl z
    · right
      rintro ⟨h1, h2⟩
      by_cases s : n < 0
      · rw [if_pos s] at h1 h2
        have := p.mn (n+1) 1 (by omega) (by omega) (by omega)
        omega
      · rw [if_neg s] at h1 h2
        have := p.mn (n-1) 1 (by omega) (by omega) (by omega)
        omega
  · rintro h
    refine ⟨by omega, by omega, by omega, fun _ _ y1 _ _ => y1, ?_⟩
    intro yn yd y1 y2 y3
    rcases h with rfl | h
    · simp
    · by_cases z : n = 0
      · subst z; simp
      · by_cases q : n.natAbs ≤ yn.natAbs
        · exact q
        · exfalso
          apply h
          -- |yn| < |n|
          by_cases s : n < 0
          · rw [if_pos s]
            refine ⟨?_, ?_⟩
            · have : n*ld ≤ (n+1)*ld := mulle (by omega) (by omega)
              omega
            · -- (n+1)*hd ≤ hn : since yn ≥ n+1.. yn*hd ≤ hn*yd
              by_cases t : 0 ≤ hn
              · have : (n+1)*hd ≤ 0*hd := mulle (by omega) (by omega)
                omega
              · have e1 : hn*yd ≤ hn*1 := by
                  have := mulle y1 (show 0 ≤ -hn by omega)
                  rw [Int.mul_neg, Int.mul_neg] at this
                  rw [Int.mul_comm hn yd, Int.mul_comm hn 1]; omega
                have e2 : (n+1)*hd ≤ yn*hd := mulle (by omega) (by omega)
                omega
          · rw [if_neg s]
            refine ⟨?_, ?_⟩
            · by_cases t : ln ≤ 0
              · have : 0*ld ≤ (n-1)*ld := mulle (by omega) (by omega)
                omega
              · have e1 : ln*1 ≤ ln*yd := by
                  rw [Int.mul_comm ln 1, Int.mul_comm ln yd]; exact mulle y1 (by omega)
                have e2 : yn*ld ≤ (n-1)*ld := mulle (by omega) (by omega)
                omega
            · have : (n-1)*hd ≤ n*hd := mulle (by omega) (by omega)
              omega
/-- how far a casting lies below the wanted size, and above, times its Den -/
def msB (c d n want : Int) : Int := want*d - n*(d-c)
def msA (a b n want : Int) : Int := n*(b-a) - want*b
def msN (a b c d n want : Int) : Int := if 0 < msB c d n want * b - msA a b n want * d then msB c d n want else msA a b n want
def msD (a b c d n want : Int) : Int := if 0 < msB c d n want * b - msA a b n want * d then d else b
theorem msD_pos {a b c d n want : Int} (hb : 1 ≤ b) (hd : 1 ≤ d) : 1 ≤ msD a b c d n want := by unfold msD; split <;> omega
/-- miss of n against miss of m, times both Dens -/
def msX (a b c d want n m : Int) : Int := msN a b c d n want * msD a b c d m want - msN a b c d m want * msD a b c d n want
theorem ms_hi {a b c d n want : Int} (h : 2*want*b*d ≤ n*((d-c)*b+(b-a)*d)) : msN a b c d n want = msA a b n want ∧ msD a b c d n want = b := by
  have : ¬ 0 < msB c d n want * b - msA a b n want * d := by unfold msB msA; grind
  unfold msN msD
  rw [if_neg this, if_neg this]
  exact ⟨rfl, rfl⟩
theorem ms_lo {a b c d n want : Int} (h : n*((d-c)*b+(b-a)*d) < 2*want*b*d) : msN a b c d n want = msB c d n want ∧ msD a b c d n want = d := by
  have : 0 < msB c d n want * b - msA a b n want * d := by unfold msB msA; grind
  unfold msN msD
  rw [if_pos this, if_pos this]
  exact ⟨rfl, rfl⟩
/-- the first size of which a casting is at least as far above as below -/
def bsT (a b c d want : Int) : Int := cl (2*want*b*d) ((d-c)*b+(b-a)*d)
theorem bsE_pos {a b c d : Int} (hb : 1 ≤ b) (hd : 1 ≤ d) (hab : 1 ≤ b - a) (hcd : 1 ≤ d - c) : 1 ≤ (d-c)*b+(b-a)*d := by
  have := Int.mul_pos (show 0 < d-c by omega) (show 0 < b by omega)
  have := Int.mul_pos (show 0 < b-a by omega) (show 0 < d by omega)
  omega
theorem bsT_iff {a b c d want n : Int} (hb : 1 ≤ b) (hd : 1 ≤ d) (hab : 1 ≤ b - a) (hcd : 1 ≤ d - c) : bsT a b c d want ≤ n ↔ 2*want*b*d ≤ n*((d-c)*b+(b-a)*d) := by
  have e := bsE_pos hb hd hab hcd
  constructor
  · intro h
    have := @le_cl (2*want*b*d) _ e
    have := mulle h (show 0 ≤ (d-c)*b+(b-a)*d by omega)
    unfold bsT at this
    omega
  · intro h
    exact cl_le e h
theorem bsT_iff' {a b c d want n : Int} (hb : 1 ≤ b) (hd : 1 ≤ d) (hab : 1 ≤ b - a) (hcd : 1 ≤ d - c) : bsT a b c d want ≤ n ↔ msB c d n want * b - msA a b n want * d ≤ 0 := by
  rw [bsT_iff hb hd hab hcd]
  have : msB c d n want * b - msA a b n want * d = 2*want*b*d - n*((d-c)*b+(b-a)*d) := by unfold msB msA; grind
  omega
/-- in front of the threshold the miss falls -/
theorem ms_fall {a b c d want n m : Int} (hd : 1 ≤ d) (hcd : 1 ≤ d - c) (hnm : n < m) (h : m*((d-c)*b+(b-a)*d) < 2*want*b*d) (e : 1 ≤ (d-c)*b+(b-a)*d) : 0 < msX a b c d want n m := by
  have hn : n*((d-c)*b+(b-a)*d) < 2*want*b*d := by
    have := mulle (show n ≤ m by omega) (show 0 ≤ (d-c)*b+(b-a)*d by omega)
    omega
  obtain ⟨e1, e2⟩ := ms_lo h
  obtain ⟨e3, e4⟩ := ms_lo hn
  unfold msX
  rw [e1, e2, e3, e4]
  unfold msB
  have : (want*d - n*(d-c))*d - (want*d - m*(d-c))*d = ((m-n)*(d-c))*d := by grind
  rw [this]
  exact Int.mul_pos (Int.mul_pos (by omega) (by omega)) (by omega)
/-- from the threshold on it rises -/
theorem ms_rise {a b c d want n m : Int} (hb : 1 ≤ b) (hab : 1 ≤ b - a) (hnm : n < m) (h : 2*want*b*d ≤ n*((d-c)*b+(b-a)*d)) (e : 1 ≤ (d-c)*b+(b-a)*d) : msX a b c d want n m < 0 := by
  have hm : 2*want*b*d ≤ m*((d-c)*b+(b-a)*d) := by
    have := mulle (show n ≤ m by omega) (show 0 ≤ (d-c)*b+(b-a)*d by omega)
    omega
  obtain ⟨e1, e2⟩ := ms_hi h
  obtain ⟨e3, e4⟩ := ms_hi hm
  unfold msX
  rw [e1, e2, e3, e4]
  unfold msA
  have : (n*(b-a) - want*b)*b - (m*(b-a) - want*b)*b = -(((m-n)*(b-a))*b) := by grind
  rw [this]
  have := Int.mul_pos (Int.mul_pos (show 0 < m - n by omega) (show 0 < b - a by omega)) (show 0 < b by omega)
  omega
/-- less and at most of fractions go on -/
theorem cross_trans {x dx y dy z dz : Int} (hx : 1 ≤ dx) (hy : 1 ≤ dy) (hz : 1 ≤ dz) (h1 : x*dy - y*dx ≤ 0) (h2 : y*dz - z*dy ≤ 0) : x*dz - z*dx ≤ 0 ∧ (x*dy - y*dx < 0 ∨ y*dz - z*dy < 0 → x*dz - z*dx < 0) := by
  have p1 : (x*dy - y*dx)*dz ≤ 0*dz := mulle h1 (by omega)
  have p2 : (y*dz - z*dy)*dx ≤ 0*dx := mulle h2 (by omega)
  have e : (x*dz - z*dx)*dy = (x*dy - y*dx)*dz + (y*dz - z*dy)*dx := by grind
  constructor
  · have : (x*dz - z*dx)*dy ≤ 0*dy := by omega
    exact lemul this (by omega)
  · intro h
    have : (x*dz - z*dx)*dy < 0*dy := by
      rcases h with h | h
      · have := Int.mul_lt_mul_of_pos_right h (show 0 < dz by omega); omega
      · have := Int.mul_lt_mul_of_pos_right h (show 0 < dx by omega); omega
    exact ltmul this (by omega)
/-- n is the least of the sizes up to top with the least miss -/
structure IsBest (a b c d want top n : Int) : Prop where
  n1 : 1 ≤ n
  nt : n ≤ top
  le : ∀ m, 1 ≤ m → m ≤ top → msX a b c d want n m ≤ 0
  lt : ∀ m, 1 ≤ m → m < n → msX a b c d want n m < 0
theorem msX_neg {a b c d want n m : Int} : msX a b c d want n m = - msX a b c d want m n := by unfold msX; omega
theorem IsBest.unique {a b c d want top n m : Int} (h : IsBest a b c d want top n) (g : IsBest a b c d want top m) : n = m := by
  by_cases e : n < m
  · have := g.lt n h.n1 e
    have := h.le m g.n1 g.nt
    rw [msX_neg] at this
    omega
  · by_cases e2 : m < n
    · have := h.lt m g.n1 e2
      have := g.le n h.n1 h.nt
      rw [msX_neg] at this
      omega
    · omega
/-- the reference's loop: the best of the sizes 1 .. k+1 -/
def rbest (a b c d want : Int) : Nat → Int
  | 0 => 1
  | k+1 => if msN a b c d ((k : Int)+1+1) want * msD a b c d (rbest a b c d want k) want < msN a b c d (rbest a b c d want k) want * msD a b c d ((k : Int)+1+1) want then (k : Int)+1+1 else rbest a b c d want k
theorem rbest_is {a b c d want : Int} (hb : 1 ≤ b) (hd : 1 ≤ d) (k : Nat) : IsBest a b c d want ((k : Int)+1) (rbest a b c d want k) := by
  induction k with
  | zero =>
    have z : msX a b c d want 1 1 = 0 := by unfold msX; omega
    refine ⟨by simp [rbest], by simp [rbest], ?_, ?_⟩
    · intro m h1 h2
      have : m = 1 := by omega
      subst this
      simp only [rbest]; omega
    · intro m h1 h2; simp only [rbest] at h2; omega
  | succ k ih =>
    have pn := fun m => @msD_pos a b c d m want hb hd
    have ek : ((k+1 : Nat) : Int) + 1 = (k : Int)+1+1 := by omega
    rw [ek]
    simp only [rbest]
    generalize rbest a b c d want k = r at *
    split
    · rename_i hlt
      have hx : msX a b c d want ((k : Int)+1+1) r < 0 := by unfold msX; omega
      have all : ∀ m, 1 ≤ m → m ≤ (k : Int)+1 → msX a b c d want ((k : Int)+1+1) m < 0 := fun m h1 h2 =>
        (cross_trans (pn _) (pn r) (pn m) (show msX a b c d want ((k : Int)+1+1) r ≤ 0 by omega) (ih.le m h1 h2)).2 (.inl hx)
      refine ⟨by omega, by omega, ?_, fun m h1 h2 => all m h1 (by omega)⟩
      intro m h1 h2
      by_cases e : m = (k : Int)+1+1
      · subst e; unfold msX; omega
      · have := all m h1 (by omega); omega
    · rename_i hlt
      have hx : msX a b c d want r ((k : Int)+1+1) ≤ 0 := by unfold msX; omega
      refine ⟨ih.n1, by have := ih.nt; omega, ?_, ih.lt⟩
      intro m h1 h2
      by_cases e : m = (k : Int)+1+1
      · subst e; exact hx
      · exact ih.le m h1 (by omega)
/-- what rule.Best finds -/
def best (a b c d want : Int) : Int :=
  if 1 < min (bsT a b c d want) 1000000 ∧ msX a b c d want (min (bsT a b c d want) 1000000 - 1) (min (bsT a b c d want) 1000000) ≤ 0 then min (bsT a b c d want) 1000000 - 1 else min (bsT a b c d want) 1000000
theorem bsT_pos {a b c d want : Int} (hb : 1 ≤ b) (hd : 1 ≤ d) (hab : 1 ≤ b - a) (hcd : 1 ≤ d - c) (hw : 1 ≤ want) : 1 ≤ bsT a b c d want := by
  have e := bsE_pos hb hd hab hcd
  have h1 := @le_cl (2*want*b*d) _ e
  have q : 0 < 2*want*b*d := Int.mul_pos (Int.mul_pos (by omega) (by omega)) (by omega)
  have : 0 < cl (2*want*b*d) ((d-c)*b+(b-a)*d) * ((d-c)*b+(b-a)*d) := by omega
  have := posl this (by omega)
  unfold bsT; omega
theorem best_is {a b c d want : Int} (hb : 1 ≤ b) (hd : 1 ≤ d) (hab : 1 ≤ b - a) (hcd : 1 ≤ d - c) (hw : 1 ≤ want) : IsBest a b c d want 1000000 (best a b c d want) := by
  have e := bsE_pos hb hd hab hcd
  have t1 := bsT_pos hb hd hab hcd hw
  have pn := fun m => @msD_pos a b c d m want hb hd
  have ti := fun n => @bsT_iff a b c d want n hb hd hab hcd
  have z : ∀ n, msX a b c d want n n = 0 := fun n => by unfold msX; omega
  unfold best
  generalize bsT a b c d want = T at *
  have rise : ∀ n m, T ≤ n → n ≤ m → msX a b c d want n m ≤ 0 := fun n m h1 h2 => by
    by_cases q : n = m
    · subst q; rw [z]; omega
    · have := ms_rise (want := want) hb hab (show n < m by omega) ((ti n).1 h1) e; omega
  have fall : ∀ n m, n < m → m < T → msX a b c d want m n < 0 := fun n m h1 h2 => by
    have := ms_fall (a := a) (b := b) (want := want) hd hcd h1 (by have := (ti m).2; omega) e
    rw [msX_neg]; omega
  split
  · rename_i h
    obtain ⟨h1, h2⟩ := h
    by_cases hT : T ≤ 1000000
    · have em : min T 1000000 = T := by omega
      rw [em] at h1 h2 ⊢
      refine ⟨by omega, by omega, ?_, fun m m1 m2 => fall m (T-1) (by omega) (by omega)⟩
      intro m m1 m2
      by_cases q : m < T
      · by_cases q2 : m = T - 1
        · subst q2; rw [z]; omega
        · have := fall m (T-1) (by omega) (by omega); omega
      · exact (cross_trans (pn _) (pn T) (pn m) h2 (rise T m (by omega) (by omega))).1
    · have em : min T 1000000 = 1000000 := by omega
      rw [em] at h1 h2
      have := fall 999999 1000000 (by omega) (by omega)
      rw [msX_neg] at this
      have e9 : (1000000 : Int) - 1 = 999999 := rfl
      rw [e9] at h2
      omega
  · rename_i h
    by_cases hT : T ≤ 1000000
    · have em : min T 1000000 = T := by omega
      rw [em] at h ⊢
      have lts : ∀ m, 1 ≤ m → m < T → msX a b c d want T m < 0 := fun m m1 m2 => by
        have q : 0 < msX a b c d want (T-1) T := by
          have : ¬ msX a b c d want (T-1) T ≤ 0 := fun k => h ⟨by omega, k⟩
          omega
        have q' : msX a b c d want T (T-1) < 0 := by rw [msX_neg]; omega
        by_cases q2 : m = T - 1
        · subst q2; exact q'
        · exact (cross_trans (pn _) (pn (T-1)) (pn m) (show msX a b c d want T (T-1) ≤ 0 by omega) (show msX a b c d want (T-1) m ≤ 0 by have := fall m (T-1) (by omega) (by omega); omega)).2 (.inl q')
      refine ⟨by omega, by omega, ?_, lts⟩
      intro m m1 m2
      by_cases q : m < T
      · have := lts m m1 q; omega
      · exact rise T m (by omega) (by omega)
    · have em : min T 1000000 = 1000000 := by omega
      rw [em]
      refine ⟨by omega, by omega, ?_, fun m m1 m2 => fall m 1000000 m2 (by omega)⟩
      intro m m1 m2
      by_cases q : m = 1000000
      · subst q; rw [z]; omega
      · have := fall m 1000000 (by omega) (by omega); omega
theorem best_eq {a b c d want : Int} (hb : 1 ≤ b) (hd : 1 ≤ d) (hab : 1 ≤ b - a) (hcd : 1 ≤ d - c) (hw : 1 ≤ want) : rbest a b c d want 999999 = best a b c d want :=
  (rbest_is hb hd 999999).unique (best_is hb hd hab hcd hw)
example : best 1 100 1 50 1000 = 1015 := by decide
/-- the reference's loop over the sizes 1 .. k: the least and the greatest that serve; 0: none -/
def srv (a b c d low high n : Int) : Bool := decide (low*d ≤ n*(d-c)) && decide (n*(b-a) ≤ high*b)
def rsL (a b c d low high : Int) : Nat → Int
  | 0 => 0
  | k+1 => if srv a b c d low high ((k : Int)+1) = true ∧ rsL a b c d low high k = 0 then (k : Int)+1 else rsL a b c d low high k
def rsM (a b c d low high : Int) : Nat → Int
  | 0 => 0
  | k+1 => if srv a b c d low high ((k : Int)+1) = true then (k : Int)+1 else rsM a b c d low high k
/-- where exactly the sizes from L to M serve -/
theorem rs_eq {a b c d low high L M : Int} (hL : 1 ≤ L) (h : ∀ n : Int, 1 ≤ n → (srv a b c d low high n = true ↔ L ≤ n ∧ n ≤ M)) (k : Nat) :
    rsL a b c d low high k = (if L ≤ M ∧ L ≤ k then L else 0) ∧ rsM a b c d low high k = (if L ≤ M ∧ L ≤ k then min M k else 0) := by
  induction k with
  | zero =>
    have : ¬ (L ≤ M ∧ L ≤ ((0 : Nat) : Int)) := by omega
    rw [if_neg this, if_neg this]; exact ⟨rfl, rfl⟩
  | succ k ih =>
    obtain ⟨i1, i2⟩ := ih
    have ek : ((k+1 : Nat) : Int) = (k : Int) + 1 := by omega
    simp only [rsL, rsM]
    rw [i1, i2, ek]
    have := h ((k : Int)+1) (by omega)
    by_cases s : srv a b c d low high ((k : Int)+1) = true
    · obtain ⟨s1, s2⟩ := this.1 s
      constructor
      · by_cases q : L ≤ k
        · rw [if_pos (show L ≤ M ∧ L ≤ (k : Int) by omega), if_neg (show ¬ (srv a b c d low high ((k : Int)+1) = true ∧ L = 0) by omega), if_pos (by omega)]
        · rw [if_neg (show ¬ (L ≤ M ∧ L ≤ (k : Int)) by omega), if_pos ⟨s, rfl⟩, if_pos (by omega)]; omega
      · rw [if_pos s, if_pos (by omega)]; omega
    · have n1 : ¬ (L ≤ (k : Int)+1 ∧ (k : Int)+1 ≤ M) := fun q => s (this.2 q)
      constructor
      · rw [if_neg (show ¬ (srv a b c d low high ((k : Int)+1) = true ∧ (if L ≤ M ∧ L ≤ (k : Int) then L else 0) = 0) from fun q => s q.1)]
        by_cases q : L ≤ M ∧ L ≤ (k : Int)
        · rw [if_pos q, if_pos (by omega)]
        · rw [if_neg q, if_neg (by omega)]
      · rw [if_neg s]
        by_cases q : L ≤ M ∧ L ≤ (k : Int)
        · rw [if_pos q, if_pos (by omega)]; omega
        · rw [if_neg q, if_neg (by omega)]
theorem srv_iff {a b c d low high : Int} (hab : 1 ≤ b - a) (hcd : 1 ≤ d - c) (n : Int) : srv a b c d low high n = true ↔ cl (low*d) (d-c) ≤ n ∧ n ≤ fl (high*b) (b-a) := by
  unfold srv
  rw [Bool.and_eq_true, decide_eq_true_eq, decide_eq_true_eq]
  constructor
  · rintro ⟨h1, h2⟩
    exact ⟨cl_le hcd h1, le_fl hab h2⟩
  · rintro ⟨h1, h2⟩
    have := @le_cl (low*d) (d-c) hcd
    have := mulle h1 (show 0 ≤ d-c by omega)
    have := @fl_le (high*b) (b-a) hab
    have := mulle h2 (show 0 ≤ b-a by omega)
    omega
theorem fl_rest {n d : Int} (hd : 1 ≤ d) : 0 ≤ n - fl n d * d ∧ n - fl n d * d < d := by
  have h1 := @fl_le n d hd
  have h2 := @lt_fl n d hd
  have : (fl n d + 1)*d = fl n d * d + d := by grind
  omega
theorem terms_fuel : ∀ (k k' : Nat) (n d : Int), 1 ≤ d → d.toNat ≤ k → d.toNat ≤ k' → terms k n d = terms k' n d
  | 0, _, n, d, hd, h, _ => by omega
  | _, 0, n, d, hd, _, h => by omega
  | k+1, k'+1, n, d, hd, h1, h2 => by
    have := @fl_rest n d hd
    simp only [terms]
    split
    · rfl
    · rename_i he
      rw [terms_fuel k k' d (n - fl n d * d) (by omega) (by omega) (by omega)]
/-- the terms of a fraction -/
def tm (n d : Int) : List Int := terms d.toNat n d
theorem tm_eq {n d : Int} (hd : 1 ≤ d) : tm n d = if fl n d * d = n then [fl n d] else fl n d :: tm d (n - fl n d * d) := by
  have h := @fl_rest n d hd
  unfold tm
  obtain ⟨k, hk⟩ : ∃ k, d.toNat = k + 1 := ⟨d.toNat - 1, by omega⟩
  rw [hk]
  simp only [terms]
  split
  · rfl
  · rename_i he
    rw [terms_fuel k (n - fl n d * d).toNat d (n - fl n d * d) (by omega) (by omega) (by omega)]
theorem tm_last {n d : Int} (hd : 1 ≤ d) (h : fl n d * d = n) : tm n d = [fl n d] := by rw [tm_eq hd, if_pos h]
theorem tm_cons {n d : Int} (hd : 1 ≤ d) (h : ¬ fl n d * d = n) : tm n d = fl n d :: tm d (n - fl n d * d) := by rw [tm_eq hd, if_neg h]
theorem tm_len : ∀ (k : Nat) (n d : Int), 1 ≤ d → d < 2^k → (tm n d).length + 1 ≤ 2*k
  | 0, n, d, h1, h2 => by simp at h2; omega
  | k+1, n, d, h1, h2 => by
    by_cases h : fl n d * d = n
    · rw [tm_last h1 h]; simp; omega
    · have r := @fl_rest n d h1
      rw [tm_cons h1 h]
      by_cases h' : fl d (n - fl n d * d) * (n - fl n d * d) = d
      · rw [tm_last (by omega) h']
        simp
        have : k ≠ 0 := by
          rintro rfl
          simp at h2
          omega
        omega
      · have r' := @fl_rest d (n - fl n d * d) (by omega)
        rw [tm_cons (by omega) h']
        have f1 : 1 ≤ fl d (n - fl n d * d) := le_fl (by omega) (by omega)
        have f2 : 1*(n - fl n d * d) ≤ fl d (n - fl n d * d) * (n - fl n d * d) := mulle f1 (by omega)
        have := tm_len k (n - fl n d * d) (d - fl d (n - fl n d * d) * (n - fl n d * d)) (by omega) (by
          have : (2 : Int)^(k+1) = 2 * 2^k := by rw [Int.pow_succ]; omega
          omega)
        simp at this ⊢
        omega
theorem tm_len40 {n d : Int} (h1 : 1 ≤ d) (h2 : d ≤ 1000000) : (tm n d).length ≤ 39 := by
  have := tm_len 20 n d h1 (by have : (2 : Int)^20 = 1048576 := by decide
                               omega)
  omega
end
section
/-- the state of the loop of convergents: now and was, behind some terms -/
def fe4 : Int → Int → Int → Int → List Int → Int × Int × Int × Int
  | pn, pd, qn, qd, [] => (pn, pd, qn, qd)
  | pn, pd, qn, qd, a :: l => fe4 (a*pn + qn) (a*pd + qd) pn pd l
theorem fe4_snoc (l : List Int) : ∀ (pn pd qn qd t : Int), fe4 pn pd qn qd (l ++ [t]) = (t*(fe4 pn pd qn qd l).1 + (fe4 pn pd qn qd l).2.2.1, t*(fe4 pn pd qn qd l).2.1 + (fe4 pn pd qn qd l).2.2.2, (fe4 pn pd qn qd l).1, (fe4 pn pd qn qd l).2.1) := by
  induction l with
  | nil => intros; rfl
  | cons a l ih => intro pn pd qn qd t; exact ih _ _ _ _ _
theorem fwd_snoc (l : List Int) : ∀ (pn pd qn qd t : Int), fwd pn pd qn qd (l ++ [t]) = fwd pn pd qn qd l ++ [(t*(fe4 pn pd qn qd l).1 + (fe4 pn pd qn qd l).2.2.1, t*(fe4 pn pd qn qd l).2.1 + (fe4 pn pd qn qd l).2.2.2)] := by
  induction l with
  | nil => intros; rfl
  | cons a l ih => intro pn pd qn qd t; simp only [List.cons_append, fwd, fe4]; rw [ih]
/-- the convergents -/
def cv (l : List Int) : List (Int × Int) := fwd 1 0 0 1 l
def cs (l : List Int) : Int × Int × Int × Int := fe4 1 0 0 1 l
theorem cs_nil : cs [] = (1, 0, 0, 1) := rfl
theorem cs_snoc (l : List Int) (t : Int) : cs (l ++ [t]) = (t*(cs l).1 + (cs l).2.2.1, t*(cs l).2.1 + (cs l).2.2.2, (cs l).1, (cs l).2.1) := fe4_snoc l 1 0 0 1 t
theorem cv_snoc (l : List Int) (t : Int) : cv (l ++ [t]) = cv l ++ [(t*(cs l).1 + (cs l).2.2.1, t*(cs l).2.1 + (cs l).2.2.2)] := fwd_snoc l 1 0 0 1 t
theorem cv_prefix {l m : List Int} (h : l <+: m) : cv l <+: cv m := by
  obtain ⟨r, rfl⟩ := h
  have : ∀ (l : List Int) (pn pd qn qd : Int), fwd pn pd qn qd l <+: fwd pn pd qn qd (l ++ r) := by
    intro l
    induction l with
    | nil => intros; exact List.nil_prefix
    | cons a l ih => intro pn pd qn qd; simp only [List.cons_append, fwd]; exact (List.prefix_cons_inj _).2 (ih _ _ _ _)
  exact this l _ _ _ _
/-- no product and no sum of the loop is too great -/
structure CBnd (t pn pd qn qd : Int) : Prop where
  a1 : -4000000000000000000 ≤ t*pn
  a2 : t*pn ≤ 4000000000000000000
  a3 : -4000000000000000000 ≤ t*pd
  a4 : t*pd ≤ 4000000000000000000
  a5 : -4000000000000000000 ≤ t*pn + qn
  a6 : t*pn + qn ≤ 4000000000000000000
  a7 : -4000000000000000000 ≤ t*pd + qd
  a8 : t*pd + qd ≤ 4000000000000000000
def CB (ts : List Int) : Prop := ∀ pre t, pre ++ [t] <+: ts → CBnd t (cs pre).1 (cs pre).2.1 (cs pre).2.2.1 (cs pre).2.2.2
end
section
theorem mem_cv_snoc {l : List Int} {t : Int} {y : Int × Int} (h : y ∈ cv (l ++ [t])) : y ∈ cv l ∨ y = ((cs (l ++ [t])).1, (cs (l ++ [t])).2.1) := by
  rw [cv_snoc] at h
  rw [cs_snoc]
  rcases List.mem_append.1 h with h | h
  · exact .inl h
  · exact .inr (by simpa using h)
/-- what the loop of convergents keeps: n/d the fraction, rn/rd what is left of it -/
structure CI (n d rn rd : Int) (pre : List Int) (s : Int) : Prop where
  sg : s = 1 ∨ s = -1
  rd1 : 1 ≤ rd
  gc : Int.gcd rn rd = 1
  run : CS n d rn rd (cs pre).1 (cs pre).2.1 (cs pre).2.2.1 (cs pre).2.2.2 s
  q0 : 0 ≤ (cs pre).2.2.2
  p0 : 0 ≤ (cs pre).2.1
  pq : 1 ≤ (cs pre).2.1 + (cs pre).2.2.2
  qp : (cs pre).2.1 ≤ d ∧ (cs pre).2.2.2 ≤ d
  pb : -(n.natAbs : Int) - 1 ≤ (cs pre).1 ∧ (cs pre).1 ≤ n.natAbs + 1
  qb : -(n.natAbs : Int) - 1 ≤ (cs pre).2.2.1 ∧ (cs pre).2.2.1 ≤ n.natAbs + 1
  st : pre = [] ∨ (rd < rn ∧ 1 ≤ (cs pre).2.1)
  lt : ∀ y ∈ cv pre, y.2 < d
theorem CI.start {n d : Int} (hd : 1 ≤ d) (hg : Int.gcd n d = 1) : CI n d n d [] 1 := by
  refine ⟨.inl rfl, hd, hg, CS.start n d, ?_, ?_, ?_, ?_, ?_, ?_, .inl rfl, ?_⟩
  all_goals first | (simp [cs_nil]; omega) | (simp [cs_nil]; done) | (intro y hy; simp [cv, fwd] at hy)
theorem CI.nil {n d rn rd s : Int} (h : CI n d rn rd [] s) : rn = n ∧ rd = d := by
  have e1 := h.run.en
  have e2 := h.run.ed
  simp [cs_nil] at e1 e2
  omega
/-- the next term's products and sums -/
theorem CI.bd {n d rn rd s : Int} {pre : List Int} (h : CI n d rn rd pre s) (h1 : -1000000000 ≤ n) (h2 : n ≤ 1000000000) (h4 : d ≤ 1000000) (r : Int) (hr0 : 0 ≤ r) (hrd : r < rd) (hr : rn - fl rn rd * rd = r) :
    (0 ≤ fl rn rd*(cs pre).2.1 + (cs pre).2.2.2 ∧ fl rn rd*(cs pre).2.1 + (cs pre).2.2.2 ≤ d) ∧
    (-(n.natAbs : Int) - 1 ≤ fl rn rd*(cs pre).1 + (cs pre).2.2.1 ∧ fl rn rd*(cs pre).1 + (cs pre).2.2.1 ≤ n.natAbs + 1) ∧
    CBnd (fl rn rd) (cs pre).1 (cs pre).2.1 (cs pre).2.2.1 (cs pre).2.2.2 := by
  have st := h.run.step (fl rn rd)
  rw [hr] at st
  have off := st.off
  obtain ⟨e1, e2, _⟩ := st
  have q0 := h.q0; have p0 := h.p0; have pq := h.pq
  obtain ⟨qp1, qp2⟩ := h.qp; obtain ⟨pb1, pb2⟩ := h.pb; obtain ⟨qb1, qb2⟩ := h.qb
  have rd1 := h.rd1
  have hst := h.st
  have sg := h.sg
  have hn0 : pre = [] → (cs pre) = (1, 0, 0, 1) := fun e => by rw [e]; rfl
  generalize fl rn rd = f at *
  generalize hcs : cs pre = c at *
  obtain ⟨pn, pd, qn, qd⟩ := c
  dsimp only at *
  have pd'0 : 0 ≤ f*pd + qd := by
    rcases hst with e | ⟨e, e'⟩
    · have := hn0 e
      simp only [Prod.mk.injEq] at this
      obtain ⟨-, rfl, -, rfl⟩ := this
      simp
    · have hf : 0 ≤ f := by
        by_cases hc : 0 ≤ f
        · exact hc
        · have : f*rd ≤ -1*rd := mulle (by omega) (by omega)
          omega
      have := Int.mul_nonneg hf p0
      omega
  have pd'd : f*pd + qd ≤ d := by
    have a1 : 1*(f*pd+qd) ≤ rd*(f*pd+qd) := mulle rd1 pd'0
    have a2 := Int.mul_nonneg hr0 p0
    omega
  have pn' : -(n.natAbs : Int) - 1 ≤ f*pn + qn ∧ f*pn + qn ≤ n.natAbs + 1 := by
    have hd1 : 1 ≤ d := by omega
    have k1 : n*(f*pd+qd) ≤ n.natAbs*d := by
      have a1 : n*(f*pd+qd) ≤ (n.natAbs : Int)*(f*pd+qd) := mulle (by omega) pd'0
      have a2 : (f*pd+qd)*(n.natAbs : Int) ≤ d*(n.natAbs : Int) := mulle pd'd (by omega)
      rw [Int.mul_comm (f*pd+qd), Int.mul_comm d] at a2
      omega
    have k2 : -((n.natAbs : Int)*d) ≤ n*(f*pd+qd) := by
      have a1 : (-n)*(f*pd+qd) ≤ (n.natAbs : Int)*(f*pd+qd) := mulle (by omega) pd'0
      have a2 : (f*pd+qd)*(n.natAbs : Int) ≤ d*(n.natAbs : Int) := mulle pd'd (by omega)
      rw [Int.mul_comm (f*pd+qd), Int.mul_comm d] at a2
      rw [Int.neg_mul] at a1
      omega
    have rle : r < d ∨ r = 0 := by
      -- r < rd, and rd ≤ d or the like
      by_cases hpd : 1 ≤ f*pd+qd
      · have a1 : rd*1 ≤ rd*(f*pd+qd) := by rw [Int.mul_comm rd 1, Int.mul_comm rd (f*pd+qd)]; exact mulle hpd (by omega)
        have a2 := Int.mul_nonneg hr0 p0
        omega
      · by_cases hz : r = 0
        · exact .inr hz
        · have z : f*pd+qd = 0 := by omega
          rw [z] at e2
          simp at e2
          have pd1 : 1 ≤ pd := by
            by_cases c : 1 ≤ pd
            · exact c
            · have : pd = 0 := by omega
              rw [this] at e2; simp at e2; omega
          have hqd : f*pd = -qd := by omega
          rcases hst with e | ⟨e, e'⟩
          · have := hn0 e
            simp only [Prod.mk.injEq] at this
            omega
          · have hf : 1 ≤ f := by
              by_cases hc : 1 ≤ f
              · exact hc
              · have : f*rd ≤ 0*rd := mulle (by omega) (by omega)
                omega
            have : 1*pd ≤ f*pd := mulle hf p0
            omega
    have sr : -d ≤ - -s*r ∧ - -s*r ≤ d := by
      rcases sg with rfl | rfl <;> omega
    constructor
    · have : (-(n.natAbs : Int) - 1)*d ≤ (f*pn+qn)*d := by
        have : (-(n.natAbs : Int) - 1)*d = -((n.natAbs : Int)*d) - d := by grind
        omega
      exact lemul this (by omega)
    · have : (f*pn+qn)*d ≤ ((n.natAbs : Int) + 1)*d := by
        have : ((n.natAbs : Int) + 1)*d = (n.natAbs : Int)*d + d := by grind
        omega
      exact lemul this (by omega)
  refine ⟨⟨pd'0, pd'd⟩, pn', ⟨by omega, by omega, by omega, by omega, by omega, by omega, by omega, by omega⟩⟩
theorem prefix_snoc {α : Type} {p l : List α} {t x : α} (h : p ++ [t] <+: l ++ [x]) : p ++ [t] <+: l ∨ (p = l ∧ t = x) := by
  rcases List.prefix_concat_iff.1 h with h | h
  · right
    have := List.append_inj' h rfl
    simpa using this
  · exact .inl h
/-- the whole run -/
theorem conv_run {n d : Int} (h1 : -1000000000 ≤ n) (h2 : n ≤ 1000000000) (h4 : d ≤ 1000000) : ∀ (k : Nat) (rn rd s : Int) (pre : List Int), rd.toNat ≤ k → CI n d rn rd pre s → CB pre →
    CB (pre ++ tm rn rd) ∧ ∃ P t s', pre ++ tm rn rd = P ++ [t] ∧ CI n d t 1 P s'
  | 0, rn, rd, s, pre, hk, h, _ => by have := h.rd1; omega
  | k+1, rn, rd, s, pre, hk, h, hb => by
    have rd1 := h.rd1
    have fr := @fl_rest rn rd rd1
    obtain ⟨⟨p1, p2⟩, p3, cb⟩ := h.bd h1 h2 h4 (rn - fl rn rd * rd) fr.1 fr.2 rfl
    have hb' : CB (pre ++ [fl rn rd]) := fun p t hp => by
      rcases prefix_snoc hp with hp | ⟨rfl, rfl⟩
      · exact hb p t hp
      · exact cb
    by_cases he : fl rn rd * rd = rn
    · have e1 : rd = 1 := rd_one rd1 h.gc he
      rw [tm_last rd1 he]
      refine ⟨hb', pre, fl rn rd, s, rfl, ?_⟩
      subst e1
      have : fl rn 1 = rn := by omega
      rw [this]
      exact h
    · rw [tm_cons rd1 he]
      have e0 : pre ++ fl rn rd :: tm rd (rn - fl rn rd * rd) = (pre ++ [fl rn rd]) ++ tm rd (rn - fl rn rd * rd) := by simp
      rw [e0]
      have q0 := h.q0; have p0 := h.p0; have pq := h.pq
      refine conv_run h1 h2 h4 k rd (rn - fl rn rd * rd) (-s) (pre ++ [fl rn rd]) (by omega) ?_ hb'
      have hpd1 : 1 ≤ fl rn rd * (cs pre).2.1 + (cs pre).2.2.2 := by
        rcases h.st with e | ⟨e, e'⟩
        · subst e; simp [cs_nil]
        · have hf : 1 ≤ fl rn rd := le_fl rd1 (by omega)
          have : 1*(cs pre).2.1 ≤ fl rn rd * (cs pre).2.1 := mulle hf p0
          omega
      have hst := h.run.step (fl rn rd)
      refine ⟨by rcases h.sg with e | e <;> omega, by omega, by rw [gcd_step]; exact h.gc, ?_, ?_, ?_, ?_, ?_, ?_, ?_, ?_, ?_⟩
      · rw [cs_snoc]; exact hst
      · rw [cs_snoc]; exact p0
      · rw [cs_snoc]; exact p1
      · rw [cs_snoc]; dsimp only; omega
      · rw [cs_snoc]; exact ⟨p2, h.qp.1⟩
      · rw [cs_snoc]; exact p3
      · rw [cs_snoc]; exact h.pb
      · right; rw [cs_snoc]; exact ⟨by omega, hpd1⟩
      · intro y hy
        rcases mem_cv_snoc hy with hy | rfl
        · exact h.lt y hy
        · rw [cs_snoc]
          dsimp only
          have e2 := hst.ed
          have rr : 1 ≤ rn - fl rn rd * rd := by omega
          rcases h.st with e | ⟨e, e'⟩
          · obtain ⟨z1, z2⟩ := (e ▸ h : CI n d rn rd [] s).nil
            subst e
            simp [cs_nil]
            omega
          · have hf : 1 ≤ fl rn rd := le_fl rd1 (by omega)
            exact conv_lt h.run (by omega) (by omega) q0 p0 (by omega) pq
/-- the last step: what the convergents of a fraction come to -/
theorem conv_last {n d : Int} (h1 : -1000000000 ≤ n) (h2 : n ≤ 1000000000) (h3 : 1 ≤ d) (h4 : d ≤ 1000000) (hg : Int.gcd n d = 1) :
    CB (tm n d) ∧ ∃ P t s, tm n d = P ++ [t] ∧ CI n d t 1 P s := by
  have := conv_run h1 h2 h4 d.toNat n d 1 [] (Nat.le_refl _) (CI.start h3 hg) (fun p t hp => by simp at hp)
  simpa using this
theorem CI.nb {n d t s : Int} {P : List Int} (h : CI n d t 1 P s) (hd : 2 ≤ d) : (s = 1 → Nb n d (n - (cs P).1) (d - (cs P).2.1) (cs P).1 (cs P).2.1) ∧ (s = -1 → Nb n d (cs P).1 (cs P).2.1 (n - (cs P).1) (d - (cs P).2.1)) := by
  rcases h.st with e | ⟨e, e'⟩
  · subst e; have := h.nil; omega
  · exact Nb.of_conv h.sg h.run (by omega) e' h.q0
theorem CI.end {n d t s : Int} {P : List Int} (h : CI n d t 1 P s) : cv (P ++ [t]) = cv P ++ [(n, d)] := by
  rw [cv_snoc]
  obtain ⟨e1, e2⟩ := h.run.last
  rw [e1, e2]
end
section
/-- lowest terms, across -/
theorem red_cross {n d : Int} : n * redD n d = redN n d * d := by
  obtain ⟨h1, h2⟩ := @red_mul n d
  calc n * redD n d = (redN n d * Int.gcd n d) * redD n d := by rw [h1]
    _ = redN n d * (redD n d * Int.gcd n d) := by grind
    _ = redN n d * d := by rw [h2]
/-- what is taken away again -/
theorem made_of {n d a b : Int} (hd : 1 ≤ d) (hb : 1 ≤ b) (hg : Int.gcd a b = 1) (hs : small a b = true) (e : a*d = n*b) : mN n d = a ∧ mD n d = b ∧ mE n d = 0 := by
  obtain ⟨e1, e2⟩ := red_eq hd hb hg e
  have : okR n d = true := by rw [okR, e1, e2]; exact hs
  obtain ⟨k1, k2, k3⟩ := made_yes this
  exact ⟨k1.trans e1, k2.trans e2, k3⟩
theorem mE_zero {n d : Int} (h : mE n d = 0) : okR n d = true := by
  cases h' : okR n d
  · rw [(made_no h').2.2] at h; omega
  · rfl
theorem sub_add {a b c d N D : Int} (e : (a*d + c*b)*D = N*(b*d)) : a*(D*d) = (N*d - c*D)*b := by grind
theorem quo_mul {a b c d N D : Int} (e : (a*c)*D = N*(b*d)) : a*(quoD N D c d) = (quoN N D c d)*b := by
  unfold quoN quoD; split <;> grind
theorem quoD_pos {N D c d : Int} (hD : 1 ≤ D) (hc : c ≠ 0) : 1 ≤ quoD N D c d := by
  unfold quoD
  split
  · have : 0 < D * (-c) := Int.mul_pos (by omega) (by omega)
    grind
  · have : 0 < D * c := Int.mul_pos (by omega) (by omega)
    omega
end
section
/-- between the neighbours lies no other fraction with so small a Den -/
theorem Nb.med {n d an ad bn bd yn yd : Int} (h : Nb n d an ad bn bd) (h1 : an*yd < yn*ad) (h2 : yn*bd < bn*yd) (hne : ¬ (yn = n ∧ yd = d)) : d < yd := by
  have hab := h.ab1
  have a1 := h.a1
  have b1 := h.b1
  have s1 := h.sn
  have s2 := h.sd
  have e : yd = (yn*ad - an*yd)*bd + (bn*yd - yn*bd)*ad := by grind
  have e' : yn = (yn*ad - an*yd)*bn + (bn*yd - yn*bd)*an := by grind
  generalize hu : yn*ad - an*yd = u at *
  generalize hv : bn*yd - yn*bd = v at *
  have u1 : 1 ≤ u := by omega
  have v1 : 1 ≤ v := by omega
  by_cases hu1 : u = 1
  · by_cases hv1 : v = 1
    · subst hu1; subst hv1
      exact absurd ⟨by omega, by omega⟩ hne
    · have p : 2*ad ≤ v*ad := mulle (by omega) (by omega)
      subst hu1
      omega
  · have p : 2*bd ≤ u*bd := mulle (by omega) (by omega)
    have q : 1*ad ≤ v*ad := mulle (by omega) (by omega)
    omega
/-- a neighbour is a right fraction too -/
theorem Nb.okF {n d an ad bn bd : Int} (h : Nb n d an ad bn bd) (hd : 2 ≤ d) (hk : Rm.okF n d = true) : Rm.okF an ad = true ∧ Rm.okF bn bd = true := by
  obtain ⟨x1, x2, x3, x4, _⟩ := okF_iff.1 hk
  have hs := h.side hd
  have hab := h.ab1
  have a1 := h.a1
  have b1 := h.b1
  have s1 := h.sn
  have s2 := h.sd
  have g1 : Int.gcd an ad = 1 := by
    have k1 : (Int.gcd an ad : Int) ∣ bn*ad - an*bd := Int.dvd_sub (Int.dvd_mul_of_dvd_right (Int.gcd_dvd_right _ _)) (Int.dvd_mul_of_dvd_left (Int.gcd_dvd_left _ _))
    rw [hab] at k1
    have := Int.natCast_dvd_natCast.1 (show ((Int.gcd an ad : Nat) : Int) ∣ ((1 : Nat) : Int) from k1)
    exact Nat.dvd_one.1 this
  have g2 : Int.gcd bn bd = 1 := by
    have k1 : (Int.gcd bn bd : Int) ∣ bn*ad - an*bd := Int.dvd_sub (Int.dvd_mul_of_dvd_left (Int.gcd_dvd_left _ _)) (Int.dvd_mul_of_dvd_right (Int.gcd_dvd_right _ _))
    rw [hab] at k1
    have := Int.natCast_dvd_natCast.1 (show ((Int.gcd bn bd : Nat) : Int) ∣ ((1 : Nat) : Int) from k1)
    exact Nat.dvd_one.1 this
  refine ⟨okF_iff.2 ⟨by omega, by omega, by omega, by omega, g1⟩, okF_iff.2 ⟨by omega, by omega, by omega, by omega, g2⟩⟩
/-- how far a fraction below the bracket lies -/
theorem below_far {n d a b c e : Int} (h : c*b ≤ a*e) (hd : 1 ≤ d) : (n*b - a*d)*e ≤ (n*e - c*d)*b := by
  have p : (c*b)*d ≤ (a*e)*d := mulle h (by omega)
  grind
theorem above_far {n d a b c e : Int} (h : a*e ≤ c*b) (hd : 1 ≤ d) : (a*d - n*b)*e ≤ (c*d - n*e)*b := by
  have p : (a*e)*d ≤ (c*b)*d := mulle h (by omega)
  grind
/-- the nearer one is nearer than what lies behind the other one -/
theorem far_of {u v b b' e Y : Int} (h : u*b' ≤ v*b) (hy : v*e ≤ Y*b') (hb : 1 ≤ b) (hb' : 1 ≤ b') (he : 1 ≤ e) : u*e ≤ Y*b := by
  have p : (u*b')*e ≤ (v*b)*e := mulle h (by omega)
  have q : (v*e)*b ≤ (Y*b')*b := mulle hy (by omega)
  have : (u*e)*b' ≤ (Y*b)*b' := by grind
  exact lemul this (by omega)
end
end Go.Proofs.YtconhikflghkdaaGreatDoor.Rm
