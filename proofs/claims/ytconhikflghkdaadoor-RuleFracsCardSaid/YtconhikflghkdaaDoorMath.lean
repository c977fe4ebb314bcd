/- Plain laws of fractions: simplest ones, neighbours, brackets, convergents, the search in the tree of fractions, lowest terms. No program in sight. -/
namespace Go.Proofs.YtconhikflghkdaaDoor.Rm
theorem mulle {a b c : Int} (h : a ≤ b) (hc : 0 ≤ c) : a*c ≤ b*c := Int.mul_le_mul_of_nonneg_right h hc
theorem ltmul {a b c : Int} (h : a*c < b*c) (hc : 0 ≤ c) : a < b := Int.lt_of_mul_lt_mul_right h hc
theorem lemul {a b c : Int} (h : a*c ≤ b*c) (hc : 0 < c) : a ≤ b := Int.le_of_mul_le_mul_right h hc
theorem posl {a b : Int} (h : 0 < a*b) (hb : 0 < b) : 0 < a := by
  have := @ltmul 0 a b (by simpa using h) (by omega); exact this

/-- x lies in the range, and no other fraction of the range has a lesser part -/
structure PS (ln ld hn hd xn xd : Int) : Prop where
  d1 : 1 ≤ xd
  lo : ln*xd ≤ xn*ld
  hi : xn*hd ≤ hn*xd
  md : ∀ yn yd : Int, 1 ≤ yd → ln*yd ≤ yn*ld → yn*hd ≤ hn*yd → xd ≤ yd
  mn : ∀ yn yd : Int, 1 ≤ yd → ln*yd ≤ yn*ld → yn*hd ≤ hn*yd → xn.natAbs ≤ yn.natAbs

theorem PS.unique {ln ld hn hd xn xd zn zd : Int} (h : PS ln ld hn hd xn xd) (g : PS ln ld hn hd zn zd) : xn = zn ∧ xd = zd := by
  have d : xd = zd := by
    have := h.md zn zd g.d1 g.lo g.hi
    have := g.md xn xd h.d1 h.lo h.hi
    omega
  subst d
  have a1 := h.mn zn xd g.d1 g.lo g.hi
  have a2 := g.mn xn xd h.d1 h.lo h.hi
  refine ⟨?_, rfl⟩
  by_cases e : xn = zn
  · exact e
  · exfalso
    have e2 : zn = -xn := by omega
    subst e2
    -- 0/1 lies in the range
    have p1 := h.lo
    have p2 := g.lo
    have p3 := h.hi
    have p4 := g.hi
    have q1 : ln*1 ≤ 0*ld := by
      have : ln * xd ≤ 0 * xd := by
        have : -xn*ld = -(xn*ld) := Int.neg_mul _ _
        rw [this] at p2; omega
      have := lemul this (by have := h.d1; omega)
      omega
    have q2 : 0*hd ≤ hn*1 := by
      have : 0 * xd ≤ hn * xd := by
        have : -xn*hd = -(xn*hd) := Int.neg_mul _ _
        rw [this] at p4; omega
      have := lemul this (by have := h.d1; omega)
      omega
    have := h.mn 0 1 (by omega) q1 q2
    omega

theorem PS.neg {ln ld hn hd xn xd : Int} (h : PS (-hn) hd (-ln) ld xn xd) : PS ln ld hn hd (-xn) xd := by
  refine ⟨h.d1, ?_, ?_, ?_, ?_⟩
  · have := h.hi; simp only [Int.neg_mul] at *; omega
  · have := h.lo; simp only [Int.neg_mul] at *; omega
  · intro yn yd h1 h2 h3
    refine h.md (-yn) yd h1 ?_ ?_ <;> (simp only [Int.neg_mul] at *; omega)
  · intro yn yd h1 h2 h3
    have := h.mn (-yn) yd h1 ?_ ?_
    · simpa using this
    all_goals (simp only [Int.neg_mul] at *; omega)

theorem PS.zero {ln ld hn hd : Int} (h1 : ln ≤ 0) (h2 : 0 ≤ hn) : PS ln ld hn hd 0 1 := by
  refine ⟨by omega, by omega, by omega, ?_, ?_⟩
  · intro yn yd h _ _; exact h
  · intro yn yd h _ _; simp

theorem PS.low {ln hn hd : Int} (h1 : 0 < ln) (h2 : ln*hd ≤ hn*1) : PS ln 1 hn hd ln 1 := by
  refine ⟨by omega, by omega, by omega, ?_, ?_⟩
  · intro yn yd h _ _; exact h
  · intro yn yd h a _
    have : ln*1 ≤ ln*yd := Int.mul_le_mul_of_nonneg_left h (by omega)
    omega

theorem PS.next {ln ld hn hd f : Int} (hld : 1 ≤ ld) (f0 : 0 ≤ f) (h1 : f*ld < ln) (h2 : ln < (f+1)*ld) (h3 : (f+1)*hd ≤ hn) : PS ln ld hn hd (f+1) 1 := by
  refine ⟨by omega, by omega, by omega, ?_, ?_⟩
  · intro yn yd h _ _; exact h
  · intro yn yd h a _
    have p : f*yd*ld < yn*ld := by
      have : f*ld*yd < ln*yd := Int.mul_lt_mul_of_pos_right h1 (by omega)
      have e : f*ld*yd = f*yd*ld := by grind
      omega
    have q := ltmul p (by omega)
    have : f*1 ≤ f*yd := Int.mul_le_mul_of_nonneg_left h f0
    omega

theorem PS.step {ln ld hn hd f xn xd : Int} (hld : 1 ≤ ld) (hhd : 1 ≤ hd) (f0 : 0 ≤ f) (h1 : f*ld < ln) (hr : ln*hd ≤ hn*ld)
    (h : PS hd (hn - f*hd) ld (ln - f*ld) xn xd) : PS ln ld hn hd (f*xn + xd) xn := by
  obtain ⟨d1, lo, hi, md, mn⟩ := h
  have a1 : 1 ≤ ln - f*ld := by omega
  have b1 : 1 ≤ hn - f*hd := by
    have : 0 < (hn - f*hd)*ld := by
      have : 0 < (ln - f*ld)*hd := Int.mul_pos (by omega) (by omega)
      grind
    have := posl this (by omega)
    omega
  have x1 : 1 ≤ xn := by
    have : 0 < hd*xd := Int.mul_pos (by omega) (by omega)
    have : 0 < xn*(hn - f*hd) := by omega
    have := posl this (by omega)
    omega
  have key : ∀ yn yd : Int, 1 ≤ yd → ln*yd ≤ yn*ld → yn*hd ≤ hn*yd → xn ≤ yd ∧ xd ≤ yn - f*yd := by
    intro yn yd h a b
    have z1 : 1 ≤ yn - f*yd := by
      have : 0 < (ln - f*ld)*yd := Int.mul_pos (by omega) (by omega)
      have : 0 < (yn - f*yd)*ld := by grind
      have := posl this (by omega)
      omega
    have r1 : hd*(yn - f*yd) ≤ yd*(hn - f*hd) := by grind
    have r2 : yd*(ln - f*ld) ≤ ld*(yn - f*yd) := by grind
    have := md yd (yn - f*yd) z1 r1 r2
    have := mn yd (yn - f*yd) z1 r1 r2
    omega
  refine ⟨x1, by grind, by grind, fun yn yd h a b => (key yn yd h a b).1, ?_⟩
  intro yn yd h a b
  have ⟨k1, k2⟩ := key yn yd h a b
  have : f*xn ≤ f*yd := Int.mul_le_mul_of_nonneg_left k1 f0
  have : 0 ≤ f*xn := Int.mul_nonneg f0 (by omega)
  omega

/-- no part of the simplest fraction is greater than those of the low end, where this is above zero -/
theorem PS.le_low {ln ld hn hd xn xd : Int} (hl : 1 ≤ ld) (hr : ln*hd ≤ hn*ld) (h : PS ln ld hn hd xn xd) : xd ≤ ld ∧ xn.natAbs ≤ ln.natAbs :=
  ⟨h.md ln ld hl (by omega) hr, h.mn ln ld hl (by omega) hr⟩
/-- the pair a, b of neighbours of x = n/d -/
structure Nb (n d an ad bn bd : Int) : Prop where
  a1 : 1 ≤ ad
  b1 : 1 ≤ bd
  sn : an + bn = n
  sd : ad + bd = d
  ad1 : n*ad - an*d = 1

theorem Nb.bd1 {n d an ad bn bd : Int} (h : Nb n d an ad bn bd) : bn*d - n*bd = 1 := by
  obtain ⟨_, _, rfl, rfl, h⟩ := h; grind
theorem Nb.ab1 {n d an ad bn bd : Int} (h : Nb n d an ad bn bd) : bn*ad - an*bd = 1 := by
  obtain ⟨_, _, rfl, rfl, h⟩ := h; grind

/-- between a pair of neighbours lie only fractions with greater parts -/
theorem adj_sum {an ad bn bd yn yd : Int} (h : bn*ad - an*bd = 1) (ha : 1 ≤ ad) (hb : 1 ≤ bd) (h1 : an*yd < yn*ad) (h2 : yn*bd < bn*yd) : ad + bd ≤ yd := by
  have e : yd = (yn*ad - an*yd)*bd + (bn*yd - yn*bd)*ad := by grind
  have p1 : 1*bd ≤ (yn*ad - an*yd)*bd := mulle (by omega) (by omega)
  have p2 : 1*ad ≤ (bn*yd - yn*bd)*ad := mulle (by omega) (by omega)
  omega
theorem adj_eq {an ad bn bd yn yd : Int} (h : bn*ad - an*bd = 1) (ha : 1 ≤ ad) (hb : 1 ≤ bd) (h1 : an*yd < yn*ad) (h2 : yn*bd < bn*yd) (h3 : yd ≤ ad + bd) : yn = an + bn ∧ yd = ad + bd := by
  have e : yd = (yn*ad - an*yd)*bd + (bn*yd - yn*bd)*ad := by grind
  have e' : yn = (yn*ad - an*yd)*bn + (bn*yd - yn*bd)*an := by grind
  generalize hu : yn*ad - an*yd = u at *
  generalize hv : bn*yd - yn*bd = v at *
  have p1 : 1*bd ≤ u*bd := mulle (by omega) (by omega)
  have p2 : 1*ad ≤ v*ad := mulle (by omega) (by omega)
  have hu1 : u = 1 := by
    by_cases c : u = 1
    · exact c
    · have : 2*bd ≤ u*bd := mulle (by omega) (by omega)
      omega
  have hv1 : v = 1 := by
    by_cases c : v = 1
    · exact c
    · have : 2*ad ≤ v*ad := mulle (by omega) (by omega)
      omega
  subst hu1 hv1
  omega

/-- a and b are the nearest ones with a Den of at most m: a at most x, b at least x, nothing lies between them that is small enough but x itself -/
structure Brk (n d m an ad bn bd : Int) : Prop where
  a1 : 1 ≤ ad
  am : ad ≤ m
  b1 : 1 ≤ bd
  bm : bd ≤ m
  al : an*d ≤ n*ad
  bl : n*bd ≤ bn*d
  /-- each fraction that is small enough and at most x is at most a; of those that equal a, none has a lesser Den -/
  ag : ∀ yn yd : Int, 1 ≤ yd → yd ≤ m → yn*d ≤ n*yd → yn*ad ≤ an*yd ∧ (yn*ad = an*yd → ad ≤ yd)
  bg : ∀ yn yd : Int, 1 ≤ yd → yd ≤ m → n*yd ≤ yn*d → bn*yd ≤ yn*bd ∧ (bn*yd = yn*bd → bd ≤ yd)

theorem Brk.unique {n d m an ad bn bd cn cd en ed : Int} (h : Brk n d m an ad bn bd) (g : Brk n d m cn cd en ed) : an = cn ∧ ad = cd ∧ bn = en ∧ bd = ed := by
  have h1 := h.ag cn cd g.a1 g.am g.al
  have g1 := g.ag an ad h.a1 h.am h.al
  have h2 := h.bg en ed g.b1 g.bm g.bl
  have g2 := g.bg bn bd h.b1 h.bm h.bl
  have e1 : cn*ad = an*cd := by omega
  have e2 : bn*ed = en*bd := by omega
  have d1 : ad = cd := by have := h1.2 e1; have := g1.2 (by omega); omega
  have d2 : bd = ed := by have := h2.2 e2; have := g2.2 (by omega); omega
  subst d1 d2
  refine ⟨?_, rfl, ?_, rfl⟩
  · have := lemul (Int.le_of_eq e1) (by have := h.a1; omega)
    have := lemul (Int.le_of_eq e1.symm) (by have := h.a1; omega)
    omega
  · have := lemul (Int.le_of_eq e2) (by have := h.b1; omega)
    have := lemul (Int.le_of_eq e2.symm) (by have := h.b1; omega)
    omega

/-- neighbouring fractions on both sides of x, the sum of whose Dens is too great, bracket x -/
theorem Brk.of_adj {n d m an ad bn bd : Int} (hd : 1 ≤ d) (h : bn*ad - an*bd = 1) (ha : 1 ≤ ad) (hb : 1 ≤ bd) (ham : ad ≤ m) (hbm : bd ≤ m) (hs : m < ad + bd)
    (h1 : an*d < n*ad) (h2 : n*bd < bn*d) : Brk n d m an ad bn bd := by
  refine ⟨ha, ham, hb, hbm, by omega, by omega, ?_, ?_⟩
  · intro yn yd y1 ym yl
    -- y ≤ x < b
    have yb : yn*bd < bn*yd := by
      have p1 : yn*d*bd ≤ n*yd*bd := mulle yl (by omega)
      have p2 : n*bd*yd < bn*d*yd := Int.mul_lt_mul_of_pos_right h2 (by omega)
      have : (yn*bd)*d < (bn*yd)*d := by grind
      exact ltmul this (by omega)
    have q : yn*ad ≤ an*yd := by
      by_cases c : yn*ad ≤ an*yd
      · exact c
      · have := adj_sum (yn := yn) (yd := yd) h ha hb (by omega) yb
        omega
    refine ⟨q, fun e => ?_⟩
    -- yd = (bn yd - yn bd) ad
    have e2 : yd = (bn*yd - yn*bd)*ad := by grind
    have : 1*ad ≤ (bn*yd - yn*bd)*ad := mulle (by omega) (by omega)
    omega
  · intro yn yd y1 ym yl
    have ya : an*yd < yn*ad := by
      have p1 : n*yd*ad ≤ yn*d*ad := mulle yl (by omega)
      have p2 : an*d*yd < n*ad*yd := Int.mul_lt_mul_of_pos_right h1 (by omega)
      have : (an*yd)*d < (yn*ad)*d := by grind
      exact ltmul this (by omega)
    have q : bn*yd ≤ yn*bd := by
      by_cases c : bn*yd ≤ yn*bd
      · exact c
      · have := adj_sum (yn := yn) (yd := yd) h ha hb ya (by omega)
        omega
    refine ⟨q, fun e => ?_⟩
    have e2 : yd = (yn*ad - an*yd)*bd := by grind
    have : 1*bd ≤ (yn*ad - an*yd)*bd := mulle (by omega) (by omega)
    omega

/-- a fraction in lowest terms that is small enough brackets itself -/
theorem dvd_of_eq {n d yn yd : Int} (hd : 1 ≤ d) (hg : Int.gcd n d = 1) (hy : 1 ≤ yd) (e : yn*d = n*yd) : d ≤ yd := by
  have : d ∣ n * yd := ⟨yn, by grind⟩
  have h2 : d.natAbs ∣ n.natAbs * yd.natAbs := by
    have := Int.natAbs_dvd_natAbs.2 this
    rwa [Int.natAbs_mul] at this
  have hc : Nat.Coprime d.natAbs n.natAbs := by
    have : Nat.gcd n.natAbs d.natAbs = 1 := hg
    rw [Nat.Coprime, Nat.gcd_comm]; exact this
  have h3 := Nat.le_of_dvd (by omega) (hc.dvd_of_dvd_mul_left h2)
  omega
theorem Brk.self {n d m : Int} (hd : 1 ≤ d) (hg : Int.gcd n d = 1) (hm : d ≤ m) : Brk n d m n d n d := by
  refine ⟨hd, hm, hd, hm, by omega, by omega, ?_, ?_⟩
  · intro yn yd y1 _ yl
    exact ⟨yl, fun e => dvd_of_eq hd hg y1 e⟩
  · intro yn yd y1 _ yl
    exact ⟨yl, fun e => dvd_of_eq hd hg y1 e.symm⟩
/-- the neighbours bracket x among the Dens that are less than its own -/
theorem Nb.brk {n d an ad bn bd : Int} (h : Nb n d an ad bn bd) : Brk n d (d-1) an ad bn bd := by
  have h1 := h.ab1
  have h2 := h.bd1
  obtain ⟨a1, b1, sn, sd, h3⟩ := h
  exact Brk.of_adj (by omega) h1 a1 b1 (by omega) (by omega) (by omega) (by omega) (by omega)
/-- a is the greatest fraction that is at most n/d, of those with a Den of at most m, with the least Den -/
structure LowB (n d m an ad : Int) : Prop where
  a1 : 1 ≤ ad
  am : ad ≤ m
  al : an*d ≤ n*ad
  ag : ∀ yn yd : Int, 1 ≤ yd → yd ≤ m → yn*d ≤ n*yd → yn*ad ≤ an*yd ∧ (yn*ad = an*yd → ad ≤ yd)
structure HighB (n d m an ad : Int) : Prop where
  a1 : 1 ≤ ad
  am : ad ≤ m
  al : n*ad ≤ an*d
  ag : ∀ yn yd : Int, 1 ≤ yd → yd ≤ m → n*yd ≤ yn*d → an*yd ≤ yn*ad ∧ (an*yd = yn*ad → ad ≤ yd)
theorem Brk.mk' {n d m an ad bn bd : Int} (h : LowB n d m an ad) (g : HighB n d m bn bd) : Brk n d m an ad bn bd :=
  ⟨h.a1, h.am, g.a1, g.am, h.al, g.al, h.ag, g.ag⟩

def fl (n d : Int) : Int := n / d
def cl (n d : Int) : Int := -((-n) / d)
theorem fl_le {n d : Int} (hd : 1 ≤ d) : fl n d * d ≤ n := Int.ediv_mul_le n (by omega)
theorem lt_fl {n d : Int} (hd : 1 ≤ d) : n < (fl n d + 1)*d := Int.lt_ediv_add_one_mul_self n (by omega)
theorem le_fl {n d y : Int} (hd : 1 ≤ d) (h : y*d ≤ n) : y ≤ fl n d := (Int.le_ediv_iff_mul_le (by omega)).2 h
theorem le_cl {n d : Int} (hd : 1 ≤ d) : n ≤ cl n d * d := by
  have := @fl_le (-n) d hd
  unfold cl fl at *
  rw [Int.neg_mul]; omega
theorem cl_le {n d y : Int} (hd : 1 ≤ d) (h : n ≤ y*d) : cl n d ≤ y := by
  have : -y ≤ fl (-n) d := le_fl hd (by rw [Int.neg_mul]; omega)
  unfold cl fl at *
  omega
theorem fl_unique {n d y : Int} (hd : 1 ≤ d) (h : y*d ≤ n) (g : n < (y+1)*d) : y = fl n d := by
  have := le_fl hd h
  have h2 := @fl_le n d hd
  have : fl n d * d < (y+1)*d := by omega
  have := ltmul this (by omega)
  omega
theorem cl_unique {n d y : Int} (hd : 1 ≤ d) (h : n ≤ y*d) (g : (y-1)*d < n) : y = cl n d := by
  have := cl_le hd h
  have h2 := @le_cl n d hd
  have : (y-1)*d < cl n d*d := by omega
  have := ltmul this (by omega)
  omega

theorem LowB.one {n d : Int} (hd : 1 ≤ d) : LowB n d 1 (fl n d) 1 := by
  refine ⟨by omega, by omega, by have := @fl_le n d hd; omega, ?_⟩
  intro yn yd y1 ym yl
  have : yd = 1 := by omega
  subst this
  have := le_fl hd (show yn*d ≤ n by omega)
  omega
theorem HighB.one {n d : Int} (hd : 1 ≤ d) : HighB n d 1 (cl n d) 1 := by
  refine ⟨by omega, by omega, by have := @le_cl n d hd; omega, ?_⟩
  intro yn yd y1 ym yl
  have : yd = 1 := by omega
  subst this
  have := cl_le hd (show n ≤ yn*d by omega)
  omega
theorem LowB.yes {n d k an ad : Int} (hd : 1 ≤ d) (hk : 1 ≤ k) (h : LowB n d k an ad) (c : 0 < fl (n*(k+1)) d * ad - an*(k+1)) : LowB n d (k+1) (fl (n*(k+1)) d) (k+1) := by
  have f1 := @fl_le (n*(k+1)) d hd
  refine ⟨by omega, by omega, by omega, ?_⟩
  intro yn yd y1 ym yl
  by_cases e : yd = k+1
  · subst e
    have := le_fl hd yl
    exact ⟨mulle this (by omega), fun _ => by omega⟩
  · have ⟨h1, _⟩ := h.ag yn yd y1 (by omega) yl
    have a1 := h.a1
    have p1 : yn*ad*(k+1) ≤ an*yd*(k+1) := mulle h1 (by omega)
    have p2 : an*(k+1)*yd < fl (n*(k+1)) d*ad*yd := Int.mul_lt_mul_of_pos_right (by omega) (by omega)
    have : (yn*(k+1))*ad < (fl (n*(k+1)) d*yd)*ad := by grind
    have := ltmul this (by omega)
    omega
theorem LowB.no {n d k an ad : Int} (hd : 1 ≤ d) (h : LowB n d k an ad) (c : fl (n*(k+1)) d * ad - an*(k+1) ≤ 0) : LowB n d (k+1) an ad := by
  refine ⟨h.a1, by have := h.am; omega, h.al, ?_⟩
  intro yn yd y1 ym yl
  by_cases e : yd = k+1
  · subst e
    have := le_fl hd yl
    have : yn*ad ≤ fl (n*(k+1)) d*ad := mulle this (by have := h.a1; omega)
    exact ⟨by omega, fun _ => by have := h.am; omega⟩
  · exact h.ag yn yd y1 (by omega) yl
theorem HighB.yes {n d k an ad : Int} (hd : 1 ≤ d) (hk : 1 ≤ k) (h : HighB n d k an ad) (c : cl (n*(k+1)) d * ad - an*(k+1) < 0) : HighB n d (k+1) (cl (n*(k+1)) d) (k+1) := by
  have f1 := @le_cl (n*(k+1)) d hd
  refine ⟨by omega, by omega, by omega, ?_⟩
  intro yn yd y1 ym yl
  by_cases e : yd = k+1
  · subst e
    have := cl_le hd yl
    exact ⟨mulle this (by omega), fun _ => by omega⟩
  · have ⟨h1, _⟩ := h.ag yn yd y1 (by omega) yl
    have a1 := h.a1
    have p1 : an*yd*(k+1) ≤ yn*ad*(k+1) := mulle h1 (by omega)
    have p2 : cl (n*(k+1)) d*ad*yd < an*(k+1)*yd := Int.mul_lt_mul_of_pos_right (by omega) (by omega)
    have : (cl (n*(k+1)) d*yd)*ad < (yn*(k+1))*ad := by grind
    have := ltmul this (by omega)
    omega
theorem HighB.no {n d k an ad : Int} (hd : 1 ≤ d) (h : HighB n d k an ad) (c : 0 ≤ cl (n*(k+1)) d * ad - an*(k+1)) : HighB n d (k+1) an ad := by
  refine ⟨h.a1, by have := h.am; omega, h.al, ?_⟩
  intro yn yd y1 ym yl
  by_cases e : yd = k+1
  · subst e
    have := cl_le hd yl
    have : cl (n*(k+1)) d*ad ≤ yn*ad := mulle this (by have := h.a1; omega)
    exact ⟨by omega, fun _ => by have := h.am; omega⟩
  · exact h.ag yn yd y1 (by omega) yl
/-- the state of the loop that makes convergents: r is what is left of x = n/d; p is the last convergent, q the one before; s is their determinant -/
structure CS (n d rn rd pn pd qn qd s : Int) : Prop where
  en : n = rn*pn + rd*qn
  ed : d = rn*pd + rd*qd
  det : pn*qd - qn*pd = s
theorem CS.start (n d : Int) : CS n d n d 1 0 0 1 1 := ⟨by omega, by omega, by omega⟩
theorem CS.step {n d rn rd pn pd qn qd s : Int} (t : Int) (h : CS n d rn rd pn pd qn qd s) : CS n d rd (rn - t*rd) (t*pn + qn) (t*pd + qd) pn pd (-s) := by
  obtain ⟨h1, h2, h3⟩ := h
  exact ⟨by grind, by grind, by grind⟩
theorem CS.off {n d rn rd pn pd qn qd s : Int} (h : CS n d rn rd pn pd qn qd s) : n*pd - pn*d = -s*rd := by
  obtain ⟨h1, h2, h3⟩ := h
  grind
/-- the last round: what it makes is x -/
theorem CS.last {n d rn pn pd qn qd s : Int} (h : CS n d rn 1 pn pd qn qd s) : rn*pn + qn = n ∧ rn*pd + qd = d := by
  obtain ⟨h1, h2, h3⟩ := h
  exact ⟨by omega, by omega⟩

/-- gcd of what is left -/
theorem gcd_step {n d t : Int} : Int.gcd d (n - t*d) = Int.gcd n d := by
  rw [Int.gcd_comm n d]
  have : n - t*d = n + d*(-t) := by grind
  rw [this, Int.gcd_add_mul_left_right]
theorem rd_one {n d t : Int} (hd : 1 ≤ d) (hg : Int.gcd n d = 1) (e : t*d = n) : d = 1 := by
  have := @gcd_step n d t
  rw [hg, e, Int.sub_self, Int.gcd_zero_right] at this
  omega

/-- the invariant of neighbours: at least one round has been done, one is left at least -/
theorem Nb.of_conv {n d rn pn pd qn qd s : Int} (hs : s = 1 ∨ s = -1) (h : CS n d rn 1 pn pd qn qd s) (hr : 2 ≤ rn) (hp : 1 ≤ pd) (hq : 0 ≤ qd) :
    (s = 1 → Nb n d (n - pn) (d - pd) pn pd) ∧ (s = -1 → Nb n d pn pd (n - pn) (d - pd)) := by
  have o := h.off
  obtain ⟨h1, h2, h3⟩ := h
  have k : 2*pd ≤ rn*pd := mulle hr (by omega)
  constructor
  · intro e
    subst e
    exact ⟨by omega, hp, by omega, by omega, by grind⟩
  · intro e
    subst e
    exact ⟨hp, by omega, by omega, by omega, by grind⟩

/-- a convergent that is not the last one has a lesser Den than x -/
theorem conv_lt {n d rn rd pn pd qn qd s t : Int} (h : CS n d rn rd pn pd qn qd s) (ht : 0 ≤ t) (h2 : t*rd < rn) (hq : 0 ≤ qd) (hp : 0 ≤ pd) (hpq : 2 ≤ rd) (hx : 1 ≤ pd + qd) : t*pd + qd < d := by
  obtain ⟨_, e, _⟩ := h
  have a : (t + 1)*pd ≤ rn*pd := mulle (by
    have : t*2 ≤ t*rd := Int.mul_le_mul_of_nonneg_left hpq ht
    omega) hp
  have b : 2*qd ≤ rd*qd := mulle hpq hq
  have : (t+1)*pd = t*pd + pd := by grind
  omega

/-- the terms of a fraction -/
def terms : Nat → Int → Int → List Int
  | 0, _, _ => []
  | k+1, n, d => if fl n d * d = n then [fl n d] else fl n d :: terms k d (n - fl n d * d)
/-- terms put together from behind -/
def back : List Int → Int × Int
  | [] => (1, 0)
  | a :: l => (a*(back l).1 + (back l).2, (back l).1)
/-- terms put together from the front: the convergents -/
def fwd : Int → Int → Int → Int → List Int → List (Int × Int)
  | _, _, _, _, [] => []
  | pn, pd, qn, qd, a :: l => (a*pn + qn, a*pd + qd) :: fwd (a*pn + qn) (a*pd + qd) pn pd l
def fwdEnd : Int → Int → Int → Int → List Int → Int × Int
  | pn, pd, _, _, [] => (pn, pd)
  | pn, pd, qn, qd, a :: l => fwdEnd (a*pn + qn) (a*pd + qd) pn pd l
theorem fwdEnd_eq (l : List Int) : ∀ pn pd qn qd : Int, fwdEnd pn pd qn qd l = ((back l).1*pn + (back l).2*qn, (back l).1*pd + (back l).2*qd) := by
  induction l with
  | nil => intro pn pd qn qd; simp [fwdEnd, back]
  | cons a l ih =>
    intro pn pd qn qd
    rw [fwdEnd, ih]
    simp only [back, Prod.mk.injEq]
    constructor <;> grind
theorem fwdEnd_start (l : List Int) : fwdEnd 1 0 0 1 l = back l := by
  rw [fwdEnd_eq]; simp
theorem fwd_length (l : List Int) : ∀ pn pd qn qd : Int, (fwd pn pd qn qd l).length = l.length := by
  induction l with
  | nil => intros; rfl
  | cons a l ih => intros; simp [fwd, ih]
theorem fwd_get (l : List Int) : ∀ (pn pd qn qd : Int) (i : Nat) (h : i < l.length), (fwd pn pd qn qd l)[i]'(by rw [fwd_length]; exact h) = fwdEnd pn pd qn qd (l.take (i+1)) := by
  induction l with
  | nil => intro _ _ _ _ i h; simp at h
  | cons a l ih =>
    intro pn pd qn qd i h
    cases i with
    | zero => simp [fwd, fwdEnd]
    | succ i =>
      simp only [fwd, List.getElem_cons_succ, List.take_succ_cons, fwdEnd]
      exact ih _ _ _ _ i (by simpa using h)
/-- the state of the search in the tree of fractions -/
structure AS (n d m ln ld hn hd : Int) : Prop where
  l1 : 1 ≤ ld
  lm : ld ≤ m
  h1 : 1 ≤ hd
  hm : hd ≤ m
  det : hn*ld - ln*hd = 1
  ll : ln*d < n*ld
  hh : n*hd < hn*d
  lf : fl n d * ld ≤ ln
  hf : hn ≤ (fl n d + 1)*hd
theorem AS.start {n d m : Int} (hg : Int.gcd n d = 1) (hm : 1 ≤ m) (hd : m < d) : AS n d m (fl n d) 1 (fl n d + 1) 1 := by
  have h1 := @fl_le n d (by omega)
  have h2 := @lt_fl n d (by omega)
  refine ⟨by omega, hm, by omega, hm, by omega, ?_, by omega, by omega, by omega⟩
  by_cases e : fl n d * d = n
  · have := rd_one (by omega) hg e; omega
  · omega
theorem AS.low {n d m ln ld hn hd k : Int} (hg : Int.gcd n d = 1) (hmd : m < d) (h : AS n d m ln ld hn hd) (k0 : 0 ≤ k) (k1 : k*(hn*d - n*hd) ≤ n*ld - ln*d) (k2 : k*hd ≤ m - ld) :
    AS n d m (ln + k*hn) (ld + k*hd) hn hd := by
  obtain ⟨l1, lm, h1, hm, det, ll, hh, lf, hf⟩ := h
  have p : 0 ≤ k*hd := Int.mul_nonneg k0 (by omega)
  refine ⟨by omega, by omega, h1, hm, by grind, ?_, hh, ?_, hf⟩
  · by_cases e : (ln + k*hn)*d = n*(ld + k*hd)
    · have := dvd_of_eq (by omega) hg (by omega) e
      omega
    · have : (ln + k*hn)*d ≤ n*(ld + k*hd) := by grind
      omega
  · -- high lies above the floor
    have : fl n d * hd ≤ hn := by
      have a := @fl_le n d (by omega)
      have b : fl n d * d * hd ≤ n*hd := mulle a (by omega)
      have c : (fl n d * hd)*d ≤ hn*d := by grind
      exact lemul c (by omega)
    have : k*(fl n d*hd) ≤ k*hn := Int.mul_le_mul_of_nonneg_left this k0
    grind
theorem AS.high {n d m ln ld hn hd k : Int} (hg : Int.gcd n d = 1) (hmd : m < d) (h : AS n d m ln ld hn hd) (k0 : 0 ≤ k) (k1 : k*(n*ld - ln*d) ≤ hn*d - n*hd) (k2 : k*ld ≤ m - hd) :
    AS n d m ln ld (hn + k*ln) (hd + k*ld) := by
  obtain ⟨l1, lm, h1, hm, det, ll, hh, lf, hf⟩ := h
  have p : 0 ≤ k*ld := Int.mul_nonneg k0 (by omega)
  refine ⟨l1, lm, by omega, by omega, by grind, ll, ?_, lf, ?_⟩
  · by_cases e : (hn + k*ln)*d = n*(hd + k*ld)
    · have := dvd_of_eq (by omega) hg (by omega) e
      omega
    · have : n*(hd + k*ld) ≤ (hn + k*ln)*d := by grind
      omega
  · have : ln ≤ (fl n d + 1)*ld := by
      have a := @lt_fl n d (by omega)
      have b : n*ld ≤ (fl n d + 1)*d*ld := mulle (by omega) (by omega)
      have c : ln*d ≤ ((fl n d + 1)*ld)*d := by grind
      exact lemul c (by omega)
    have : k*ln ≤ k*((fl n d + 1)*ld) := Int.mul_le_mul_of_nonneg_left this k0
    grind
/-- how often a fraction can be added -/
def far (A B M h : Int) : Int := min (A / B) (M / h)
theorem far_nonneg {A B M h : Int} (hA : 0 ≤ A) (hB : 1 ≤ B) (hM : 0 ≤ M) (hh : 1 ≤ h) : 0 ≤ far A B M h := by
  unfold far
  have := Int.ediv_nonneg hA (show 0 ≤ B by omega)
  have := Int.ediv_nonneg hM (show 0 ≤ h by omega)
  omega
theorem far_le1 {A B M h : Int} (hA : 0 ≤ A) (hB : 1 ≤ B) (hM : 0 ≤ M) (hh : 1 ≤ h) : far A B M h * B ≤ A := by
  have := far_nonneg hA hB hM hh
  have h1 : far A B M h ≤ A/B := by unfold far; omega
  have := mulle h1 (show 0 ≤ B by omega)
  have := Int.ediv_mul_le A (show B ≠ 0 by omega)
  omega
theorem far_le2 {A B M h : Int} (hA : 0 ≤ A) (hB : 1 ≤ B) (hM : 0 ≤ M) (hh : 1 ≤ h) : far A B M h * h ≤ M := by
  have := far_nonneg hA hB hM hh
  have h1 : far A B M h ≤ M/h := by unfold far; omega
  have := mulle h1 (show 0 ≤ h by omega)
  have := Int.ediv_mul_le M (show h ≠ 0 by omega)
  omega
theorem far_zero {A B M h : Int} (hA : 0 ≤ A) (hB : 1 ≤ B) (hM : 0 ≤ M) (hh : 1 ≤ h) (e : far A B M h = 0) : A < B ∨ M < h := by
  have a := Int.ediv_nonneg hA (show 0 ≤ B by omega)
  have b := Int.ediv_nonneg hM (show 0 ≤ h by omega)
  have : A/B = 0 ∨ M/h = 0 := by unfold far at e; omega
  rcases this with c | c
  · left; have := Int.lt_ediv_add_one_mul_self A (show 0 < B by omega); rw [c] at this; omega
  · right; have := Int.lt_ediv_add_one_mul_self M (show 0 < h by omega); rw [c] at this; omega
theorem AS.done {n d m ln ld hn hd : Int} (hmd : m < d) (h : AS n d m ln ld hn hd) (e1 : far (n*ld - ln*d) (hn*d - n*hd) (m - ld) hd = 0) (e2 : far (hn*d - n*hd) (n*ld - ln*d) (m - hd) ld = 0) :
    Brk n d m ln ld hn hd := by
  obtain ⟨l1, lm, h1, hm, det, ll, hh, lf, hf⟩ := h
  have z1 := far_zero (by omega) (by omega) (by omega) (by omega) e1
  have z2 := far_zero (by omega) (by omega) (by omega) (by omega) e2
  exact Brk.of_adj (by omega) det l1 h1 lm hm (by omega) ll hh
/-- how great the parts can be -/
theorem AS.bound {n d m ln ld hn hd : Int} (hmd : m < d) (h : AS n d m ln ld hn hd) : -(n.natAbs : Int) - d ≤ ln ∧ ln ≤ n.natAbs + d ∧ -(n.natAbs : Int) - d ≤ hn ∧ hn ≤ n.natAbs + d := by
  obtain ⟨l1, lm, h1, hm, det, ll, hh, lf, hf⟩ := h
  have f1 := @fl_le n d (by omega)
  have f2 := @lt_fl n d (by omega)
  by_cases c : 0 ≤ n
  · have f0 : 0 ≤ fl n d := le_fl (by omega) (by omega)
    have a : ln ≤ n := by
      have : n*ld ≤ n*d := Int.mul_le_mul_of_nonneg_left (by omega) c
      exact lemul (show ln*d ≤ n*d by omega) (by omega)
    have b : 0 ≤ ln := by have := Int.mul_nonneg f0 (show 0 ≤ ld by omega); omega
    have b2 : 0 < hn := by
      have : 0 ≤ n*hd := Int.mul_nonneg c (by omega)
      exact posl (show 0 < hn*d by omega) (by omega)
    have b3 : hn ≤ n + d := by
      have : (fl n d + 1)*hd ≤ (fl n d + 1)*d := Int.mul_le_mul_of_nonneg_left (by omega) (by omega)
      have : (fl n d + 1)*d = fl n d * d + d := by grind
      omega
    omega
  · have f0 : fl n d + 1 ≤ 0 := by
      have : fl n d * d < 0*d := by omega
      have := ltmul this (by omega)
      omega
    have a1 : ln < 0 := by
      have : n*ld ≤ -1*ld := mulle (by omega) (by omega)
      have : ln*d < 0*d := by omega
      exact ltmul this (by omega)
    have a2 : n - d ≤ ln := by
      have : -(fl n d)*ld ≤ -(fl n d)*d := Int.mul_le_mul_of_nonneg_left (by omega) (by omega)
      have : (fl n d + 1)*d = fl n d * d + d := by grind
      simp only [Int.neg_mul] at *
      omega
    have a3 : n ≤ hn := by
      have : -n*hd ≤ -n*d := Int.mul_le_mul_of_nonneg_left (by omega) (by omega)
      simp only [Int.neg_mul] at *
      exact lemul (show n*d ≤ hn*d by omega) (by omega)
    have a4 : hn ≤ 0 := by
      have : -(fl n d + 1)*1 ≤ -(fl n d + 1)*hd := Int.mul_le_mul_of_nonneg_left (by omega) (by omega)
      simp only [Int.neg_mul] at *
      omega
    omega
/-- a fraction as said -/
def okF (n d : Int) : Bool := decide (-1000000000 ≤ n) && decide (n ≤ 1000000000) && decide (1 ≤ d) && decide (d ≤ 1000000) && decide (Int.gcd n d = 1)
theorem okF_iff {n d : Int} : okF n d = true ↔ -1000000000 ≤ n ∧ n ≤ 1000000000 ∧ 1 ≤ d ∧ d ≤ 1000000 ∧ Int.gcd n d = 1 := by
  simp [okF, and_assoc]
/-- in lowest terms -/
def redN (n d : Int) : Int := n / Int.gcd n d
def redD (n d : Int) : Int := d / Int.gcd n d
theorem gcd_pos {n d : Int} (hd : 1 ≤ d) : 1 ≤ (Int.gcd n d : Int) := by
  have := Int.gcd_pos_of_ne_zero_right n (show d ≠ 0 by omega)
  omega
theorem red_mul {n d : Int} : redN n d * Int.gcd n d = n ∧ redD n d * Int.gcd n d = d :=
  ⟨Int.ediv_mul_cancel (Int.gcd_dvd_left n d), Int.ediv_mul_cancel (Int.gcd_dvd_right n d)⟩
theorem redD_pos {n d : Int} (hd : 1 ≤ d) : 1 ≤ redD n d := by
  have h := (@red_mul n d).2
  have g := @gcd_pos n d hd
  have : 0 < redD n d := posl (show 0 < redD n d * Int.gcd n d by omega) (by omega)
  omega
theorem red_gcd {n d : Int} (hd : 1 ≤ d) : Int.gcd (redN n d) (redD n d) = 1 := by
  have := Int.gcd_ediv_gcd_ediv_gcd (i := n) (j := d) (by have := @gcd_pos n d hd; omega)
  exact this
theorem red_self {n d : Int} (h : Int.gcd n d = 1) : redN n d = n ∧ redD n d = d := by
  simp [redN, redD, h]
theorem red_ne {n d : Int} (hd : 1 ≤ d) (h : Int.gcd n d ≠ 1) : redD n d ≠ d := by
  intro e
  have a := (@red_mul n d).2
  rw [e] at a
  have : d * (Int.gcd n d : Int) = d * 1 := by omega
  have := Int.eq_of_mul_eq_mul_left (show d ≠ 0 by omega) this
  omega
/-- fractions in lowest terms that are equal as numbers are the same -/
theorem eq_of_cross {a b c d : Int} (hb : 1 ≤ b) (hd : 1 ≤ d) (h1 : Int.gcd a b = 1) (h2 : Int.gcd c d = 1) (e : a*d = c*b) : a = c ∧ b = d := by
  have l1 := dvd_of_eq hb h1 hd (show c*b = a*d by omega)
  have l2 := dvd_of_eq hd h2 hb (show a*d = c*b by omega)
  have hbd : b = d := by omega
  subst hbd
  exact ⟨Int.eq_of_mul_eq_mul_right (show b ≠ 0 by omega) e, rfl⟩
/-- what is in lowest terms and equal as a number is what reducing gives -/
theorem red_eq {n d a b : Int} (hd : 1 ≤ d) (hb : 1 ≤ b) (h : Int.gcd a b = 1) (e : a*d = n*b) : redN n d = a ∧ redD n d = b := by
  have m := @red_mul n d
  have g := @gcd_pos n d hd
  refine eq_of_cross (redD_pos hd) hb (red_gcd hd) h ?_
  have : (redN n d * b) * Int.gcd n d = (a * redD n d) * Int.gcd n d := by grind
  exact Int.eq_of_mul_eq_mul_right (show (Int.gcd n d : Int) ≠ 0 by omega) this
def small (n d : Int) : Bool := decide (-1000000000 ≤ n) && decide (n ≤ 1000000000) && decide (1 ≤ d) && decide (d ≤ 1000000)
theorem okF_red {n d : Int} (hd : 1 ≤ d) : okF (redN n d) (redD n d) = small (redN n d) (redD n d) := by
  simp [okF, small, red_gcd hd]
/-- the loop of the greatest common divisor -/
theorem gcd_tmod (a b : Int) : Int.gcd b (a.tmod b) = Int.gcd a b := by
  unfold Int.gcd
  rw [Int.natAbs_tmod, Nat.gcd_comm a.natAbs, Nat.gcd_rec b.natAbs a.natAbs, Nat.gcd_comm]
theorem tmod_lt (a b : Int) (h : b ≠ 0) : (a.tmod b).natAbs < b.natAbs := by
  rw [Int.natAbs_tmod]; exact Nat.mod_lt _ (by omega)
theorem tdiv_exact {n g : Int} (h : g ∣ n) : n.tdiv g = n / g := Int.tdiv_eq_ediv_of_dvd h
theorem tdiv_red (n d : Int) : n.tdiv (Int.gcd n d) = redN n d ∧ d.tdiv (Int.gcd n d) = redD n d :=
  ⟨tdiv_exact (Int.gcd_dvd_left n d), tdiv_exact (Int.gcd_dvd_right n d)⟩
/-- no error where something is so -/
def err (ok : Bool) (e : Int) : Int := if ok then 0 else e
theorem err_true {e : Int} {b : Bool} (h : b = true) : err b e = 0 := by rw [h]; rfl
theorem err_false {e : Int} {b : Bool} (h : b = false) : err b e = e := by rw [h]; rfl
theorem okF_small {n d : Int} (h : okF n d = true) : small n d = true := by
  simp [okF, small] at *; omega
theorem okF_no {n d : Int} (h : small n d = false) : okF n d = false := by
  cases c : okF n d
  · rfl
  · rw [okF_small c] at h; exact h
theorem okF_of {n d : Int} (h : small n d = true) : okF n d = decide (Int.gcd n d = 1) := by
  simp [okF, small] at *; simp [h]
/-- a fraction in lowest terms, and whether it is too great -/
def okR (n d : Int) : Bool := small (redN n d) (redD n d)
def mN (n d : Int) : Int := if okR n d then redN n d else 0
def mD (n d : Int) : Int := if okR n d then redD n d else 0
def mE (n d : Int) : Int := if okR n d then 0 else 10
theorem made_yes {n d : Int} (h : okR n d = true) : mN n d = redN n d ∧ mD n d = redD n d ∧ mE n d = 0 := by simp [mN, mD, mE, h]
theorem made_no {n d : Int} (h : okR n d = false) : mN n d = 0 ∧ mD n d = 0 ∧ mE n d = 10 := by simp [mN, mD, mE, h]
end Go.Proofs.YtconhikflghkdaaDoor.Rm
