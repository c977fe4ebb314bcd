/- Plain laws: FromTerms; convergents, one behind the other. No program in sight. -/
import Derived.Test.YtconhikflghkdaaDoorMath
namespace Go.Proofs.YtconhikflghkdaaDoor.Rm
/-- the convergents, each number put into its kind by W -/
def cwg (W : Int → Int) : Int → Int → Int → Int → List Int → List (Int × Int)
  | _, _, _, _, [] => []
  | pn, pd, qn, qd, x :: l => (W (W (x*pn) + qn), W (W (x*pd) + qd)) :: cwg W (W (W (x*pn) + qn)) (W (W (x*pd) + qd)) pn pd l
def cwe (W : Int → Int) : Int → Int → Int → Int → List Int → Int × Int × Int × Int
  | pn, pd, qn, qd, [] => (pn, pd, qn, qd)
  | pn, pd, qn, qd, x :: l => cwe W (W (W (x*pn) + qn)) (W (W (x*pd) + qd)) pn pd l
def cwv (W : Int → Int) (l : List Int) : List (Int × Int) := cwg W 1 0 0 1 l
def cws (W : Int → Int) (l : List Int) : Int × Int × Int × Int := cwe W 1 0 0 1 l
theorem cwe_snoc (W : Int → Int) (l : List Int) : ∀ (pn pd qn qd t : Int), cwe W pn pd qn qd (l ++ [t]) = (W (W (t*(cwe W pn pd qn qd l).1) + (cwe W pn pd qn qd l).2.2.1), W (W (t*(cwe W pn pd qn qd l).2.1) + (cwe W pn pd qn qd l).2.2.2), (cwe W pn pd qn qd l).1, (cwe W pn pd qn qd l).2.1) := by
  induction l with
  | nil => intros; rfl
  | cons a l ih => intro pn pd qn qd t; exact ih _ _ _ _ _
theorem cwg_snoc (W : Int → Int) (l : List Int) : ∀ (pn pd qn qd t : Int), cwg W pn pd qn qd (l ++ [t]) = cwg W pn pd qn qd l ++ [(W (W (t*(cwe W pn pd qn qd l).1) + (cwe W pn pd qn qd l).2.2.1), W (W (t*(cwe W pn pd qn qd l).2.1) + (cwe W pn pd qn qd l).2.2.2))] := by
  induction l with
  | nil => intros; rfl
  | cons a l ih => intro pn pd qn qd t; simp only [List.cons_append, cwg, cwe]; rw [ih]
theorem cws_nil (W : Int → Int) : cws W [] = (1, 0, 0, 1) := rfl
theorem cws_snoc (W : Int → Int) (l : List Int) (t : Int) : cws W (l ++ [t]) = (W (W (t*(cws W l).1) + (cws W l).2.2.1), W (W (t*(cws W l).2.1) + (cws W l).2.2.2), (cws W l).1, (cws W l).2.1) := cwe_snoc W l 1 0 0 1 t
theorem cwv_snoc (W : Int → Int) (l : List Int) (t : Int) : cwv W (l ++ [t]) = cwv W l ++ [(W (W (t*(cws W l).1) + (cws W l).2.2.1), W (W (t*(cws W l).2.1) + (cws W l).2.2.2))] := cwg_snoc W l 1 0 0 1 t
theorem cwv_prefix (W : Int → Int) {l m : List Int} (h : l <+: m) : cwv W l <+: cwv W m := by
  obtain ⟨r, rfl⟩ := h
  have : ∀ (l : List Int) (pn pd qn qd : Int), cwg W pn pd qn qd l <+: cwg W pn pd qn qd (l ++ r) := by
    intro l
    induction l with
    | nil => intros; exact List.nil_prefix
    | cons a l ih => intro pn pd qn qd; simp only [List.cons_append, cwg]; exact (List.prefix_cons_inj _).2 (ih _ _ _ _)
  exact this l _ _ _ _
theorem cwg_length (W : Int → Int) (l : List Int) : ∀ pn pd qn qd : Int, (cwg W pn pd qn qd l).length = l.length := by
  induction l with
  | nil => intros; rfl
  | cons a l ih => intros; simp [cwg, ih]
/-- terms behind the first one -/
def later (l : List Int) : Prop := ∀ x ∈ l, 1 ≤ x ∧ x ≤ 1000000000
/-- two convergents, one behind the other, of terms that begin with a -/
structure FS (a pn pd qn qd : Int) : Prop where
  ex : ∃ pr qr, pn = a*pd + pr ∧ qn = a*qd + qr ∧ 0 ≤ pr ∧ 0 ≤ qr ∧ pr ≤ pd ∧ pr + qr ≤ pd + qd
  p1 : 1 ≤ pd
  q0 : 0 ≤ qd
theorem FS.step {a pn pd qn qd x : Int} (h : FS a pn pd qn qd) (hx : 1 ≤ x) : FS a (x*pn + qn) (x*pd + qd) pn pd ∧ pd ≤ x*pd + qd ∧ x ≤ x*pd + qd := by
  obtain ⟨⟨pr, qr, rfl, rfl, h1, h2, h3, h4⟩, p1, q0⟩ := h
  have a1 : 1*pd ≤ x*pd := mulle hx (by omega)
  have a2 : 1*pr ≤ x*pr := mulle hx h1
  have a3 : (x-1)*pr ≤ (x-1)*pd := by rw [Int.mul_comm _ pr, Int.mul_comm _ pd]; exact mulle h3 (by omega)
  have a4 : (x-1)*pr = x*pr - pr := by grind
  have a5 : (x-1)*pd = x*pd - pd := by grind
  have a6 : x*1 ≤ x*pd := by rw [Int.mul_comm x 1, Int.mul_comm x pd]; exact mulle p1 (by omega)
  exact ⟨⟨⟨x*pr + qr, pr, by grind, rfl, by omega, h1, by omega, by omega⟩, by omega, by omega⟩, by omega, by omega⟩
theorem fwdEnd_mono : ∀ (l : List Int) {a pn pd qn qd : Int}, FS a pn pd qn qd → later l → pd ≤ (fwdEnd pn pd qn qd l).2
  | [], _, _, _, _, _, _, _ => Int.le_refl _
  | x :: l, a, pn, pd, qn, qd, h, hl => by
    obtain ⟨h', h1, _⟩ := h.step (hl x (by simp)).1
    have := fwdEnd_mono l h' (fun y hy => hl y (by simp [hy]))
    simp only [fwdEnd]
    omega
/-- W leaves alone what lies in an int -/
def Wok (W : Int → Int) : Prop := ∀ x, -9223372036854775808 ≤ x → x ≤ 9223372036854775807 → W x = x
theorem fwd_w {W : Int → Int} (hW : Wok W) {a : Int} (ha1 : -1000000000 ≤ a) (ha2 : a ≤ 1000000000) : ∀ (l : List Int) (pn pd qn qd : Int), FS a pn pd qn qd → pd ≤ 1000000 → qd ≤ 1000000 → later l →
    ((∀ y ∈ cwg W pn pd qn qd l, y.2 ≤ 1000000) ∨ (fwdEnd pn pd qn qd l).2 ≤ 1000000) →
    cwg W pn pd qn qd l = fwd pn pd qn qd l ∧ (∀ y ∈ fwd pn pd qn qd l, y.2 ≤ 1000000 ∧ 1 ≤ y.2 ∧ -2000000000000000 ≤ y.1 ∧ y.1 ≤ 2000000000000000) ∧ (fwdEnd pn pd qn qd l).2 ≤ 1000000
  | [], pn, pd, qn, qd, h, hp, hq, hl, _ => by simp [cwg, fwd, fwdEnd, hp]
  | x :: l, pn, pd, qn, qd, h, hp, hq, hl, hor => by
    obtain ⟨hx1, hx2⟩ := hl x (by simp)
    obtain ⟨h', h1, h2⟩ := h.step hx1
    have hl' : later l := fun y hy => hl y (by simp [hy])
    have b1 := @mul_bound x pd 1000000000 1000000 (by omega) (by omega) hx2 (by have := h.p1; omega) hp
    have q0 := h.q0
    have w1 : W (x*pd) = x*pd := hW _ (by omega) (by omega)
    have w2 : W (x*pd + qd) = x*pd + qd := hW _ (by omega) (by omega)
    have he : x*pd + qd ≤ 1000000 := by
      rcases hor with hy | hy
      · have := hy (W (W (x*pn) + qn), W (W (x*pd) + qd)) (by simp [cwg])
        rw [w1, w2] at this
        exact this
      · have := fwdEnd_mono l h' hl'
        simp only [fwdEnd] at hy
        omega
    have hx3 : x*pd ≤ 1000000 := by omega
    have hx4 : 0 ≤ x*pd := Int.mul_nonneg (by omega) (by have := h.p1; omega)
    obtain ⟨pr, qr, epn, eqn, r1, r2, r3, r4⟩ := h.ex
    have b2 := @mul_bound a (x*pd) 1000000000 1000000 (by omega) ha1 ha2 (by omega) hx3
    have b3 := @mul_bound a qd 1000000000 1000000 (by omega) ha1 ha2 (by omega) hq
    have b6 := @mul_bound a (x*pd + qd) 1000000000 1000000 (by omega) ha1 ha2 (by omega) he
    have e6 : a*(x*pd + qd) = a*(x*pd) + a*qd := by grind
    have e1 : x*pn = a*(x*pd) + x*pr := by rw [epn]; grind
    have b4 : x*pr ≤ x*pd := by rw [Int.mul_comm x pr, Int.mul_comm x pd]; exact mulle r3 (by omega)
    have b5 : 0 ≤ x*pr := Int.mul_nonneg (by omega) r1
    have w3 : W (x*pn) = x*pn := hW _ (by omega) (by omega)
    have w4 : W (x*pn + qn) = x*pn + qn := hW _ (by omega) (by omega)
    have hp1 := h'.p1
    have ih := fwd_w hW ha1 ha2 l _ _ _ _ h' he hp hl' (by
      rcases hor with hy | hy
      · refine .inl fun y hm => hy y ?_
        simp only [cwg, w1, w2, w3, w4, List.mem_cons]
        exact .inr hm
      · exact .inr hy)
    obtain ⟨i1, i2, i3⟩ := ih
    refine ⟨?_, ?_, i3⟩
    · simp only [cwg, fwd, w1, w2, w3, w4, i1]
    · intro y hy
      simp only [fwd, List.mem_cons] at hy
      rcases hy with rfl | hy
      · dsimp only
        exact ⟨he, hp1, by omega, by omega⟩
      · exact i2 y hy
/-- may the number x stand at the place i of k terms? -/
def okAt (k i : Nat) (x : Int) : Bool := decide ((if i = 0 then -1000000000 else if i + 1 = k then 2 else 1) ≤ x) && decide (x ≤ 1000000000)
theorem getD_el {l : List Int} {i : Nat} (h : i < l.length) : l.getD i 0 = l[i] := by simp [List.getD, h]
def okT (l : List Int) : Bool := (List.range l.length).all fun i => okAt l.length i (l.getD i 0)
theorem okT_iff {l : List Int} : okT l = true ↔ ∀ i, i < l.length → okAt l.length i (l.getD i 0) = true := by simp [okT]
/-- may a fraction have these terms? -/
def ftOk (l : List Int) : Bool := decide (1 ≤ l.length) && decide (l.length ≤ 40) && okT l
theorem ftOk_parts {l : List Int} (h : ftOk l = true) : ∃ a t, l = a :: t ∧ t.length ≤ 39 ∧ -1000000000 ≤ a ∧ a ≤ 1000000000 ∧ later t := by
  simp only [ftOk, Bool.and_eq_true, decide_eq_true_eq] at h
  obtain ⟨⟨h1, h2⟩, h3⟩ := h
  rw [okT_iff] at h3
  cases l with
  | nil => simp at h1
  | cons a t =>
    have h0 := h3 0 (by simp)
    simp [okAt] at h0
    refine ⟨a, t, rfl, by simpa using h2, h0.1, h0.2, fun x hx => ?_⟩
    obtain ⟨i, hi, rfl⟩ := List.mem_iff_getElem.1 hx
    have := h3 (i+1) (by simpa using hi)
    simp only [okAt, List.getD_cons_succ, List.length_cons] at this
    rw [getD_el hi] at this
    simp only [Bool.and_eq_true, decide_eq_true_eq] at this
    obtain ⟨k1, k2⟩ := this
    refine ⟨?_, k2⟩
    split at k1
    · omega
    · split at k1 <;> omega
theorem back_eq (l : List Int) : back l = ((fwdEnd 1 0 0 1 l).1, (fwdEnd 1 0 0 1 l).2) := by rw [fwdEnd_start]
theorem FS.first (a : Int) : FS a a 1 1 0 := ⟨⟨0, 1, by omega, by omega, by omega, by omega, by omega, by omega⟩, by omega, by omega⟩
/-- what FromTerms' loop meets: no Den is too great, and all is as reckoned; or some Den is -/
theorem from_loop {W : Int → Int} (hW : Wok W) {l : List Int} (h : ftOk l = true) :
    ((∀ y ∈ cwv W l, y.2 ≤ 1000000) ↔ (back l).2 ≤ 1000000) ∧ ((back l).2 ≤ 1000000 → cwv W l = cv l ∧ (∀ y ∈ cv l, y.2 ≤ 1000000 ∧ 1 ≤ y.2 ∧ -2000000000000000 ≤ y.1 ∧ y.1 ≤ 2000000000000000)) := by
  obtain ⟨a, t, rfl, ht, a1, a2, hl⟩ := ftOk_parts h
  have w1 : W (a*1) = a := by rw [Int.mul_one]; exact hW _ (by omega) (by omega)
  have w2 : W (a + 0) = a := by rw [Int.add_zero]; exact hW _ (by omega) (by omega)
  have w3 : W (a*0) = 0 := by rw [Int.mul_zero]; exact hW _ (by omega) (by omega)
  have w4 : W (0 + 1) = 1 := hW _ (by omega) (by omega)
  have e1 : cwv W (a :: t) = (a, 1) :: cwg W a 1 1 0 t := by simp only [cwv, cwg, w1, w2, w3, w4]
  have e2 : cv (a :: t) = (a, 1) :: fwd a 1 1 0 t := by simp [cv, fwd]
  have e3 : (back (a :: t)).2 = (fwdEnd a 1 1 0 t).2 := by rw [back_eq]; simp [fwdEnd]
  have M := fwd_w hW a1 a2 t a 1 1 0 (FS.first a) (by omega) (by omega) hl
  rw [e1, e2, e3]
  constructor
  · constructor
    · intro hy
      exact (M (.inl fun y hm => hy y (by simp [hm]))).2.2
    · intro hd y hy
      obtain ⟨m1, m2, _⟩ := M (.inr hd)
      rw [m1] at hy
      simp only [List.mem_cons] at hy
      rcases hy with rfl | hy
      · dsimp only; omega
      · exact (m2 y hy).1
  · intro hd
    obtain ⟨m1, m2, _⟩ := M (.inr hd)
    refine ⟨by rw [m1], fun y hy => ?_⟩
    simp only [List.mem_cons] at hy
    rcases hy with rfl | hy
    · dsimp only; omega
    · exact m2 y hy
theorem cv_last {l : List Int} (h : l ≠ []) : (cv l).getLastD (0, 0) = back l := by
  obtain ⟨P, t, rfl⟩ : ∃ P t, l = P ++ [t] := ⟨l.dropLast, l.getLast h, (List.dropLast_concat_getLast h).symm⟩
  rw [cv_snoc]
  have e : ∀ (P : List Int) (pn pd qn qd : Int), fwdEnd pn pd qn qd (P ++ [t]) = (t*(fe4 pn pd qn qd P).1 + (fe4 pn pd qn qd P).2.2.1, t*(fe4 pn pd qn qd P).2.1 + (fe4 pn pd qn qd P).2.2.2) := by
    intro P
    induction P with
    | nil => intros; rfl
    | cons a P ih => intros; exact ih _ _ _ _
  rw [back_eq, e]
  simp [cs]
/-- what FromTerms returns -/
def ftN (l : List Int) : Int := if ftOk l && decide ((back l).2 ≤ 1000000) then mN (back l).1 (back l).2 else 0
def ftD (l : List Int) : Int := if ftOk l && decide ((back l).2 ≤ 1000000) then mD (back l).1 (back l).2 else 0
def ftE (l : List Int) : Int := if ftOk l then if (back l).2 ≤ 1000000 then mE (back l).1 (back l).2 else 10 else 1
/-- terms put together from behind: all numbers on the way -/
theorem back_pos : ∀ (l : List Int), later l → 1 ≤ (back l).1 ∧ 0 ≤ (back l).2
  | [], _ => by simp [back]
  | x :: l, h => by
    obtain ⟨i1, i2⟩ := back_pos l (fun y hy => h y (by simp [hy]))
    have hx := (h x (by simp)).1
    have : 1*(back l).1 ≤ x*(back l).1 := mulle hx (by omega)
    simp only [back]
    omega
theorem back_drop : ∀ (l : List Int), later l → ∀ k, (back (l.drop k)).1 ≤ (back l).1
  | l, h, 0 => by simp
  | [], h, k+1 => by simp
  | x :: l, h, k+1 => by
    have hl : later l := fun y hy => h y (by simp [hy])
    have i := back_drop l hl k
    obtain ⟨i1, i2⟩ := back_pos l hl
    have hx := (h x (by simp)).1
    have : 1*(back l).1 ≤ x*(back l).1 := mulle hx (by omega)
    simp only [back, List.drop_succ_cons]
    omega
theorem CI.step {n d rn rd s : Int} {pre : List Int} (h : CI n d rn rd pre s) (h1 : -1000000000 ≤ n) (h2 : n ≤ 1000000000) (h4 : d ≤ 1000000) (he : ¬ fl rn rd * rd = rn) :
    CI n d rd (rn - fl rn rd * rd) (pre ++ [fl rn rd]) (-s) := by
  have rd1 := h.rd1
  have fr := @fl_rest rn rd rd1
  obtain ⟨⟨p1, p2⟩, p3, cb⟩ := h.bd h1 h2 h4 (rn - fl rn rd * rd) fr.1 fr.2 rfl
  have q0 := h.q0; have p0 := h.p0; have pq := h.pq
  have hpd1 : 1 ≤ fl rn rd * (cs pre).2.1 + (cs pre).2.2.2 := by
    rcases h.st with e | ⟨e, e'⟩
    · subst e; simp [cs_nil]
    · have hf : 1 ≤ fl rn rd := le_fl rd1 (by omega)
      have : 1*(cs pre).2.1 ≤ fl rn rd * (cs pre).2.1 := mulle hf p0
      omega
  have hst := h.run.step (fl rn rd)
  refine ⟨by rcases h.sg with e | e <;> omega, by omega, by rw [gcd_step]; exact h.gc, ?_, ?_, ?_, ?_, ?_, ?_, ?_, ?_, ?_⟩
  · rw [cs_snoc]; exact hst
  · rw [cs_snoc]; exact p0
  · rw [cs_snoc]; exact p1
  · rw [cs_snoc]; dsimp only; omega
  · rw [cs_snoc]; exact ⟨p2, h.qp.1⟩
  · rw [cs_snoc]; exact p3
  · rw [cs_snoc]; exact h.pb
  · right; rw [cs_snoc]; exact ⟨by omega, hpd1⟩
  · intro y hy
    rcases mem_cv_snoc hy with hy | rfl
    · exact h.lt y hy
    · rw [cs_snoc]
      dsimp only
      have e2 := hst.ed
      rcases h.st with e | ⟨e, e'⟩
      · obtain ⟨z1, z2⟩ := (e ▸ h : CI n d rn rd [] s).nil
        subst e
        simp [cs_nil]
        omega
      · have hf : 1 ≤ fl rn rd := le_fl rd1 (by omega)
        exact conv_lt h.run (by omega) (by omega) q0 p0 (by omega) pq
/-- 1 or -1 in turn -/
def alt (j : Nat) : Int := if j % 2 = 0 then 1 else -1
theorem alt_succ (j : Nat) : alt (j+1) = -alt j := by
  unfold alt
  by_cases h : j % 2 = 0
  · rw [if_pos h, if_neg (by omega)]
  · rw [if_neg h, if_pos (by omega)]; rfl
/-- what the loop of convergents keeps, behind so many terms -/
theorem conv_at {n d : Int} (h1 : -1000000000 ≤ n) (h2 : n ≤ 1000000000) (h4 : d ≤ 1000000) : ∀ (j : Nat) (rn rd : Int) (pre : List Int) (k : Nat), CI n d rn rd pre (alt k) → j < (tm rn rd).length →
    ∃ rn' rd', CI n d rn' rd' (pre ++ (tm rn rd).take j) (alt (k + j)) ∧ tm rn' rd' = (tm rn rd).drop j
  | 0, rn, rd, pre, k, h, _ => ⟨rn, rd, by simpa using h, by simp⟩
  | j+1, rn, rd, pre, k, h, hj => by
    have rd1 := h.rd1
    by_cases he : fl rn rd * rd = rn
    · rw [tm_last rd1 he] at hj; simp at hj
    · have h' := h.step h1 h2 h4 he
      rw [← alt_succ] at h'
      rw [tm_cons rd1 he] at hj ⊢
      obtain ⟨rn', rd', c1, c2⟩ := conv_at h1 h2 h4 j _ _ _ (k+1) h' (by simpa using hj)
      refine ⟨rn', rd', ?_, by simpa using c2⟩
      have e1 : pre ++ List.take (j+1) (fl rn rd :: tm rd (rn - fl rn rd * rd)) = pre ++ [fl rn rd] ++ List.take j (tm rd (rn - fl rn rd * rd)) := by simp
      have e2 : k + (j+1) = k + 1 + j := by omega
      rw [e1, e2]
      exact c1
theorem cv_length (l : List Int) : (cv l).length = l.length := fwd_length l _ _ _ _
theorem cv_get {l : List Int} {P : List Int} {t : Int} (h : P ++ [t] <+: l) : (cv l)[P.length]? = some ((cs (P ++ [t])).1, (cs (P ++ [t])).2.1) := by
  obtain ⟨r, hr⟩ := cv_prefix h
  have e : cv (P ++ [t]) = cv P ++ [((cs (P ++ [t])).1, (cs (P ++ [t])).2.1)] := by rw [cv_snoc, cs_snoc]
  rw [← hr, e]
  have : P.length = (cv P).length := (cv_length P).symm
  rw [this]
  simp
/-- a convergent is nearer than whatever has no greater Den -/
theorem conv_near {n d rn rd pn pd qn qd s p q : Int} (hs : s = 1 ∨ s = -1) (h : CS n d rn rd pn pd qn qd s) (hq0 : 1 ≤ qd) (hp : 1 ≤ pd) (hr : rd < rn) (hrd : 1 ≤ rd) (h1 : 1 ≤ q) (h2 : q ≤ pd) :
    rd ≤ ((n*q - p*d).natAbs : Int) := by
  obtain ⟨e1, e2, e3⟩ := h
  obtain ⟨u, hu⟩ : ∃ u, u = s*(p*qd - q*qn) := ⟨_, rfl⟩
  obtain ⟨v, hv⟩ : ∃ v, v = s*(pn*q - pd*p) := ⟨_, rfl⟩
  have ss : s*s = 1 := by rcases hs with rfl | rfl <;> rfl
  have eq : q = u*pd + v*qd := by
    have : u*pd + v*qd = s*(pn*qd - qn*pd)*q := by rw [hu, hv]; grind
    rw [this, e3, ss, Int.one_mul]
  have ep : p = u*pn + v*qn := by
    have : u*pn + v*qn = s*(pn*qd - qn*pd)*p := by rw [hu, hv]; grind
    rw [this, e3, ss, Int.one_mul]
  have eo : n*q - p*d = s*(rn*v - rd*u) := by
    have : n*q - p*d = (pn*qd - qn*pd)*(rn*v - rd*u) := by
      rw [e1, e2]
      have k1 : q = u*pd + v*qd := eq
      have k2 : p = u*pn + v*qn := ep
      generalize hq' : q = q' at *
      generalize hp' : p = p' at *
      subst k1 k2
      grind
    rw [this, e3]
  clear hu hv ep
  have key : rd ≤ rn*v - rd*u ∨ rd ≤ -(rn*v - rd*u) := by
    by_cases v0 : v = 0
    · subst v0
      right
      have hu1 : 1 ≤ u := by
        by_cases c : 1 ≤ u
        · exact c
        · have : u*pd ≤ 0*pd := mulle (by omega) (by omega)
          omega
      have : 1*rd ≤ u*rd := mulle hu1 (by omega)
      rw [Int.mul_comm rd u]
      omega
    · by_cases v1 : 1 ≤ v
      · left
        have hu0 : u ≤ 0 := by
          by_cases c : u ≤ 0
          · exact c
          · have a1 : 1*pd ≤ u*pd := mulle (by omega) (by omega)
            have a2 : 1*qd ≤ v*qd := mulle v1 (by omega)
            omega
        have a1 : 1*rn ≤ v*rn := mulle v1 (by omega)
        have a2 : u*rd ≤ 0*rd := mulle hu0 (by omega)
        rw [Int.mul_comm rn v, Int.mul_comm rd u]
        omega
      · right
        have hu1 : 1 ≤ u := by
          by_cases c : 1 ≤ u
          · exact c
          · have a1 : u*pd ≤ 0*pd := mulle (by omega) (by omega)
            have a2 : v*qd ≤ (-1)*qd := mulle (by omega) (by omega)
            omega
        have a1 : 1*rd ≤ u*rd := mulle hu1 (by omega)
        have a2 : v*rn ≤ (-1)*rn := mulle (by omega) (by omega)
        rw [Int.mul_comm rn v, Int.mul_comm rd u]
        omega
  rw [eo]
  rcases hs with rfl | rfl <;> omega
/-- what RuleSteps asks of the convergent with the index i, but for the last one -/
theorem steps_ok {n d : Int} (h1 : -1000000000 ≤ n) (h2 : n ≤ 1000000000) (h3 : 1 ≤ d) (h4 : d ≤ 1000000) (hg : Int.gcd n d = 1) {i : Nat} (hi : i + 1 < (tm n d).length) :
    ∃ yn yd, (cv (tm n d))[i]? = some (yn, yd) ∧ 1 ≤ yd ∧ yd ≤ 1000000 ∧ -1000000001 ≤ yn ∧ yn ≤ 1000000001 ∧ n*yd - yn*d ≠ 0 ∧ -1000000 ≤ n*yd - yn*d ∧ n*yd - yn*d ≤ 1000000 ∧ (0 < n*yd - yn*d ↔ i % 2 = 0) ∧
      (i ≠ 0 → ∃ wn wd, (cv (tm n d))[i-1]? = some (wn, wd) ∧ 1 ≤ wd ∧ wd ≤ 1000000 ∧ -1000000001 ≤ wn ∧ wn ≤ 1000000001 ∧ -1000000 ≤ n*wd - wn*d ∧ n*wd - wn*d ≤ 1000000 ∧ ((n*yd - yn*d).natAbs : Int)*wd < ((n*wd - wn*d).natAbs : Int)*yd ∧
        ∀ p q, 1 ≤ q → q ≤ yd → ((n*yd - yn*d).natAbs : Int)*q ≤ ((n*q - p*d).natAbs : Int)*yd) := by
  obtain ⟨rn, rd, c, hd⟩ := conv_at h1 h2 h4 i n d [] 0 (CI.start h3 hg) (by omega)
  rw [List.nil_append, Nat.zero_add] at c
  have rd1 := c.rd1
  have he : ¬ fl rn rd * rd = rn := fun e => by
    have := congrArg List.length hd
    rw [tm_last rd1 e] at this
    simp at this
    omega
  have c' := c.step h1 h2 h4 he
  rw [← alt_succ] at c'
  have fr := @fl_rest rn rd rd1
  obtain ⟨f, hf⟩ : ∃ f, fl rn rd = f := ⟨_, rfl⟩
  have hpre : (tm n d).take i ++ [f] <+: tm n d := by
    have e := List.take_append_drop i (tm n d)
    rw [← hd, tm_cons rd1 he, hf] at e
    exact ⟨tm rd (rn - f*rd), by rw [List.append_assoc]; exact e⟩
  have hlen : ((tm n d).take i).length = i := by simp; omega
  have g := cv_get hpre
  rw [hlen] at g
  rw [hf] at c' he fr
  have f1 : i ≠ 0 → 1 ≤ f := fun hi0 => by
    rcases c.st with e | ⟨e, _⟩
    · rw [e] at hlen; simp at hlen; omega
    · rw [← hf]; exact le_fl rd1 (by omega)
  have prev : i ≠ 0 → (cv (tm n d))[i-1]? = some ((cs ((tm n d).take i)).1, (cs ((tm n d).take i)).2.1) := fun hi0 => by
    obtain ⟨P, t, hP⟩ : ∃ P t, (tm n d).take i = P ++ [t] := ⟨((tm n d).take i).dropLast, ((tm n d).take i).getLast (by intro e; rw [e] at hlen; simp at hlen; omega), (List.dropLast_concat_getLast _).symm⟩
    have k := @cv_get (tm n d) P t (by rw [← hP]; exact List.take_prefix _ _)
    have : P.length = i - 1 := by rw [hP] at hlen; simp at hlen; omega
    rw [this] at k
    rw [hP]; exact k
  have snoc := cs_snoc ((tm n d).take i) f
  rw [snoc] at g
  have st' := c'.st; have st := c.st
  have run' := c'.run
  have off' := run'.off
  have pb' := c'.pb; have qp' := c'.qp; have qb' := c'.qb; have p0 := c.p0; have q0 := c.q0; have rd1' := c'.rd1; have sg' := c'.sg
  rw [snoc] at st' run' off' pb' qp' qb'
  dsimp only at g st' run' off' pb' qp' qb'
  have hl : (tm n d).take i = [] → i = 0 := fun e => by rw [e] at hlen; simpa using hlen.symm
  generalize cs ((tm n d).take i) = z at *
  obtain ⟨pn, pd, qn, qd⟩ := z
  dsimp only at *
  have st2 : rn - f*rd < rd ∧ 1 ≤ f*pd + qd := by
    rcases st' with e | e
    · simp at e
    · exact e
  have hrdd : rd ≤ 1000000 := by
    have e := run'.ed
    have a1 : rd*1 ≤ rd*(f*pd+qd) := by rw [Int.mul_comm rd 1, Int.mul_comm rd]; exact mulle st2.2 (by omega)
    have a2 := Int.mul_nonneg (show 0 ≤ rn - f*rd by omega) p0
    omega
  refine ⟨f*pn+qn, f*pd+qd, g, st2.2, by omega, by omega, by omega, ?_⟩
  have offP : n*(f*pd+qd) - (f*pn+qn)*d = -alt (i+1)*(rn - f*rd) := off'
  have offp : n*pd - pn*d = rd * alt (i+1) := by
    obtain ⟨e1, e2, e3⟩ := run'
    rw [← e3, e1, e2]
    generalize f*pn+qn = P
    generalize f*pd+qd = Q
    generalize rn - f*rd = r
    grind
  have A1 := alt_succ i
  have absP : ((n*(f*pd+qd) - (f*pn+qn)*d).natAbs : Int) = rn - f*rd := by
    rw [offP]; rcases sg' with e | e <;> rw [e] <;> omega
  refine ⟨by rw [offP]; rcases sg' with e | e <;> rw [e] <;> omega, by omega, by omega, ?_, ?_⟩
  · rw [offP, A1]
    unfold alt
    split <;> omega
  · intro hi0
    have hne : ¬ (tm n d).take i = [] := fun e => hi0 (hl e)
    obtain ⟨k1, k2⟩ : rd < rn ∧ 1 ≤ pd := by
      rcases st with e | e
      · exact absurd e hne
      · exact e
    have hf1 := f1 hi0
    have m1 : 1*pd ≤ f*pd := mulle hf1 (by omega)
    have absp : ((n*pd - pn*d).natAbs : Int) = rd := by
      rw [offp]; rcases sg' with e | e <;> rw [e] <;> omega
    refine ⟨pn, pd, prev hi0, k2, by omega, by omega, by omega, by omega, by omega, ?_, ?_⟩
    · rw [absP, absp]
      have a1 : (rn - f*rd)*pd ≤ (rn - f*rd)*(f*pd+qd) := by rw [Int.mul_comm _ pd, Int.mul_comm _ (f*pd+qd)]; exact mulle (by omega) (by omega)
      have a2 : (rn - f*rd + 1)*(f*pd+qd) ≤ rd*(f*pd+qd) := mulle (by omega) (by omega)
      have a3 : (rn - f*rd + 1)*(f*pd+qd) = (rn - f*rd)*(f*pd+qd) + (f*pd+qd) := by grind
      omega
    · intro p q hq1 hq2
      have := conv_near (p := p) sg' run' k2 st2.2 st2.1 rd1' hq1 hq2
      rw [absP]
      have a1 : (rn - f*rd)*q ≤ (rn - f*rd)*(f*pd+qd) := by rw [Int.mul_comm _ q, Int.mul_comm _ (f*pd+qd)]; exact mulle hq2 (by omega)
      have a2 : (rn - f*rd)*(f*pd+qd) ≤ ((n*q - p*d).natAbs : Int)*(f*pd+qd) := mulle this (by omega)
      omega
/-- the terms of a fraction are terms that FromTerms takes -/
theorem tm_later : ∀ (k : Nat) (n d : Int), d.toNat ≤ k → 1 ≤ d → d < n → n ≤ 1000000000 → Int.gcd n d = 1 → later (tm n d) ∧ 2 ≤ (tm n d).getLastD 0
  | 0, _, d, hk, hd, _, _, _ => by omega
  | k+1, n, d, hk, hd, hn, hb, hg => by
    have fr := @fl_rest n d hd
    have f1 : 1 ≤ fl n d := le_fl hd (by omega)
    have f2 : fl n d * 1 ≤ fl n d * d := by rw [Int.mul_comm _ 1, Int.mul_comm _ d]; exact mulle hd (by omega)
    by_cases he : fl n d * d = n
    · have e1 := rd_one hd hg he
      rw [tm_last hd he]
      subst e1
      refine ⟨fun x hx => ?_, ?_⟩
      · simp at hx; subst hx; omega
      · simp; omega
    · rw [tm_cons hd he]
      obtain ⟨i1, i2⟩ := tm_later k d (n - fl n d * d) (by omega) (by omega) (by omega) (by omega) (by rw [gcd_step]; exact hg)
      refine ⟨fun x hx => ?_, ?_⟩
      · rcases List.mem_cons.1 hx with rfl | hx
        · omega
        · exact i1 x hx
      · cases htm : tm d (n - fl n d * d) with
        | nil => rw [htm] at i2; simp at i2
        | cons a l =>
          rw [htm] at i2
          simpa using i2
theorem getLastD_getD (l : List Int) : l.getLastD 0 = l.getD (l.length - 1) 0 := by
  rw [List.getLastD_eq_getLast?, List.getLast?_eq_getElem?, List.getD_eq_getElem?_getD]
theorem tm_ftOk {n d : Int} (h1 : -1000000000 ≤ n) (h2 : n ≤ 1000000000) (h3 : 1 ≤ d) (h4 : d ≤ 1000000) (hg : Int.gcd n d = 1) : ftOk (tm n d) = true := by
  have hl := @tm_len40 n d h3 h4
  have fr := @fl_rest n d h3
  have f0 := @fl_le n d h3
  have hb : -1000000000 ≤ fl n d ∧ fl n d ≤ 1000000000 := by
    constructor
    · exact le_fl h3 (by
        have : 1000000000*1 ≤ 1000000000*d := by omega
        omega)
    · by_cases c : fl n d ≤ 0
      · omega
      · have : fl n d * 1 ≤ fl n d * d := by rw [Int.mul_comm _ 1, Int.mul_comm _ d]; exact mulle h3 (by omega)
        omega
  simp only [ftOk, Bool.and_eq_true, decide_eq_true_eq]
  by_cases he : fl n d * d = n
  · rw [tm_last h3 he]
    refine ⟨⟨by simp, by simp⟩, ?_⟩
    rw [okT_iff]
    intro i hi
    simp at hi
    subst hi
    simp [okAt]
    omega
  · rw [tm_cons h3 he] at hl ⊢
    obtain ⟨i1, i2⟩ := tm_later d.toNat d (n - fl n d * d) (by omega) (by omega) (by omega) (by omega) (by rw [gcd_step]; exact hg)
    refine ⟨⟨by simp, by simp at hl ⊢; omega⟩, ?_⟩
    rw [okT_iff]
    intro i hi
    cases i with
    | zero => simp [okAt]; omega
    | succ j =>
      have hj : j < (tm d (n - fl n d * d)).length := by simpa using hi
      have hm := i1 _ (List.getElem_mem hj)
      simp only [okAt, List.getD_cons_succ, List.length_cons, Nat.succ_ne_zero, if_false, Bool.and_eq_true, decide_eq_true_eq]
      by_cases hz : j + 1 + 1 = (tm d (n - fl n d * d)).length + 1
      · rw [if_pos hz]
        rw [getLastD_getD] at i2
        have : (tm d (n - fl n d * d)).length - 1 = j := by omega
        rw [this] at i2
        rw [getD_el hj] at i2 ⊢
        omega
      · rw [if_neg hz, getD_el hj]
        omega
/-- FromTerms inverts Terms -/
theorem tm_back {n d : Int} (h1 : -1000000000 ≤ n) (h2 : n ≤ 1000000000) (h3 : 1 ≤ d) (h4 : d ≤ 1000000) (hg : Int.gcd n d = 1) : back (tm n d) = (n, d) := by
  obtain ⟨_, P, t, s, hP, c⟩ := conv_last h1 h2 h3 h4 hg
  have hne : tm n d ≠ [] := by rw [hP]; simp
  have e := cv_last hne
  rw [hP, c.end] at e
  rw [hP, ← e]
  simp
end Go.Proofs.YtconhikflghkdaaDoor.Rm
