/- Plain laws: the neighbours of a fraction out of its convergents. No program in sight. -/
import Derived.Test.YtconhikflghkdaaDoorMathConv
namespace Go.Proofs.YtconhikflghkdaaDoor.Rm
theorem mem_cv_snoc {l : List Int} {t : Int} {y : Int × Int} (h : y ∈ cv (l ++ [t])) : y ∈ cv l ∨ y = ((cs (l ++ [t])).1, (cs (l ++ [t])).2.1) := by
  rw [cv_snoc] at h
  rw [cs_snoc]
  rcases List.mem_append.1 h with h | h
  · exact .inl h
  · exact .inr (by simpa using h)
/-- what the loop of convergents keeps: n/d the fraction, rn/rd what is left of it -/
structure CI (n d rn rd : Int) (pre : List Int) (s : Int) : Prop where
  sg : s = 1 ∨ s = -1
  rd1 : 1 ≤ rd
  gc : Int.gcd rn rd = 1
  run : CS n d rn rd (cs pre).1 (cs pre).2.1 (cs pre).2.2.1 (cs pre).2.2.2 s
  q0 : 0 ≤ (cs pre).2.2.2
  p0 : 0 ≤ (cs pre).2.1
  pq : 1 ≤ (cs pre).2.1 + (cs pre).2.2.2
  qp : (cs pre).2.1 ≤ d ∧ (cs pre).2.2.2 ≤ d
  pb : -(n.natAbs : Int) - 1 ≤ (cs pre).1 ∧ (cs pre).1 ≤ n.natAbs + 1
  qb : -(n.natAbs : Int) - 1 ≤ (cs pre).2.2.1 ∧ (cs pre).2.2.1 ≤ n.natAbs + 1
  st : pre = [] ∨ (rd < rn ∧ 1 ≤ (cs pre).2.1)
  lt : ∀ y ∈ cv pre, y.2 < d
theorem CI.start {n d : Int} (hd : 1 ≤ d) (hg : Int.gcd n d = 1) : CI n d n d [] 1 := by
  refine ⟨.inl rfl, hd, hg, CS.start n d, ?_, ?_, ?_, ?_, ?_, ?_, .inl rfl, ?_⟩
  all_goals first | (simp [cs_nil]; omega) | (simp [cs_nil]; done) | (intro y hy; simp [cv, fwd] at hy)
theorem CI.nil {n d rn rd s : Int} (h : CI n d rn rd [] s) : rn = n ∧ rd = d := by
  have e1 := h.run.en
  have e2 := h.run.ed
  simp [cs_nil] at e1 e2
  omega
/-- the next term's products and sums -/
theorem CI.bd {n d rn rd s : Int} {pre : List Int} (h : CI n d rn rd pre s) (h1 : -1000000000 ≤ n) (h2 : n ≤ 1000000000) (h4 : d ≤ 1000000) (r : Int) (hr0 : 0 ≤ r) (hrd : r < rd) (hr : rn - fl rn rd * rd = r) :
    (0 ≤ fl rn rd*(cs pre).2.1 + (cs pre).2.2.2 ∧ fl rn rd*(cs pre).2.1 + (cs pre).2.2.2 ≤ d) ∧
    (-(n.natAbs : Int) - 1 ≤ fl rn rd*(cs pre).1 + (cs pre).2.2.1 ∧ fl rn rd*(cs pre).1 + (cs pre).2.2.1 ≤ n.natAbs + 1) ∧
    CBnd (fl rn rd) (cs pre).1 (cs pre).2.1 (cs pre).2.2.1 (cs pre).2.2.2 := by
  have st := h.run.step (fl rn rd)
  rw [hr] at st
  have off := st.off
  obtain ⟨e1, e2, _⟩ := st
  have q0 := h.q0; have p0 := h.p0; have pq := h.pq
  obtain ⟨qp1, qp2⟩ := h.qp; obtain ⟨pb1, pb2⟩ := h.pb; obtain ⟨qb1, qb2⟩ := h.qb
  have rd1 := h.rd1
  have hst := h.st
  have sg := h.sg
  have hn0 : pre = [] → (cs pre) = (1, 0, 0, 1) := fun e => by rw [e]; rfl
  generalize fl rn rd = f at *
  generalize hcs : cs pre = c at *
  obtain ⟨pn, pd, qn, qd⟩ := c
  dsimp only at *
  have pd'0 : 0 ≤ f*pd + qd := by
    rcases hst with e | ⟨e, e'⟩
    · have := hn0 e
      simp only [Prod.mk.injEq] at this
      obtain ⟨-, rfl, -, rfl⟩ := this
      simp
    · have hf : 0 ≤ f := by
        by_cases hc : 0 ≤ f
        · exact hc
        · have : f*rd ≤ -1*rd := mulle (by omega) (by omega)
          omega
      have := Int.mul_nonneg hf p0
      omega
  have pd'd : f*pd + qd ≤ d := by
    have a1 : 1*(f*pd+qd) ≤ rd*(f*pd+qd) := mulle rd1 pd'0
    have a2 := Int.mul_nonneg hr0 p0
    omega
  have pn' : -(n.natAbs : Int) - 1 ≤ f*pn + qn ∧ f*pn + qn ≤ n.natAbs + 1 := by
    have hd1 : 1 ≤ d := by omega
    have k1 : n*(f*pd+qd) ≤ n.natAbs*d := by
      have a1 : n*(f*pd+qd) ≤ (n.natAbs : Int)*(f*pd+qd) := mulle (by omega) pd'0
      have a2 : (f*pd+qd)*(n.natAbs : Int) ≤ d*(n.natAbs : Int) := mulle pd'd (by omega)
      rw [Int.mul_comm (f*pd+qd), Int.mul_comm d] at a2
      omega
    have k2 : -((n.natAbs : Int)*d) ≤ n*(f*pd+qd) := by
      have a1 : (-n)*(f*pd+qd) ≤ (n.natAbs : Int)*(f*pd+qd) := mulle (by omega) pd'0
      have a2 : (f*pd+qd)*(n.natAbs : Int) ≤ d*(n.natAbs : Int) := mulle pd'd (by omega)
      rw [Int.mul_comm (f*pd+qd), Int.mul_comm d] at a2
      rw [Int.neg_mul] at a1
      omega
    have rle : r < d ∨ r = 0 := by
      -- r < rd, and rd ≤ d or the like
      by_cases hpd : 1 ≤ f*pd+qd
      · have a1 : rd*1 ≤ rd*(f*pd+qd) := by rw [Int.mul_comm rd 1, Int.mul_comm rd (f*pd+qd)]; exact mulle hpd (by omega)
        have a2 := Int.mul_nonneg hr0 p0
        omega
      · by_cases hz : r = 0
        · exact .inr hz
        · have z : f*pd+qd = 0 := by omega
          rw [z] at e2
          simp at e2
          have pd1 : 1 ≤ pd := by
            by_cases c : 1 ≤ pd
            · exact c
            · have : pd = 0 := by omega
              rw [this] at e2; simp at e2; omega
          have hqd : f*pd = -qd := by omega
          rcases hst with e | ⟨e, e'⟩
          · have := hn0 e
            simp only [Prod.mk.injEq] at this
            omega
          · have hf : 1 ≤ f := by
              by_cases hc : 1 ≤ f
              · exact hc
              · have : f*rd ≤ 0*rd := mulle (by omega) (by omega)
                omega
            have : 1*pd ≤ f*pd := mulle hf p0
            omega
    have sr : -d ≤ - -s*r ∧ - -s*r ≤ d := by
      rcases sg with rfl | rfl <;> omega
    constructor
    · have : (-(n.natAbs : Int) - 1)*d ≤ (f*pn+qn)*d := by
        have : (-(n.natAbs : Int) - 1)*d = -((n.natAbs : Int)*d) - d := by grind
        omega
      exact lemul this (by omega)
    · have : (f*pn+qn)*d ≤ ((n.natAbs : Int) + 1)*d := by
        have : ((n.natAbs : Int) + 1)*d = (n.natAbs : Int)*d + d := by grind
        omega
      exact lemul this (by omega)
  refine ⟨⟨pd'0, pd'd⟩, pn', ⟨by omega, by omega, by omega, by omega, by omega, by omega, by omega, by omega⟩⟩
theorem prefix_snoc {α : Type} {p l : List α} {t x : α} (h : p ++ [t] <+: l ++ [x]) : p ++ [t] <+: l ∨ (p = l ∧ t = x) := by
  rcases List.prefix_concat_iff.1 h with h | h
  · right
    have := List.append_inj' h rfl
    simpa using this
  · exact .inl h
/-- the whole run -/
theorem conv_run {n d : Int} (h1 : -1000000000 ≤ n) (h2 : n ≤ 1000000000) (h4 : d ≤ 1000000) : ∀ (k : Nat) (rn rd s : Int) (pre : List Int), rd.toNat ≤ k → CI n d rn rd pre s → CB pre →
    CB (pre ++ tm rn rd) ∧ ∃ P t s', pre ++ tm rn rd = P ++ [t] ∧ CI n d t 1 P s'
  | 0, rn, rd, s, pre, hk, h, _ => by have := h.rd1; omega
  | k+1, rn, rd, s, pre, hk, h, hb => by
    have rd1 := h.rd1
    have fr := @fl_rest rn rd rd1
    obtain ⟨⟨p1, p2⟩, p3, cb⟩ := h.bd h1 h2 h4 (rn - fl rn rd * rd) fr.1 fr.2 rfl
    have hb' : CB (pre ++ [fl rn rd]) := fun p t hp => by
      rcases prefix_snoc hp with hp | ⟨rfl, rfl⟩
      · exact hb p t hp
      · exact cb
    by_cases he : fl rn rd * rd = rn
    · have e1 : rd = 1 := rd_one rd1 h.gc he
      rw [tm_last rd1 he]
      refine ⟨hb', pre, fl rn rd, s, rfl, ?_⟩
      subst e1
      have : fl rn 1 = rn := by omega
      rw [this]
      exact h
    · rw [tm_cons rd1 he]
      have e0 : pre ++ fl rn rd :: tm rd (rn - fl rn rd * rd) = (pre ++ [fl rn rd]) ++ tm rd (rn - fl rn rd * rd) := by simp
      rw [e0]
      have q0 := h.q0; have p0 := h.p0; have pq := h.pq
      refine conv_run h1 h2 h4 k rd (rn - fl rn rd * rd) (-s) (pre ++ [fl rn rd]) (by omega) ?_ hb'
      have hpd1 : 1 ≤ fl rn rd * (cs pre).2.1 + (cs pre).2.2.2 := by
        rcases h.st with e | ⟨e, e'⟩
        · subst e; simp [cs_nil]
        · have hf : 1 ≤ fl rn rd := le_fl rd1 (by omega)
          have : 1*(cs pre).2.1 ≤ fl rn rd * (cs pre).2.1 := mulle hf p0
          omega
      have hst := h.run.step (fl rn rd)
      refine ⟨by rcases h.sg with e | e <;> omega, by omega, by rw [gcd_step]; exact h.gc, ?_, ?_, ?_, ?_, ?_, ?_, ?_, ?_, ?_⟩
      · rw [cs_snoc]; exact hst
      · rw [cs_snoc]; exact p0
      · rw [cs_snoc]; exact p1
      · rw [cs_snoc]; dsimp only; omega
      · rw [cs_snoc]; exact ⟨p2, h.qp.1⟩
      · rw [cs_snoc]; exact p3
      · rw [cs_snoc]; exact h.pb
      · right; rw [cs_snoc]; exact ⟨by omega, hpd1⟩
      · intro y hy
        rcases mem_cv_snoc hy with hy | rfl
        · exact h.lt y hy
        · rw [cs_snoc]
          dsimp only
          have e2 := hst.ed
          have rr : 1 ≤ rn - fl rn rd * rd := by omega
          rcases h.st with e | ⟨e, e'⟩
          · obtain ⟨z1, z2⟩ := (e ▸ h : CI n d rn rd [] s).nil
            subst e
            simp [cs_nil]
            omega
          · have hf : 1 ≤ fl rn rd := le_fl rd1 (by omega)
            exact conv_lt h.run (by omega) (by omega) q0 p0 (by omega) pq
/-- the last step: what the convergents of a fraction come to -/
theorem conv_last {n d : Int} (h1 : -1000000000 ≤ n) (h2 : n ≤ 1000000000) (h3 : 1 ≤ d) (h4 : d ≤ 1000000) (hg : Int.gcd n d = 1) :
    CB (tm n d) ∧ ∃ P t s, tm n d = P ++ [t] ∧ CI n d t 1 P s := by
  have := conv_run h1 h2 h4 d.toNat n d 1 [] (Nat.le_refl _) (CI.start h3 hg) (fun p t hp => by simp at hp)
  simpa using this
theorem CI.nb {n d t s : Int} {P : List Int} (h : CI n d t 1 P s) (hd : 2 ≤ d) : (s = 1 → Nb n d (n - (cs P).1) (d - (cs P).2.1) (cs P).1 (cs P).2.1) ∧ (s = -1 → Nb n d (cs P).1 (cs P).2.1 (n - (cs P).1) (d - (cs P).2.1)) := by
  rcases h.st with e | ⟨e, e'⟩
  · subst e; have := h.nil; omega
  · exact Nb.of_conv h.sg h.run (by omega) e' h.q0
theorem CI.end {n d t s : Int} {P : List Int} (h : CI n d t 1 P s) : cv (P ++ [t]) = cv P ++ [(n, d)] := by
  rw [cv_snoc]
  obtain ⟨e1, e2⟩ := h.run.last
  rw [e1, e2]
end Go.Proofs.YtconhikflghkdaaDoor.Rm
