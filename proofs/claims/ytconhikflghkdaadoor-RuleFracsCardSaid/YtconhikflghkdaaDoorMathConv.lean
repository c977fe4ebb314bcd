/- Plain laws: the state of the loop of convergents. No program in sight. -/
import Derived.Test.YtconhikflghkdaaDoorMathMore
namespace Go.Proofs.YtconhikflghkdaaDoor.Rm
/-- the state of the loop of convergents: now and was, behind some terms -/
def fe4 : Int → Int → Int → Int → List Int → Int × Int × Int × Int
  | pn, pd, qn, qd, [] => (pn, pd, qn, qd)
  | pn, pd, qn, qd, a :: l => fe4 (a*pn + qn) (a*pd + qd) pn pd l
theorem fe4_snoc (l : List Int) : ∀ (pn pd qn qd t : Int), fe4 pn pd qn qd (l ++ [t]) = (t*(fe4 pn pd qn qd l).1 + (fe4 pn pd qn qd l).2.2.1, t*(fe4 pn pd qn qd l).2.1 + (fe4 pn pd qn qd l).2.2.2, (fe4 pn pd qn qd l).1, (fe4 pn pd qn qd l).2.1) := by
  induction l with
  | nil => intros; rfl
  | cons a l ih => intro pn pd qn qd t; exact ih _ _ _ _ _
theorem fwd_snoc (l : List Int) : ∀ (pn pd qn qd t : Int), fwd pn pd qn qd (l ++ [t]) = fwd pn pd qn qd l ++ [(t*(fe4 pn pd qn qd l).1 + (fe4 pn pd qn qd l).2.2.1, t*(fe4 pn pd qn qd l).2.1 + (fe4 pn pd qn qd l).2.2.2)] := by
  induction l with
  | nil => intros; rfl
  | cons a l ih => intro pn pd qn qd t; simp only [List.cons_append, fwd, fe4]; rw [ih]
/-- the convergents -/
def cv (l : List Int) : List (Int × Int) := fwd 1 0 0 1 l
def cs (l : List Int) : Int × Int × Int × Int := fe4 1 0 0 1 l
theorem cs_nil : cs [] = (1, 0, 0, 1) := rfl
theorem cs_snoc (l : List Int) (t : Int) : cs (l ++ [t]) = (t*(cs l).1 + (cs l).2.2.1, t*(cs l).2.1 + (cs l).2.2.2, (cs l).1, (cs l).2.1) := fe4_snoc l 1 0 0 1 t
theorem cv_snoc (l : List Int) (t : Int) : cv (l ++ [t]) = cv l ++ [(t*(cs l).1 + (cs l).2.2.1, t*(cs l).2.1 + (cs l).2.2.2)] := fwd_snoc l 1 0 0 1 t
theorem cv_prefix {l m : List Int} (h : l <+: m) : cv l <+: cv m := by
  obtain ⟨r, rfl⟩ := h
  have : ∀ (l : List Int) (pn pd qn qd : Int), fwd pn pd qn qd l <+: fwd pn pd qn qd (l ++ r) := by
    intro l
    induction l with
    | nil => intros; exact List.nil_prefix
    | cons a l ih => intro pn pd qn qd; simp only [List.cons_append, fwd]; exact (List.prefix_cons_inj _).2 (ih _ _ _ _)
  exact this l _ _ _ _
/-- no product and no sum of the loop is too great -/
structure CBnd (t pn pd qn qd : Int) : Prop where
  a1 : -4000000000000000000 ≤ t*pn
  a2 : t*pn ≤ 4000000000000000000
  a3 : -4000000000000000000 ≤ t*pd
  a4 : t*pd ≤ 4000000000000000000
  a5 : -4000000000000000000 ≤ t*pn + qn
  a6 : t*pn + qn ≤ 4000000000000000000
  a7 : -4000000000000000000 ≤ t*pd + qd
  a8 : t*pd + qd ≤ 4000000000000000000
def CB (ts : List Int) : Prop := ∀ pre t, pre ++ [t] <+: ts → CBnd t (cs pre).1 (cs pre).2.1 (cs pre).2.2.1 (cs pre).2.2.2
end Go.Proofs.YtconhikflghkdaaDoor.Rm
