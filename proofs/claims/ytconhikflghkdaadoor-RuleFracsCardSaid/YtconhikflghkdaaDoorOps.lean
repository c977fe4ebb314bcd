/- rule/frac.go: operated, Add, Sub, Mul, Div. -/
import Derived.Test.YtconhikflghkdaaDoorSums
namespace Go.Proofs.YtconhikflghkdaaDoor
open Go.RowKit Go.Shelf
/-- where the closure of operated finds what it needs -/
structure OpIn (k : Nat) (p q r o : Nat) (a b c d : Int) (w : World) : Prop where
  k0 : w.cell? ⟨p, 0, none⟩ = some (.int .i64 (k : Int))
  c0 : w.cell? ⟨q, 0, none⟩ = some (.int .i64 c)
  c1 : w.cell? ⟨q, 1, none⟩ = some (.int .i64 d)
  a0 : w.cell? ⟨r, 0, none⟩ = some (.int .i64 a)
  a1 : w.cell? ⟨r, 1, none⟩ = some (.int .i64 b)
  o0 : Two0 o w
  n1 : ¬ o = p
  n2 : ¬ o = q
  n3 : ¬ o = r
def opsV : Value := .agg #[.func (.func 144) #[] #[], .func (.func 93) #[] #[], .func (.func 115) #[] #[], .func (.func 145) #[] #[]]
end Go.Proofs.YtconhikflghkdaaDoor
