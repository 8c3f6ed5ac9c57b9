/-
  Steps of functions, plain law, and walks of functions: what the laws rest on.
-/
import Derived.Test.YtalnjboddfedjaaDoorSkG0b
set_option linter.unusedVariables false
set_option linter.unusedSimpArgs false
set_option linter.unusedSectionVars false
namespace Go.SK
open Go.RowKit
section
variable {P : Program} {ty : TypeId} {ρ : Operand → Value} {w : World} {C : Value → World → Prop} {T T2 : TypeId} {x y : Operand} {k : IntKind} {a b : Int}
theorem Op1.rem (hx : ρ x = .int k a) (hy : ρ y = .int k b) (h0 : b ≠ 0) (h : C (.int k (a.tmod b)) w) : Op1 P (.binOp .rem T x y T2) ty ρ w C :=
  Op1.arith hx hy rfl (by simp [binOp, Op.intDiv, h0]) h
theorem Op1.remN {c : Int} (hx : ρ x = .int k a) (hy : ρ y = .int k b) (ha : 0 ≤ a) (h0 : 0 < b) (hc : a % b = c) (h : C (.int k c) w) : Op1 P (.binOp .rem T x y T2) ty ρ w C :=
  Op1.arith hx hy rfl (by simp [binOp, Op.intDiv, show b ≠ 0 by omega, Int.tmod_eq_emod_of_nonneg ha, hc]) h
end
end Go.SK
