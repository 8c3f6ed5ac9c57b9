/-
  Steps of functions, plain law, and walks of functions: what the laws rest on.
-/
import Derived.Test.YtalnjboddfedjaaDoorSkG0b
import Derived.Test.YtalnjboddfedjaaDoorSkG1a
import Derived.Test.YtalnjboddfedjaaDoorSkG3a
import Derived.Test.YtalnjboddfedjaaDoorSkG6a
import Derived.Test.YtalnjboddfedjaaDoorSkG7a
import Derived.Test.YtalnjboddfedjaaDoorSkG9a
import Derived.Test.YtalnjboddfedjaaDoorSkG11a
import Derived.Test.YtalnjboddfedjaaDoorSkG16a
set_option linter.unusedVariables false
set_option linter.unusedSimpArgs false
set_option linter.unusedSectionVars false
namespace Go.SK
section
variable {P : Program} {ty : TypeId} {ρ : Operand → Value} {w : World} {C : Value → World → Prop}
theorem Op1.notD {x : Operand} {p : Prop} [Decidable p] {T : TypeId} (hx : ρ x = .bool (decide p)) (h : C (.bool (decide (¬ p))) w) : Op1 P (.unOp .not T x) ty ρ w C :=
  Op1.not hx (by rw [show (!decide p) = decide (¬ p) by by_cases h : p <;> simp [h]]; exact h)
end
end Go.SK
