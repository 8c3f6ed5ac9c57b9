/-
  Steps of functions, plain law, and walks of functions: what the laws rest on.
-/
import Derived.Test.YtalnjboddfedjaaDoorSkG0b
set_option linter.unusedVariables false
set_option linter.unusedSimpArgs false
set_option linter.unusedSectionVars false
namespace Go.SK
theorem run_d {c : UInt8} (h : digB c = true) : runB c = true := by unfold runB; rw [h, Bool.or_true]
end Go.SK
