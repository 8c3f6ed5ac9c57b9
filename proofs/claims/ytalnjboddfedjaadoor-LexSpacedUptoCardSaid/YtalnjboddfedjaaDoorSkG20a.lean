/-
  Steps of functions, plain law, and walks of functions: what the laws rest on.
-/
import Derived.Test.YtalnjboddfedjaaDoorSkG0b
import Derived.Test.YtalnjboddfedjaaDoorSkG4a
import Derived.Test.YtalnjboddfedjaaDoorSkG7a
import Derived.Test.YtalnjboddfedjaaDoorSkG9a
set_option linter.unusedVariables false
set_option linter.unusedSimpArgs false
set_option linter.unusedSectionVars false
namespace Go.SK
open Go.RowKit Go.ChangeShapes Go.WideShapes Go.ChangeAt
theorem cell_int {P : Program} {w : World} {r : Reach} {base : Nat} {u : TypeId} {v : Value} {k : IntKind} (h : Cell.okWide P w r base u v) (hu : P.underlying u = some (.int k)) : ∃ n, v = .int k n ∧ k.has n := by
  simp only [Cell.okWide, hu] at h
  cases v <;> simp [Cell.ok, hu] at h
  obtain ⟨rfl, h⟩ := h
  exact ⟨_, rfl, h⟩
theorem val_cell {P : Program} {w : World} {r : Reach} {base : Nat} {u : TypeId} {v : Value} {d : TypeDesc} (h : Value.okWide P w r base u v) (hu : P.underlying u = some d) (hd : aggB d = false) : Cell.okWide P w r base u v := by
  simp only [Value.okWide, hu] at h
  cases d <;> simp [aggB] at hd <;> exact h
end Go.SK
