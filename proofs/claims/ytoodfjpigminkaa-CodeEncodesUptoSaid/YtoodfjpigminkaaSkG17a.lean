/-
  Steps of functions, plain law, and walks of functions: what the laws rest on.
-/
import Derived.Test.YtoodfjpigminkaaSkG0d
import Derived.Test.YtoodfjpigminkaaSkG1a
set_option linter.unusedVariables false
set_option linter.unusedSimpArgs false
set_option linter.unusedSectionVars false
namespace Go.SK
open Go.RowKit
section
variable {ao : Option Addr} {n es : Nat} {xs : List Value} {w : World}
theorem Res.rs2_cellF {k f : Nat} {v : Value} (h : (Res.rs ao n es xs).holds w) (hv : xs[0 + k + f]? = some v) : w.cell? ⟨Rb ao, Ro ao + k + f, none⟩ = some v := by
  rw [Nat.zero_add] at hv
  have := Res.rs_all2 h (k + f) v hv
  rwa [← Nat.add_assoc] at this
end
end Go.SK
