/-
  Steps of functions, plain law, and walks of functions: what the laws rest on.
-/
import Derived.Test.YtoodfjpigminkaaSkG0d
import Derived.Test.YtoodfjpigminkaaSkG1a
import Derived.Test.YtoodfjpigminkaaSkG2a
set_option linter.unusedVariables false
set_option linter.unusedSimpArgs false
set_option linter.unusedSectionVars false
namespace Go.SK
theorem Small.len9 {l : List InstP} (h : Small l) : l.length ≤ 9000000000000000000 := by have := h.len; omega
theorem Small.la9 {l : List InstP} (h : Small l) : ∀ i ∈ l, i.args.length ≤ 9000000000000000000 := fun i hi => by have := h.args i hi; omega
end Go.SK
