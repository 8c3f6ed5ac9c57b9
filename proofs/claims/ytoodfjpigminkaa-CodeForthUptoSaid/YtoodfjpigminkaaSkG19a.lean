/-
  Steps of functions, plain law, and walks of functions: what the laws rest on.
-/
import Derived.Test.YtoodfjpigminkaaSkG0d
import Derived.Test.YtoodfjpigminkaaSkG1a
import Derived.Test.YtoodfjpigminkaaSkG2a
import Derived.Test.YtoodfjpigminkaaSkG3a
import Derived.Test.YtoodfjpigminkaaSkG4a
import Derived.Test.YtoodfjpigminkaaSkG7a
import Derived.Test.YtoodfjpigminkaaSkG11a
set_option linter.unusedVariables false
set_option linter.unusedSimpArgs false
set_option linter.unusedSectionVars false
namespace Go.SK
theorem ofTextL_wd (s : List UInt8) : Wd (ofTextL s) := by
  unfold ofTextL; split
  · exact splitW_wd _
  · intro x hx; cases hx
end Go.SK
namespace Go.SK
theorem wordsI_wd {fm : FormL} {i : InstL} (h : i.Okay) : Wd (wordsI fm i) := by
  unfold wordsI headW
  refine Wd.app (Wd.app ?_ ?_) ?_
  · split
    · exact Wd.one h.ty
    · exact Wd.nil
  · split
    · exact Wd.one h.res
    · exact Wd.nil
  · intro x hx
    obtain ⟨a, ha, hx⟩ := List.mem_flatMap.1 hx
    unfold argW at hx
    split at hx
    · exact ofTextL_wd _ x hx
    · exact Wd.one (h.args a ha).1 x hx
end Go.SK
