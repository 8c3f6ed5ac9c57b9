/-
  Steps of functions, plain law, and walks of functions: what the laws rest on.
-/
import Derived.Test.YtalnjboddfedjaaDoorSkG0b
import Derived.Test.YtalnjboddfedjaaDoorSkG1a
import Derived.Test.YtalnjboddfedjaaDoorSkG6a
import Derived.Test.YtalnjboddfedjaaDoorSkG7a
import Derived.Test.YtalnjboddfedjaaDoorSkG9a
import Derived.Test.YtalnjboddfedjaaDoorSkG16a
set_option linter.unusedVariables false
set_option linter.unusedSimpArgs false
set_option linter.unusedSectionVars false
namespace Go.SK
theorem St.init_D {r : Res} {w : World} (h : r.holds w) : St w NoM [] [r] w := St.init_Ds (by simpa using h)
end Go.SK
namespace Go.SK
open Go.RowKit
theorem str_inj {s t : List UInt8} (h : s = t) : str s = str t := by rw [h]
end Go.SK
