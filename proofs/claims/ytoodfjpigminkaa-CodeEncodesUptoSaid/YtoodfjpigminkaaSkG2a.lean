/-
  Steps of functions, plain law, and walks of functions: what the laws rest on.
-/
import Derived.Test.YtoodfjpigminkaaSkG0d
set_option linter.unusedVariables false
set_option linter.unusedSimpArgs false
set_option linter.unusedSectionVars false
namespace Go.SK
open Go.RowKit Go.ChangeShapes Go.WideShapes Go.ChangeAt
theorem u8_ext {a b : UInt8} (h : ((a.toNat : Int)) = b.toNat) : a = b := UInt8.toNat_inj.1 (by omega)
end Go.SK
