/-
  Walks of functions, and of the laws over them.
-/
import Derived.Test.YtheckaonphmmiaaSkO
import Derived.Test.YtheckaonphmmiaaProg
import Derived.Test.YtheckaonphmmiaaSkR2GrAF
import Derived.Test.YtheckaonphmmiaaSkR2GrBF
import Derived.Test.YtheckaonphmmiaaSkR2GrCF
import Derived.Test.YtheckaonphmmiaaSkR2GrDF
import Derived.Test.YtheckaonphmmiaaSkR2GrEF
import Derived.Test.YtheckaonphmmiaaSkR2GrFF
import Derived.Test.YtheckaonphmmiaaSkR2GrGF
set_option linter.unusedVariables false
set_option linter.unusedSimpArgs false
namespace Go.SK
open Go Go.Proofs
theorem ty53 : TyF Try.prog 53 (.slice 5) 1 24 [.slice none 0 0] := TyF.of (by kernel_rfl) (by kernel_rfl)
end Go.SK
