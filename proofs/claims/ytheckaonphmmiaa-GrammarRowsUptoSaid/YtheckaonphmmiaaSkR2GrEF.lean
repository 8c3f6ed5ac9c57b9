/-
  Walks of functions, and of the laws over them.
-/
import Derived.Test.YtheckaonphmmiaaSkO
import Derived.Test.YtheckaonphmmiaaProg
import Derived.Test.YtheckaonphmmiaaSkR2GrAF
import Derived.Test.YtheckaonphmmiaaSkR2GrBF
import Derived.Test.YtheckaonphmmiaaSkR2GrCF
import Derived.Test.YtheckaonphmmiaaSkR2GrDF
set_option linter.unusedVariables false
set_option linter.unusedSimpArgs false
namespace Go.SK
open Go Go.Proofs
theorem ty28 : TyF Try.prog 28 (.func #[59] #[] false) 1 8 [.nilFunc] := TyF.of (by kernel_rfl) (by kernel_rfl)
theorem ty42 : TyF Try.prog 42 (.slice 38) 1 24 [.slice none 0 0] := TyF.of (by kernel_rfl) (by kernel_rfl)
end Go.SK
