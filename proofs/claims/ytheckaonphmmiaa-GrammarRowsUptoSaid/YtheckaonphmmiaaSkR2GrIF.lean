/-
  Walks of functions, and of the laws over them.
-/
import Derived.Test.YtheckaonphmmiaaSkO
import Derived.Test.YtheckaonphmmiaaProg
import Derived.Test.YtheckaonphmmiaaSkR2GrAF
import Derived.Test.YtheckaonphmmiaaSkR2GrBF
import Derived.Test.YtheckaonphmmiaaSkR2GrCF
import Derived.Test.YtheckaonphmmiaaSkR2GrDF
import Derived.Test.YtheckaonphmmiaaSkR2GrEF
import Derived.Test.YtheckaonphmmiaaSkR2GrFF
import Derived.Test.YtheckaonphmmiaaSkR2GrGF
import Derived.Test.YtheckaonphmmiaaSkR2GrHF
set_option linter.unusedVariables false
set_option linter.unusedSimpArgs false
namespace Go.SK
open Go Go.Proofs
theorem ent28 : Enters Try.prog 28 := ⟨Try.f28, _, Try.func28, by kernel_rfl, rfl⟩
theorem ent29 : Enters Try.prog 29 := ⟨Try.f29, _, Try.func29, by kernel_rfl, rfl⟩
end Go.SK
