/-
  Walks of functions, and of the laws over them.
-/
import Derived.Test.YtheckaonphmmiaaSkO
import Derived.Test.YtheckaonphmmiaaProg
import Derived.Test.YtheckaonphmmiaaSkR2GrAF
import Derived.Test.YtheckaonphmmiaaSkR2GrBF
import Derived.Test.YtheckaonphmmiaaSkR2GrCF
import Derived.Test.YtheckaonphmmiaaSkR2GrDF
import Derived.Test.YtheckaonphmmiaaSkR2GrEF
import Derived.Test.YtheckaonphmmiaaSkR2GrFF
import Derived.Test.YtheckaonphmmiaaSkR2GrGF
import Derived.Test.YtheckaonphmmiaaSkR2GrHF
import Derived.Test.YtheckaonphmmiaaSkR2GrIF
set_option linter.unusedVariables false
set_option linter.unusedSimpArgs false
namespace Go.SK
open Go Go.Proofs

end Go.SK
