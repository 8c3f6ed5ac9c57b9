/-
  Steps of functions, plain law, and walks of functions: what the laws rest on.
-/
import Derived.Test.YtalnjboddfedjaaDoorSkG0b
import Derived.Test.YtalnjboddfedjaaDoorSkG2a
import Derived.Test.YtalnjboddfedjaaDoorSkG4a
import Derived.Test.YtalnjboddfedjaaDoorSkG5a
import Derived.Test.YtalnjboddfedjaaDoorSkG8a
set_option linter.unusedVariables false
set_option linter.unusedSimpArgs false
set_option linter.unusedSectionVars false
namespace Go.SK
open Go.RowKit Go.ChangeShapes Go.WideShapes Go.ChangeAt
section
variable {ao : Option Addr} {n cap es : Nat} {e : TypeId} {xs : List Value} {w : World}
theorem Res.rs_of_row {b : Nat} (h : (Res.row b e xs).holds w) (hl : xs.length = n * es) : (Res.rs (some ⟨b, 0, none⟩) n es xs).holds w :=
  ⟨hl, .inr ⟨b, 0, rfl, cells_of_obj (n := xs.length) h _ (by simp)⟩⟩
end
end Go.SK
