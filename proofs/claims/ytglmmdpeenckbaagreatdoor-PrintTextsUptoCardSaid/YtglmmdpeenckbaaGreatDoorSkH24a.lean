/-
  Steps of functions, plain law, and walks of functions: what the laws rest on.
-/
import Derived.Test.YtglmmdpeenckbaaGreatDoorSkH0c
import Derived.Test.YtglmmdpeenckbaaGreatDoorSkH2a
import Derived.Test.YtglmmdpeenckbaaGreatDoorSkH4a
import Derived.Test.YtglmmdpeenckbaaGreatDoorSkH10a
set_option linter.unusedVariables false
set_option linter.unusedSimpArgs false
set_option linter.unusedSectionVars false
namespace Go.SK
open Go.RowKit Go.ChangeShapes Go.WideShapes Go.ChangeAt
def wrongF (k : Nat) (x : Int) : Int := if k = 0 then (if x = 50471687 then 21 else if x = 119734787 then 0 else 20) else if k = 1 then (if x = 65536 then 0 else 22) else if k = 3 then (if x = 0 ∨ x > 65536 then 24 else 0) else if k = 4 then (if x = 0 then 0 else 23) else 0
def hd1 (w : List Int) (k : Nat) : Int := if k < w.length then wrongF k (w.getD k 0) else 14
end Go.SK
