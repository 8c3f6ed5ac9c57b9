/-
  Steps of functions, plain law, and walks of functions: what the laws rest on.
-/
import Derived.Test.YtglmmdpeenckbaaGreatDoorSkH0c
set_option linter.unusedVariables false
set_option linter.unusedSimpArgs false
set_option linter.unusedSectionVars false
namespace Go.SK
theorem run_d {c : UInt8} (h : zdT c = true) : zji c = true := by unfold zji; rw [h, Bool.or_true]
end Go.SK
namespace Go.SK
theorem zwc {b : Bool} (h : b = false) : ¬ b = true := by rw [h]; decide
end Go.SK
namespace Go.SK
abbrev zsV (s : Tx) : List Value := [str s]
end Go.SK
namespace Go.SK
open Go Go.Proofs
theorem zjF : TyF Tryz.prog 155 (.slice 9) 1 24 [.slice none 0 0] := zbK Kr Kr
end Go.SK
