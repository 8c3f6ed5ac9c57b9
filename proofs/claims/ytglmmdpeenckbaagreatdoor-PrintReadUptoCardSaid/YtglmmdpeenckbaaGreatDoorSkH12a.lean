/-
  Steps of functions, plain law, and walks of functions: what the laws rest on.
-/
import Derived.Test.YtglmmdpeenckbaaGreatDoorSkH0c
import Derived.Test.YtglmmdpeenckbaaGreatDoorSkH2a
import Derived.Test.YtglmmdpeenckbaaGreatDoorSkH3a
import Derived.Test.YtglmmdpeenckbaaGreatDoorSkH6a
set_option linter.unusedVariables false
set_option linter.unusedSimpArgs false
set_option linter.unusedSectionVars false
namespace Go.SK
abbrev zwZ (c : UInt8) : Bool := decide (c.toNat ≠ 10)
theorem zgX {x y : Tx} (h : x.all zwZ = true) : lnF (x ++ 10 :: y) = x :: lnF y := by
  have hk : x.length < (x ++ 10 :: y).length := by rw [List.length_append, List.length_cons]; omega
  have hc := zoq (r := x ++ 10 :: y) (k := x.length) hk (fun j hj => by rw [zju hj]; exact of_decide_eq_true (zmR h hj)) (by simp [List.getD])
  rw [zdR (by omega), hc.1, hc.2]
  rw [List.take_left, show x.length + 1 = (x ++ [10]).length by simp, show x ++ 10 :: y = (x ++ [10]) ++ y by simp, List.drop_left]
end Go.SK
