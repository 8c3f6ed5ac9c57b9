/-
  Steps of functions, plain law, and walks of functions: what the laws rest on.
-/
import Derived.Test.YtglmmdpeenckbaaGreatDoorSkH0c
import Derived.Test.YtglmmdpeenckbaaGreatDoorSkH4a
set_option linter.unusedVariables false
set_option linter.unusedSimpArgs false
set_option linter.unusedSectionVars false
namespace Go.SK
open Go.RowKit
section
variable {P : Program} {ty : TypeId} {ρ : Operand → Value} {w : World} {C : Value → World → Prop} {T T2 : TypeId} {x y : Operand} {k : Nat} {xs ys : List Value} {b : Bool}
theorem zem (hx : ρ x = .agg xs.toArray) (hy : ρ y = .agg ys.toArray) (hg : P.eqGuardType P.depth T = false) (h : EqOk P k T (.agg xs.toArray) (.agg ys.toArray) b) (hc : C (.bool b) w) (hk : Nat.ble k 10000 = true := by rfl) : Op1 P (.binOp .eql T x y T2) ty ρ w C := by
  refine zco (v := .bool b) (w' := w) ?_ hc
  have hp : (program : Sem Program).run P w = .ok P w := rfl
  simp only [execOp, hx, hy, eqGuard, binOp]
  simp [Sem.run_bind, hp, hg, Result.andThen, zof h hk]
end
end Go.SK
