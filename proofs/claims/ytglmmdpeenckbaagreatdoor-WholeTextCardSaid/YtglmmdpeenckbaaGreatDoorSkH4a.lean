/-
  Steps of functions, plain law, and walks of functions: what the laws rest on.
-/
import Derived.Test.YtglmmdpeenckbaaGreatDoorSkH0c
set_option linter.unusedVariables false
set_option linter.unusedSimpArgs false
set_option linter.unusedSectionVars false
namespace Go.SK
open Go.RowKit
section
variable {P : Program} {ty : TypeId} {ρ : Operand → Value} {w : World} {C : Value → World → Prop} {T T2 : TypeId} {x y : Operand} {k : Nat} {xs ys : List Value} {b : Bool}
theorem zof {x y : Value} (h : EqOk P k T x y b) (hk : Nat.ble k 10000 = true) : (Op.equal T x y).run P w = .ok b w := by
  have := h (10000 - k) w
  rw [Nat.sub_add_cancel (Nat.le_of_ble_eq_true hk)] at this
  exact this
end
end Go.SK
namespace Go.SK
open Go.RowKit
theorem rg11 : List.range 11 = [0, 1, 2, 3, 4, 5, 6, 7, 8, 9, 10] := rfl
theorem rg12 : List.range 12 = [0, 1, 2, 3, 4, 5, 6, 7, 8, 9, 10, 11] := rfl
end Go.SK
namespace Go.SK
theorem zkr {s : Tx} {i n : Nat} (h : i < s.length) (hd : zdT (s.getD i 0) = true) : zcl (s.drop i) n = zcl (s.drop (i + 1)) (10 * n + ((s.getD i 0).toNat - 48)) := by
  rw [zi9 h, zcl, if_pos hd]
theorem zkq {s : Tx} {i n : Nat} (h : i < s.length) (hd : ¬ zdT (s.getD i 0) = true) : zcl (s.drop i) n = none := by
  rw [zi9 h, zcl, if_neg hd]
theorem zmE {s : Tx} {i n : Nat} (h : s.length ≤ i) : zcl (s.drop i) n = some n := by
  rw [List.drop_eq_nil_of_le h]; rfl
end Go.SK
