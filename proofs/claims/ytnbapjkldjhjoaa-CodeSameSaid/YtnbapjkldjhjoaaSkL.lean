/-
  Words that read other slots, at the end of a region.
-/
import Derived.Test.YtnbapjkldjhjoaaSkK
set_option linter.unusedVariables false
set_option linter.unusedSimpArgs false
namespace Go.SK
theorem DrawTab.mask {ops : Array Oper} {bs : List Nat} {ds : List (Option Nat)} (h : DrawTab ops bs ds) (f : Nat → Value) {j l t : Nat} (hw : bitB (bs.getD j 0) l = true) (hd : ds.getD l none = some t) : SK.mask ops j f t = f t :=
  mask_get f (by rw [h.waits, bitB_eq]; exact hw) (by rw [h.dstOf]; exact hd)
end Go.SK
