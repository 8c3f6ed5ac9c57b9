/-
  Steps of functions, plain law, and walks of functions: what the laws rest on.
-/
import Derived.Test.YtoodfjpigminkaaSkG0d
import Derived.Test.YtoodfjpigminkaaSkG1a
import Derived.Test.YtoodfjpigminkaaSkG3a
import Derived.Test.YtoodfjpigminkaaSkG4a
import Derived.Test.YtoodfjpigminkaaSkG7a
import Derived.Test.YtoodfjpigminkaaSkG12a
set_option linter.unusedVariables false
set_option linter.unusedSimpArgs false
set_option linter.unusedSectionVars false
namespace Go.SK
open Go.RowKit Go.ChangeShapes Go.WideShapes Go.ChangeAt
section
variable {H : Type} {enc : TypeId × Value → H} {P : Program} {w : World} {base : Nat} {spare : Nat → Bool} {held : Bool} {M I A : TypeId}
theorem open_inst (T : MdTys P M I A) {v : Value} {d : DataW H} {p : List MemPlace} (h : DataW.Trod enc P w base spare held I v d p) (hv : ∃ cs : List Value, v = .agg cs.toArray) :
    ∃ (op ty res : Int) (ao : Option Addr) (cap : Nat) (l : List ArgP), v = .agg #[.int .u16 op, .int .u32 ty, .int .u32 res, .slice ao l.length cap] ∧ InstP.good w ⟨op, ty, res, ao, cap, l⟩ ∧ relI ⟨op, ty, res, ao, cap, l⟩ d := by
  obtain ⟨fuel, h⟩ := h
  obtain ⟨cs, rfl⟩ := hv
  replace h : DataW.trod enc P w base spare held fuel I cs = some (d, p) := h
  obtain ⟨i, rfl, hg, hr⟩ := open_instM T fuel cs (d, p) h
  exact ⟨i.op, i.ty, i.res, i.ao, i.cap, i.args, rfl, hg, hr⟩
end
end Go.SK
