/-
  Steps of functions, plain law, and walks of functions: what the laws rest on.
-/
import Derived.Test.YtoodfjpigminkaaSkG0d
import Derived.Test.YtoodfjpigminkaaSkG1a
import Derived.Test.YtoodfjpigminkaaSkG3a
import Derived.Test.YtoodfjpigminkaaSkG4a
import Derived.Test.YtoodfjpigminkaaSkG7a
import Derived.Test.YtoodfjpigminkaaSkG11a
import Derived.Test.YtoodfjpigminkaaSkG12a
import Derived.Test.YtoodfjpigminkaaSkG20a
import Derived.Test.YtoodfjpigminkaaSkG27a
set_option linter.unusedVariables false
set_option linter.unusedSimpArgs false
set_option linter.unusedSectionVars false
namespace Go.SK
open Go.RowKit Go.ChangeShapes Go.WideShapes Go.ChangeAt
section
variable {H : Type} {f : DataW H → Nat} {fa : List (DataW H) → Nat}
theorem bulk_inst (h : BulkOk f fa) {i : InstP} {d : DataW H} (hr : relI i d) (hk : f d ≤ 1048576) : i.Tiny := by
  have h1 := bulk_inst0 h i d hr
  exact ⟨by omega, fun a ha => by have := sum_mem (g := fun a : ArgP => a.s.length) ha; omega⟩
end
end Go.SK
namespace Go.SK
theorem raw_short {b rop re : Int} {rws : List Int} {i : InstL} (h : rawF b i = ((rop, rws), re)) : rws.length ≤ 65535 := by
  obtain ⟨_, h1, h2⟩ := rawF_len h
  by_cases he : re = 0
  · have h3 : rws.length < 65535 := (h1 he).2.1
    omega
  · have h3 : rws = [] := congrArg Prod.snd (h2 he)
    rw [h3]; exact Nat.zero_le _
end Go.SK
