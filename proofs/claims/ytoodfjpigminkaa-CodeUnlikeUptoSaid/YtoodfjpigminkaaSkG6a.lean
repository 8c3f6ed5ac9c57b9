/-
  Steps of functions, plain law, and walks of functions: what the laws rest on.
-/
import Derived.Test.YtoodfjpigminkaaSkG0d
import Derived.Test.YtoodfjpigminkaaSkG2a
import Derived.Test.YtoodfjpigminkaaSkG5a
set_option linter.unusedVariables false
set_option linter.unusedSimpArgs false
set_option linter.unusedSectionVars false
namespace Go.SK
theorem splitW_joinW {l : List Int} (hw : Wd l) : splitW (joinW l) = l := by
  refine list_ext_getD2 0 (by rw [splitW_len, joinW_len]; omega) fun j hj => ?_
  rw [splitW_len, joinW_len] at hj
  rw [splitW_get (by rw [joinW_len]; exact hj)]
  have e : ∀ t, t < 4 → (joinW l).getD (4 * j + t) 0 = byteU (l.getD j 0) t := fun t ht => by rw [joinW_get (by omega), byteAt4 _ _ _ ht]
  have e0 := e 0 (by omega)
  rw [Nat.add_zero] at e0
  have := hw.get j
  unfold wordAt
  rw [e0, e 1 (by omega), e 2 (by omega), e 3 (by omega), byteU_nat, byteU_nat, byteU_nat, byteU_nat, show (256 : Int) ^ 0 = 1 from rfl, show (256 : Int) ^ 1 = 256 from rfl, show (256 : Int) ^ 2 = 65536 from rfl, show (256 : Int) ^ 3 = 16777216 from rfl]
  omega
end Go.SK
