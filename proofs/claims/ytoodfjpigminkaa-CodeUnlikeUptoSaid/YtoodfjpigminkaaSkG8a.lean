/-
  Steps of functions, plain law, and walks of functions: what the laws rest on.
-/
import Derived.Test.YtoodfjpigminkaaSkG0d
import Derived.Test.YtoodfjpigminkaaSkG1a
import Derived.Test.YtoodfjpigminkaaSkG2a
import Derived.Test.YtoodfjpigminkaaSkG5a
set_option linter.unusedVariables false
set_option linter.unusedSimpArgs false
set_option linter.unusedSectionVars false
namespace Go.SK
theorem joinW_splitW {b : List UInt8} (h : b.length % 4 = 0) : joinW (splitW b) = b := by
  refine list_ext_getD2 0 (by rw [joinW_len, splitW_len]; omega) fun k hk => ?_
  rw [joinW_len, splitW_len] at hk
  rw [joinW_get (by rw [splitW_len]; exact hk)]
  obtain ⟨j, t, ht, rfl⟩ : ∃ j t, t < 4 ∧ k = 4 * j + t := ⟨k / 4, k % 4, by omega, by omega⟩
  rw [byteAt4 _ _ _ ht, splitW_get (by omega)]
  refine u8_ext ?_
  rw [byteU_nat]
  have h0 := bget b (4 * j)
  have h1 := bget b (4 * j + 1)
  have h2 := bget b (4 * j + 2)
  have h3 := bget b (4 * j + 3)
  unfold wordAt
  match t, ht with
  | 0, _ => rw [show (256 : Int) ^ 0 = 1 from rfl, Int.ediv_one, show b.getD (4 * j + 0) 0 = b.getD (4 * j) 0 from rfl]; omega
  | 1, _ => rw [show (256 : Int) ^ 1 = 256 from rfl]; omega
  | 2, _ => rw [show (256 : Int) ^ 2 = 65536 from rfl]; omega
  | 3, _ => rw [show (256 : Int) ^ 3 = 16777216 from rfl]; omega
end Go.SK
