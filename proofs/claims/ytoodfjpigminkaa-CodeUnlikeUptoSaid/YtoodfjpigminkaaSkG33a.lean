/-
  Steps of functions, plain law, and walks of functions: what the laws rest on.
-/
import Derived.Test.YtoodfjpigminkaaSkG0d
import Derived.Test.YtoodfjpigminkaaSkG1a
import Derived.Test.YtoodfjpigminkaaSkG2a
import Derived.Test.YtoodfjpigminkaaSkG3a
import Derived.Test.YtoodfjpigminkaaSkG4a
import Derived.Test.YtoodfjpigminkaaSkG7a
import Derived.Test.YtoodfjpigminkaaSkG11a
import Derived.Test.YtoodfjpigminkaaSkG13a
import Derived.Test.YtoodfjpigminkaaSkG15a
import Derived.Test.YtoodfjpigminkaaSkG16a
import Derived.Test.YtoodfjpigminkaaSkG19a
import Derived.Test.YtoodfjpigminkaaSkG23a
set_option linter.unusedVariables false
set_option linter.unusedSimpArgs false
set_option linter.unusedSectionVars false
namespace Go.SK
theorem enc_short {gn bd se sa : Int} {l : List InstL} {bs : List UInt8} (h : encodeF gn bd l = (bs, (se, sa))) : bs.length ≤ 9000000000000000000 := by
  have h1 := enc_shape h
  by_cases he : se = 0
  · have h2 := encode_len (gn := gn) (bound := bd) (l := l) (by rw [h1.1]; exact he)
    have h3 := (encode_good (gn := gn) (bound := bd) (l := l) (by rw [h1.1]; exact he)).1
    rw [h] at h3
    have h4 : bs = joinW (writeW gn bd (rawsF bd l)) := congrArg Prod.fst h3
    rw [h4, joinW_len]; omega
  · rw [h1.2 he]; exact Nat.zero_le _
end Go.SK
