/-
  Steps of functions, plain law, and walks of functions: what the laws rest on.
-/
import Derived.Test.YtglmmdpeenckbaaGreatDoorSkH0c
import Derived.Test.YtglmmdpeenckbaaGreatDoorSkH1a
import Derived.Test.YtglmmdpeenckbaaGreatDoorSkH2a
import Derived.Test.YtglmmdpeenckbaaGreatDoorSkH5a
import Derived.Test.YtglmmdpeenckbaaGreatDoorSkH8a
import Derived.Test.YtglmmdpeenckbaaGreatDoorSkH13a
import Derived.Test.YtglmmdpeenckbaaGreatDoorSkH14a
import Derived.Test.YtglmmdpeenckbaaGreatDoorSkH18a
import Derived.Test.YtglmmdpeenckbaaGreatDoorSkH22a
import Derived.Test.YtglmmdpeenckbaaGreatDoorSkH23a
set_option linter.unusedVariables false
set_option linter.unusedSimpArgs false
set_option linter.unusedSectionVars false
namespace Go.SK
section
variable {gn bd : Int} {l : List InstL}
theorem zt1 (hg : 0 ≤ gn ∧ gn < 4294967296) (hb : 0 ≤ bd ∧ bd < 4294967296) : wrS (ziH gn bd) = modW ++ 32 :: (zd7 gn ++ 32 :: zd7 bd) ∧ wrE (ziH gn bd) = 0 := by
  have ho : wrL (ziH gn bd) = some [modW, zd7 gn, zd7 bd] := zbs (zgg De) (zbs (zhf hg.1 hg.2 0) (zbs (zhf hb.1 hb.2 0) rfl))
  have := zdX (zk9 ho)
  rw [this.1, this.2]
  refine ⟨?_, rfl⟩
  rw [join_cons, join_cons, zd3]
end
end Go.SK
