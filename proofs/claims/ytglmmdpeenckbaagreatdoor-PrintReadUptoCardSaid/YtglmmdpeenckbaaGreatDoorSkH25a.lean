/-
  Steps of functions, plain law, and walks of functions: what the laws rest on.
-/
import Derived.Test.YtglmmdpeenckbaaGreatDoorSkH0c
import Derived.Test.YtglmmdpeenckbaaGreatDoorSkH1a
import Derived.Test.YtglmmdpeenckbaaGreatDoorSkH2a
import Derived.Test.YtglmmdpeenckbaaGreatDoorSkH3a
import Derived.Test.YtglmmdpeenckbaaGreatDoorSkH5a
import Derived.Test.YtglmmdpeenckbaaGreatDoorSkH6a
import Derived.Test.YtglmmdpeenckbaaGreatDoorSkH8a
import Derived.Test.YtglmmdpeenckbaaGreatDoorSkH12a
import Derived.Test.YtglmmdpeenckbaaGreatDoorSkH13a
import Derived.Test.YtglmmdpeenckbaaGreatDoorSkH14a
import Derived.Test.YtglmmdpeenckbaaGreatDoorSkH17a
import Derived.Test.YtglmmdpeenckbaaGreatDoorSkH23a
set_option linter.unusedVariables false
set_option linter.unusedSimpArgs false
set_option linter.unusedSectionVars false
namespace Go.SK
open Go.RowKit
theorem zlf {gn bd se sa : Int} {l : List InstP} {x : Tx} (hT : zc9 gn bd (l.map InstP.L) = (x, (se, sa))) (hs0 : (zbz bd (l.map InstP.L)).1 = 0) (hg : 0 ≤ gn ∧ gn < 4294967296) (hb0 : 0 ≤ bd) (hu : ∀ y ∈ l, y.L.U32) : se = 0 ∧ sa = 0 ∧ x.length ≤ 16777216 ∧ zbc x = ((gn, bd, l.map InstP.L), (0, 0)) := by
  have h := zni hs0 hg (mapU hu) hb0
  rw [hT] at h
  obtain ⟨h1, h2, h3⟩ := h
  injection h1 with h4 h5
  exact ⟨h4, h5, h2, h3⟩
end Go.SK
