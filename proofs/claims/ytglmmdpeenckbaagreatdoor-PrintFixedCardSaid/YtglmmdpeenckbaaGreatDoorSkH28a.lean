/-
  Steps of functions, plain law, and walks of functions: what the laws rest on.
-/
import Derived.Test.YtglmmdpeenckbaaGreatDoorSkH0c
import Derived.Test.YtglmmdpeenckbaaGreatDoorSkH1a
import Derived.Test.YtglmmdpeenckbaaGreatDoorSkH2a
import Derived.Test.YtglmmdpeenckbaaGreatDoorSkH3a
import Derived.Test.YtglmmdpeenckbaaGreatDoorSkH4a
import Derived.Test.YtglmmdpeenckbaaGreatDoorSkH5a
import Derived.Test.YtglmmdpeenckbaaGreatDoorSkH6a
import Derived.Test.YtglmmdpeenckbaaGreatDoorSkH7a
import Derived.Test.YtglmmdpeenckbaaGreatDoorSkH9a
import Derived.Test.YtglmmdpeenckbaaGreatDoorSkH11a
import Derived.Test.YtglmmdpeenckbaaGreatDoorSkH12a
import Derived.Test.YtglmmdpeenckbaaGreatDoorSkH13a
import Derived.Test.YtglmmdpeenckbaaGreatDoorSkH15a
import Derived.Test.YtglmmdpeenckbaaGreatDoorSkH16a
import Derived.Test.YtglmmdpeenckbaaGreatDoorSkH17a
import Derived.Test.YtglmmdpeenckbaaGreatDoorSkH20a
set_option linter.unusedVariables false
set_option linter.unusedSimpArgs false
set_option linter.unusedSectionVars false
namespace Go.SK
open Go.RowKit
theorem zjN {gn bd : Int} {il : List InstL} (hs0 : zbz bd il = (0, 0)) (hg : 0 ≤ gn ∧ gn < 4294967296) (hb0 : 0 ≤ bd) (hu : ∀ y ∈ il, y.U32) : ∃ x, zc9 gn bd il = (x, (0, 0)) ∧ x.length ≤ 16777216 ∧ zbc x = ((gn, bd, il), (0, 0)) := by
  have h := zni (gn := gn) (l := il) (by rw [hs0]) hg hu hb0
  refine ⟨(zc9 gn bd il).1, ?_, h.2.1, h.2.2⟩
  exact Prod.ext rfl h.1
theorem zfL {t : Tx} {gn bd e a : Int} {il : List InstL} (h : zbc t = ((gn, bd, il), (e, a))) : (e ≠ 0 → gn = 0 ∧ bd = 0 ∧ il = []) ∧ (e = 0 → a = 0 ∧ zbz bd il = (0, 0) ∧ (0 ≤ gn ∧ gn < 4294967296) ∧ (1 ≤ bd ∧ bd ≤ 65536) ∧ ∀ i ∈ il, i.U32) := by
  refine ⟨fun he => ?_, fun he => ?_⟩
  · have := zlr (t := t) (by rw [h]; exact he)
    rw [h] at this
    injection this with h1 h2
    injection h2 with h3 h4
    exact ⟨h1, h3, h4⟩
  · have := zj4 (t := t) (by rw [h]; exact he)
    rw [h] at this
    obtain ⟨h1, h2, h3, h4, h5⟩ := this
    injection h2 with h6 h7
    exact ⟨h7, h1, h3, h4, h5⟩
end Go.SK
