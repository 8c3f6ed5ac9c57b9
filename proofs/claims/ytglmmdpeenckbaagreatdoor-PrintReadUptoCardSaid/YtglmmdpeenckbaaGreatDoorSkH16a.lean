/-
  Steps of functions, plain law, and walks of functions: what the laws rest on.
-/
import Derived.Test.YtglmmdpeenckbaaGreatDoorSkH0c
import Derived.Test.YtglmmdpeenckbaaGreatDoorSkH2a
import Derived.Test.YtglmmdpeenckbaaGreatDoorSkH3a
import Derived.Test.YtglmmdpeenckbaaGreatDoorSkH4a
import Derived.Test.YtglmmdpeenckbaaGreatDoorSkH6a
import Derived.Test.YtglmmdpeenckbaaGreatDoorSkH9a
import Derived.Test.YtglmmdpeenckbaaGreatDoorSkH12a
set_option linter.unusedVariables false
set_option linter.unusedSimpArgs false
set_option linter.unusedSectionVars false
namespace Go.SK
open Go Go.Proofs
open Go.RowKit
theorem zc1 {t : Tx} {r : DecL} (hr : zbc t = r) (w : World) (hG : LxG.holds w) (hl : t.length ≤ 140737488355328) : Ret Tryz.prog 17 #[str t] w (fun v w' => ∃ ao cp dm, dm.map InstP.L = r.1.2.2 ∧ v = .tuple #[.agg #[.int .u32 r.1.1, .int .u32 r.1.2.1, .slice ao dm.length cp], .agg #[.int .i64 r.2.1, .int .i64 r.2.2]] ∧ (dm.length ≤ 1048576 ∧ ∀ x ∈ dm, x.L.Sm) ∧ St w NoM [Res.omod 44 110 ao cp dm] [] w') := by
 subst hr; exact ziQ t w hG hl
end Go.SK
