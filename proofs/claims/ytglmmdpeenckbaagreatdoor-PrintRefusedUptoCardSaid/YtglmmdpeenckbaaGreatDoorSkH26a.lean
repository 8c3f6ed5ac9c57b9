/-
  Steps of functions, plain law, and walks of functions: what the laws rest on.
-/
import Derived.Test.YtglmmdpeenckbaaGreatDoorSkH0c
import Derived.Test.YtglmmdpeenckbaaGreatDoorSkH1a
import Derived.Test.YtglmmdpeenckbaaGreatDoorSkH2a
import Derived.Test.YtglmmdpeenckbaaGreatDoorSkH3a
import Derived.Test.YtglmmdpeenckbaaGreatDoorSkH5a
import Derived.Test.YtglmmdpeenckbaaGreatDoorSkH8a
import Derived.Test.YtglmmdpeenckbaaGreatDoorSkH14a
import Derived.Test.YtglmmdpeenckbaaGreatDoorSkH18a
import Derived.Test.YtglmmdpeenckbaaGreatDoorSkH21a
set_option linter.unusedVariables false
set_option linter.unusedSimpArgs false
set_option linter.unusedSectionVars false
namespace Go.SK
open Go Go.Proofs
open Go.RowKit
theorem zoO (s : Tx) (l : List TokL) (e a : Int) (h : za7 s = (l, (e, a))) (w : World) (hG : LxG.holds w) (hl : s.length ≤ 1099511627776) : Ret Tryz.prog 38 #[str s] w (fun v w' => ∃ ao cp, v = .tuple #[.slice ao l.length cp, .agg #[.int .i64 e, .int .i64 a]] ∧ St w NoM [Res.sl ao l.length cp 72 3 (l.flatMap zbW)] [] w') := by
 refine (zgB s w hG hl).mono fun v w' ⟨ao, cp, hv, hst⟩ => ?_
 rw [h] at hv hst
 exact ⟨ao, cp, hv, hst⟩
end Go.SK
