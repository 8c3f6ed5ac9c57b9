/-
  Steps of functions, plain law, and walks of functions: what the laws rest on.
-/
import Derived.Test.YtalnjboddfedjaaDoorSkG0b
import Derived.Test.YtalnjboddfedjaaDoorSkG1a
import Derived.Test.YtalnjboddfedjaaDoorSkG3a
import Derived.Test.YtalnjboddfedjaaDoorSkG12a
import Derived.Test.YtalnjboddfedjaaDoorSkG22a
set_option linter.unusedVariables false
set_option linter.unusedSimpArgs false
set_option linter.unusedSectionVars false
namespace Go.SK
open Go Go.Proofs
open Go.RowKit
theorem R4law_LexQuotes (s : Tx) (w : World) (hG : LxG.holds w) (hl : s.length ≤ 1099511627776) : Ret Tryd.prog 5 #[str s] w (fun v w' => v = .bool true ∧ St w NoM [] [] w') := by
 refine Ret.enter (args := [str s]) Tryd.func5 rfl rfl rfl ?_
 have hst : St w NoM [] [LxG] w := St.init_Ds (by simp only [List.forall_mem_cons]; exact ⟨hG, fun _ h => absurd h List.not_mem_nil⟩)
 refine SR <| AB rfl <| NSR <| MS rfl <| CN <| Op1.call1 (v1 := str _) ent20 rfl rfl <| Ret.det (R4lx_lQuote _ _ (by first | omega | (simp only [List.length_drop, List.length_take, List.length_append, List.length_cons, List.length_nil]; omega))) hst fun w hst => MS rfl <| CN <| Op1.call1 (v1 := str _) ent21 rfl rfl <| Ret.det (R4lx_rQuote _ _ (by first | omega | (simp only [List.length_drop, List.length_take, List.length_append, List.length_cons, List.length_nil]; omega))) hst fun w hst => CN <| Op1.eqlS rfl rfl <| MB rfl <| RunL.splitD (d := 8) rfl (fun g1 => ?_) (fun g1 => ?_)
 · skip
   refine TK (t := 8) rfl (congrArg Value.bool (decide_eq_true g1)) (Op1.call0  ent17 rfl  ((R4lx_awake _ (hst.hD _ (.head _))).mono fun v w hp => ?_))
   obtain ⟨rfl, hp⟩ := hp
   replace hst := hst.keepc hp
   clear hp
   refine CN <| Op1.pickT (u := .bool _) (congrArg Value.bool (decide_eq_true g1)) rfl <| AB rfl <| NL <| run_ret1 Tryd.func5 rfl (TP (v := .bool _) rfl) ?_
   exact ⟨rfl, hst.pure⟩
 exfalso
 exact g1 rfl
end Go.SK
