/-
  Steps of functions, plain law, and walks of functions: what the laws rest on.
-/
import Derived.Test.YtalnjboddfedjaaDoorSkG0b
import Derived.Test.YtalnjboddfedjaaDoorSkG1a
import Derived.Test.YtalnjboddfedjaaDoorSkG3a
import Derived.Test.YtalnjboddfedjaaDoorSkG15a
set_option linter.unusedVariables false
set_option linter.unusedSimpArgs false
set_option linter.unusedSectionVars false
namespace Go.SK
open Go.RowKit Go.ChangeShapes Go.WideShapes Go.ChangeAt
theorem str_sized {H : Type} {P : Program} {ts : List TypeId} {ds : List (DataW H)} (hs : (DataW.weightsEach P ts ds).all (· ≤ reachBytes) = true) {j : Nat} {t : TypeId} {l : List UInt8} (ht : ts[j]? = some t) (hd : ds[j]? = some (.lit (.string l))) : l.length ≤ 140737488355328 := by
  have h1 := sized_string hs ht hd
  have h2 := reachBytes_lt
  omega
end Go.SK
namespace Go.SK
open Go Go.Proofs
open Go.RowKit
theorem R4law_LexNumber (s : Tx) (w : World) (hG : LxG.holds w) (hl : s.length ≤ 140737488355328) : Ret Tryd.prog 4 #[str s] w (fun v w' => v = .bool true ∧ St w NoM [] [] w') := by
 refine Ret.enter (args := [str s]) Tryd.func4 rfl rfl rfl ?_
 have hst : St w NoM [] [LxG] w := St.init_Ds (by simp only [List.forall_mem_cons]; exact ⟨hG, fun _ h => absurd h List.not_mem_nil⟩)
 refine SR <| AB rfl <| NSR <| MS rfl <| CN <| Op1.call1 (v1 := str _) ent18 rfl rfl <| Ret.det (R4lx_Number _ _ (by first | omega | (simp only [List.length_drop, List.length_take, List.length_append, List.length_cons, List.length_nil]; omega))) hst fun w hst => CN <| Op1.move (v := .tuple #[.int .u32 _, .int .i64 _]) rfl <| CN <| Op1.extract (v := .int .u32 _) rfl rfl <| CN <| Op1.extract (v := .int .i64 _) rfl rfl <| AU rfl <| AI rfl <| NL <| SQ ?_
 refine RG <| MS rfl <| CN <| Op1.call1 (v1 := str _) ent19 rfl rfl <| Ret.det (R4lx_lNumber _ _ (hst.hD _ (.head _)) (by first | omega | (simp only [List.length_drop, List.length_take, List.length_append, List.length_cons, List.length_nil]; omega))) hst fun w hst => CN <| Op1.move (v := .tuple #[.int .u32 _, .int .i64 _]) rfl <| CN <| Op1.extract (v := .int .u32 _) rfl rfl <| CN <| Op1.extract (v := .int .i64 _) rfl rfl <| AU rfl <| AI rfl <| NSR <| MU rfl <| MU rfl <| CN <| Op1.eql rfl rfl <| MB rfl ?_
 refine RunL.splitD (d := 20) rfl (fun g1 => ?_) (fun g1 => ?_)
 · skip
   refine TK (t := 20) rfl (congrArg Value.bool (decide_eq_true g1)) <| Op1.move (v := .int .i64 _) rfl <| TK (t := 20) rfl (congrArg Value.bool (decide_eq_true g1)) <| Op1.move (v := .int .i64 _) rfl <| TK (t := 20) rfl (congrArg Value.bool (decide_eq_true g1)) <| Op1.eql rfl rfl <| CN <| Op1.pickT (u := .bool _) (congrArg Value.bool (decide_eq_true g1)) rfl <| MB rfl <| RunL.splitD (d := 25) rfl (fun g2 => ?_) (fun g2 => ?_)
   · skip
     refine TK (t := 25) rfl (congrArg Value.bool (decide_eq_true g2)) (Op1.call0  ent17 rfl  ((R4lx_awake _ (hst.hD _ (.head _))).mono fun v w hp => ?_))
     obtain ⟨rfl, hp⟩ := hp
     replace hst := hst.keepc hp
     clear hp
     refine CN <| Op1.pickT (u := .bool _) (congrArg Value.bool (decide_eq_true g2)) rfl <| AB rfl <| NL <| run_ret1 Tryd.func4 rfl (TP (v := .bool _) rfl) ?_
     exact ⟨rfl, hst.pure⟩
   exfalso
   exact g2 rfl
 exfalso
 exact g1 rfl
end Go.SK
