/-
  Steps of functions, plain law, and walks of functions: what the laws rest on.
-/
import Derived.Test.YtalnjboddfedjaaDoorSkG0b
set_option linter.unusedVariables false
set_option linter.unusedSimpArgs false
set_option linter.unusedSectionVars false
namespace Go.SK
theorem getD_app {a b : Tx} {i : Nat} (h : i < a.length) : (a ++ b).getD i 0 = a.getD i 0 := by
  simp [List.getD, List.getElem?_append_left h]
theorem runF_app {s y : Tx} (hy : y.length = 0 ∨ ¬ runB (y.getD 0 0) = true) : runF (s ++ y) = runF s := by
  unfold runF
  induction s with
  | nil =>
    cases y with
    | nil => rfl
    | cons c r =>
      have : ¬ runB c = true := hy.resolve_left (by simp)
      rw [List.nil_append, List.takeWhile_cons, if_neg this]; rfl
  | cons c r ih =>
    rw [List.cons_append, List.takeWhile_cons, List.takeWhile_cons, ih]
end Go.SK
namespace Go.SK
open Go Go.Proofs
open Go.RowKit
theorem R4lx_TokE (s : Tx) (l : List TokL) (e a : Int) (h : toksF s = (l, (e, a))) (w : World) (hG : LxG.holds w) (hl : s.length ≤ 1099511627776) : Ret Tryd.prog 15 #[str s] w (fun v w' => ∃ ao cp, v = .tuple #[.slice ao l.length cp, .agg #[.int .i64 e, .int .i64 a]] ∧ St w NoM [Res.sl ao l.length cp 30 3 (l.flatMap tokC)] [] w') := by
 refine (R4lx_lTokens s w hG hl).mono fun v w' ⟨ao, cp, hv, hst⟩ => ?_
 rw [h] at hv hst
 exact ⟨ao, cp, hv, hst⟩
end Go.SK
