/-
  Steps of functions, plain law, and walks of functions: what the laws rest on.
-/
import Derived.Test.YtglmmdpeenckbaaGreatDoorSkH0b
set_option linter.unusedVariables false
set_option linter.unusedSimpArgs false
set_option linter.unusedSectionVars false
namespace Go.SK
open Go Go.Proofs
open Go.RowKit
theorem zsC (op : Int) (w : World) : Ret Tryz.prog 178 #[.int .u16 op] w (fun v w' => v = str (zkX zt3 op) ∧ St w NoM [] [] w') := by
 refine zav (args := [.int .u16 op]) Tryz.func178 rfl rfl rfl ?_
 have hst := St.init w
 refine SR <| AS rfl <| NL <| SQ <| SR <| MH rfl <| NL <| zao <| SR <| CN <| zak rfl rfl <| AB rfl <| NL ?_
 refine zab rfl (fun g1 => ?_) (fun g1 => ?_)
 ·refine SR <| AS rfl <| NL <| zah Tryz.func178 rfl (TP (v := str _) rfl) ?_
  subst g1
  exact ⟨congrArg str (by decide +kernel), hst.pure⟩
 refine SR <| CN <| zak rfl rfl <| AB rfl <| NL <| zab rfl (fun g2 => ?_) (fun g2 => ?_)
 ·refine SR <| AS rfl <| NL <| zah Tryz.func178 rfl (TP (v := str _) rfl) ?_
  subst g2
  exact ⟨congrArg str (by decide +kernel), hst.pure⟩
 refine SR <| CN <| zak rfl rfl <| AB rfl <| NL <| zab rfl (fun g3 => ?_) (fun g3 => ?_)
 ·refine SR <| AS rfl <| NL <| zah Tryz.func178 rfl (TP (v := str _) rfl) ?_
  subst g3
  exact ⟨congrArg str (by decide +kernel), hst.pure⟩
 refine SR <| CN <| zak rfl rfl <| AB rfl <| NL <| zab rfl (fun g4 => ?_) (fun g4 => ?_)
 ·refine SR <| AS rfl <| NL <| zah Tryz.func178 rfl (TP (v := str _) rfl) ?_
  subst g4
  exact ⟨congrArg str (by decide +kernel), hst.pure⟩
 refine SR <| CN <| zak rfl rfl <| AB rfl <| NL <| zab rfl (fun g5 => ?_) (fun g5 => ?_)
 ·refine SR <| AS rfl <| NL <| zah Tryz.func178 rfl (TP (v := str _) rfl) ?_
  subst g5
  exact ⟨congrArg str (by decide +kernel), hst.pure⟩
 refine SR <| CN <| zak rfl rfl <| AB rfl <| NL <| zab rfl (fun g6 => ?_) (fun g6 => ?_)
 ·refine SR <| AS rfl <| NL <| zah Tryz.func178 rfl (TP (v := str _) rfl) ?_
  subst g6
  exact ⟨congrArg str (by decide +kernel), hst.pure⟩
 refine SR <| CN <| zak rfl rfl <| AB rfl <| NL <| zab rfl (fun g7 => ?_) (fun g7 => ?_)
 ·refine SR <| AS rfl <| NL <| zah Tryz.func178 rfl (TP (v := str _) rfl) ?_
  subst g7
  exact ⟨congrArg str (by decide +kernel), hst.pure⟩
 refine SR <| CN <| zak rfl rfl <| AB rfl <| NL <| zab rfl (fun g8 => ?_) (fun g8 => ?_)
 ·refine SR <| AS rfl <| NL <| zah Tryz.func178 rfl (TP (v := str _) rfl) ?_
  subst g8
  exact ⟨congrArg str (by decide +kernel), hst.pure⟩
 refine SR <| CN <| zak rfl rfl <| AB rfl <| NL <| zaj [(3, .int .u16 _), (20, .bool _)] E2 fun f => zab rfl (fun g9 => ?_) (fun g9 => ?_)
 ·refine SR <| AS rfl <| NL <| zah Tryz.func178 rfl (TP (v := str _) rfl) ?_
  subst g9
  exact ⟨congrArg str (by decide +kernel), hst.pure⟩
 refine SR <| CN <| zak rfl rfl <| AB rfl <| NL <| zab rfl (fun g10 => ?_) (fun g10 => ?_)
 ·refine SR <| AS rfl <| NL <| zah Tryz.func178 rfl (TP (v := str _) rfl) ?_
  subst g10
  exact ⟨congrArg str (by decide +kernel), hst.pure⟩
 refine SR <| CN <| zak rfl rfl <| AB rfl <| NL <| zab rfl (fun g11 => ?_) (fun g11 => ?_)
 ·refine SR <| AS rfl <| NL <| zah Tryz.func178 rfl (TP (v := str _) rfl) ?_
  subst g11
  exact ⟨congrArg str (by decide +kernel), hst.pure⟩
 refine SR <| CN <| zak rfl rfl <| AB rfl <| NL <| zab rfl (fun g12 => ?_) (fun g12 => ?_)
 ·refine SR <| AS rfl <| NL <| zah Tryz.func178 rfl (TP (v := str _) rfl) ?_
  subst g12
  exact ⟨congrArg str (by decide +kernel), hst.pure⟩
 refine SR <| CN <| zak rfl rfl <| AB rfl <| NL <| zab rfl (fun g13 => ?_) (fun g13 => ?_)
 ·refine SR <| AS rfl <| NL <| zah Tryz.func178 rfl (TP (v := str _) rfl) ?_
  subst g13
  exact ⟨congrArg str (by decide +kernel), hst.pure⟩
 refine SR <| CN <| zak rfl rfl <| AB rfl <| NL <| zab rfl (fun g14 => ?_) (fun g14 => ?_)
 ·refine SR <| AS rfl <| NL <| zah Tryz.func178 rfl (TP (v := str _) rfl) ?_
  subst g14
  exact ⟨congrArg str (by decide +kernel), hst.pure⟩
 refine SR <| CN <| zak rfl rfl <| AB rfl <| NL <| zab rfl (fun g15 => ?_) (fun g15 => ?_)
 ·refine SR <| AS rfl <| NL <| zah Tryz.func178 rfl (TP (v := str _) rfl) ?_
  subst g15
  exact ⟨congrArg str (by decide +kernel), hst.pure⟩
 refine SR <| CN <| zak rfl rfl <| AB rfl <| NL <| zab rfl (fun g16 => ?_) (fun g16 => ?_)
 ·refine SR <| AS rfl <| NL <| zah Tryz.func178 rfl (TP (v := str _) rfl) ?_
  subst g16
  exact ⟨congrArg str (by decide +kernel), hst.pure⟩
 refine SR <| CN <| zak rfl rfl <| AB rfl <| NL <| zab rfl (fun g17 => ?_) (fun g17 => ?_)
 ·refine SR <| AS rfl <| NL <| zah Tryz.func178 rfl (TP (v := str _) rfl) ?_
  subst g17
  exact ⟨congrArg str (by decide +kernel), hst.pure⟩
 refine SR <| CN <| zak rfl rfl <| AB rfl <| NL <| zab rfl (fun g18 => ?_) (fun g18 => ?_)
 ·refine SR <| AS rfl <| NL <| zah Tryz.func178 rfl (TP (v := str _) rfl) ?_
  subst g18
  exact ⟨congrArg str (by decide +kernel), hst.pure⟩
 refine SR <| CN <| zak rfl rfl <| AB rfl <| NL <| zaj [(3, .int .u16 _), (40, .bool _)] E2 fun f => zab rfl (fun g19 => ?_) (fun g19 => ?_)
 ·refine SR <| AS rfl <| NL <| zah Tryz.func178 rfl (TP (v := str _) rfl) ?_
  subst g19
  exact ⟨congrArg str (by decide +kernel), hst.pure⟩
 refine SR <| CN <| zak rfl rfl <| AB rfl <| NL <| zab rfl (fun g20 => ?_) (fun g20 => ?_)
 ·refine SR <| AS rfl <| NL <| zah Tryz.func178 rfl (TP (v := str _) rfl) ?_
  subst g20
  exact ⟨congrArg str (by decide +kernel), hst.pure⟩
 refine SR <| CN <| zak rfl rfl <| AB rfl <| NL <| zab rfl (fun g21 => ?_) (fun g21 => ?_)
 ·refine SR <| AS rfl <| NL <| zah Tryz.func178 rfl (TP (v := str _) rfl) ?_
  subst g21
  exact ⟨congrArg str (by decide +kernel), hst.pure⟩
 refine SR <| CN <| zak rfl rfl <| AB rfl <| NL <| zab rfl (fun g22 => ?_) (fun g22 => ?_)
 ·refine SR <| AS rfl <| NL <| zah Tryz.func178 rfl (TP (v := str _) rfl) ?_
  subst g22
  exact ⟨congrArg str (by decide +kernel), hst.pure⟩
 refine SR <| CN <| zak rfl rfl <| AB rfl <| NL <| zab rfl (fun g23 => ?_) (fun g23 => ?_)
 ·refine SR <| AS rfl <| NL <| zah Tryz.func178 rfl (TP (v := str _) rfl) ?_
  subst g23
  exact ⟨congrArg str (by decide +kernel), hst.pure⟩
 refine SR <| CN <| zak rfl rfl <| AB rfl <| NL <| zab rfl (fun g24 => ?_) (fun g24 => ?_)
 ·refine SR <| AS rfl <| NL <| zah Tryz.func178 rfl (TP (v := str _) rfl) ?_
  subst g24
  exact ⟨congrArg str (by decide +kernel), hst.pure⟩
 refine SR <| CN <| zak rfl rfl <| AB rfl <| NL <| zab rfl (fun g25 => ?_) (fun g25 => ?_)
 ·refine SR <| AS rfl <| NL <| zah Tryz.func178 rfl (TP (v := str _) rfl) ?_
  subst g25
  exact ⟨congrArg str (by decide +kernel), hst.pure⟩
 refine SR <| CN <| zak rfl rfl <| AB rfl <| NL <| zab rfl (fun g26 => ?_) (fun g26 => ?_)
 ·refine SR <| AS rfl <| NL <| zah Tryz.func178 rfl (TP (v := str _) rfl) ?_
  subst g26
  exact ⟨congrArg str (by decide +kernel), hst.pure⟩
 refine SR <| CN <| zak rfl rfl <| AB rfl <| NL <| zab rfl (fun g27 => ?_) (fun g27 => ?_)
 ·refine SR <| AS rfl <| NL <| zah Tryz.func178 rfl (TP (v := str _) rfl) ?_
  subst g27
  exact ⟨congrArg str (by decide +kernel), hst.pure⟩
 refine SR <| CN <| zak rfl rfl <| AB rfl <| NL <| zab rfl (fun g28 => ?_) (fun g28 => ?_)
 ·refine SR <| AS rfl <| NL <| zah Tryz.func178 rfl (TP (v := str _) rfl) ?_
  subst g28
  exact ⟨congrArg str (by decide +kernel), hst.pure⟩
 refine SR <| CN <| zak rfl rfl <| AB rfl <| NL <| zaj [(3, .int .u16 _), (60, .bool _)] E2 fun f => zab rfl (fun g29 => ?_) (fun g29 => ?_)
 ·refine SR <| AS rfl <| NL <| zah Tryz.func178 rfl (TP (v := str _) rfl) ?_
  subst g29
  exact ⟨congrArg str (by decide +kernel), hst.pure⟩
 refine SR <| CN <| zak rfl rfl <| AB rfl <| NL <| zab rfl (fun g30 => ?_) (fun g30 => ?_)
 ·refine SR <| AS rfl <| NL <| zah Tryz.func178 rfl (TP (v := str _) rfl) ?_
  subst g30
  exact ⟨congrArg str (by decide +kernel), hst.pure⟩
 refine SR <| CN <| zak rfl rfl <| AB rfl <| NL <| zab rfl (fun g31 => ?_) (fun g31 => ?_)
 ·refine SR <| AS rfl <| NL <| zah Tryz.func178 rfl (TP (v := str _) rfl) ?_
  subst g31
  exact ⟨congrArg str (by decide +kernel), hst.pure⟩
 refine zaf <| zam <| SR <| AS rfl <| NL <| zah Tryz.func178 rfl (TP (v := str _) rfl) ?_
 exact ⟨congrArg str (zft (by simp only [zt3, List.forall_mem_cons]; exact ⟨g1, g2, g3, g4, g5, g6, g7, g8, g9, g10, g11, g12, g13, g14, g15, g16, g17, g18, g19, g20, g21, g22, g23, g24, g25, g26, g27, g28, g29, g30, g31, fun _ h => absurd h List.not_mem_nil⟩)).symm, hst.pure⟩
theorem zqd (op : Int) (w : World) : Ret Tryz.prog 179 #[.int .u16 op] w (fun v w' => v = str (zkX zpp op) ∧ St w NoM [] [] w') := by
 refine zav (args := [.int .u16 op]) Tryz.func179 rfl rfl rfl ?_
 have hst := St.init w
 refine SR <| AS rfl <| NL <| SQ <| SR <| MH rfl <| NL <| zao <| SR <| CN <| zak rfl rfl <| AB rfl <| NL ?_
 refine zab rfl (fun g1 => ?_) (fun g1 => ?_)
 ·refine SR <| AS rfl <| NL <| zah Tryz.func179 rfl (TP (v := str _) rfl) ?_
  subst g1
  exact ⟨congrArg str (by decide +kernel), hst.pure⟩
 refine SR <| CN <| zak rfl rfl <| AB rfl <| NL <| zab rfl (fun g2 => ?_) (fun g2 => ?_)
 ·refine SR <| AS rfl <| NL <| zah Tryz.func179 rfl (TP (v := str _) rfl) ?_
  subst g2
  exact ⟨congrArg str (by decide +kernel), hst.pure⟩
 refine SR <| CN <| zak rfl rfl <| AB rfl <| NL <| zab rfl (fun g3 => ?_) (fun g3 => ?_)
 ·refine SR <| AS rfl <| NL <| zah Tryz.func179 rfl (TP (v := str _) rfl) ?_
  subst g3
  exact ⟨congrArg str (by decide +kernel), hst.pure⟩
 refine SR <| CN <| zak rfl rfl <| AB rfl <| NL <| zab rfl (fun g4 => ?_) (fun g4 => ?_)
 ·refine SR <| AS rfl <| NL <| zah Tryz.func179 rfl (TP (v := str _) rfl) ?_
  subst g4
  exact ⟨congrArg str (by decide +kernel), hst.pure⟩
 refine SR <| CN <| zak rfl rfl <| AB rfl <| NL <| zab rfl (fun g5 => ?_) (fun g5 => ?_)
 ·refine SR <| AS rfl <| NL <| zah Tryz.func179 rfl (TP (v := str _) rfl) ?_
  subst g5
  exact ⟨congrArg str (by decide +kernel), hst.pure⟩
 refine SR <| CN <| zak rfl rfl <| AB rfl <| NL <| zab rfl (fun g6 => ?_) (fun g6 => ?_)
 ·refine SR <| AS rfl <| NL <| zah Tryz.func179 rfl (TP (v := str _) rfl) ?_
  subst g6
  exact ⟨congrArg str (by decide +kernel), hst.pure⟩
 refine SR <| CN <| zak rfl rfl <| AB rfl <| NL <| zab rfl (fun g7 => ?_) (fun g7 => ?_)
 ·refine SR <| AS rfl <| NL <| zah Tryz.func179 rfl (TP (v := str _) rfl) ?_
  subst g7
  exact ⟨congrArg str (by decide +kernel), hst.pure⟩
 refine SR <| CN <| zak rfl rfl <| AB rfl <| NL <| zab rfl (fun g8 => ?_) (fun g8 => ?_)
 ·refine SR <| AS rfl <| NL <| zah Tryz.func179 rfl (TP (v := str _) rfl) ?_
  subst g8
  exact ⟨congrArg str (by decide +kernel), hst.pure⟩
 refine SR <| CN <| zak rfl rfl <| AB rfl <| NL <| zaj [(3, .int .u16 _), (20, .bool _)] E2 fun f => zab rfl (fun g9 => ?_) (fun g9 => ?_)
 ·refine SR <| AS rfl <| NL <| zah Tryz.func179 rfl (TP (v := str _) rfl) ?_
  subst g9
  exact ⟨congrArg str (by decide +kernel), hst.pure⟩
 refine SR <| CN <| zak rfl rfl <| AB rfl <| NL <| zab rfl (fun g10 => ?_) (fun g10 => ?_)
 ·refine SR <| AS rfl <| NL <| zah Tryz.func179 rfl (TP (v := str _) rfl) ?_
  subst g10
  exact ⟨congrArg str (by decide +kernel), hst.pure⟩
 refine SR <| CN <| zak rfl rfl <| AB rfl <| NL <| zab rfl (fun g11 => ?_) (fun g11 => ?_)
 ·refine SR <| AS rfl <| NL <| zah Tryz.func179 rfl (TP (v := str _) rfl) ?_
  subst g11
  exact ⟨congrArg str (by decide +kernel), hst.pure⟩
 refine SR <| CN <| zak rfl rfl <| AB rfl <| NL <| zab rfl (fun g12 => ?_) (fun g12 => ?_)
 ·refine SR <| AS rfl <| NL <| zah Tryz.func179 rfl (TP (v := str _) rfl) ?_
  subst g12
  exact ⟨congrArg str (by decide +kernel), hst.pure⟩
 refine SR <| CN <| zak rfl rfl <| AB rfl <| NL <| zab rfl (fun g13 => ?_) (fun g13 => ?_)
 ·refine SR <| AS rfl <| NL <| zah Tryz.func179 rfl (TP (v := str _) rfl) ?_
  subst g13
  exact ⟨congrArg str (by decide +kernel), hst.pure⟩
 refine SR <| CN <| zak rfl rfl <| AB rfl <| NL <| zab rfl (fun g14 => ?_) (fun g14 => ?_)
 ·refine SR <| AS rfl <| NL <| zah Tryz.func179 rfl (TP (v := str _) rfl) ?_
  subst g14
  exact ⟨congrArg str (by decide +kernel), hst.pure⟩
 refine SR <| CN <| zak rfl rfl <| AB rfl <| NL <| zab rfl (fun g15 => ?_) (fun g15 => ?_)
 ·refine SR <| AS rfl <| NL <| zah Tryz.func179 rfl (TP (v := str _) rfl) ?_
  subst g15
  exact ⟨congrArg str (by decide +kernel), hst.pure⟩
 refine SR <| CN <| zak rfl rfl <| AB rfl <| NL <| zab rfl (fun g16 => ?_) (fun g16 => ?_)
 ·refine SR <| AS rfl <| NL <| zah Tryz.func179 rfl (TP (v := str _) rfl) ?_
  subst g16
  exact ⟨congrArg str (by decide +kernel), hst.pure⟩
 refine SR <| CN <| zak rfl rfl <| AB rfl <| NL <| zab rfl (fun g17 => ?_) (fun g17 => ?_)
 ·refine SR <| AS rfl <| NL <| zah Tryz.func179 rfl (TP (v := str _) rfl) ?_
  subst g17
  exact ⟨congrArg str (by decide +kernel), hst.pure⟩
 refine SR <| CN <| zak rfl rfl <| AB rfl <| NL <| zab rfl (fun g18 => ?_) (fun g18 => ?_)
 ·refine SR <| AS rfl <| NL <| zah Tryz.func179 rfl (TP (v := str _) rfl) ?_
  subst g18
  exact ⟨congrArg str (by decide +kernel), hst.pure⟩
 refine SR <| CN <| zak rfl rfl <| AB rfl <| NL <| zaj [(3, .int .u16 _), (40, .bool _)] E2 fun f => zab rfl (fun g19 => ?_) (fun g19 => ?_)
 ·refine SR <| AS rfl <| NL <| zah Tryz.func179 rfl (TP (v := str _) rfl) ?_
  subst g19
  exact ⟨congrArg str (by decide +kernel), hst.pure⟩
 refine SR <| CN <| zak rfl rfl <| AB rfl <| NL <| zab rfl (fun g20 => ?_) (fun g20 => ?_)
 ·refine SR <| AS rfl <| NL <| zah Tryz.func179 rfl (TP (v := str _) rfl) ?_
  subst g20
  exact ⟨congrArg str (by decide +kernel), hst.pure⟩
 refine SR <| CN <| zak rfl rfl <| AB rfl <| NL <| zab rfl (fun g21 => ?_) (fun g21 => ?_)
 ·refine SR <| AS rfl <| NL <| zah Tryz.func179 rfl (TP (v := str _) rfl) ?_
  subst g21
  exact ⟨congrArg str (by decide +kernel), hst.pure⟩
 refine SR <| CN <| zak rfl rfl <| AB rfl <| NL <| zab rfl (fun g22 => ?_) (fun g22 => ?_)
 ·refine SR <| AS rfl <| NL <| zah Tryz.func179 rfl (TP (v := str _) rfl) ?_
  subst g22
  exact ⟨congrArg str (by decide +kernel), hst.pure⟩
 refine SR <| CN <| zak rfl rfl <| AB rfl <| NL <| zab rfl (fun g23 => ?_) (fun g23 => ?_)
 ·refine SR <| AS rfl <| NL <| zah Tryz.func179 rfl (TP (v := str _) rfl) ?_
  subst g23
  exact ⟨congrArg str (by decide +kernel), hst.pure⟩
 refine SR <| CN <| zak rfl rfl <| AB rfl <| NL <| zab rfl (fun g24 => ?_) (fun g24 => ?_)
 ·refine SR <| AS rfl <| NL <| zah Tryz.func179 rfl (TP (v := str _) rfl) ?_
  subst g24
  exact ⟨congrArg str (by decide +kernel), hst.pure⟩
 refine SR <| CN <| zak rfl rfl <| AB rfl <| NL <| zab rfl (fun g25 => ?_) (fun g25 => ?_)
 ·refine SR <| AS rfl <| NL <| zah Tryz.func179 rfl (TP (v := str _) rfl) ?_
  subst g25
  exact ⟨congrArg str (by decide +kernel), hst.pure⟩
 refine SR <| CN <| zak rfl rfl <| AB rfl <| NL <| zab rfl (fun g26 => ?_) (fun g26 => ?_)
 ·refine SR <| AS rfl <| NL <| zah Tryz.func179 rfl (TP (v := str _) rfl) ?_
  subst g26
  exact ⟨congrArg str (by decide +kernel), hst.pure⟩
 refine SR <| CN <| zak rfl rfl <| AB rfl <| NL <| zab rfl (fun g27 => ?_) (fun g27 => ?_)
 ·refine SR <| AS rfl <| NL <| zah Tryz.func179 rfl (TP (v := str _) rfl) ?_
  subst g27
  exact ⟨congrArg str (by decide +kernel), hst.pure⟩
 refine SR <| CN <| zak rfl rfl <| AB rfl <| NL <| zab rfl (fun g28 => ?_) (fun g28 => ?_)
 ·refine SR <| AS rfl <| NL <| zah Tryz.func179 rfl (TP (v := str _) rfl) ?_
  subst g28
  exact ⟨congrArg str (by decide +kernel), hst.pure⟩
 refine SR <| CN <| zak rfl rfl <| AB rfl <| NL <| zaj [(3, .int .u16 _), (60, .bool _)] E2 fun f => zab rfl (fun g29 => ?_) (fun g29 => ?_)
 ·refine SR <| AS rfl <| NL <| zah Tryz.func179 rfl (TP (v := str _) rfl) ?_
  subst g29
  exact ⟨congrArg str (by decide +kernel), hst.pure⟩
 refine SR <| CN <| zak rfl rfl <| AB rfl <| NL <| zab rfl (fun g30 => ?_) (fun g30 => ?_)
 ·refine SR <| AS rfl <| NL <| zah Tryz.func179 rfl (TP (v := str _) rfl) ?_
  subst g30
  exact ⟨congrArg str (by decide +kernel), hst.pure⟩
 refine SR <| CN <| zak rfl rfl <| AB rfl <| NL <| zab rfl (fun g31 => ?_) (fun g31 => ?_)
 ·refine SR <| AS rfl <| NL <| zah Tryz.func179 rfl (TP (v := str _) rfl) ?_
  subst g31
  exact ⟨congrArg str (by decide +kernel), hst.pure⟩
 refine zaf <| zam <| SR <| AS rfl <| NL <| zah Tryz.func179 rfl (TP (v := str _) rfl) ?_
 exact ⟨congrArg str (zft (by simp only [zpp, List.forall_mem_cons]; exact ⟨g1, g2, g3, g4, g5, g6, g7, g8, g9, g10, g11, g12, g13, g14, g15, g16, g17, g18, g19, g20, g21, g22, g23, g24, g25, g26, g27, g28, g29, g30, g31, fun _ h => absurd h List.not_mem_nil⟩)).symm, hst.pure⟩
theorem zsA (op : Int) (w : World) : Ret Tryz.prog 180 #[.int .u16 op] w (fun v w' => v = str (zkX thirdT op) ∧ St w NoM [] [] w') := by
 refine zav (args := [.int .u16 op]) Tryz.func180 rfl rfl rfl ?_
 have hst := St.init w
 refine SR <| AS rfl <| NL <| SQ <| SR <| MH rfl <| NL <| zao <| SR <| CN <| zak rfl rfl <| AB rfl <| NL ?_
 refine zab rfl (fun g1 => ?_) (fun g1 => ?_)
 ·refine SR <| AS rfl <| NL <| zah Tryz.func180 rfl (TP (v := str _) rfl) ?_
  subst g1
  exact ⟨congrArg str (by decide +kernel), hst.pure⟩
 refine SR <| CN <| zak rfl rfl <| AB rfl <| NL <| zab rfl (fun g2 => ?_) (fun g2 => ?_)
 ·refine SR <| AS rfl <| NL <| zah Tryz.func180 rfl (TP (v := str _) rfl) ?_
  subst g2
  exact ⟨congrArg str (by decide +kernel), hst.pure⟩
 refine SR <| CN <| zak rfl rfl <| AB rfl <| NL <| zab rfl (fun g3 => ?_) (fun g3 => ?_)
 ·refine SR <| AS rfl <| NL <| zah Tryz.func180 rfl (TP (v := str _) rfl) ?_
  subst g3
  exact ⟨congrArg str (by decide +kernel), hst.pure⟩
 refine SR <| CN <| zak rfl rfl <| AB rfl <| NL <| zab rfl (fun g4 => ?_) (fun g4 => ?_)
 ·refine SR <| AS rfl <| NL <| zah Tryz.func180 rfl (TP (v := str _) rfl) ?_
  subst g4
  exact ⟨congrArg str (by decide +kernel), hst.pure⟩
 refine SR <| CN <| zak rfl rfl <| AB rfl <| NL <| zab rfl (fun g5 => ?_) (fun g5 => ?_)
 ·refine SR <| AS rfl <| NL <| zah Tryz.func180 rfl (TP (v := str _) rfl) ?_
  subst g5
  exact ⟨congrArg str (by decide +kernel), hst.pure⟩
 refine SR <| CN <| zak rfl rfl <| AB rfl <| NL <| zab rfl (fun g6 => ?_) (fun g6 => ?_)
 ·refine SR <| AS rfl <| NL <| zah Tryz.func180 rfl (TP (v := str _) rfl) ?_
  subst g6
  exact ⟨congrArg str (by decide +kernel), hst.pure⟩
 refine SR <| CN <| zak rfl rfl <| AB rfl <| NL <| zab rfl (fun g7 => ?_) (fun g7 => ?_)
 ·refine SR <| AS rfl <| NL <| zah Tryz.func180 rfl (TP (v := str _) rfl) ?_
  subst g7
  exact ⟨congrArg str (by decide +kernel), hst.pure⟩
 refine SR <| CN <| zak rfl rfl <| AB rfl <| NL <| zab rfl (fun g8 => ?_) (fun g8 => ?_)
 ·refine SR <| AS rfl <| NL <| zah Tryz.func180 rfl (TP (v := str _) rfl) ?_
  subst g8
  exact ⟨congrArg str (by decide +kernel), hst.pure⟩
 refine SR <| CN <| zak rfl rfl <| AB rfl <| NL <| zaj [(3, .int .u16 _), (20, .bool _)] E2 fun f => zab rfl (fun g9 => ?_) (fun g9 => ?_)
 ·refine SR <| AS rfl <| NL <| zah Tryz.func180 rfl (TP (v := str _) rfl) ?_
  subst g9
  exact ⟨congrArg str (by decide +kernel), hst.pure⟩
 refine SR <| CN <| zak rfl rfl <| AB rfl <| NL <| zab rfl (fun g10 => ?_) (fun g10 => ?_)
 ·refine SR <| AS rfl <| NL <| zah Tryz.func180 rfl (TP (v := str _) rfl) ?_
  subst g10
  exact ⟨congrArg str (by decide +kernel), hst.pure⟩
 refine SR <| CN <| zak rfl rfl <| AB rfl <| NL <| zab rfl (fun g11 => ?_) (fun g11 => ?_)
 ·refine SR <| AS rfl <| NL <| zah Tryz.func180 rfl (TP (v := str _) rfl) ?_
  subst g11
  exact ⟨congrArg str (by decide +kernel), hst.pure⟩
 refine SR <| CN <| zak rfl rfl <| AB rfl <| NL <| zab rfl (fun g12 => ?_) (fun g12 => ?_)
 ·refine SR <| AS rfl <| NL <| zah Tryz.func180 rfl (TP (v := str _) rfl) ?_
  subst g12
  exact ⟨congrArg str (by decide +kernel), hst.pure⟩
 refine SR <| CN <| zak rfl rfl <| AB rfl <| NL <| zab rfl (fun g13 => ?_) (fun g13 => ?_)
 ·refine SR <| AS rfl <| NL <| zah Tryz.func180 rfl (TP (v := str _) rfl) ?_
  subst g13
  exact ⟨congrArg str (by decide +kernel), hst.pure⟩
 refine SR <| CN <| zak rfl rfl <| AB rfl <| NL <| zab rfl (fun g14 => ?_) (fun g14 => ?_)
 ·refine SR <| AS rfl <| NL <| zah Tryz.func180 rfl (TP (v := str _) rfl) ?_
  subst g14
  exact ⟨congrArg str (by decide +kernel), hst.pure⟩
 refine SR <| CN <| zak rfl rfl <| AB rfl <| NL <| zab rfl (fun g15 => ?_) (fun g15 => ?_)
 ·refine SR <| AS rfl <| NL <| zah Tryz.func180 rfl (TP (v := str _) rfl) ?_
  subst g15
  exact ⟨congrArg str (by decide +kernel), hst.pure⟩
 refine SR <| CN <| zak rfl rfl <| AB rfl <| NL <| zab rfl (fun g16 => ?_) (fun g16 => ?_)
 ·refine SR <| AS rfl <| NL <| zah Tryz.func180 rfl (TP (v := str _) rfl) ?_
  subst g16
  exact ⟨congrArg str (by decide +kernel), hst.pure⟩
 refine SR <| CN <| zak rfl rfl <| AB rfl <| NL <| zab rfl (fun g17 => ?_) (fun g17 => ?_)
 ·refine SR <| AS rfl <| NL <| zah Tryz.func180 rfl (TP (v := str _) rfl) ?_
  subst g17
  exact ⟨congrArg str (by decide +kernel), hst.pure⟩
 refine SR <| CN <| zak rfl rfl <| AB rfl <| NL <| zab rfl (fun g18 => ?_) (fun g18 => ?_)
 ·refine SR <| AS rfl <| NL <| zah Tryz.func180 rfl (TP (v := str _) rfl) ?_
  subst g18
  exact ⟨congrArg str (by decide +kernel), hst.pure⟩
 refine SR <| CN <| zak rfl rfl <| AB rfl <| NL <| zaj [(3, .int .u16 _), (40, .bool _)] E2 fun f => zab rfl (fun g19 => ?_) (fun g19 => ?_)
 ·refine SR <| AS rfl <| NL <| zah Tryz.func180 rfl (TP (v := str _) rfl) ?_
  subst g19
  exact ⟨congrArg str (by decide +kernel), hst.pure⟩
 refine SR <| CN <| zak rfl rfl <| AB rfl <| NL <| zab rfl (fun g20 => ?_) (fun g20 => ?_)
 ·refine SR <| AS rfl <| NL <| zah Tryz.func180 rfl (TP (v := str _) rfl) ?_
  subst g20
  exact ⟨congrArg str (by decide +kernel), hst.pure⟩
 refine SR <| CN <| zak rfl rfl <| AB rfl <| NL <| zab rfl (fun g21 => ?_) (fun g21 => ?_)
 ·refine SR <| AS rfl <| NL <| zah Tryz.func180 rfl (TP (v := str _) rfl) ?_
  subst g21
  exact ⟨congrArg str (by decide +kernel), hst.pure⟩
 refine SR <| CN <| zak rfl rfl <| AB rfl <| NL <| zab rfl (fun g22 => ?_) (fun g22 => ?_)
 ·refine SR <| AS rfl <| NL <| zah Tryz.func180 rfl (TP (v := str _) rfl) ?_
  subst g22
  exact ⟨congrArg str (by decide +kernel), hst.pure⟩
 refine SR <| CN <| zak rfl rfl <| AB rfl <| NL <| zab rfl (fun g23 => ?_) (fun g23 => ?_)
 ·refine SR <| AS rfl <| NL <| zah Tryz.func180 rfl (TP (v := str _) rfl) ?_
  subst g23
  exact ⟨congrArg str (by decide +kernel), hst.pure⟩
 refine SR <| CN <| zak rfl rfl <| AB rfl <| NL <| zab rfl (fun g24 => ?_) (fun g24 => ?_)
 ·refine SR <| AS rfl <| NL <| zah Tryz.func180 rfl (TP (v := str _) rfl) ?_
  subst g24
  exact ⟨congrArg str (by decide +kernel), hst.pure⟩
 refine SR <| CN <| zak rfl rfl <| AB rfl <| NL <| zab rfl (fun g25 => ?_) (fun g25 => ?_)
 ·refine SR <| AS rfl <| NL <| zah Tryz.func180 rfl (TP (v := str _) rfl) ?_
  subst g25
  exact ⟨congrArg str (by decide +kernel), hst.pure⟩
 refine SR <| CN <| zak rfl rfl <| AB rfl <| NL <| zab rfl (fun g26 => ?_) (fun g26 => ?_)
 ·refine SR <| AS rfl <| NL <| zah Tryz.func180 rfl (TP (v := str _) rfl) ?_
  subst g26
  exact ⟨congrArg str (by decide +kernel), hst.pure⟩
 refine SR <| CN <| zak rfl rfl <| AB rfl <| NL <| zab rfl (fun g27 => ?_) (fun g27 => ?_)
 ·refine SR <| AS rfl <| NL <| zah Tryz.func180 rfl (TP (v := str _) rfl) ?_
  subst g27
  exact ⟨congrArg str (by decide +kernel), hst.pure⟩
 refine SR <| CN <| zak rfl rfl <| AB rfl <| NL <| zab rfl (fun g28 => ?_) (fun g28 => ?_)
 ·refine SR <| AS rfl <| NL <| zah Tryz.func180 rfl (TP (v := str _) rfl) ?_
  subst g28
  exact ⟨congrArg str (by decide +kernel), hst.pure⟩
 refine SR <| CN <| zak rfl rfl <| AB rfl <| NL <| zaj [(3, .int .u16 _), (60, .bool _)] E2 fun f => zab rfl (fun g29 => ?_) (fun g29 => ?_)
 ·refine SR <| AS rfl <| NL <| zah Tryz.func180 rfl (TP (v := str _) rfl) ?_
  subst g29
  exact ⟨congrArg str (by decide +kernel), hst.pure⟩
 refine SR <| CN <| zak rfl rfl <| AB rfl <| NL <| zab rfl (fun g30 => ?_) (fun g30 => ?_)
 ·refine SR <| AS rfl <| NL <| zah Tryz.func180 rfl (TP (v := str _) rfl) ?_
  subst g30
  exact ⟨congrArg str (by decide +kernel), hst.pure⟩
 refine SR <| CN <| zak rfl rfl <| AB rfl <| NL <| zab rfl (fun g31 => ?_) (fun g31 => ?_)
 ·refine SR <| AS rfl <| NL <| zah Tryz.func180 rfl (TP (v := str _) rfl) ?_
  subst g31
  exact ⟨congrArg str (by decide +kernel), hst.pure⟩
 refine zaf <| zam <| SR <| AS rfl <| NL <| zah Tryz.func180 rfl (TP (v := str _) rfl) ?_
 exact ⟨congrArg str (zft (by simp only [thirdT, List.forall_mem_cons]; exact ⟨g1, g2, g3, g4, g5, g6, g7, g8, g9, g10, g11, g12, g13, g14, g15, g16, g17, g18, g19, g20, g21, g22, g23, g24, g25, g26, g27, g28, g29, g30, g31, fun _ h => absurd h List.not_mem_nil⟩)).symm, hst.pure⟩
theorem zwK (op : Int) (w : World) : Ret Tryz.prog 134 #[.int .u16 op] w (fun v w' => v = str (zmh op) ∧ St w NoM [] [] w') := by
 refine zav (args := [.int .u16 op]) Tryz.func134 rfl rfl rfl ?_
 have hst := St.init w
 refine SR <| AS rfl <| NL <| SQ <| zao <| SR <| MH rfl <| CN <| zbI rfl rfl <| AB rfl <| NL <| zab rfl (fun g1 => ?_) (fun g1 => ?_)
 ·refine SR <| MH rfl <| CN <| Op1.call1 (v1 := .int .u16 _) ent178 rfl rfl <| Ret.det (zsC _ _) hst fun w hst => AS rfl <| NL <| zah Tryz.func134 rfl (TP (v := str _) rfl) <| ⟨congrArg str ?_, hst.pure⟩
  unfold zmh
  rw [if_pos g1]
 refine SR <| MH rfl <| CN <| zbI rfl rfl <| AB rfl <| NL <| zab rfl (fun g2 => ?_) (fun g2 => ?_)
 ·refine SR <| MH rfl <| CN <| Op1.call1 (v1 := .int .u16 _) ent179 rfl rfl <| Ret.det (zqd _ _) hst fun w hst => AS rfl <| NL <| zah Tryz.func134 rfl (TP (v := str _) rfl) <| ⟨congrArg str ?_, hst.pure⟩
  unfold zmh
  rw [if_neg g1, if_pos g2]
 refine zaf <| zam <| SR <| MH rfl <| CN <| Op1.call1 (v1 := .int .u16 _) ent180 rfl rfl <| Ret.det (zsA _ _) hst fun w hst => AS rfl <| NL <| zah Tryz.func134 rfl (TP (v := str _) rfl) <| ⟨congrArg str ?_, hst.pure⟩
 unfold zmh
 rw [if_neg g1, if_neg g2]
theorem zlR (c : Int) (w : World) : Ret Tryz.prog 181 #[.int .u8 c] w (fun v w' => v = str (zkX zfq c) ∧ St w NoM [] [] w') := by
 refine zav (args := [.int .u8 c]) Tryz.func181 rfl rfl rfl ?_
 have hst := St.init w
 refine SR <| AS rfl <| NL <| SQ <| SR <| MC rfl <| NL <| zao <| SR <| CN <| zak rfl rfl <| AB rfl <| NL ?_
 refine zab rfl (fun g1 => ?_) (fun g1 => ?_)
 ·refine SR <| AS rfl <| NL <| zah Tryz.func181 rfl (TP (v := str _) rfl) ?_
  subst g1
  exact ⟨congrArg str (by decide +kernel), hst.pure⟩
 refine SR <| CN <| zak rfl rfl <| AB rfl <| NL <| zab rfl (fun g2 => ?_) (fun g2 => ?_)
 ·refine SR <| AS rfl <| NL <| zah Tryz.func181 rfl (TP (v := str _) rfl) ?_
  subst g2
  exact ⟨congrArg str (by decide +kernel), hst.pure⟩
 refine SR <| CN <| zak rfl rfl <| AB rfl <| NL <| zab rfl (fun g3 => ?_) (fun g3 => ?_)
 ·refine SR <| AS rfl <| NL <| zah Tryz.func181 rfl (TP (v := str _) rfl) ?_
  subst g3
  exact ⟨congrArg str (by decide +kernel), hst.pure⟩
 refine SR <| CN <| zak rfl rfl <| AB rfl <| NL <| zab rfl (fun g4 => ?_) (fun g4 => ?_)
 ·refine SR <| AS rfl <| NL <| zah Tryz.func181 rfl (TP (v := str _) rfl) ?_
  subst g4
  exact ⟨congrArg str (by decide +kernel), hst.pure⟩
 refine SR <| CN <| zak rfl rfl <| AB rfl <| NL <| zab rfl (fun g5 => ?_) (fun g5 => ?_)
 ·refine SR <| AS rfl <| NL <| zah Tryz.func181 rfl (TP (v := str _) rfl) ?_
  subst g5
  exact ⟨congrArg str (by decide +kernel), hst.pure⟩
 refine SR <| CN <| zak rfl rfl <| AB rfl <| NL <| zab rfl (fun g6 => ?_) (fun g6 => ?_)
 ·refine SR <| AS rfl <| NL <| zah Tryz.func181 rfl (TP (v := str _) rfl) ?_
  subst g6
  exact ⟨congrArg str (by decide +kernel), hst.pure⟩
 refine SR <| CN <| zak rfl rfl <| AB rfl <| NL <| zab rfl (fun g7 => ?_) (fun g7 => ?_)
 ·refine SR <| AS rfl <| NL <| zah Tryz.func181 rfl (TP (v := str _) rfl) ?_
  subst g7
  exact ⟨congrArg str (by decide +kernel), hst.pure⟩
 refine SR <| CN <| zak rfl rfl <| AB rfl <| NL <| zab rfl (fun g8 => ?_) (fun g8 => ?_)
 ·refine SR <| AS rfl <| NL <| zah Tryz.func181 rfl (TP (v := str _) rfl) ?_
  subst g8
  exact ⟨congrArg str (by decide +kernel), hst.pure⟩
 refine SR <| CN <| zak rfl rfl <| AB rfl <| NL <| zaj [(3, .int .u8 _), (20, .bool _)] E2 fun f => zab rfl (fun g9 => ?_) (fun g9 => ?_)
 ·refine SR <| AS rfl <| NL <| zah Tryz.func181 rfl (TP (v := str _) rfl) ?_
  subst g9
  exact ⟨congrArg str (by decide +kernel), hst.pure⟩
 refine SR <| CN <| zak rfl rfl <| AB rfl <| NL <| zab rfl (fun g10 => ?_) (fun g10 => ?_)
 ·refine SR <| AS rfl <| NL <| zah Tryz.func181 rfl (TP (v := str _) rfl) ?_
  subst g10
  exact ⟨congrArg str (by decide +kernel), hst.pure⟩
 refine SR <| CN <| zak rfl rfl <| AB rfl <| NL <| zab rfl (fun g11 => ?_) (fun g11 => ?_)
 ·refine SR <| AS rfl <| NL <| zah Tryz.func181 rfl (TP (v := str _) rfl) ?_
  subst g11
  exact ⟨congrArg str (by decide +kernel), hst.pure⟩
 refine zaf <| zam <| SR <| AS rfl <| NL <| zah Tryz.func181 rfl (TP (v := str _) rfl) ?_
 exact ⟨congrArg str (zft (by simp only [zfq, List.forall_mem_cons]; exact ⟨g1, g2, g3, g4, g5, g6, g7, g8, g9, g10, g11, fun _ h => absurd h List.not_mem_nil⟩)).symm, hst.pure⟩
theorem zsH {l : List zdD} {n : Nat} {a : Int} (ha : a = n) (hn : n < l.length) : (l.map str)[0 + a.toNat * 1]? = some (str (l.getD n [])) := by
 subst ha; simp [List.getD, hn]
theorem zsG {l : List zdD} {n : Nat} {c : UInt8} (hn : n < l.length) : zcj (l.map str) (0 + (n : Int).toNat * 1) [str (l.getD n [] ++ [UInt8.ofNat ((c.toNat : Int)).toNat])] = (l.modify n (· ++ [c])).map str := by
 simp only [zcj, Int.toNat_natCast, Nat.mul_one, Nat.zero_add, UInt8.ofNat_toNat]
 apply List.ext_getElem
 ·simp
 ·intro j h1 h2
  simp only [List.length_map, List.length_modify] at h2
  by_cases hj : n = j
  ·subst hj; simp [List.getElem_modify, List.getD, hn]
  ·simp [List.getElem_modify, hj, List.getElem_set_ne hj]
theorem R7six {l : List zdD} (h : l.length = 6) : ∃ f0 f1 f2 f3 f4 f5, l = [f0, f1, f2, f3, f4, f5] := by
 match l, h with
 | [f0, f1, f2, f3, f4, f5], _ => exact ⟨f0, f1, f2, f3, f4, f5, rfl⟩
theorem zqg (s f0 f1 f2 f3 f4 f5 : zdD) (hok : ztn s = true) (hf : zdA s = [f0, f1, f2, f3, f4, f5]) (w : World) : Ret Tryz.prog 135 #[str s] w (fun v w' => v = .agg #[str f0, str f1, str f2, str f3, str f4, str f5] ∧ St w NoM [] [] w') := by
 refine zav (args := [str s]) Tryz.func135 rfl rfl rfl ?_
 have hst := St.init w
 obtain ⟨hasc, h5, hlen, _, _⟩ := zln hok
 refine SR <| CN <| Op1.alloc hst zha fun w b2 hst => NSR <| CN <| Op1.alloc hst zha fun w b3 hst => NSR <| AI rfl <| NL <| SQ <| SQ <| RG ?_
 refine MS rfl <| CN <| zg8 hst ty9 rfl fun w it8 hst => NL <| zao <| zaV <| zaU [(2, Pp _ _), (3, Pp _ _), (8, .pointer (some ⟨_, 0, none⟩))] E3 (fun (i : Nat) => [(4, .int .i64 ((zb1 (s.take i)).1 : Int))]) (fun (i : Nat) => [Res.iter it8 s i, Res.row b3 211 ((zb1 (s.take i)).2.map str)]) (fun (i : Nat) => i ≤ s.length) (fun (i : Nat) => s.length - i) (0) hst (Nat.zero_le _) ⟨rfl, trivial⟩ ?_
 intro i f w hst hJ ih1
 refine SQ <| RG ?_
 rcases Nat.lt_or_ge i s.length with g2 | g2
 ·have hc := hasc _ (List.getElem_mem g2)
  have hstep := zi1 g2
  have hat : (zb1 (s.take (i + 1))).1 ≤ 5 := Nat.le_trans zlD h5
  have hat0 : (zb1 (s.take i)).1 ≤ 5 := Nat.le_trans zlD h5
  have hsh : ((zb1 (s.take i)).2.getD (zb1 (s.take i)).1 []).length ≤ i := zsg (zic s i hJ)
  refine CN (zio hst rfl .u0 (List.getElem?_eq_getElem g2) (hc) fun w hst => ?_)
  refine CN <| Ex (.bool _) rfl rfl <| NL <| SQ <| zax (Vb (rfl : true = _)) <| zaf <| zao <| SR <| CN <| Ex (.int .i32 _) rfl rfl <| CN <| Op1.assign (v := .int .i32 _) rfl <| NSR <| CN <| zad (v := .int .i32 _) rfl <| CN (zak rfl rfl ?_)
  refine NL <| zab rfl (fun g3 => ?_) (fun g3 => ?_)
  ·refine RG <| MI rfl <| CN <| zas rfl rfl rfl zbe <| AI rfl <| NL <| zam <| zay ?_
   have hsp : zb1 (s.take (i + 1)) = ((zb1 (s.take i)).1 + 1, (zb1 (s.take i)).2) := by rw [hstep]; unfold zi5; rw [if_pos (UInt8.toNat_inj.1 (by have : (32 : UInt8).toNat = 32 := rfl; omega))]
   exact ih1 (i + 1) _ w (by omega) (by (try dsimp only); rw [hsp]; exact hst) (by omega) E3 ⟨(Vi (by rw [hsp]; rfl)), trivial⟩
  refine RG <| MI rfl <| CN <| zcw zha ty9 rfl rfl (by omega) (by omega) <| CN <| zae (v := str _) ty9 rfl rfl (hst.cellL Q1 (zsH rfl (by rw [zfS]; omega))) <| CN <| zad (v := .int .i32 _) rfl <| CN <| zkI ty21 ty9 rfl (by omega) (by omega) <| CN <| zcD rfl rfl (by first | omega | (simp only [List.length_cons, List.length_nil, List.length_append]; omega) | (simp; omega)) <| CN <| zcw zha ty9 rfl rfl (by omega) (by omega) <| CN <| zqk (v := str _) hst ty9 rfl rfl rfl rfl rfl .u1 (by simp only [List.length_map, zfS, List.length_cons, List.length_nil]; omega) fun w hst => NL <| zam <| zay ?_
  have hsp : zb1 (s.take (i + 1)) = ((zb1 (s.take i)).1, (zb1 (s.take i)).2.modify (zb1 (s.take i)).1 (· ++ [s[i]])) := by rw [hstep]; unfold zi5; rw [if_neg (fun he => g3 (by rw [he]; rfl))]
  exact ih1 (i + 1) _ w (by omega) (by (try dsimp only); rw [hsp]; dsimp only; rw [← zsG (by rw [zfS]; omega)]; exact hst) (by omega) E3 ⟨(Vi (by rw [hsp])), trivial⟩
 obtain rfl : i = s.length := by omega
 rw [List.take_length, show (zb1 s).2 = [f0, f1, f2, f3, f4, f5] from hf] at hst
 dsimp only [List.map] at hst
 refine CN <| ziq hst rfl Q0 g2 <| CN <| Ex (.bool _) rfl rfl <| NL <| SQ <| zat (Vb (rfl : false = _)) <| zaJ (id := 0) rfl <| SR <| CN <| zar (vs := [str _, str _, str _, str _, str _, str _]) zha rfl rfl rfl (zac (n := 6) (hst.objL Q1) _ rfl) <| CN (SO (v := .agg #[str _, str _, str _, str _, str _, str _]) hst zha rfl rfl .u2 fun w hst => ?_)
 refine NL <| zah Tryz.func135 rfl (zal (vs := [str _, str _, str _, str _, str _, str _]) rfl zha rfl rfl (zac (n := 6) (hst.objL Q2) _ rfl)) ?_
 exact ⟨rfl, hst.pure⟩
end Go.SK
namespace Go.SK
open Go Go.Proofs
theorem zaM : TyF Tryz.prog 113 (.struct (zbJ Tryz.prog 113)) 8 80 [.int .u16 0, str [], .bool false, .bool false, str [], str [], .int .i64 0, .int .u8 0] := zbK Kr Kr
theorem zli : zdL Tryz.prog 113 [(0, 1), (1, 1), (2, 1), (3, 1), (4, 1), (5, 1), (6, 1), (7, 1)] := ⟨zbJ Tryz.prog 113, Kr, fun w => Kr⟩
theorem ent134 : zaN Tryz.prog 134 := ⟨Tryz.f134, _, Tryz.func134, Kr, rfl⟩
theorem ent135 : zaN Tryz.prog 135 := ⟨Tryz.f135, _, Tryz.func135, Kr, rfl⟩
theorem zdy : FldF Tryz.prog 113 2 2 := FldF.of (n := 0) Kr
theorem ty4 : TyF Tryz.prog 4 .bool 1 1 [.bool false] := zbK Kr Kr
theorem zcS : FldF Tryz.prog 113 3 3 := FldF.of (n := 0) Kr
theorem zh6 : FldF Tryz.prog 113 6 6 := FldF.of (n := 0) Kr
end Go.SK
namespace Go.SK
open Go Go.Proofs
open Go.RowKit
theorem zqe (s : zdD) (hasc : ∀ c ∈ s, c.toNat < 128) (w : World) : Ret Tryz.prog 222 #[str s] w (fun v w' => v = .int .u32 (zxJ s) ∧ St w NoM [] [] w') := by
 refine zav (args := [str s]) Tryz.func222 rfl rfl rfl ?_
 have hst := St.init w
 refine SR <| AU rfl <| NSR <| AU rfl <| NL <| SQ <| SR <| MS rfl <| CN <| zg8 hst ty9 rfl fun w it7 hst => NL <| zao ?_
 refine zaV <| zaU [(7, .pointer (some ⟨_, 0, none⟩))] ⟨rfl, trivial⟩ (fun (i : Nat) => [(3, .int .u32 (zxJ (s.take i)))]) (fun (i : Nat) => [Res.iter it7 s i]) (fun (i : Nat) => i ≤ s.length) (fun (i : Nat) => s.length - i) (0) hst (Nat.zero_le _) ⟨rfl, trivial⟩ ?_
 intro i f w hst hJ ih1
 refine SQ <| RG ?_
 rcases Nat.lt_or_ge i s.length with g2 | g2
 ·have hc := hasc _ (List.getElem_mem g2)
  have hstep := ztI g2
  refine CN (zio hst rfl .u0 (List.getElem?_eq_getElem g2) (hc) fun w hst => ?_)
  refine CN <| Ex (.bool _) rfl rfl <| NL <| SQ <| zax (Vb (rfl : true = _)) <| zaf <| zao <| SR <| CN <| Ex (.int .i32 _) rfl rfl <| CN <| Op1.assign (v := .int .i32 _) rfl <| NR <| MU rfl <| CN <| zyf rfl rfl <| CN (zad (v := .int .i32 _) rfl ?_)
  refine CN (zbx rfl rfl rfl Wi32 ?_)
  first | refine CN (zaY ty21 zbt rfl zkM ?_) | refine CN (za8 ty21 zbt rfl ?_)
  refine CN <| Op1.add rfl rfl <| AU rfl <| NL <| zam <| zay ?_
  exact ih1 (i + 1) _ w (by omega) hst (by omega) ⟨rfl, trivial⟩ ⟨(congrArg (Value.int .u32) (by rw [hstep]; rfl)), trivial⟩
 obtain rfl : i = s.length := by omega
 refine CN <| ziq hst rfl Q0 g2 <| CN <| Ex (.bool _) rfl rfl <| NL <| SQ <| zat (Vb (rfl : false = _)) <| zaJ (id := 0) rfl <| SR <| MU rfl <| AU rfl <| NL <| zah Tryz.func222 rfl (TP (v := .int .u32 _) rfl) ?_
 exact ⟨congrArg (Value.int .u32) (by rw [List.take_length]), hst.pure⟩
theorem zqh (op : Int) (h0 : 0 ≤ op) (w : World) : Ret Tryz.prog 75 #[.int .u16 op] w (fun v w' => v = zv6 (zbv op) ∧ St w NoM [] [] w') := by
 refine zav (args := [.int .u16 op]) Tryz.func75 rfl rfl rfl ?_
 have hst := St.init w
 refine SR <| CN <| Op1.alloc hst zaM fun w b2 hst => AB rfl <| NSR <| MH rfl <| CN <| Op1.call1 (v1 := .int .u16 _) ent134 rfl rfl <| Ret.det (zwK _ _) hst fun w hst => AS rfl <| NL <| SQ <| SR <| MS rfl ?_
 refine CN <| zbV rfl rfl <| NL <| zab rfl (fun g1 => ?_) (fun g1 => ?_)
 ·have hemp := g1
  refine SR <| CN (zag zaM zli .nil ?_)
  refine CN (SO (v := zau _ _ _ _ _ _ _ _) hst zaM rfl rfl .u0 fun w hst => ?_)
  refine AB rfl <| NL <| zai Tryz.func75 rfl (zal (vs := zaC _ _ _ _ _ _ _ _) rfl zaM rfl rfl (zac (n := 8) (hst.objL Q0) _ rfl)) (TP (v := .bool _) rfl) ?_
  rw [← (zhS h0).2]
  have e : ofS op = none := by unfold ofS; rw [if_pos hemp]
  rw [e]
  exact ⟨rfl, hst.pure⟩
 have hemp := g1
 obtain ⟨fd0, fd1, fd2, fd3, fd4, fd5, hf⟩ := R7six (zfS (zmh op))
 replace hf : zdA (zmh op) = [fd0, fd1, fd2, fd3, fd4, fd5] := hf
 obtain ⟨_, _, _, hfa, hf5⟩ := zln (zhS h0).1
 rw [hf] at hfa hf5
 replace hf5 : 0 < fd5.length := List.length_pos_iff.2 (hf5.resolve_left hemp)
 have hasc : ∀ c ∈ fd1, c.toNat < 128 := hfa fd1 (by simp)
 refine zaf <| SR <| MS rfl <| CN <| Op1.call1 (v1 := str _) ent135 rfl rfl <| Ret.det (zqg _ _ _ _ _ _ _ (zhS h0).1 hf _) hst fun w hst => CN <| Op1.alloc hst zha fun w b5 hst => CN (SO (v := .agg #[str _, str _, str _, str _, str _, str _]) hst zha rfl rfl .u0 fun w hst => ?_)
 refine NL <| SQ <| RunD.start [] hst (bs := [0, 0, 2, 0, 8, 0, 32, 0, 128, 384, 896, 2047, 0, 8191]) (ds := [some 16, some 17, some 18, some 19, some 20, some 21, some 22, some 23, some 24, some 25, some 26, some 27, some 6, none]) ⟨Kr, Kr, Kr⟩ (fun tab2 => ?_)
 refine DO tab2 1 (fun f' L' w' hc=> zad (v := .int .u16 _) (hc.old rfl rfl rfl) hc.z) <| DO tab2 2 (fun f' L' w' hc=> zcw zha ty9 (hc.old (v := Pp _ _) rfl rfl rfl) rfl De De hc.z) <| DO tab2 3 (fun f' L' w' hc=> zae (v := str _) ty9 rfl (hc.d 1 rfl rfl rfl rfl) (hc.st.cellL (List.mem_append_right _ Q0) rfl) hc.z) <| DO tab2 4 (fun f' L' w' hc=> zcw zha ty9 (hc.old (v := Pp _ _) rfl rfl rfl) rfl De De hc.z) <| DO tab2 5 (fun f' L' w' hc=> zae (v := str _) ty9 rfl (hc.d 3 rfl rfl rfl rfl) (hc.st.cellL (List.mem_append_right _ Q0) rfl) hc.z) <| DO tab2 6 (fun f' L' w' hc=> zcw zha ty9 (hc.old (v := Pp _ _) rfl rfl rfl) rfl De De hc.z) <| DO tab2 7 (fun f' L' w' hc=> zae (v := str _) ty9 rfl (hc.d 5 rfl rfl rfl rfl) (hc.st.cellL (List.mem_append_right _ Q0) rfl) hc.z) <| DO tab2 8 (fun f' L' w' hc=> zcw zha ty9 (hc.old (v := Pp _ _) rfl rfl rfl) rfl De De hc.z) <| DO tab2 9 (fun f' L' w' hc=> zae (v := str _) ty9 rfl (hc.d 7 rfl rfl rfl rfl) (hc.st.cellL (List.mem_append_right _ Q0) rfl) hc.z) <| DO tab2 10 (fun f' L' w' hc=> zaH ty9 (hc.d 8 rfl rfl rfl rfl) rfl Om Om hc.z) <| DO tab2 11 (fun f' L' w' hc=> Op1.sub (hc.d 9 rfl rfl rfl rfl) rfl hc.z) <| DO tab2 12 (fun _ _ _ hc => zag zaM zli (.c (v := .int .u16 _) (hc.d 0 rfl rfl rfl rfl) (h := (.c (v := str _) (hc.d 2 rfl rfl rfl rfl) (h := (.c (v := str _) (hc.d 4 rfl rfl rfl rfl) (h := (.c (v := str _) (hc.d 6 rfl rfl rfl rfl) (h := (.c (v := .int .u8 _) (hc.d 10 rfl rfl rfl rfl) (h := .nil)))))))))) hc.z) ?_
 refine RunD.op (fun v rs => ∃ b, v = .pointer (some ⟨b, 0, none⟩) ∧ rs = [Res.row b 113 [.int .u16 0, str [], .bool false, .bool false, str [], str [], .int .i64 0, .int .u8 0]]) tab2 13 (fun _ _ _ hc => Op1.alloc hc.st zaM fun w b hst => ⟨[_], ⟨b, rfl, rfl⟩, hst⟩) <| RunD.fin zaw tab2 hst rfl (fun f3 w R6 hs4 hd5 hr7 hst => ?_)
 obtain ⟨h16_, r0⟩ := hd5 0 16 rfl rfl
 obtain ⟨h17_, r1⟩ := hd5 1 17 rfl rfl
 obtain ⟨h18_, r2⟩ := hd5 2 18 rfl rfl
 obtain ⟨h19_, r3⟩ := hd5 3 19 rfl rfl
 obtain ⟨h20_, r4⟩ := hd5 4 20 rfl rfl
 obtain ⟨h21_, r5⟩ := hd5 5 21 rfl rfl
 obtain ⟨h22_, r6⟩ := hd5 6 22 rfl rfl
 obtain ⟨h23_, r7⟩ := hd5 7 23 rfl rfl
 obtain ⟨h24_, r8⟩ := hd5 8 24 rfl rfl
 obtain ⟨h25_, r9⟩ := hd5 9 25 rfl rfl
 obtain ⟨h26_, r10⟩ := hd5 10 26 rfl rfl
 obtain ⟨h27_, r11⟩ := hd5 11 27 rfl rfl
 obtain ⟨b6, h6_, r12⟩ := hd5 12 6 rfl rfl
 simp only [rg13, Fc, Fn, Mc, Mn, r0, r1, r2, r3, r4, r5, r6, r7, r8, r9, r10, r11, r12, Na, An, Ca] at hst
 refine zaD (sl := [(2, Pp _ _), (5, Pp _ _), (6, Pp _ _), (27, zau _ _ _ _ _ _ _ _)]) ⟨(hs4 2 rfl).trans rfl, (hs4 5 rfl).trans rfl, h6_, h27_, trivial⟩ ?_
 clear hs4 hd5 hr7 tab2
 refine CN (SO (v := zau _ _ _ _ _ _ _ _) hst zaM rfl rfl .u0 fun w hst => ?_)
 refine NL <| zaj [(2, Pp _ _), (5, Pp _ _), (6, Pp _ _)] E3 fun f => SQ <| SR <| CN <| zcw zha ty9 rfl rfl De De <| CN <| zae (v := str _) ty9 rfl rfl (hst.cellL Q1 rfl) <| CN <| zg8 hst ty9 rfl fun w it30 hst => NL <| zao <| zaV <| zaU [(2, Pp _ _), (5, Pp _ _), (6, Pp _ _), (30, .pointer (some ⟨_, 0, none⟩))] E4 (fun (i : Nat) => []) (fun (i : Nat) => [Res.iter it30 fd1 i, Res.row b6 113 [.int .u16 op, str fd0, .bool ((fd1.take i).contains 84), .bool ((fd1.take i).contains 82), str fd2, str fd3, .int .i64 0, .int .u8 (zkO (fd5.getD 0 0) 48)]]) (fun (i : Nat) => i ≤ fd1.length) (fun (i : Nat) => fd1.length - i) (0) hst (Nat.zero_le _) trivial ?_
 intro i f w hst hJ ih8
 refine SQ <| RG ?_
 rcases Nat.lt_or_ge i fd1.length with g9 | g9
 ·have hc := hasc _ (List.getElem_mem g9)
  refine CN (zio hst rfl .u0 (List.getElem?_eq_getElem g9) (hc) fun w hst => ?_)
  refine CN <| Ex (.bool _) rfl rfl <| NL <| SQ <| zax (Vb (rfl : true = _)) <| zaf <| zao <| SR <| CN <| Ex (.int .i32 _) rfl rfl <| CN <| Op1.assign (v := .int .i32 _) rfl <| NSR <| CN <| zaa zdy rfl <| CN (zae (v := .bool _) ty4 rfl rfl (hst.cellL Q1 rfl) ?_)
  refine MB rfl <| zbH (d := 36) rfl (fun g10 => ?_) (fun g10 => ?_)
  ·refine OM (t := 36) rfl (Vb g10) rfl <| OM (t := 36) rfl (Vb g10) rfl <| CN <| zap (u := .bool _) (Vb g10) rfl <| CN <| zaa zdy rfl <| CN (SO (v := .bool _) hst ty4 rfl rfl .u1 fun w hst => ?_)
   refine NR <| CN <| zaa zcS rfl <| CN <| zae (v := .bool _) ty4 rfl rfl (hst.cellL Q1 rfl) <| MB rfl <| zbH (d := 43) rfl (fun g11 => ?_) (fun g11 => ?_)
   ·refine OM (t := 43) rfl (Vb g11) rfl <| OM (t := 43) rfl (Vb g11) rfl <| CN <| zap (u := .bool _) (Vb g11) rfl <| CN <| zaa zcS rfl <| CN (SO (v := .bool _) hst ty4 rfl rfl .u1 fun w hst => ?_)
    refine NL <| zam <| zay ?_
    exact ih8 (i + 1) _ w (by omega) (by (try dsimp only); rw [ze4 84 (m := 84) rfl g9, ze4 82 (m := 82) rfl g9]; simp only [g10, g11, Bool.true_or, Bool.false_or]; exact hst) (by omega) E4 trivial
   refine TK (t := 43) rfl (Vb g11) <| zad (v := .int .i32 _) rfl <| TK (t := 43) rfl (Vb g11) <| zak rfl rfl <| CN <| zaq (u := .bool _) (Vb g11) rfl <| CN <| zaa zcS rfl <| CN (SO (v := .bool _) hst ty4 rfl rfl .u1 fun w hst => ?_)
   refine NL <| zam <| zay ?_
   exact ih8 (i + 1) _ w (by omega) (by (try dsimp only); rw [ze4 84 (m := 84) rfl g9, ze4 82 (m := 82) rfl g9]; simp only [g10, g11, Bool.true_or, Bool.false_or]; exact hst) (by omega) E4 trivial
  refine TK (t := 36) rfl (Vb g10) <| zad (v := .int .i32 _) rfl <| TK (t := 36) rfl (Vb g10) <| zak rfl rfl <| CN <| zaq (u := .bool _) (Vb g10) rfl <| CN <| zaa zdy rfl <| CN (SO (v := .bool _) hst ty4 rfl rfl .u1 fun w hst => ?_)
  refine NR <| CN <| zaa zcS rfl <| CN <| zae (v := .bool _) ty4 rfl rfl (hst.cellL Q1 rfl) <| MB rfl <| zbH (d := 43) rfl (fun g12 => ?_) (fun g12 => ?_)
  ·refine OM (t := 43) rfl (Vb g12) rfl <| OM (t := 43) rfl (Vb g12) rfl <| CN <| zap (u := .bool _) (Vb g12) rfl <| CN <| zaa zcS rfl <| CN (SO (v := .bool _) hst ty4 rfl rfl .u1 fun w hst => ?_)
   refine NL <| zam <| zay ?_
   exact ih8 (i + 1) _ w (by omega) (by (try dsimp only); rw [ze4 84 (m := 84) rfl g9, ze4 82 (m := 82) rfl g9]; simp only [g10, g12, Bool.true_or, Bool.false_or]; exact hst) (by omega) E4 trivial
  refine TK (t := 43) rfl (Vb g12) <| zad (v := .int .i32 _) rfl <| TK (t := 43) rfl (Vb g12) <| zak rfl rfl <| CN <| zaq (u := .bool _) (Vb g12) rfl <| CN <| zaa zcS rfl <| CN (SO (v := .bool _) hst ty4 rfl rfl .u1 fun w hst => ?_)
  refine NL <| zam <| zay ?_
  exact ih8 (i + 1) _ w (by omega) (by (try dsimp only); rw [ze4 84 (m := 84) rfl g9, ze4 82 (m := 82) rfl g9]; simp only [g10, g12, Bool.true_or, Bool.false_or]; exact hst) (by omega) E4 trivial
 obtain rfl : i = fd1.length := by omega
 rw [List.take_length] at hst
 refine CN <| ziq hst rfl Q0 g9 <| CN <| Ex (.bool _) rfl rfl <| NL <| SQ <| zat (Vb (rfl : false = _)) <| zaJ (id := 0) rfl <| SQ <| SR <| CN <| zcw zha ty9 rfl rfl De De <| CN <| zae (v := str _) ty9 rfl rfl (hst.cellL Q2 rfl) <| CN <| zcN rfl rfl <| NL <| zab rfl (fun g13 => ?_) (fun g13 => ?_)
 ·have hf4 : 0 < fd4.length := List.length_pos_iff.2 g13
  have hwb := zs9 ((((fd4.getD (0 : Int).toNat 0).toNat : Nat) : Int) - 48)
  refine RG <| CN <| zcw zha ty9 rfl rfl De De <| CN <| zae (v := str _) ty9 rfl rfl (hst.cellL Q2 rfl) <| CN <| zaH ty9 rfl rfl Om Om <| CN (Op1.sub rfl rfl ?_)
  first | refine CN (zaY ty5 ty3 rfl zbe ?_) | refine CN (za8 ty5 ty3 rfl ?_)
  refine CN <| zaa zh6 rfl <| CN (SO (v := .int .i64 _) hst ty3 rfl rfl .u1 fun w hst => ?_)
  refine NSR <| CN <| zar (vs := zaC _ _ _ _ _ _ _ _) zaM rfl rfl rfl (zac (n := 8) (hst.objL Q1) _ rfl) <| CN (SO (v := zau _ _ _ _ _ _ _ _) hst zaM rfl rfl .u3 fun w hst => ?_)
  refine AB rfl <| NL <| zai Tryz.func75 rfl (zal (vs := zaC _ _ _ _ _ _ _ _) rfl zaM rfl rfl (zac (n := 8) (hst.objL Q3) _ rfl)) (TP (v := .bool _) rfl) ?_
  rw [← (zhS h0).2]
  have e : ofS op = some (FormL.mk op fd0 (fd1.contains 84) (fd1.contains 82) fd2 fd3 (zkO (fd4.getD 0 0) 48) (zkO (fd5.getD 0 0) 48)) := by
   unfold ofS
   rw [if_neg hemp, hf]
   show some (FormL.mk op fd0 (fd1.contains 84) (fd1.contains 82) fd2 fd3 (if fd4 = [] then 0 else zkO (fd4.getD 0 0) 48) (zkO (fd5.getD 0 0) 48)) = _
   rw [if_neg g13]
  rw [e]
  exact ⟨rfl, hst.pure⟩
 refine zaf <| SR <| CN <| zar (vs := zaC _ _ _ _ _ _ _ _) zaM rfl rfl rfl (zac (n := 8) (hst.objL Q1) _ rfl) <| CN (SO (v := zau _ _ _ _ _ _ _ _) hst zaM rfl rfl .u3 fun w hst => ?_)
 refine AB rfl <| NL <| zai Tryz.func75 rfl (zal (vs := zaC _ _ _ _ _ _ _ _) rfl zaM rfl rfl (zac (n := 8) (hst.objL Q3) _ rfl)) (TP (v := .bool _) rfl) ?_
 rw [← (zhS h0).2]
 have e : ofS op = some (FormL.mk op fd0 (fd1.contains 84) (fd1.contains 82) fd2 fd3 0 (zkO (fd5.getD 0 0) 48)) := by
  unfold ofS
  rw [if_neg hemp, hf]
  show some (FormL.mk op fd0 (fd1.contains 84) (fd1.contains 82) fd2 fd3 (if fd4 = [] then 0 else zkO (fd4.getD 0 0) 48) (zkO (fd5.getD 0 0) 48)) = _
  rw [if_pos (Nn g13)]
 rw [e]
 exact ⟨rfl, hst.pure⟩
end Go.SK
namespace Go.SK
open Go Go.Proofs
theorem zxc : zaN Tryz.prog 181 := ⟨Tryz.f181, _, Tryz.func181, Kr, rfl⟩
theorem ent222 : zaN Tryz.prog 222 := ⟨Tryz.f222, _, Tryz.func222, Kr, rfl⟩
end Go.SK
namespace Go.SK
open Go Go.Proofs
open Go.RowKit
theorem zlS (c : Int) (w : World) : Ret Tryz.prog 199 #[.int .u8 c] w (fun v w' => ∃ b, v = .func (.func 221) #[] #[.pointer (some ⟨b, 0, none⟩)] ∧ St w NoM [Res.row b 5 [.int .u8 c]] [] w') := by
 refine zav (args := [.int .u8 c]) Tryz.func199 rfl rfl rfl ?_
 have hst := St.init w
 refine SR <| CN <| zbi (v := .int .u8 _) hst rfl rfl fun w b1 hst => CN <| Op1.assign (v := _) rfl <| NSR <| CN <| zce <| CN <| Op1.assign (v := .func _ _ _) rfl <| NL <| zah Tryz.func199 rfl (TP (v := .func _ _ _) rfl) ?_
 exact ⟨_, rfl, hst⟩
theorem zqf {c : Int} {s : zdD} (hs : zkX zfq c = s) (w : World) : Ret Tryz.prog 181 #[.int .u8 c] w fun v w' => v = str s ∧ St w NoM [] [] w' := by
 subst hs; exact zlR c w
theorem zi3 (c : Int) (h0 : 0 ≤ c) (h1 : c ≤ 255) (bc : Nat) (w : World) (hb : (Res.row bc 5 [.int .u8 c]).holds w) : zrx Tryz.prog 221 [.pointer (some ⟨bc, 0, none⟩)] (zbw c).length (fun j => [.int .u32 ((zbw c).getD j zcz).n, str ((zbw c).getD j zcz).name]) (· = bc) w := by
 intro yv R S hR hFD hy
 obtain ⟨s, hs⟩ : ∃ s, zkX zfq c = s := ⟨_, rfl⟩
 obtain ⟨hasc, hlen, hl⟩ := ztM h0 h1
 rw [hs] at hasc hlen hl
 have hout : (enF s).out.length = (zbw c).length := by rw [hl]; simp
 have hlt : ∀ i (hi : i < s.length), s[i] = 32 → (enF (s.take i)).num = true → (enF (s.take i)).out.length < (zbw c).length := fun i hi h2 h3 => by
  have := (zrb hl hi h2 h3).1; simpa using this
 have hyx : ∀ i (hi : i < s.length), s[i] = 32 → (enF (s.take i)).num = true → ∀ w1, St w (R 0).foot [R (enF (s.take i)).out.length] [] w1 → CallV Tryz.prog yv [.int .u32 (enF (s.take i)).n, str (enF (s.take i)).word] w1 fun v w2 => (v = .bool true ∧ St w1 (R (enF (s.take i)).out.length).foot [R ((enF (s.take i)).out.length + 1)] [] w2) ∨ (v = .bool false ∧ St w1 (R (enF (s.take i)).out.length).foot [S (enF (s.take i)).out.length] [] w2) := fun i hi h2 h3 w1 hw1 => by
  have t := hy _ (hlt i hi h2 h3) w1 hw1
  have ht := (zrb hl hi h2 h3).2
  have hk := hlt i hi h2 h3
  rw [zvT (d := zcz) hk] at ht
  dsimp only at t
  injection ht with e1 e2
  rwa [e1, e2] at t
 refine zav (args := [yv, .pointer (some ⟨bc, 0, none⟩)]) Tryz.func221 rfl rfl rfl ?_
 have hst : St w (R 0).foot [R 0] [Res.row bc 5 [.int .u8 c]] w := St.enter1 hR (fun d hd => by cases hd with | head => exact hb | tail _ h => cases h) (fun d hd => by cases hd with | head => exact fun b hb hb2 => hFD b hb hb2 | tail _ h => cases h)
 refine SR <| AU rfl <| AS rfl <| NSR <| AS rfl <| NSR <| AB rfl <| NL <| SQ <| RG ?_
 refine CN <| zae (v := .int .u8 _) ty5 rfl rfl (hst.cellD Q0 rfl) <| CN <| Op1.call1 (v1 := .int .u8 _) zxc rfl rfl <| Ret.det (zqf hs _) hst fun w hst => CN <| zg8 hst ty9 rfl fun w it11 hst => NL <| zao <| zaV <| zaU [(0, _), (11, .pointer (some ⟨_, 0, none⟩))] E2 (fun (i : Nat) => [(3, .int .u32 (enF (s.take i)).n), (5, str (enF (s.take i)).word), (6, .bool (enF (s.take i)).num)]) (fun (i : Nat) => [Res.iter it11 s i, R (enF (s.take i)).out.length]) (fun (i : Nat) => i ≤ s.length) (fun (i : Nat) => s.length - i) (0) hst (Nat.zero_le _) E3 ?_
 intro i f w hst hJ ih1
 refine SQ <| RG ?_
 rcases Nat.lt_or_ge i s.length with g2 | g2
 ·have hc := hasc _ (List.getElem_mem g2)
  have hwl := (zpK s hasc i Om).1
  refine CN (zio hst rfl .u0 (List.getElem?_eq_getElem g2) (hc) fun w hst => ?_)
  refine CN <| Ex (.bool _) rfl rfl <| NL <| SQ <| zax (Vb (rfl : true = _)) <| zaf <| zao <| SR <| CN <| Ex (.int .i32 _) rfl rfl <| CN <| Op1.assign (v := .int .i32 _) rfl <| NL <| SQ <| zao <| SQ <| RG ?_
  refine CN <| zad (v := .int .i32 _) rfl <| CN <| zaW rfl rfl <| AB rfl <| NL <| zab rfl (fun g3 => ?_) (fun g3 => ?_)
  ·refine SR <| MS rfl <| CN <| zad (v := .int .i32 _) rfl <| CN <| zkI ty21 ty9 rfl (by omega) (by omega) <| CN <| zcD rfl rfl (by first | omega | (simp only [List.length_cons, List.length_nil, List.length_append]; omega) | (simp; omega)) <| AS rfl <| NL <| zaJ (id := 1) rfl <| zay ?_
   have hstep := zid g2
   have hsp : enF (s.take (i + 1)) = ⟨(enF (s.take i)).n, (enF (s.take i)).word ++ [s[i]], (enF (s.take i)).num, (enF (s.take i)).out⟩ := by rw [hstep]; unfold zgb; rw [if_pos (fun he => g3 (by rw [he]; rfl))]
   exact ih1 (i + 1) _ w (by omega) (by (try dsimp only); rw [hsp]; exact hst) (by omega) E2 ⟨(congrArg (Value.int .u32) (by rw [hsp])), (congrArg str (by rw [hsp]; simp)), (Vb (by rw [hsp])), trivial⟩
  refine SR <| MB rfl <| CN <| zaZ rfl <| AB rfl <| NL <| zaA rfl (fun g4 => ?_) (fun g4 => ?_)
  ·refine RG <| MS rfl <| CN <| Op1.call1 (v1 := str _) ent222 rfl rfl <| Ret.det (zqe _ (zpK s hasc i Om).2 _) hst fun w hst => AU rfl <| NL <| zam <| SR <| MB rfl <| CN <| zaZ rfl <| AB rfl <| NR <| AS rfl <| NL ?_
   refine zam <| zay ?_
   have hstep := zid g2
   have hd32 : s[i] = 32 := UInt8.toNat_inj.1 (by have : (32 : UInt8).toNat = 32 := rfl; omega)
   have hnu : (enF (s.take i)).num = false := by simpa using g4
   have hsp : enF (s.take (i + 1)) = ⟨zxJ (enF (s.take i)).word, [], true, (enF (s.take i)).out⟩ := by rw [hstep]; unfold zgb; rw [if_neg (by simp [hd32]), if_neg (by simp [hnu])]
   exact ih1 (i + 1) _ w (by omega) (by (try dsimp only); rw [hsp]; exact hst) (by omega) E2 ⟨(congrArg (Value.int .u32) (by rw [hsp])), (congrArg str (by rw [hsp])), (Vb (by rw [hsp, hnu]; rfl)), trivial⟩
  refine SR <| MS rfl <| AS rfl <| NSR <| CN <| zad (v := _) rfl <| MU rfl <| MS rfl ?_
  replace hst := hst.pick (.cons .u1 (.cons .u0 .nil))
  have hc32 : s[i] = 32 := UInt8.toNat_inj.1 (by have : (32 : UInt8).toNat = 32 := rfl; omega)
  have hnum : (enF (s.take i)).num = true := by simpa using g4
  refine CN (zg9 (v1 := .int .u32 _) (v2 := str _) rfl rfl rfl ((hyx i Om hc32 hnum _ hst.one).mono fun v w hp => ?_))
  rcases hp with ⟨rfl, hp⟩ | ⟨rfl, hp⟩
  ·replace hst := hst.call1 hp
   clear hp
   refine CN <| zaZ rfl <| NL <| zat (Vb (congrArg not (rfl : true = _))) <| zaf <| zam <| SR <| MB rfl <| CN <| zaZ rfl <| AB rfl <| NL <| zaj [(0, _), (3, .int .u32 _), (6, .bool _), (11, .pointer (some ⟨_, 0, none⟩))] E4 fun f => RG <| AS rfl <| NL ?_
   refine zam <| zay ?_
   have hstep := zid g2
   have hd32 : s[i] = 32 := UInt8.toNat_inj.1 (by have : (32 : UInt8).toNat = 32 := rfl; omega)
   have hnu : (enF (s.take i)).num = true := by simpa using g4
   have hsp : enF (s.take (i + 1)) = ⟨(enF (s.take i)).n, [], false, (enF (s.take i)).out ++ [((enF (s.take i)).n, (enF (s.take i)).word)]⟩ := by rw [hstep]; unfold zgb; rw [if_neg (by simp [hd32]), if_pos hnu]
   replace hst := hst.pick (.cons .u1 (.cons .u0 .nil))
   exact ih1 (i + 1) _ w (by omega) (by (try dsimp only); rw [hsp]; simp only [List.length_append, List.length_cons, List.length_nil]; exact hst) (by omega) E2 ⟨(congrArg (Value.int .u32) (by rw [hsp])), (congrArg str (by rw [hsp])), (Vb (by rw [hsp, hnu]; rfl)), trivial⟩
  ·replace hst := hst.call1 hp
   clear hp
   refine CN <| zaZ rfl <| NL <| zax (Vb (congrArg not (rfl : false = _))) <| zjf Tryz.func221 rfl  ?_
   replace hst := hst.pick (.cons .u0 (.cons .u0 .nil))
   exact .inr ⟨(enF (s.take i)).out.length, hlt i Om hc32 hnum, hst.one⟩
 obtain rfl : i = s.length := by omega
 refine CN <| ziq hst rfl Q0 g2 <| CN <| Ex (.bool _) rfl rfl <| NL <| SQ <| zat (Vb (rfl : false = _)) <| zaJ (id := 0) rfl <| zef Tryz.func221 rfl  ?_
 replace hst := hst.pick (.cons .u1 (.cons .u0 .nil))
 rw [List.take_length, hout] at hst
 exact .inl hst.one
end Go.SK
namespace Go.SK
open Go Go.Proofs
theorem zxb : zaN Tryz.prog 199 := ⟨Tryz.f199, _, Tryz.func199, Kr, rfl⟩
theorem zxa : zaN Tryz.prog 221 := ⟨Tryz.f221, _, Tryz.func221, Kr, rfl⟩
end Go.SK
namespace Go.SK
open Go Go.Proofs
open Go.RowKit
theorem zuX (c n : Int) (h0 : 0 ≤ c) (h1 : c ≤ 255) (w : World) : Ret Tryz.prog 152 #[.int .u8 c, .int .u32 n] w (fun v w' => v = zvS (namesL.find? (enN c n)) ∧ St w NoM [] [] w') := by
 refine zav (args := [.int .u8 c, .int .u32 n]) Tryz.func152 rfl rfl rfl ?_
 have hst := St.init w
 refine SR <| CN <| zbi (v := .int .u32 _) hst rfl rfl fun w b3 hst => CN <| Op1.alloc hst ty9 fun w b4 hst => CN <| Op1.alloc hst ty4 fun w b5 hst => NL <| SQ <| SR <| MC rfl <| CN (Op1.call1 (v1 := .int .u8 _) zxb rfl rfl ((zlS _ _).mono fun v w hp => ?_))
 obtain ⟨bc, rfl, hp⟩ := hp
 replace hst := hst.call0 hp
 clear hp
 refine NL <| zao ?_
 replace hst := hst.addProp (p := ((zbw c).drop 0).find? (fun x => decide (x.n = n)) = (zbw c).find? (fun x => decide (x.n = n))) (rfl)
 replace hst := hst.pick (.cons .u0 (.cons .u2 (.cons .u1 (.cons .u0 (.cons .u0 .nil)))))
 refine zee (L1 := [_, _, _]) (L2 := [_, _]) (item := (fun j => [.int .u32 ((zbw c).getD j zcz).n, str ((zbw c).getD j zcz).name])) (FD := (· = bc)) (fun i => [Res.prop (((zbw c).drop i).find? (fun x => decide (x.n = n)) = (zbw c).find? (fun x => decide (x.n = n))), Res.row b4 9 [str []], Res.row b5 4 [.bool false]]) (fun i => [Res.prop ((zbw c).find? (fun x => decide (x.n = n)) = some ((zbw c).getD i zcz)), Res.row b4 9 [str ((zbw c).getD i zcz).name], Res.row b5 4 [.bool true]]) (fun _ => .ret) hst rfl rfl zxa (fun b hb => .inl (by subst hb; exact ⟨_, Q0, rfl⟩)) (fun w1 hw1 => zi3 c h0 h1 bc w1 (hw1.hL _ Q3)) (fun _ _ => rfl) ?_ ?_ ?_
 ·intro i hi w bl br lp hlp hst hk
  have hprop : ((zbw c).drop i).find? (fun x => decide (x.n = n)) = (zbw c).find? (fun x => decide (x.n = n)) := hst.hL _ Q2
  refine SR <| AU rfl <| NR <| AS rfl <| NL <| zfl hlp hst .u0 fun w hst => zao <| SR <| MU rfl <| CN <| zae (v := .int .u32 _) zbt rfl rfl (hst.cellD Q1 rfl) <| CN <| zak rfl rfl <| NL ?_
  refine zab rfl (fun g1 => ?_) (fun g1 => ?_)
  ·refine SR <| MS rfl <| CN (SO (v := str _) hst ty9 rfl rfl .u3 fun w hst => ?_)
   refine CN (SO (v := .bool _) hst ty4 rfl rfl .u4 fun w hst => ?_)
   refine NL <| zfH hst .u0 fun w hst => ?_
   replace hst := hst.addProp (p := (zbw c).find? (fun x => decide (x.n = n)) = some ((zbw c).getD i zcz)) (zfQ (d := zcz) hprop hi (Dt g1))
   replace hst := hst.pick (.cons .u1 (.cons .u1 (.cons .u0 (.cons .u1 (.cons .u1 .nil)))))
   exact .inr ⟨rfl, _, hst⟩
  refine zaf <| zam <| zdP hlp hst .u0 fun w hst => ?_
  replace hst := hst.addProp (p := ((zbw c).drop (i + 1)).find? (fun x => decide (x.n = n)) = (zbw c).find? (fun x => decide (x.n = n))) (zdz (d := zcz) hprop hi (Df g1))
  replace hst := hst.pick (.cons .u1 (.cons .u1 (.cons .u0 (.cons .u1 (.cons .u1 .nil)))))
  exact .inl ⟨rfl, _, hst⟩
 ·intro w bl br lp hst
  have hall : ((zbw c).drop (zbw c).length).find? (fun x => decide (x.n = n)) = (zbw c).find? (fun x => decide (x.n = n)) := hst.hL _ Q2
  refine zam <| SR <| CN (SO (v := str _) hst ty9 rfl rfl .u3 fun w hst => ?_)
  refine CN (SO (v := .bool _) hst ty4 rfl rfl .u4 fun w hst => ?_)
  refine NL ?_
  replace hst := hst.pick (.cons .u1 (.cons .u0 (.cons .u0 (.cons .u0 (.cons .u0 (.cons .u0 (.cons .u0 .nil)))))))
  refine zb6 [br] Tryz.func152 hst fun w hst => ⟨_, zvj rfl (zdf (v := str _) rfl ty9 rfl (hst.cellL Q2 rfl)) (zdf (v := .bool _) rfl ty4 rfl (hst.cellL Q3 rfl)), ?_⟩
  rw [← zlF, zfR hall (Nat.le_refl _)]
  exact ⟨rfl, hst.pure⟩
 ·intro i hi w bl br lp hst
  have hs : (zbw c).find? (fun x => decide (x.n = n)) = some ((zbw c).getD i zcz) := hst.hL _ Q2
  replace hst := hst.pick (.cons .u1 (.cons .u0 (.cons .u0 (.cons .u0 (.cons .u0 (.cons .u0 (.cons .u0 .nil)))))))
  refine zb6 [br] Tryz.func152 hst fun w hst => ⟨_, zvj rfl (zdf (v := str _) rfl ty9 rfl (hst.cellL Q2 rfl)) (zdf (v := .bool _) rfl ty4 rfl (hst.cellL Q3 rfl)), ?_⟩
  rw [← zlF, hs]
  exact ⟨rfl, hst.pure⟩
end Go.SK
namespace Go.SK
open Go Go.Proofs
theorem zue : zaN Tryz.prog 75 := ⟨Tryz.f75, _, Tryz.func75, Kr, rfl⟩
theorem zi4 : TyF Tryz.prog 41 (.int .u16) 1 2 [.int .u16 0] := zbK Kr Kr
end Go.SK
namespace Go.SK
open Go Go.Proofs
theorem zjv : FldF Tryz.prog 113 1 1 := FldF.of (n := 0) Kr
theorem zcR : FldF Tryz.prog 244 0 0 := FldF.of (n := 7) Kr
theorem zdx : FldF Tryz.prog 113 4 4 := FldF.of (n := 0) Kr
theorem zcu : FldF Tryz.prog 113 5 5 := FldF.of (n := 0) Kr
theorem zpe : TyF Tryz.prog 244 (.struct (zbJ Tryz.prog 244)) 8 80 [.int .u16 0, str [], .bool false, .bool false, str [], str [], .int .i64 0, .int .u8 0] := zbK Kr Kr
theorem zvr : TyF Tryz.prog 272 (.slice 245) 1 24 [.slice none 0 0] := zbK Kr Kr
theorem ztb : TyF Tryz.prog 245 (.func #[3] #[5] false) 1 8 [.nilFunc] := zbK Kr Kr
theorem ent207 : zaN Tryz.prog 207 := ⟨Tryz.f207, _, Tryz.func207, Kr, rfl⟩
theorem ent208 : zaN Tryz.prog 208 := ⟨Tryz.f208, _, Tryz.func208, Kr, rfl⟩
theorem zwX : zdL Tryz.prog 244 [(0, 8)] := ⟨zbJ Tryz.prog 244, Kr, fun w => Kr⟩
theorem zxd : zaN Tryz.prog 172 := ⟨Tryz.f172, _, Tryz.func172, Kr, rfl⟩
end Go.SK
namespace Go.SK
open Go Go.Proofs
open Go.RowKit
theorem zoT (c : Int) (w : World) : Ret Tryz.prog 138 #[.int .u8 c] w (fun v w' => v = .int .u8 (zbZ c) ∧ St w NoM [] [] w') := by
 refine zav (args := [.int .u8 c]) Tryz.func138 rfl rfl rfl ?_
 have hst := St.init w
 refine SR <| AC rfl <| NL <| SQ <| SR <| MC rfl <| NL <| zao <| SR <| CN <| zak rfl rfl <| AB rfl <| NL ?_
 refine zab rfl (fun g1 => ?_) (fun g1 => ?_)
 ·refine SR <| AC rfl <| NL <| zah Tryz.func138 rfl (TP (v := .int .u8 _) rfl) <| ⟨congrArg (Value.int .u8) (Eq.symm ?_), hst.pure⟩
  unfold zbZ
  rw [if_pos g1]
 refine SR <| CN <| zak rfl rfl <| AB rfl <| NL <| zab rfl (fun g2 => ?_) (fun g2 => ?_)
 ·refine SR <| AC rfl <| NL <| zah Tryz.func138 rfl (TP (v := .int .u8 _) rfl) <| ⟨congrArg (Value.int .u8) (Eq.symm ?_), hst.pure⟩
  unfold zbZ
  rw [if_neg g1, if_pos g2]
 refine SR <| CN <| zak rfl rfl <| AB rfl <| NL <| zab rfl (fun g3 => ?_) (fun g3 => ?_)
 ·refine SR <| AC rfl <| NL <| zah Tryz.func138 rfl (TP (v := .int .u8 _) rfl) <| ⟨congrArg (Value.int .u8) (Eq.symm ?_), hst.pure⟩
  unfold zbZ
  rw [if_neg g1, if_neg g2, if_pos g3]
 refine zaf <| zam <| SQ <| SR <| MC rfl <| CN <| Op1.call1 (v1 := .int .u8 _) zxc rfl rfl <| Ret.det (zlR _ _) hst fun w hst => CN <| zcN rfl rfl <| NL <| zab rfl (fun g4 => ?_) (fun g4 => ?_)
 ·refine SR <| AC rfl <| NL <| zah Tryz.func138 rfl (TP (v := .int .u8 _) rfl) <| ⟨congrArg (Value.int .u8) (Eq.symm ?_), hst.pure⟩
  unfold zbZ
  rw [if_neg g1, if_neg g2, if_neg g3, if_pos g4]
 refine zaf <| SR <| AC rfl <| NL <| zah Tryz.func138 rfl (TP (v := .int .u8 _) rfl) <| ⟨congrArg (Value.int .u8) (Eq.symm ?_), hst.pure⟩
 unfold zbZ
 rw [if_neg g1, if_neg g2, if_neg g3, if_neg g4]
theorem zsB (fm : FormL) (hf : FOk fm) (i : Int) (h0 : 0 ≤ i) (h1 : i ≤ 9223372036854775807) (w : World) : Ret Tryz.prog 207 #[.agg #[.int .u16 fm.op, str fm.name, .bool fm.ty, .bool fm.res, str fm.fixed, str fm.rest, .int .i64 fm.most, .int .u8 fm.part], .int .i64 i] w (fun v w' => v = .int .u8 (zsW fm i) ∧ St w NoM [] [] w') := by
 refine zav (args := [.agg #[.int .u16 fm.op, str fm.name, .bool fm.ty, .bool fm.res, str fm.fixed, str fm.rest, .int .i64 fm.most, .int .u8 fm.part], .int .i64 i]) Tryz.func207 rfl rfl rfl ?_
 have hst := St.init w
 obtain ⟨hop, hmost, hfx, hrs, _, _, hf0, hr0⟩ := hf
 refine SR <| CN <| zbi (v := zau _ _ _ _ _ _ _ _) hst rfl rfl fun w b2 hst => AC rfl <| NL <| SQ <| SR <| MI rfl <| CN <| zaS rfl rfl <| MB rfl <| zan (d := 7) rfl (fun g1 => ?_) (fun g1 => ?_)
 ·refine OM (t := 7) rfl (Vb (Dt g1)) rfl <| OM (t := 7) rfl (Vb (Dt g1)) rfl <| OM (t := 7) rfl (Vb (Dt g1)) rfl <| OM (t := 7) rfl (Vb (Dt g1)) rfl <| OM (t := 7) rfl (Vb (Dt g1)) rfl <| OM (t := 7) rfl (Vb (Dt g1)) rfl <| CN <| zap (u := .bool _) (Vb (Dt g1)) rfl <| NL <| zax (Vb (rfl : true = _)) <| SR <| AC rfl <| NL <| zah Tryz.func207 rfl (TP (v := .int .u8 _) rfl) <| ⟨congrArg (Value.int .u8) (Eq.symm ?_), hst.pure⟩
  unfold zsW
  first | exact if_pos (by omega) | exact if_neg (by omega)
 refine TK (t := 7) rfl (Vb (Df g1)) <| zad (v := .int .i64 _) rfl <| TK (t := 7) rfl (Vb (Df g1)) <| zaa zcR rfl <| TK (t := 7) rfl (Vb (Df g1)) <| zaa zdx rfl <| TK (t := 7) rfl (Vb (Df g1)) <| zae (v := str _) ty9 rfl rfl (hst.cellL Q0 rfl) <| TK (t := 7) rfl (Vb (Df g1)) <| zaL (rest := []) ty9 rfl <| TK (t := 7) rfl (Vb (Df g1)) <| zbo rfl rfl <| CN <| zaq (u := .bool _) (Vb (Df g1)) rfl <| NL <| zab rfl (fun g2 => ?_) (fun g2 => ?_)
 ·refine SR <| AC rfl <| NL <| zah Tryz.func207 rfl (TP (v := .int .u8 _) rfl) <| ⟨congrArg (Value.int .u8) (Eq.symm ?_), hst.pure⟩
  unfold zsW
  first | exact if_pos (by omega) | exact if_neg (by omega)
 refine zaf <| SR <| CN <| zaa zcR rfl <| CN <| zaa zdx rfl <| CN <| zae (v := str _) ty9 rfl rfl (hst.cellL Q0 rfl) <| MI rfl <| CN <| zaH ty9 rfl rfl Om Om <| AC rfl <| NL <| zah Tryz.func207 rfl (TP (v := .int .u8 _) rfl) <| ⟨congrArg (Value.int .u8) (Eq.symm ?_), hst.pure⟩
 unfold zsW
 first | exact if_pos (by omega) | exact if_neg (by omega)
theorem zuW (fm : FormL) (hf : FOk fm) (i : Int) (h0 : 0 ≤ i) (h1 : i ≤ 9223372036854775807) (w : World) : Ret Tryz.prog 208 #[.agg #[.int .u16 fm.op, str fm.name, .bool fm.ty, .bool fm.res, str fm.fixed, str fm.rest, .int .i64 fm.most, .int .u8 fm.part], .int .i64 i] w (fun v w' => v = .int .u8 (zgn fm i) ∧ St w NoM [] [] w') := by
 refine zav (args := [.agg #[.int .u16 fm.op, str fm.name, .bool fm.ty, .bool fm.res, str fm.fixed, str fm.rest, .int .i64 fm.most, .int .u8 fm.part], .int .i64 i]) Tryz.func208 rfl rfl rfl ?_
 have hst := St.init w
 obtain ⟨hop, hmost, hfx, hrs, _, _, hf0, hr0⟩ := hf
 refine SR <| CN <| zbi (v := zau _ _ _ _ _ _ _ _) hst rfl rfl fun w b2 hst => AC rfl <| NSR <| MI rfl <| CN <| zaa zcR rfl <| CN <| zaa zdx rfl <| CN <| zae (v := str _) ty9 rfl rfl (hst.cellL Q0 rfl) <| CN <| zaL (rest := []) ty9 rfl <| CN <| zbx rfl rfl rfl zbe <| AI rfl <| NL ?_
 refine SQ <| SR <| MI rfl <| CN <| zaS rfl rfl <| MB rfl <| zan (d := 13) rfl (fun g1 => ?_) (fun g1 => ?_)
 ·refine OM (t := 13) rfl (Vb (Dt g1)) rfl <| OM (t := 13) rfl (Vb (Dt g1)) rfl <| OM (t := 13) rfl (Vb (Dt g1)) rfl <| OM (t := 13) rfl (Vb (Dt g1)) rfl <| CN <| zap (u := .bool _) (Vb (Dt g1)) rfl <| MB rfl <| OM (t := 19) rfl (Vb (rfl : true = _)) rfl <| OM (t := 19) rfl (Vb (rfl : true = _)) rfl <| OM (t := 19) rfl (Vb (rfl : true = _)) rfl <| OM (t := 19) rfl (Vb (rfl : true = _)) rfl <| OM (t := 19) rfl (Vb (rfl : true = _)) rfl <| zaB (t := 24) rfl rfl <| zaB (t := 24) rfl rfl <| zaB (t := 24) rfl rfl <| zaB (t := 24) rfl rfl ?_
  refine zaB (t := 24) rfl rfl <| zaB (t := 24) rfl rfl <| zaB (t := 24) rfl rfl <| zaB (t := 24) rfl rfl <| zaB (t := 24) rfl rfl <| zaB (t := 24) rfl rfl <| OM (t := 19) rfl (Vb (rfl : true = _)) rfl <| CN <| zap (u := .bool _) (Vb (rfl : true = _)) rfl <| NL <| zax (Vb (rfl : true = _)) <| SR <| AC rfl <| NL <| zah Tryz.func208 rfl (TP (v := .int .u8 _) rfl) ?_
  refine ⟨congrArg (Value.int .u8) (Eq.symm ?_), hst.pure⟩
  unfold zgn
  first | exact if_pos (by first | omega | (simp_all <;> omega)) | exact if_neg (by first | omega | (simp_all <;> omega))
 refine TK (t := 13) rfl (Vb (Df g1)) <| zaa zcR rfl <| TK (t := 13) rfl (Vb (Df g1)) <| zaa zcu rfl <| TK (t := 13) rfl (Vb (Df g1)) <| zae (v := str _) ty9 rfl rfl (hst.cellL Q0 rfl) <| TK (t := 13) rfl (Vb (Df g1)) <| zbV rfl rfl <| CN <| zaq (u := .bool _) (Vb (Df g1)) rfl <| MB rfl <| zan (d := 19) rfl (fun g2 => ?_) (fun g2 => ?_)
 ·refine OM (t := 19) rfl (Vb (Dt g2)) rfl <| OM (t := 19) rfl (Vb (Dt g2)) rfl <| OM (t := 19) rfl (Vb (Dt g2)) rfl <| OM (t := 19) rfl (Vb (Dt g2)) rfl <| OM (t := 19) rfl (Vb (Dt g2)) rfl <| zaB (t := 24) rfl rfl <| zaB (t := 24) rfl rfl <| zaB (t := 24) rfl rfl <| zaB (t := 24) rfl rfl <| zaB (t := 24) rfl rfl <| zaB (t := 24) rfl rfl <| zaB (t := 24) rfl rfl <| zaB (t := 24) rfl rfl <| zaB (t := 24) rfl rfl <| zaB (t := 24) rfl rfl ?_
  refine OM (t := 19) rfl (Vb (Dt g2)) rfl <| CN <| zap (u := .bool _) (Vb (Dt g2)) rfl <| NL <| zaj [(1, .int .i64 _), (2, Pp _ _), (36, .bool _)] E3 fun f => zax (Vb (rfl : true = _)) <| SR <| AC rfl <| NL <| zah Tryz.func208 rfl (TP (v := .int .u8 _) rfl) <| ⟨congrArg (Value.int .u8) (Eq.symm ?_), hst.pure⟩
  unfold zgn
  first | exact if_pos (by first | omega | (simp_all <;> omega)) | exact if_neg (by first | omega | (simp_all <;> omega))
 refine TK (t := 19) rfl (Vb (Df g2)) <| zaa zcR rfl <| TK (t := 19) rfl (Vb (Df g2)) <| zaa zh6 rfl <| TK (t := 19) rfl (Vb (Df g2)) <| zae (v := .int .i64 _) ty3 rfl rfl (hst.cellL Q0 rfl) <| TK (t := 19) rfl (Vb (Df g2)) <| zbm rfl rfl <| TK (t := 19) rfl (Vb (Df g2)) <| zad (v := .bool _) rfl <| zan (d := 24) rfl (fun g3 => ?_) (fun g3 => ?_)
 ·refine TK (t := 24) rfl (Vb (Dt g3)) <| zad (v := .int .i64 _) rfl <| TK (t := 24) rfl (Vb (Dt g3)) <| zaa zcR rfl <| TK (t := 24) rfl (Vb (Dt g3)) <| zaa zh6 rfl <| TK (t := 24) rfl (Vb (Dt g3)) <| zae (v := .int .i64 _) ty3 rfl rfl (hst.cellL Q0 rfl) <| TK (t := 24) rfl (Vb (Dt g3)) <| zaa zcR rfl <| TK (t := 24) rfl (Vb (Dt g3)) <| zaa zcu rfl <| TK (t := 24) rfl (Vb (Dt g3)) <| zae (v := str _) ty9 rfl rfl (hst.cellL Q0 rfl) <| TK (t := 24) rfl (Vb (Dt g3)) (zaL (rest := []) ty9 rfl ?_)
  first | refine TK (t := 24) rfl (Vb (Dt g3)) (zbP rfl rfl rfl zbe ?_) | refine TK (t := 24) rfl (Vb (Dt g3)) (zrw rfl rfl Om Om Om Om (fun hm4 hm5 => ?_))
  refine TK (t := 24) rfl (Vb (Dt g3)) <| zbo rfl rfl <| TK (t := 19) rfl (Vb (Df g2)) <| zap (u := .bool _) (Vb (Dt g3)) rfl <| CN <| zaq (u := .bool _) (Vb (Df g2)) rfl <| NL <| zaj [(1, .int .i64 _), (2, Pp _ _), (36, .bool _)] E3 fun f => zab rfl (fun g6 => ?_) (fun g6 => ?_)
  ·refine SR <| AC rfl <| NL <| zah Tryz.func208 rfl (TP (v := .int .u8 _) rfl) <| ⟨congrArg (Value.int .u8) (Eq.symm ?_), hst.pure⟩
   unfold zgn
   first | exact if_pos (by first | omega | (simp_all <;> omega)) | exact if_neg (by first | omega | (simp_all <;> omega))
  have hrp : 0 < fm.rest.length := List.length_pos_iff.2 g2
  have hmd := Int.emod_lt_of_pos (i - (fm.fixed.length : Int)) (show (0 : Int) < fm.rest.length by omega)
  have hmn := Int.emod_nonneg (i - (fm.fixed.length : Int)) (show (fm.rest.length : Int) ≠ 0 by omega)
  refine zaf <| SQ <| RunD.start [] hst (bs := [0, 1, 3, 0, 0, 16, 48, 112, 248, 511, 1023]) (ds := [some 37, some 38, some 39, some 40, some 41, some 42, some 43, some 44, some 45, some 46, some 4]) ⟨Kr, Kr, Kr⟩ (fun tab7 => ?_)
  refine DO tab7 1 (fun f' L' w' hc=> zaa zcR (hc.old (v := Pp _ _) rfl rfl rfl) hc.z) <| DO tab7 2 (fun f' L' w' hc=> zaa zcu (hc.d 0 rfl rfl rfl rfl) hc.z) <| DO tab7 3 (fun f' L' w' hc=> zae (v := str _) ty9 rfl (hc.d 1 rfl rfl rfl rfl) (hc.st.cellL (List.mem_append_right _ Q0) rfl) hc.z) <| DO tab7 4 (fun f' L' w' hc=> zad (v := .int .i64 _) (hc.old rfl rfl rfl) hc.z) <| DO tab7 5 (fun f' L' w' hc=> zaa zcR (hc.old (v := Pp _ _) rfl rfl rfl) hc.z) <| DO tab7 6 (fun f' L' w' hc=> zaa zcu (hc.d 4 rfl rfl rfl rfl) hc.z) <| DO tab7 7 (fun f' L' w' hc=> zae (v := str _) ty9 rfl (hc.d 5 rfl rfl rfl rfl) (hc.st.cellL (List.mem_append_right _ Q0) rfl) hc.z) <| DO tab7 8 (fun _ _ _ hc => zaL (rest := []) ty9 (hc.d 6 rfl rfl rfl rfl) hc.z) ?_
  first | refine DO tab7 9 (fun f' L' w' hc=> zdW (hc.d 3 rfl rfl rfl rfl) (hc.d 7 rfl rfl rfl rfl) Om Om rfl hc.z) ?_ | refine DO tab7 9 (fun _ _ _ hc => zfd (hc.d 3 rfl rfl rfl rfl) (hc.d 7 rfl rfl rfl rfl) Om hc.z) ?_
  refine RunD.fin zaw tab7 hst rfl (fun f8 w R11 hs9 hd10 hr12 hst => ?_)
  obtain ⟨h37_, r0⟩ := hd10 0 37 rfl rfl
  obtain ⟨h38_, r1⟩ := hd10 1 38 rfl rfl
  obtain ⟨h39_, r2⟩ := hd10 2 39 rfl rfl
  obtain ⟨h40_, r3⟩ := hd10 3 40 rfl rfl
  obtain ⟨h41_, r4⟩ := hd10 4 41 rfl rfl
  obtain ⟨h42_, r5⟩ := hd10 5 42 rfl rfl
  obtain ⟨h43_, r6⟩ := hd10 6 43 rfl rfl
  obtain ⟨h44_, r7⟩ := hd10 7 44 rfl rfl
  obtain ⟨h45_, r8⟩ := hd10 8 45 rfl rfl
  simp only [rg9, Fc, Fn, Mc, Mn, r0, r1, r2, r3, r4, r5, r6, r7, r8, Na, An, Ca] at hst
  refine zaD (sl := [(39, str _), (45, .int .i64 _)]) ⟨h39_, h45_, trivial⟩ ?_
  clear hs9 hd10 hr12 tab7
  refine CN <| zaH ty9 rfl rfl Om Om <| AC rfl <| NL <| zah Tryz.func208 rfl (TP (v := .int .u8 _) rfl) <| ⟨congrArg (Value.int .u8) (Eq.symm ?_), hst.pure⟩
  unfold zgn
  first | exact if_pos (by first | omega | (simp_all <;> omega)) | exact if_neg (by first | omega | (simp_all <;> omega))
 refine OM (t := 24) rfl (Vb (Df g3)) rfl <| OM (t := 24) rfl (Vb (Df g3)) rfl <| OM (t := 24) rfl (Vb (Df g3)) rfl <| OM (t := 24) rfl (Vb (Df g3)) rfl <| OM (t := 24) rfl (Vb (Df g3)) rfl <| OM (t := 24) rfl (Vb (Df g3)) rfl <| OM (t := 24) rfl (Vb (Df g3)) rfl <| OM (t := 24) rfl (Vb (Df g3)) rfl <| OM (t := 24) rfl (Vb (Df g3)) rfl <| OM (t := 24) rfl (Vb (Df g3)) rfl <| TK (t := 19) rfl (Vb (Df g2)) <| zaq (u := .bool _) (Vb (Df g3)) rfl <| CN <| zaq (u := .bool _) (Vb (Df g2)) rfl <| NL <| zaj [(1, .int .i64 _), (2, Pp _ _), (36, .bool _)] E3 (fun f => ?_)
 have hrp : 0 < fm.rest.length := List.length_pos_iff.2 g2
 have hmd := Int.emod_lt_of_pos (i - (fm.fixed.length : Int)) (show (0 : Int) < fm.rest.length by omega)
 have hmn := Int.emod_nonneg (i - (fm.fixed.length : Int)) (show (fm.rest.length : Int) ≠ 0 by omega)
 refine zat (Vb (rfl : false = _)) <| zaf <| SQ <| RunD.start [] hst (bs := [0, 1, 3, 0, 0, 16, 48, 112, 248, 511, 1023]) (ds := [some 37, some 38, some 39, some 40, some 41, some 42, some 43, some 44, some 45, some 46, some 4]) ⟨Kr, Kr, Kr⟩ (fun tab13 => ?_)
 refine DO tab13 1 (fun f' L' w' hc=> zaa zcR (hc.old (v := Pp _ _) rfl rfl rfl) hc.z) <| DO tab13 2 (fun f' L' w' hc=> zaa zcu (hc.d 0 rfl rfl rfl rfl) hc.z) <| DO tab13 3 (fun f' L' w' hc=> zae (v := str _) ty9 rfl (hc.d 1 rfl rfl rfl rfl) (hc.st.cellL (List.mem_append_right _ Q0) rfl) hc.z) <| DO tab13 4 (fun f' L' w' hc=> zad (v := .int .i64 _) (hc.old rfl rfl rfl) hc.z) <| DO tab13 5 (fun f' L' w' hc=> zaa zcR (hc.old (v := Pp _ _) rfl rfl rfl) hc.z) <| DO tab13 6 (fun f' L' w' hc=> zaa zcu (hc.d 4 rfl rfl rfl rfl) hc.z) <| DO tab13 7 (fun f' L' w' hc=> zae (v := str _) ty9 rfl (hc.d 5 rfl rfl rfl rfl) (hc.st.cellL (List.mem_append_right _ Q0) rfl) hc.z) <| DO tab13 8 (fun _ _ _ hc => zaL (rest := []) ty9 (hc.d 6 rfl rfl rfl rfl) hc.z) ?_
 first | refine DO tab13 9 (fun f' L' w' hc=> zdW (hc.d 3 rfl rfl rfl rfl) (hc.d 7 rfl rfl rfl rfl) Om Om rfl hc.z) ?_ | refine DO tab13 9 (fun _ _ _ hc => zfd (hc.d 3 rfl rfl rfl rfl) (hc.d 7 rfl rfl rfl rfl) Om hc.z) ?_
 refine RunD.fin zaw tab13 hst rfl (fun f14 w R17 hs15 hd16 hr18 hst => ?_)
 obtain ⟨h37_, r0⟩ := hd16 0 37 rfl rfl
 obtain ⟨h38_, r1⟩ := hd16 1 38 rfl rfl
 obtain ⟨h39_, r2⟩ := hd16 2 39 rfl rfl
 obtain ⟨h40_, r3⟩ := hd16 3 40 rfl rfl
 obtain ⟨h41_, r4⟩ := hd16 4 41 rfl rfl
 obtain ⟨h42_, r5⟩ := hd16 5 42 rfl rfl
 obtain ⟨h43_, r6⟩ := hd16 6 43 rfl rfl
 obtain ⟨h44_, r7⟩ := hd16 7 44 rfl rfl
 obtain ⟨h45_, r8⟩ := hd16 8 45 rfl rfl
 simp only [rg9, Fc, Fn, Mc, Mn, r0, r1, r2, r3, r4, r5, r6, r7, r8, Na, An, Ca] at hst
 refine zaD (sl := [(39, str _), (45, .int .i64 _)]) ⟨h39_, h45_, trivial⟩ ?_
 clear hs15 hd16 hr18 tab13
 refine CN <| zaH ty9 rfl rfl Om Om <| AC rfl <| NL <| zah Tryz.func208 rfl (TP (v := .int .u8 _) rfl) <| ⟨congrArg (Value.int .u8) (Eq.symm ?_), hst.pure⟩
 unfold zgn
 first | exact if_pos (by first | omega | (simp_all <;> omega)) | exact if_neg (by first | omega | (simp_all <;> omega))
theorem zkG (fm : FormL) (hf : FOk fm) (i : Int) (h1 : i ≤ 9223372036854775807) (w : World) : Ret Tryz.prog 172 #[.agg #[.int .u16 fm.op, str fm.name, .bool fm.ty, .bool fm.res, str fm.fixed, str fm.rest, .int .i64 fm.most, .int .u8 fm.part], .int .i64 i] w (fun v w' => v = .int .u8 (zaP fm i) ∧ St w NoM [] [] w') := by
 refine zav (args := [.agg #[.int .u16 fm.op, str fm.name, .bool fm.ty, .bool fm.res, str fm.fixed, str fm.rest, .int .i64 fm.most, .int .u8 fm.part], .int .i64 i]) Tryz.func172 rfl rfl rfl ?_
 have hst := St.init w
 refine SR <| CN <| zbi (v := zau _ _ _ _ _ _ _ _) hst rfl rfl fun w b2 hst => AC rfl <| NL <| SQ <| SR <| MI rfl <| CN <| zaS rfl rfl <| NL <| zab rfl (fun g1 => ?_) (fun g1 => ?_)
 ·refine SR <| AC rfl <| NL <| zah Tryz.func172 rfl (TP (v := .int .u8 _) rfl) <| ⟨congrArg (Value.int .u8) (Eq.symm ?_), hst.pure⟩
  unfold zaP
  exact if_pos (by omega)
 refine zaf <| SQ <| SR <| CN <| zar (vs := zaC _ _ _ _ _ _ _ _) zpe rfl rfl rfl (zac (n := 8) (hst.objL Q0) _ rfl) <| CN <| zce <| CN <| zar (vs := zaC _ _ _ _ _ _ _ _) zpe rfl rfl rfl (zac (n := 8) (hst.objL Q0) _ rfl) <| CN <| zce <| CN (zaE (z0 := [.nilFunc, .nilFunc]) hst zvr ztb rfl rfl Kr (.c (v := .func _ _ _) rfl (h := (.c (v := .func _ _ _) rfl (h := .nil)))) fun w b14 hst => ?_)
 refine CN <| zaQ (rest := []) zvr rfl <| MI rfl <| NL <| zao <| zaV <| SR <| CN <| zaS rfl rfl <| NL <| SQ <| zax (Vb (Dt De)) <| zaf <| SQ <| zao <| SQ ?_
 refine RG <| CN <| za5 zvr ztb rfl rfl Om Om <| CN <| zae (v := .func _ _ _) ztb rfl rfl (hst.cellL Q0 rfl) <| CN <| Op1.assign (v := .func _ _ _) rfl <| NSR <| CN <| zad (v := .func _ _ _) rfl <| MI rfl <| CN (zdM (v1 := .int .i64 _) rfl rfl (zdN ent207 ((zsB fm hf i Om h1 _).mono fun v w hp => ?_)))
 obtain ⟨rfl, hp⟩ := hp
 replace hst := hst.keepc hp
 clear hp
 refine AC rfl <| NL <| zaj [(1, .int .i64 _), (7, .int .u8 _), (14, .slice _ _ _), (15, .int .i64 _), (16, .int .i64 _)] E5 fun f => SR <| MC rfl <| CN <| zaW rfl rfl <| NL <| zab rfl (fun g2 => ?_) (fun g2 => ?_)
 ·refine SR <| MC rfl <| AC rfl <| NL <| zah Tryz.func172 rfl (TP (v := .int .u8 _) rfl) ?_
  exact ⟨congrArg (Value.int .u8) (zsa hf Om g2).symm, hst.pure⟩
 refine zaf <| zam <| RG <| CN <| zas rfl rfl rfl zbe <| MI rfl <| NL <| zay <| SR <| CN <| zaS rfl rfl <| NL <| SQ <| zax (Vb (Dt De)) <| zaf <| SQ ?_
 refine zao <| SR <| CN <| za5 zvr ztb rfl rfl Om Om <| CN <| zae (v := .func _ _ _) ztb rfl rfl (hst.cellL Q0 rfl) <| CN <| Op1.assign (v := .func _ _ _) rfl <| NSR <| CN <| zad (v := .func _ _ _) rfl <| MI rfl <| CN (zdM (v1 := .int .i64 _) rfl rfl (zdN ent208 ((zuW fm hf i Om h1 _).mono fun v w hp => ?_)))
 obtain ⟨rfl, hp⟩ := hp
 replace hst := hst.keepc hp
 clear hp
 refine AC rfl <| NSR <| MC rfl <| CN <| zaW rfl rfl <| NL <| zab rfl (fun g3 => ?_) (fun g3 => ?_)
 ·refine SR <| MC rfl <| AC rfl <| NL <| zah Tryz.func172 rfl (TP (v := .int .u8 _) rfl) ?_
  rw [zkf hf (by omega) (Nn g2)]
  exact ⟨rfl, hst.pure⟩
 refine zaf <| zam <| RG <| CN <| zas rfl rfl rfl zbe <| MI rfl <| NL <| zay <| SR <| CN <| zaS rfl rfl <| NL <| SQ <| zat (Vb (Df De)) <| zaJ (id := 0) rfl <| SQ ?_
 refine RG <| AC rfl <| NL <| zah Tryz.func172 rfl (TP (v := .int .u8 _) rfl) ?_
 rw [zkf hf (by omega) (Nn g2)]
 exact ⟨congrArg (Value.int .u8) (Nn g3).symm, hst.pure⟩
theorem zhz (op : Int) (h0 : 0 ≤ op) (i : Int) (h1 : i ≤ 9223372036854775807) (w : World) : Ret Tryz.prog 131 #[.int .u16 op, .int .i64 i] w (fun v w' => v = .int .u8 (zaP (zbq op) i) ∧ St w NoM [] [] w') := by
 refine zav (args := [.int .u16 op, .int .i64 i]) Tryz.func131 rfl rfl rfl ?_
 have hst := St.init w
 refine SR <| AC rfl <| NSR <| MH rfl <| CN <| Op1.call1 (v1 := .int .u16 _) zue rfl rfl <| Ret.det (zqh _ Om _) hst fun w hst => CN <| zad (v := .tuple #[zau _ _ _ _ _ _ _ _, .bool _]) rfl <| CN <| Ex (zau _ _ _ _ _ _ _ _) rfl rfl <| CN <| Ex (.bool _) rfl rfl <| CN <| Op1.alloc hst zaM fun w b5 hst => CN (SO (v := zau _ _ _ _ _ _ _ _) hst zaM rfl rfl .u0 fun w hst => ?_)
 refine AB rfl <| NSR <| CN <| zar (vs := zaC _ _ _ _ _ _ _ _) zaM rfl rfl rfl (zac (n := 8) (hst.objL Q0) _ rfl) <| CN (zag zpe zwX (.c (v := zau _ _ _ _ _ _ _ _) rfl (h := .nil)) ?_)
 refine MI rfl <| CN <| zaz (v1 := zau _ _ _ _ _ _ _ _) (v2 := .int .i64 _) zxd rfl rfl rfl <| Ret.det (zkG (zbq op) (zeg op) i h1 _) hst fun w hst => AC rfl <| NL <| zah Tryz.func131 rfl (TP (v := .int .u8 _) rfl) ?_
 exact ⟨rfl, hst.pure⟩
end Go.SK
namespace Go.SK
open Go Go.Proofs
open Go.RowKit
theorem zmY {op : Int} {fm : FormL} {ob : Bool} (h0 : 0 ≤ op) (hfm : zbq op = fm) (hob : (zbv op).isSome = ob) (w : World) : Ret Tryz.prog 75 #[.int .u16 op] w fun v w' => v = .tuple #[.agg (zh4 fm).toArray, .bool ob] ∧ St w NoM [] [] w' := by
 subst hfm; subst hob; exact zqh op h0 w
theorem zlT {c n : Int} {o : Option NameL} (h : namesL.find? (enN c n) = o) (h0 : 0 ≤ c) (h1 : c ≤ 255) (w : World) : Ret Tryz.prog 152 #[.int .u8 c, .int .u32 n] w fun v w' => v = zvS o ∧ St w NoM [] [] w' := by
 subst h; exact zuX c n h0 h1 w
end Go.SK
namespace Go.SK
open Go Go.Proofs
theorem zxh : zaN Tryz.prog 138 := ⟨Tryz.f138, _, Tryz.func138, Kr, rfl⟩
end Go.SK
namespace Go.SK
open Go Go.Proofs
open Go.RowKit
theorem zoU (op : Int) (h0 : 0 ≤ op) (ks : List Int) (ao : Option Addr) (cp : Nat) (w : World) (hA : (Res.rs ao ks.length 1 (ks.flatMap u8C)).holds w) (hlen : ks.length ≤ 9000000000000000000) : Ret Tryz.prog 133 #[.int .u16 op, .slice ao ks.length cp] w (fun v w' => v = zh8 (zej op ks) ∧ St w NoM [] [] w') := by
 refine zav (args := [.int .u16 op, .slice ao ks.length cp]) Tryz.func133 rfl rfl rfl ?_
 have hst : St w NoM [] [Res.rs ao ks.length 1 (ks.flatMap u8C)] w := St.init_D hA
 clear hA
 obtain ⟨fm, hfm⟩ : ∃ x, zbq op = x := ⟨_, rfl⟩
 obtain ⟨ob, hob⟩ : ∃ x, (zbv op).isSome = x := ⟨_, rfl⟩
 have hf := zeg op
 rw [hfm] at hf
 have hz : ob = false → fm = zeroF := fun e => by subst e; rw [← hfm]; exact zj0 hob
 obtain ⟨hop, hmost, hfx, hrs, _, _, _, _⟩ := hf
 refine SR <| AI rfl <| AB rfl <| NSR <| MH rfl <| CN <| Op1.call1 (v1 := .int .u16 _) zue rfl rfl <| Ret.det (zmY Om hfm hob _) hst fun w hst => CN <| zad (v := .tuple #[zau _ _ _ _ _ _ _ _, .bool _]) rfl <| CN <| Ex (zau _ _ _ _ _ _ _ _) rfl rfl <| CN <| Ex (.bool _) rfl rfl <| CN <| Op1.alloc hst zaM fun w b6 hst => CN (SO (v := zau _ _ _ _ _ _ _ _) hst zaM rfl rfl .u0 fun w hst => ?_)
 refine AB rfl <| NL <| SQ <| SR <| MB rfl <| CN <| zaZ rfl <| NL <| zaA rfl (fun g1 => ?_) (fun g1 => ?_)
 ·refine SR <| AI rfl <| AB rfl <| NL <| zai Tryz.func133 rfl (TP (v := .int .i64 _) rfl) (TP (v := .bool _) rfl) ?_
  exact ⟨(congrArg zh8 (zt2 hob (by simpa using g1))).symm, hst.pure⟩
 refine zaf <| SR <| CN <| zar (vs := zaC _ _ _ _ _ _ _ _) zaM rfl rfl rfl (zac (n := 8) (hst.objL Q0) _ rfl) <| CN (zag zpe zwX (.c (v := zau _ _ _ _ _ _ _ _) rfl (h := .nil)) ?_)
 refine CN <| Op1.alloc hst zpe fun w b8 hst => CN (SO (v := zau _ _ _ _ _ _ _ _) hst zpe rfl rfl .u0 fun w hst => ?_)
 refine NL <| SQ <| SR <| ML rfl <| CN <| zaQ (rest := []) zcr rfl <| MI rfl <| NL <| zao <| zaV <| zaU [(1, .slice _ _ _), (8, Pp _ _), (21, .slice _ _ _), (22, .int .i64 _)] E4 (fun (i : Nat) => [(23, .int .i64 (i : Int))]) (fun (i : Nat) => []) (fun (i : Nat) => i ≤ ks.length ∧ zjw fm i (ks.drop i) = zjw fm 0 ks) (fun (i : Nat) => ks.length - i) (0) hst ⟨Nat.zero_le _, rfl⟩ ⟨rfl, trivial⟩ ?_
 intro i f w hst hJ ih2
 refine SR <| CN <| zaS rfl rfl <| NL <| SQ <| zab rfl (fun g3 => ?_) (fun g3 => ?_)
 ·refine zaf <| SQ <| zao <| SR <| MI rfl ?_
  obtain ⟨bs4, os5, rfl⟩ := Res.rs_some (hst.hD _ Q0) Om
  refine CN <| za5 zcr ty5 rfl rfl Om Om <| CN <| zae (v := .int .u8 _) ty5 rfl rfl (Res.rs_cell (hst.hD _ Q0) (zcq (g := u8C) (d := 0) zta rfl Om)) <| AI rfl <| AC rfl <| NSR <| MC rfl <| CN <| zak rfl rfl <| MB rfl <| zan (d := 30) rfl (fun g6 => ?_) (fun g6 => ?_)
  ·refine OM (t := 30) rfl (Vb (Dt g6)) rfl <| OM (t := 30) rfl (Vb (Dt g6)) rfl <| OM (t := 30) rfl (Vb (Dt g6)) rfl <| OM (t := 30) rfl (Vb (Dt g6)) rfl <| OM (t := 30) rfl (Vb (Dt g6)) rfl <| OM (t := 30) rfl (Vb (Dt g6)) rfl <| CN <| zap (u := .bool _) (Vb (Dt g6)) rfl <| NL <| zax (Vb (rfl : true = _)) <| SR <| MI rfl <| AI rfl <| AB rfl <| NL ?_
   refine zai Tryz.func133 rfl (TP (v := .int .i64 _) rfl) (TP (v := .bool _) rfl) ?_
   exact ⟨(congrArg zh8 ((zde hob hfm (by simpa using g1)).trans (zib (ziO hJ.2 (by omega) (.inl g6))))).symm, hst.pure⟩
  refine TK (t := 30) rfl (Vb (Df g6)) <| zar (vs := zaC _ _ _ _ _ _ _ _) zpe rfl rfl rfl (zac (n := 8) (hst.objL Q0) _ rfl) <| TK (t := 30) rfl (Vb (Df g6)) <| zad (v := .int .i64 _) rfl <| TK (t := 30) rfl (Vb (Df g6)) (zaz (v1 := zau _ _ _ _ _ _ _ _) (v2 := .int .i64 _) zxd rfl rfl rfl ((zkG fm (by rw [← hfm]; exact zeg op) _ (by omega) _).mono fun v w hp => ?_))
  obtain ⟨rfl, hp⟩ := hp
  replace hst := hst.keepc hp
  clear hp
  refine TK (t := 30) rfl (Vb (Df g6)) (Op1.call1 (v1 := .int .u8 _) zxh rfl rfl ((zoT _ _).mono fun v w hp => ?_))
  obtain ⟨rfl, hp⟩ := hp
  replace hst := hst.keepc hp
  clear hp
  refine TK (t := 30) rfl (Vb (Df g6)) <| zad (v := .int .u8 _) rfl <| TK (t := 30) rfl (Vb (Df g6)) <| zaW rfl rfl <| CN <| zaq (u := .bool _) (Vb (Df g6)) rfl <| NL <| zab rfl (fun g7 => ?_) (fun g7 => ?_)
  ·refine SR <| MI rfl <| AI rfl <| AB rfl <| NL <| zai Tryz.func133 rfl (TP (v := .int .i64 _) rfl) (TP (v := .bool _) rfl) ?_
   exact ⟨(congrArg zh8 ((zde hob hfm (by simpa using g1)).trans (zib (ziO hJ.2 (by omega) (.inr g7))))).symm, hst.pure⟩
  refine zaf <| zam <| RG <| CN <| zas rfl rfl rfl zbe <| MI rfl <| NL <| zay ?_
  exact ih2 (i + 1) _ w Om hst (⟨by omega, zmL hJ.2 Om (fun h => h.elim g6 g7)⟩) E4 ⟨(Vi Om), trivial⟩
 refine zaJ (id := 0) rfl <| SR <| ML rfl <| CN <| zaQ (rest := []) zcr rfl <| CN <| zaa zcR rfl <| CN <| zaa zdx rfl <| CN <| zae (v := str _) ty9 rfl rfl (hst.cellL Q0 rfl) <| CN <| zaL (rest := []) ty9 rfl <| CN <| zbx rfl rfl rfl zbe <| AI rfl <| NL <| SQ <| SQ <| RG ?_
 refine MI rfl <| CN <| zaS rfl rfl <| MB rfl <| zan (d := 49) rfl (fun g8 => ?_) (fun g8 => ?_)
 ·refine OM (t := 49) rfl (Vb (Dt g8)) rfl <| OM (t := 49) rfl (Vb (Dt g8)) rfl <| OM (t := 49) rfl (Vb (Dt g8)) rfl <| OM (t := 49) rfl (Vb (Dt g8)) rfl <| OM (t := 49) rfl (Vb (Dt g8)) rfl <| zaB (t := 54) rfl rfl <| zaB (t := 54) rfl rfl <| zaB (t := 54) rfl rfl <| zaB (t := 54) rfl rfl <| zaB (t := 54) rfl rfl <| zaB (t := 54) rfl rfl <| zaB (t := 54) rfl rfl <| OM (t := 49) rfl (Vb (Dt g8)) rfl <| CN <| zap (u := .bool _) (Vb (Dt g8)) rfl <| NL ?_
  refine zax (Vb (rfl : true = _)) <| SR <| ML rfl <| CN <| zaQ (rest := []) zcr rfl <| AI rfl <| AB rfl <| NL <| zai Tryz.func133 rfl (TP (v := .int .i64 _) rfl) (TP (v := .bool _) rfl) ?_
  exact ⟨(congrArg zh8 ((zde hob hfm (by simpa using g1)).trans (zia (zkw hJ.2 (by omega)) (by simp only [zlt]; exact .inl (by omega))))).symm, hst.pure⟩
 refine TK (t := 49) rfl (Vb (Df g8)) <| zaa zcR rfl <| TK (t := 49) rfl (Vb (Df g8)) <| zaa zcu rfl <| TK (t := 49) rfl (Vb (Df g8)) <| zae (v := str _) ty9 rfl rfl (hst.cellL Q0 rfl) <| TK (t := 49) rfl (Vb (Df g8)) <| zcN rfl rfl <| TK (t := 49) rfl (Vb (Df g8)) <| zad (v := .bool _) rfl <| zan (d := 54) rfl (fun g9 => ?_) (fun g9 => ?_)
 ·have hrp : 0 < fm.rest.length := List.length_pos_iff.2 g9
  refine TK (t := 54) rfl (Vb (Dt g9)) <| zad (v := .int .i64 _) rfl <| TK (t := 54) rfl (Vb (Dt g9)) <| zaa zcR rfl <| TK (t := 54) rfl (Vb (Dt g9)) <| zaa zcu rfl <| TK (t := 54) rfl (Vb (Dt g9)) <| zae (v := str _) ty9 rfl rfl (hst.cellL Q0 rfl) <| TK (t := 54) rfl (Vb (Dt g9)) (zaL (rest := []) ty9 rfl ?_)
  first | refine TK (t := 54) rfl (Vb (Dt g9)) (zdW rfl rfl Om Om rfl ?_) | refine TK (t := 54) rfl (Vb (Dt g9)) (zfd rfl rfl Om ?_)
  refine TK (t := 54) rfl (Vb (Dt g9)) <| zaW rfl rfl <| TK (t := 49) rfl (Vb (Df g8)) <| zap (u := .bool _) (Vb (Dt g9)) rfl <| CN <| zaq (u := .bool _) (Vb (Df g8)) rfl <| NL <| zaj [(1, .slice _ _ _), (63, .bool _)] E2 fun f => zab rfl (fun g10 => ?_) (fun g10 => ?_)
  ·refine SR <| ML rfl <| CN <| zaQ (rest := []) zcr rfl <| AI rfl <| AB rfl <| NL <| zai Tryz.func133 rfl (TP (v := .int .i64 _) rfl) (TP (v := .bool _) rfl) ?_
   exact ⟨(congrArg zh8 ((zde hob hfm (by simpa using g1)).trans (zia (zkw hJ.2 (by omega)) (by simp only [zlt]; exact .inr ⟨g9, g10⟩)))).symm, hst.pure⟩
  refine zaf <| SR <| AI rfl <| AB rfl <| NL <| zai Tryz.func133 rfl (TP (v := .int .i64 _) rfl) (TP (v := .bool _) rfl) ?_
  exact ⟨(congrArg zh8 ((zde hob hfm (by simpa using g1)).trans (zh9 (zkw hJ.2 (by omega)) (by simp only [zlt]; exact fun h => h.elim (by omega) (fun h => g10 h.2))))).symm, hst.pure⟩
 refine OM (t := 54) rfl (Vb (Df g9)) rfl <| OM (t := 54) rfl (Vb (Df g9)) rfl <| OM (t := 54) rfl (Vb (Df g9)) rfl <| OM (t := 54) rfl (Vb (Df g9)) rfl <| OM (t := 54) rfl (Vb (Df g9)) rfl <| OM (t := 54) rfl (Vb (Df g9)) rfl <| OM (t := 54) rfl (Vb (Df g9)) rfl <| TK (t := 49) rfl (Vb (Df g8)) <| zaq (u := .bool _) (Vb (Df g9)) rfl <| CN <| zaq (u := .bool _) (Vb (Df g8)) rfl <| NL <| zaj [(1, .slice _ _ _), (63, .bool _)] E2 fun f => zat (Vb (rfl : false = _)) <| zaf <| SQ <| RG ?_
 refine AI rfl <| AB rfl <| NL <| zai Tryz.func133 rfl (TP (v := .int .i64 _) rfl) (TP (v := .bool _) rfl) ?_
 exact ⟨(congrArg zh8 ((zde hob hfm (by simpa using g1)).trans (zh9 (zkw hJ.2 (by omega)) (by simp only [zlt]; exact fun h => h.elim (by omega) (fun h => g9 h.1))))).symm, hst.pure⟩
end Go.SK
namespace Go.SK
open Go Go.Proofs
theorem za9 : TyF Tryz.prog 110 (.struct (zbJ Tryz.prog 110)) 3 24 [.int .u8 0, .int .u32 0, str []] := zbK Kr Kr
theorem zcW : zdL Tryz.prog 110 [(0, 1), (1, 1), (2, 1)] := ⟨zbJ Tryz.prog 110, Kr, fun w => Kr⟩
end Go.SK
namespace Go.SK
open Go Go.Proofs
open Go.RowKit
theorem CallV.mono {P : Program} {fv : Value} {args : List Value} {w : World} {C C' : Value → World → Prop} (h : CallV P fv args w C) (hc : ∀ v w, C v w → C' v w) : CallV P fv args w C' := Inv.mono h hc
end Go.SK
namespace Go.SK
open Go Go.Proofs
theorem ze7 : TyF Tryz.prog 60 (.slice 22) 1 24 [.slice none 0 0] := zbK Kr Kr
end Go.SK
namespace Go.SK
open Go Go.Proofs
open Go.RowKit
theorem zky (s : List UInt8) (w : World) (hl : s.length ≤ 9000000000000000000) : Ret Tryz.prog 183 #[str s] w (fun v w' => v = .int .i64 ((s.length / 4 + 1 : Nat) : Int) ∧ St w NoM [] [] w') := by
 refine zav (args := [str s]) Tryz.func183 rfl rfl rfl ?_
 have hst := St.init w
 refine SR <| AI rfl <| NSR <| MS rfl <| CN (zaL (rest := []) ty9 rfl ?_)
 first | refine CN (zf5 rfl rfl Om Om rfl zbe ?_) | refine CN (zhA rfl rfl Om ?_)
 refine CN <| zas rfl rfl rfl zbe <| AI rfl <| NL <| zah Tryz.func183 rfl (TP (v := .int .i64 _) rfl) ?_
 exact ⟨Vi Om, hst.pure⟩
end Go.SK
namespace Go.SK
open Go Go.Proofs
theorem zuj : zaN Tryz.prog 183 := ⟨Tryz.f183, _, Tryz.func183, Kr, rfl⟩
end Go.SK
namespace Go.SK
open Go Go.Proofs
open Go.RowKit
theorem zpT (s : List UInt8) (w : World) (hl : s.length ≤ 100000000000000) : Ret Tryz.prog 182 #[str s] w (fun v w' => ∃ ro rc, v = .tuple #[.slice ro (zby s).length rc, .int .i64 (zds s)] ∧ St w NoM [Res.sl ro (zby s).length rc 22 1 ((zby s).flatMap zdE)] [] w') := by
 refine zav (args := [str s]) Tryz.func182 rfl rfl rfl ?_
 have hst := St.init w
 refine SR <| AL rfl <| AI rfl <| NL <| SQ <| SR <| MS rfl <| CN <| zaL (rest := []) ty9 rfl <| MI rfl <| NL <| zao <| zaV <| zaU [(0, str _), (8, .int .i64 _)] E2 (fun (i : Nat) => [(9, .int .i64 (i : Int))]) (fun (i : Nat) => []) (fun (i : Nat) => i ≤ s.length ∧ ∀ r, r < i → s.getD r 0 ≠ 0) (fun (i : Nat) => s.length - i) (0) hst ⟨Nat.zero_le _, fun r hr => absurd hr Om⟩ ⟨rfl, trivial⟩ ?_
 intro i f w hst hJ ih1
 refine SR <| CN <| zaS rfl rfl <| NL <| SQ <| zab rfl (fun g2 => ?_) (fun g2 => ?_)
 ·refine zaf <| SQ <| zao <| SR <| MI rfl <| AI rfl <| NSR <| MS rfl <| MI rfl <| CN <| zaH ty9 rfl rfl Om Om <| CN <| zak rfl rfl <| NL ?_
  refine zab rfl (fun g3 => ?_) (fun g3 => ?_)
  ·refine SR <| AL rfl <| AI rfl <| NL <| zai Tryz.func182 rfl (TP (v := .slice _ _ _) rfl) (TP (v := .int .i64 _) rfl) ?_
   replace hst := hst.pick .nil
   have he := ziY Om g3 hJ.2
   rw [zdF (by rw [he]; decide), he]
   exact ⟨none, 0, rfl, (hst.pushNil 22 1).noD⟩
  refine zaf <| zam <| RG <| CN <| zas rfl rfl rfl zbe <| MI rfl <| NL <| zay ?_
  exact ih1 (i + 1) _ w Om hst (⟨by omega, ztG hJ.2 (zgc g3)⟩) E2 ⟨(Vi Om), trivial⟩
 refine zaJ (id := 0) rfl <| SQ <| SR <| MS rfl <| CN <| Op1.call1 (v1 := str _) zuj rfl rfl <| Ret.det (zky s _ Om) hst fun w hst => CN <| zbm rfl rfl <| NL <| zab rfl (fun g4 => ?_) (fun g4 => ?_)
 ·refine SR <| AL rfl <| AI rfl <| NL <| zai Tryz.func182 rfl (TP (v := .slice _ _ _) rfl) (TP (v := .int .i64 _) rfl) ?_
  replace hst := hst.pick .nil
  have he := zhZ (s := s) (fun r hr => hJ.2 r Om) Om
  rw [zdF (by rw [he]; decide), he]
  exact ⟨none, 0, rfl, (hst.pushNil 22 1).noD⟩
 refine zaf <| SR <| MS rfl <| CN <| Op1.call1 (v1 := str _) zuj rfl rfl <| Ret.det (zky s _ Om) hst fun w hst => CN (zeP (k := s.length / 4 + 1) hst ze7 zbt rfl rfl rfl De Om Om fun w bC hst => ?_)
 rw [zt4] at hst
 refine AL rfl <| NL <| SQ <| SR <| MS rfl <| CN <| zaL (rest := []) ty9 rfl <| MI rfl <| NL <| zao <| zaV <| zaU [(0, str _), (5, .slice _ _ _), (24, .int .i64 _)] E3 (fun (i : Nat) => [(25, .int .i64 (i : Int))]) (fun (i : Nat) => [Res.sl (some ⟨bC, 0, none⟩) (s.length / 4 + 1) (s.length / 4 + 1) 22 1 ((zcF (zd6 s i)).flatMap zdE)]) (fun (i : Nat) => i ≤ s.length) (fun (i : Nat) => s.length - i) (0) hst (Nat.zero_le _) ⟨rfl, trivial⟩ ?_
 intro i f w hst hK ih5
 have hLl := zgt (s := s) (i := i) hK
 refine SR <| CN <| zaS rfl rfl <| NL <| SQ <| zab rfl (fun g6 => ?_) (fun g6 => ?_)
 ·have hlow := zwa (s := s) (i := i) Om
  refine zaf <| SQ <| zao <| SR <| MI rfl <| AI rfl <| NL <| RunD.start [] hst (bs := [0, 0, 2, 7, 15, 0, 0, 96, 224, 0, 512, 1536, 4064, 8191, 16383, 32767]) (ds := [some 28, some 29, some 30, some 31, some 32, some 33, some 34, some 35, some 36, some 37, some 38, some 39, some 40, some 41, some 42, none]) ⟨Kr, Kr, Kr⟩ (fun tab7 => ?_)
  refine DO tab7 1 (fun f' L' w' hc=> zad (v := .slice _ _ _) (hc.old rfl rfl rfl) hc.z) <| DO tab7 2 (fun _ _ _ hc => zad (v := .int .i64 _) (hc.old rfl rfl rfl) hc.z) ?_
  first | refine DO tab7 3 (fun f' L' w' hc=> zf5 (hc.d 1 rfl rfl rfl rfl) rfl Om Om rfl zbe hc.z) ?_ | refine DO tab7 3 (fun _ _ _ hc => zhA (hc.d 1 rfl rfl rfl rfl) rfl Om hc.z) ?_
  refine DO tab7 4 (fun f' L' w' hc=> za5 ze7 zbt (hc.d 0 rfl rfl rfl rfl) (hc.d 2 rfl rfl rfl rfl) Om Om hc.z) <| DO tab7 5 (fun f' L' w' hc=> zae (v := .int .u32 _) zbt rfl (hc.d 3 rfl rfl rfl rfl) (Res.sl_cell (hc.st.hL _ (List.mem_append_right _ Q0)) (zcq (g := zdE) (d := 0) zjd rfl Om)) hc.z) <| DO tab7 6 (fun f' L' w' hc=> zad (v := str _) (hc.old rfl rfl rfl) hc.z) <| DO tab7 7 (fun f' L' w' hc=> zad (v := .int .i64 _) (hc.old rfl rfl rfl) hc.z) <| DO tab7 8 (fun _ _ _ hc => zaH ty9 (hc.d 5 rfl rfl rfl rfl) (hc.d 6 rfl rfl rfl rfl) Om Om hc.z) ?_
  first | refine DO tab7 9 (fun f' L' w' hc=> zaY ty5 zbt (hc.d 7 rfl rfl rfl rfl) zkM hc.z) ?_ | refine DO tab7 9 (fun f' L' w' hc=> zaY ty5 zbt (hc.d 7 rfl rfl rfl rfl) (zgf _) hc.z) ?_ | refine DO tab7 9 (fun _ _ _ hc => za8 ty5 zbt (hc.d 7 rfl rfl rfl rfl) hc.z) ?_
  refine DO tab7 10 (fun _ _ _ hc => zad (v := .int .i64 _) (hc.old rfl rfl rfl) hc.z) ?_
  first | refine DO tab7 11 (fun f' L' w' hc=> zdW (hc.d 9 rfl rfl rfl rfl) rfl Om Om rfl hc.z) ?_ | refine DO tab7 11 (fun _ _ _ hc => zfd (hc.d 9 rfl rfl rfl rfl) rfl Om hc.z) ?_
  refine DO tab7 12 (fun f' L' w' hc=> zbP rfl (hc.d 10 rfl rfl rfl rfl) rfl zbe hc.z) <| DO tab7 13 (fun _ _ _ hc => zrv (c := ((s.getD i 0).toNat : Int) * 256 ^ (i % 4)) (hc.d 8 rfl rfl rfl rfl) (hc.d 11 rfl rfl rfl rfl) Om (by show _ ≤ 32; omega) (zvF (s.getD i 0) i) hc.z) <| RunD.fin zaw tab7 hst rfl (fun f8 w R11 hs9 hd10 hr12 hst => ?_)
  obtain ⟨h28_, r0⟩ := hd10 0 28 rfl rfl
  obtain ⟨h29_, r1⟩ := hd10 1 29 rfl rfl
  obtain ⟨h30_, r2⟩ := hd10 2 30 rfl rfl
  obtain ⟨h31_, r3⟩ := hd10 3 31 rfl rfl
  obtain ⟨h32_, r4⟩ := hd10 4 32 rfl rfl
  obtain ⟨h33_, r5⟩ := hd10 5 33 rfl rfl
  obtain ⟨h34_, r6⟩ := hd10 6 34 rfl rfl
  obtain ⟨h35_, r7⟩ := hd10 7 35 rfl rfl
  obtain ⟨h36_, r8⟩ := hd10 8 36 rfl rfl
  obtain ⟨h37_, r9⟩ := hd10 9 37 rfl rfl
  obtain ⟨h38_, r10⟩ := hd10 10 38 rfl rfl
  obtain ⟨h39_, r11⟩ := hd10 11 39 rfl rfl
  obtain ⟨h40_, r12⟩ := hd10 12 40 rfl rfl
  simp only [rg13, Fc, Fn, Mc, Mn, r0, r1, r2, r3, r4, r5, r6, r7, r8, r9, r10, r11, r12, Na, An, Ca] at hst
  refine zaD (sl := [(0, str _), (5, .slice _ _ _), (24, .int .i64 _), (25, .int .i64 _), (28, .slice _ _ _), (30, .int .i64 _), (32, .int .u32 _), (40, .int .u32 _)]) ⟨(hs9 0 rfl).trans rfl, (hs9 5 rfl).trans rfl, (hs9 24 rfl).trans rfl, (hs9 25 rfl).trans rfl, h28_, h30_, h32_, h40_, trivial⟩ ?_
  clear hs9 hd10 hr12 tab7
  refine CN <| zsR (a := (zcF (zd6 s i)).getD (i / 4) 0) (m := 8 * (i % 4)) (q := ((s.getD i 0).toNat : Int)) (c := (zcF (zd6 s i)).getD (i / 4) 0 + ((s.getD i 0).toNat : Int) * 256 ^ (i % 4)) rfl rfl hlow.1 hlow.2.1 (by rw [ztx (by omega)]) (by omega) rfl hlow.2.2 <| CN <| za5 ze7 zbt rfl rfl (by omega) (by omega) <| CN <| zeO (v := .int .u32 _) hst zbt rfl rfl rfl rfl rfl .u0 (by simp only [List.length_cons, List.length_nil]; omega) fun w hst => NL <| zam <| RG <| CN <| zas rfl rfl rfl zbe <| MI rfl <| NL <| zay ?_
  exact ih5 (i + 1) _ w (by omega) (by (try dsimp only); rw [← zt5 (s := s) (i := i) (by omega)]; exact hst) (by omega) E3 ⟨(Vi (by omega)), trivial⟩
 have hi : i = s.length := by omega
 subst hi
 have hpd : zd6 s s.length = zf9 s := rfl
 rw [hpd] at hst
 refine zaJ (id := 2) rfl <| SR <| ML rfl <| AL rfl <| AI rfl <| NL <| zai Tryz.func182 rfl (TP (v := .slice _ _ _) rfl) (TP (v := .int .i64 _) rfl) ?_
 replace hst := hst.pick (.cons .u0 .nil)
 have he := zlu (s := s) (fun r hr => hJ.2 r Om) Om
 have hpl : (zcF (zf9 s)).length = s.length / 4 + 1 := by rw [zfh, zeq]; omega
 rw [ziD he, he, hpl]
 exact ⟨_, _, rfl, hst.noD⟩
end Go.SK
namespace Go.SK
open Go Go.Proofs
theorem zeR : TyF Tryz.prog 62 (.struct (zbJ Tryz.prog 62)) 2 32 [.int .u16 0, .slice none 0 0] := zbK Kr Kr
theorem zdJ : FldF Tryz.prog 62 1 1 := FldF.of (n := 0) Kr
end Go.SK
namespace Go.SK
open Go Go.Proofs
theorem zpm : zdL Tryz.prog 62 [(0, 1), (1, 1)] := ⟨zbJ Tryz.prog 62, Kr, fun w => Kr⟩
end Go.SK
namespace Go.SK
open Go Go.Proofs
theorem zdj : FldF Tryz.prog 44 0 0 := FldF.of (n := 0) Kr
theorem zdK : FldF Tryz.prog 44 1 1 := FldF.of (n := 0) Kr
theorem zeb : FldF Tryz.prog 44 2 2 := FldF.of (n := 0) Kr
theorem zbR : FldF Tryz.prog 44 3 3 := FldF.of (n := 0) Kr
theorem zdb : TyF Tryz.prog 42 (.slice 110) 1 24 [.slice none 0 0] := zbK Kr Kr
theorem zfO : FldF Tryz.prog 25 0 0 := FldF.of (n := 0) Kr
theorem zcA : FldF Tryz.prog 25 1 1 := FldF.of (n := 0) Kr
theorem zbU : FldF Tryz.prog 25 2 2 := FldF.of (n := 0) Kr
theorem zdo : TyF Tryz.prog 23 (.slice 44) 1 24 [.slice none 0 0] := zbK Kr Kr
theorem zbp : TyF Tryz.prog 44 (.struct (zbJ Tryz.prog 44)) 4 40 [.int .u16 0, .int .u32 0, .int .u32 0, .slice none 0 0] := zbK Kr Kr
end Go.SK
namespace Go.SK
open Go Go.Proofs
theorem zxf : zaN Tryz.prog 152 := ⟨Tryz.f152, _, Tryz.func152, Kr, rfl⟩
theorem zbA : FldF Tryz.prog 110 0 0 := FldF.of (n := 0) Kr
theorem ze6 : FldF Tryz.prog 113 0 0 := FldF.of (n := 0) Kr
theorem zxk : zaN Tryz.prog 133 := ⟨Tryz.f133, _, Tryz.func133, Kr, rfl⟩
end Go.SK
namespace Go.SK
open Go Go.Proofs
open Go.RowKit
theorem zu1 (n bound : Int) (w : World) : Ret Tryz.prog 137 #[.int .u32 n, .int .u32 bound] w (fun v w' => v = .int .i64 (idE n bound) ∧ St w NoM [] [] w') := by
 refine zav (args := [.int .u32 n, .int .u32 bound]) Tryz.func137 rfl rfl rfl ?_
 have hst := St.init w
 refine SR <| AI rfl <| NL <| SQ <| SR <| MU rfl <| CN <| zak rfl rfl <| MB rfl <| zan (d := 7) rfl (fun g1 => ?_) (fun g1 => ?_)
 ·refine OM (t := 7) rfl (Vb (Dt g1)) rfl <| OM (t := 7) rfl (Vb (Dt g1)) rfl <| OM (t := 7) rfl (Vb (Dt g1)) rfl <| CN <| zap (u := .bool _) (Vb (Dt g1)) rfl <| NL <| zax (Vb (rfl : true = _)) <| SR <| AI rfl <| NL <| zah Tryz.func137 rfl (TP (v := .int .i64 _) rfl) ?_
  exact ⟨Vi (by unfold idE; rw [if_pos (by omega)]), hst.pure⟩
 refine TK (t := 7) rfl (Vb (Df g1)) <| zad (v := .int .u32 _) rfl <| TK (t := 7) rfl (Vb (Df g1)) <| zad (v := .int .u32 _) rfl <| TK (t := 7) rfl (Vb (Df g1)) <| zbo rfl rfl <| CN <| zaq (u := .bool _) (Vb (Df g1)) rfl <| NL <| zab rfl (fun g2 => ?_) (fun g2 => ?_)
 ·refine SR <| AI rfl <| NL <| zah Tryz.func137 rfl (TP (v := .int .i64 _) rfl) ?_
  exact ⟨Vi (by unfold idE; rw [if_pos (by omega)]), hst.pure⟩
 refine zaf <| SR <| AI rfl <| NL <| zah Tryz.func137 rfl (TP (v := .int .i64 _) rfl) ?_
 exact ⟨Vi (by unfold idE; rw [if_neg (by omega)]), hst.pure⟩
theorem zsL (c n : Int) (h0 : 0 ≤ c) (h1 : c ≤ 255) (w : World) : Ret Tryz.prog 140 #[.int .u8 c, .int .u32 n] w (fun v w' => v = .int .i64 (zfT c n) ∧ St w NoM [] [] w') := by
 refine zav (args := [.int .u8 c, .int .u32 n]) Tryz.func140 rfl rfl rfl ?_
 have hst := St.init w
 obtain ⟨o, ho⟩ : ∃ o, namesL.find? (enN c n) = o := ⟨_, rfl⟩
 refine SR <| AI rfl <| NL <| SQ <| SR <| MC rfl <| MU rfl <| CN <| zaz (v1 := .int .u8 _) (v2 := .int .u32 _) zxf rfl rfl rfl <| Ret.det (zlT ho h0 h1 _) hst fun w hst => CN <| zad (v := .tuple #[str _, .bool _]) rfl <| CN <| Ex (str _) rfl rfl <| CN <| Ex (.bool _) rfl rfl <| AS rfl <| AB rfl ?_
 refine NSR <| MB rfl <| CN <| zaZ rfl <| NL <| zaA rfl (fun g1 => ?_) (fun g1 => ?_)
 ·refine SR <| AI rfl <| NL <| zah Tryz.func140 rfl (TP (v := .int .i64 _) rfl) ?_
  exact ⟨Vi (by unfold zfT; rw [ho, if_neg (by simpa using g1)]), hst.pure⟩
 refine zaf <| SR <| AI rfl <| NL <| zah Tryz.func140 rfl (TP (v := .int .i64 _) rfl) ?_
 exact ⟨Vi (by unfold zfT; rw [ho, if_pos (by simpa using g1)]), hst.pure⟩
theorem zsF {op : Int} {ks : List Int} {fa : Int} {fb : Bool} {n : Nat} (hfit : zej op ks = (fa, fb)) (hn : n = ks.length) (h0 : 0 ≤ op) (ao : Option Addr) (cp : Nat) (w : World) (hA : (Res.rs ao n 1 (ks.flatMap u8C)).holds w) (hlen : n ≤ 9000000000000000) : Ret Tryz.prog 133 #[.int .u16 op, .slice ao n cp] w (fun v w' => v = .tuple #[.int .i64 fa, .bool fb] ∧ St w NoM [] [] w') := by
 subst hn
 exact (zoU op h0 ks ao cp w hA (by omega)).mono fun v w' h => ⟨h.1.trans (by rw [hfit]), h.2⟩
theorem zsJ (fm : FormL) (hf : FOk fm) (l : List ArgP) (ao : Option Addr) (cp : Nat) (w : World) (hA : (Res.rs ao l.length 3 (l.flatMap zff)).holds w) (hl : l.length ≤ 9000000000000) : Ret Tryz.prog 78 #[.agg #[.int .u16 fm.op, str fm.name, .bool fm.ty, .bool fm.res, str fm.fixed, str fm.rest, .int .i64 fm.most, .int .u8 fm.part], .slice ao l.length cp] w (fun v w' => v = .int .i64 (zgh fm.op l) ∧ St w NoM [] [] w') := by
 refine zav (args := [.agg #[.int .u16 fm.op, str fm.name, .bool fm.ty, .bool fm.res, str fm.fixed, str fm.rest, .int .i64 fm.most, .int .u8 fm.part], .slice ao l.length cp]) Tryz.func78 rfl rfl rfl ?_
 have hst : St w NoM [] [Res.rs ao l.length 3 (l.flatMap zff)] w := St.init_D hA
 clear hA
 obtain ⟨fa, fb, hfit⟩ : ∃ fa fb, zej fm.op (l.map ArgP.kind) = (fa, fb) := ⟨_, _, rfl⟩
 refine SR <| CN <| zbi (v := zau _ _ _ _ _ _ _ _) hst rfl rfl fun w b2 hst => AI rfl <| NSR <| AL rfl <| NL <| SQ <| SR <| ML rfl <| CN <| zaQ (rest := []) zdb rfl <| MI rfl ?_
 refine NL <| zao <| zaV ?_
 replace hst := hst.pushNil 5 1
 refine zaU [(2, Pp _ _), (10, .slice _ _ _), (11, .int .i64 _)] E3 (fun (q : Nat × Option Addr × Nat) => [(5, .slice q.2.1 q.1 q.2.2), (12, .int .i64 (q.1 : Int))]) (fun (q : Nat × Option Addr × Nat) => [Res.sl q.2.1 q.1 q.2.2 5 1 (((l.map ArgP.kind).take q.1).flatMap u8C)]) (fun (q : Nat × Option Addr × Nat) => q.1 ≤ l.length) (fun (q : Nat × Option Addr × Nat) => l.length - q.1) ((0, none, 0)) hst (Nat.zero_le _) E2 ?_
 intro ⟨i, aq, cq⟩ f w hst hJ ih1
 replace hst : St _ _ ([Res.sl aq i cq 5 1 (((l.map ArgP.kind).take i).flatMap u8C)] ++ [_]) _ _ := hst
 replace hJ : i ≤ l.length := hJ
 refine za2 (sl := [(5, .slice aq i cq), (12, .int .i64 (i : Int))]) E2 <| SR <| CN <| zaS rfl rfl <| NL <| SQ <| zab rfl (fun g2 => ?_) (fun g2 => ?_)
 ·have hidx : l.getD ((i : Int)).toNat zeroA = l.getD i zeroA := rfl
  refine zaf <| SQ <| zao <| SR <| CN <| zaO zdb za9 (hst.hD _ Q0) rfl rfl Om Om <| CN <| zar (vs := zcX _ _ _) za9 rfl rfl rfl (Res.rs2_cells (m := 3) (hst.hD _ Q0) _ (zbG (g := zff) (d := zeroA) zcL _ _ Om)) <| CN <| Op1.alloc hst za9 fun w b7 hst => CN (SO (v := zcy _ _ _) hst za9 rfl rfl .u0 fun w hst => ?_)
  refine NR <| ML rfl <| CN <| zaa zbA rfl <| CN <| zae (v := .int .u8 _) ty5 rfl rfl (hst.cellL Q0 rfl) <| CN (zaE (z0 := [.int .u8 0]) hst zcr ty5 rfl rfl Kr (.c (v := .int .u8 _) rfl (h := .nil)) fun w b19 hst => ?_)
  refine CN (zaI (news := [.int .u8 _]) hst zcr ty5 rfl rfl .u2 rfl rfl rfl (zac (n := 1) (hst.objL Q0) _ rfl) rfl rfl Om fun w ao3 cp4 hst => ?_)
  replace hst := hst.drop .u1
  refine AL rfl <| NL <| zam <| RG <| CN <| zas rfl rfl rfl zbe <| MI rfl <| NL <| zay ?_
  have e1 : ((l.map ArgP.kind).take i).flatMap u8C ++ [.int .u8 (l.getD i zeroA).kind] = ((l.map ArgP.kind).take (i + 1)).flatMap u8C := by rw [zc4 (l := l.map ArgP.kind) (d := zeroA.kind) (by rw [List.length_map]; omega), zfs _ _ (by omega), List.flatMap_append]; rfl
  replace hst := hst.pick (.cons .u0 (.cons .u1 .nil))
  exact ih1 ((i + 1, ao3, cp4)) _ w (by (try dsimp only); omega) (by (try dsimp only); rw [← e1]; exact hst) (by (try dsimp only); omega) E3 ⟨rfl, (Vi (by (try dsimp only); omega)), trivial⟩
 obtain rfl : i = l.length := by omega
 have hlk : l.length = (l.map ArgP.kind).length := by rw [List.length_map]
 rw [List.take_of_length_le (by omega)] at hst
 refine zaJ (id := 0) rfl <| SQ <| SR <| CN <| zaa ze6 rfl <| CN <| zae (v := .int .u16 _) zi4 rfl rfl (hst.cellL Q1 rfl) <| ML rfl <| CN <| zaz (v1 := .int .u16 _) (v2 := .slice _ _ _) zxk rfl rfl rfl <| Ret.det (zsF hfit hlk hf.op.1 _ _ _ (Res.rs_of_sl (hst.hL _ Q0)) Om) hst fun w hst => CN <| zad (v := .tuple #[.int .i64 _, .bool _]) rfl <| CN <| Ex (.int .i64 _) rfl rfl <| CN <| Ex (.bool _) rfl rfl <| AI rfl <| AB rfl <| NL <| SQ ?_
 refine RG <| MB rfl <| CN <| zaZ rfl <| NL <| zaA rfl (fun g5 => ?_) (fun g5 => ?_)
 ·refine SR <| AI rfl <| NL <| zah Tryz.func78 rfl (TP (v := .int .i64 _) rfl) ?_
  exact ⟨Vi (by unfold zgh; rw [hfit, if_neg (by simpa using g5)]), hst.pure⟩
 refine zaf <| SR <| AI rfl <| NL <| zah Tryz.func78 rfl (TP (v := .int .i64 _) rfl) ?_
 exact ⟨Vi (by unfold zgh; rw [hfit, if_pos (by simpa using g5)]), hst.pure⟩
end Go.SK
namespace Go.SK
open Go Go.Proofs
theorem zxi : zaN Tryz.prog 137 := ⟨Tryz.f137, _, Tryz.func137, Kr, rfl⟩
end Go.SK
namespace Go.SK
open Go Go.Proofs
theorem zun : zaN Tryz.prog 131 := ⟨Tryz.f131, _, Tryz.func131, Kr, rfl⟩
theorem zbh : FldF Tryz.prog 110 2 2 := FldF.of (n := 0) Kr
theorem zbM : FldF Tryz.prog 110 1 1 := FldF.of (n := 0) Kr
theorem ent140 : zaN Tryz.prog 140 := ⟨Tryz.f140, _, Tryz.func140, Kr, rfl⟩
end Go.SK
namespace Go.SK
open Go Go.Proofs
open Go.RowKit
theorem zoS {op c : Int} {fm : FormL} {i : Int} (h0 : 0 ≤ op) (hfm : zbq op = fm) (hc : zaP fm i = c) (h1 : i ≤ 9223372036854775807) (w : World) : Ret Tryz.prog 131 #[.int .u16 op, .int .i64 i] w (fun v w' => v = .int .u8 c ∧ St w NoM [] [] w') := by
 subst hfm; subst hc; exact zhz op h0 i h1 w
theorem zsE {c kd : Int} (hk : zbZ c = kd) (w : World) : Ret Tryz.prog 138 #[.int .u8 c] w (fun v w' => v = .int .u8 kd ∧ St w NoM [] [] w') := by
 subst hk; exact zoT c w
end Go.SK
namespace Go.SK
open Go Go.Proofs
theorem ztk : zdL Tryz.prog 44 [(0, 1), (1, 1), (2, 1), (3, 1)] := ⟨zbJ Tryz.prog 44, Kr, fun w => Kr⟩
theorem ent78 : zaN Tryz.prog 78 := ⟨Tryz.f78, _, Tryz.func78, Kr, rfl⟩
end Go.SK
namespace Go.SK
open Go Go.Proofs
theorem ent146 : zaN Tryz.prog 146 := ⟨Tryz.f146, _, Tryz.func146, Kr, rfl⟩
end Go.SK
namespace Go.SK
open Go Go.Proofs
open Go.RowKit
theorem zuV (s : List UInt8) (w : World) : Ret Tryz.prog 146 #[str s, .int .u8 0] w (fun v w' => v = .int .i64 (zyj s) ∧ St w NoM [] [] w') := by
 refine zav (args := [str s, .int .u8 0]) Tryz.func146 rfl rfl rfl ?_
 have hst := St.init w
 refine SR <| AI rfl <| NSR <| MS rfl <| MC rfl <| CN <| zwO (v1 := str s) (v2 := .int .u8 0) Tryz.func193 Kr Kr Kr Kr rfl rfl rfl (run_indexByte_string ⟨s.toArray⟩ 0 _) <| AI rfl <| NL <| zah Tryz.func146 rfl (TP (v := .int .i64 _) rfl) ?_
 exact ⟨Vi (zmC s), hst.pure⟩
theorem zoQ (s : List UInt8) (w : World) : Ret Tryz.prog 87 #[str s, .int .u8 0] w (fun v w' => v = .int .i64 (zyj s) ∧ St w NoM [] [] w') := by
 refine zav (args := [str s, .int .u8 0]) Tryz.func87 rfl rfl rfl ?_
 have hst := St.init w
 refine SR <| AI rfl <| NSR <| MS rfl <| MC rfl <| CN <| zaz (v1 := str _) (v2 := .int .u8 _) ent146 rfl rfl rfl <| Ret.det (zuV _ _) hst fun w hst => AI rfl <| NL <| zah Tryz.func87 rfl (TP (v := .int .i64 _) rfl) ?_
 exact ⟨rfl, hst.pure⟩
end Go.SK
namespace Go.SK
open Go Go.Proofs
theorem zh5 : FldF Tryz.prog 134 2 9 := FldF.of (n := 0) Kr
theorem zfP : FldF Tryz.prog 134 3 10 := FldF.of (n := 0) Kr
theorem zxj : zaN Tryz.prog 136 := ⟨Tryz.f136, _, Tryz.func136, Kr, rfl⟩
theorem zq2 : FldF Tryz.prog 134 1 8 := FldF.of (n := 0) Kr
theorem ent182 : zaN Tryz.prog 182 := ⟨Tryz.f182, _, Tryz.func182, Kr, rfl⟩
end Go.SK
namespace Go.SK
open Go Go.Proofs
open Go.RowKit
theorem zrs (bq : Nat) (fm : FormL) (bound : Int) (ao : Option Addr) (cp : Nat) (ws : List Int) (room : Int) (n : Int) (w : World) (hR : (WrC 134 22 bq fm bound ao cp ws room).holds w) (hl : ws.length ≤ 1000000000000) (hr0 : 0 ≤ room) (hr1 : room ≤ 1000000000000) : Ret Tryz.prog 136 #[.pointer (some ⟨bq, 0, none⟩), .int .u32 n] w (fun v w' => ∃ ao' cp', St w (WrC 134 22 bq fm bound ao cp ws room).foot [WrC 134 22 bq fm bound ao' cp' (ws ++ [n]) (room + 1)] [] w') := by
 refine zav (args := [.pointer (some ⟨bq, 0, none⟩), .int .u32 n]) Tryz.func136 rfl rfl rfl ?_
 have hst : St w (WrC 134 22 bq fm bound ao cp ws room).foot [WrC 134 22 bq fm bound ao cp ws room] [] w := St.enter1 hR (fun d hd => by cases hd) (fun d hd => by cases hd)
 replace hst : St _ _ [_, _] _ _ := hst.unpack
 refine SR <| MP rfl <| MP rfl <| CN <| zaK rfl <| CN <| zaa zh5 rfl <| CN <| zae (v := .slice _ _ _) ze7 rfl rfl (hst.cellL Q0 rfl) <| MU rfl <| CN (zaE (z0 := [.int .u32 0]) hst ze7 zbt rfl rfl Kr (.c (v := .int .u32 _) rfl (h := .nil)) fun w b10 hst => ?_)
 refine CN (zaI (news := [.int .u32 _]) hst ze7 zbt rfl rfl .u2 rfl rfl rfl (zac (n := 1) (hst.objL Q0) _ rfl) rfl rfl Om fun w ao1 cp2 hst => ?_)
 replace hst := hst.drop .u1
 refine CN <| zaK rfl <| CN <| zaa zh5 rfl <| CN (SO (v := .slice _ _ _) hst ze7 rfl rfl .u1 fun w hst => ?_)
 refine NR <| MP rfl <| CN <| zaK rfl <| CN <| zaa zfP rfl <| CN <| zae (v := .int .i64 _) ty3 rfl rfl (hst.cellL Q1 rfl) <| CN <| zas rfl rfl rfl zbe <| CN <| zaK rfl <| CN <| zaa zfP rfl <| CN (SO (v := .int .i64 _) hst ty3 rfl rfl .u1 fun w hst => ?_)
 refine NL <| zef Tryz.func136 rfl  ?_
 replace hst := hst.pick (.cons .u1 (.cons .u0 .nil))
 have e1 : ws.length + 1 = (ws ++ [n]).length := by simp
 have e2 : ws.flatMap zdE ++ [.int .u32 n] = (ws ++ [n]).flatMap zdE := by simp
 rw [e1, e2] at hst
 exact ⟨_, _, (St.pack (L1 := [_, _]) (L2 := []) hst)⟩
theorem zlU (bq : Nat) (fm : FormL) (bound : Int) (ao : Option Addr) (cp : Nat) (ws : List Int) (room : Int) (must : Bool) (n lacks : Int) (hk : lacks ≠ 0) (w : World) (hR : (WrC 134 22 bq fm bound ao cp ws room).holds w) (hl : ws.length ≤ 1000000000000) (hr0 : 0 ≤ room) (hr1 : room ≤ 1000000000000) : Ret Tryz.prog 76 #[.pointer (some ⟨bq, 0, none⟩), .bool must, .int .u32 n, .int .i64 lacks] w (fun v w' => ∃ ao' cp' ws' room', v = .int .i64 (idH must n bound lacks) ∧ ((idH must n bound lacks) = 0 → ws' = ws ++ mustW must n ∧ room' = room + b2n must) ∧ ws'.length ≤ ws.length + 1 ∧ 0 ≤ room' ∧ room' ≤ room + 1 ∧ St w (WrC 134 22 bq fm bound ao cp ws room).foot [WrC 134 22 bq fm bound ao' cp' ws' room'] [] w') := by
 refine zav (args := [.pointer (some ⟨bq, 0, none⟩), .bool must, .int .u32 n, .int .i64 lacks]) Tryz.func76 rfl rfl rfl ?_
 have hst : St w (WrC 134 22 bq fm bound ao cp ws room).foot [WrC 134 22 bq fm bound ao cp ws room] [] w := St.enter1 hR (fun d hd => by cases hd) (fun d hd => by cases hd)
 replace hst : St _ _ [_, _] _ _ := hst.unpack
 refine SR <| AI rfl <| NL <| SQ <| zao <| SR <| MB rfl <| MU rfl <| CN <| zaW rfl rfl <| CN <| zjA ty4 rfl rfl <| AB rfl <| NL <| zaA rfl (fun g1 => ?_) (fun g1 => ?_)
 ·refine SR <| MI rfl <| AI rfl <| NL <| zah Tryz.func76 rfl (TP (v := .int .i64 _) rfl) ?_
  replace hst := hst.pick (.cons .u0 (.cons .u0 .nil))
  have hE := zn2 (must := must) (n := n) (bound := bound) (e := lacks) (bne_iff_ne.1 g1)
  rw [hE]
  exact ⟨ao, cp, ws, room, rfl, fun h => absurd h hk, by omega, hr0, by omega, (St.pack (L1 := [_, _]) (L2 := []) hst)⟩
 refine SR <| MB rfl <| CN <| zaZ rfl <| AB rfl <| NL <| zaA rfl (fun g2 => ?_) (fun g2 => ?_)
 ·refine SR <| AI rfl <| NL <| zah Tryz.func76 rfl (TP (v := .int .i64 _) rfl) ?_
  replace hst := hst.pick (.cons .u0 (.cons .u0 .nil))
  have hm : must = false := by simpa using g2
  have hE := zw3 (must := must) (n := n) (bound := bound) (e := lacks) (fun hx => by have hy := bne_iff_ne.2 hx; rw [g1] at hy; cases hy) hm
  rw [hE]
  exact ⟨ao, cp, ws, room, rfl, fun _ => ⟨by rw [mustW, hm]; simp, by rw [b2n, hm]; simp⟩, by omega, hr0, by omega, (St.pack (L1 := [_, _]) (L2 := []) hst)⟩
 refine zaf <| zam <| SR <| MP rfl <| MU rfl ?_
 replace hst := hst.pick (.cons .u0 (.cons .u0 .nil))
 replace hst : St _ _ (WrC 134 22 bq fm bound ao cp ws room :: _) _ _ := hst.pack (L1 := [_, _])
 refine CN (zaz (v1 := Pp _ _) (v2 := .int .u32 _) zxj rfl rfl rfl ((zrs bq fm bound ao cp ws room _ _ (hst.hL _ Q0) hl hr0 hr1).mono fun v w hp => ?_))
 obtain ⟨ao2, cp2, hp⟩ := hp
 replace hst : St _ _ (WrC 134 22 bq fm bound ao2 cp2 (ws ++ [n]) (room + 1) :: _) _ _ := hst.call1 hp
 replace hst : St _ _ (_ :: _ :: _) _ _ := hst.unpack
 clear hp
 refine NSR <| MU rfl <| MP rfl <| CN <| zaK rfl <| CN <| zaa zq2 rfl <| CN <| zae (v := .int .u32 _) zbt rfl rfl (hst.cellL Q0 rfl) <| CN <| zaz (v1 := .int .u32 _) (v2 := .int .u32 _) zxi rfl rfl rfl <| Ret.det (zu1 _ _ _) hst fun w hst => AI rfl <| NL <| zah Tryz.func76 rfl (TP (v := .int .i64 _) rfl) ?_
 replace hst := hst.pick (.cons .u0 (.cons .u0 .nil))
 have hm : must = true := by simpa using g2
 have hE := idH_id (must := must) (n := n) (bound := bound) (e := lacks) (fun hx => by have hy := bne_iff_ne.2 hx; rw [g1] at hy; cases hy) hm
 rw [hE]
 exact ⟨ao2, cp2, ws ++ [n], room + 1, rfl, fun _ => ⟨by rw [mustW, hm]; rfl, by rw [b2n, hm]; rfl⟩, by simp, by omega, by omega, (St.pack (L1 := [_, _]) (L2 := []) hst)⟩
theorem zsI (bq : Nat) (fm : FormL) (bound : Int) (ao : Option Addr) (cp : Nat) (ws : List Int) (room : Int) (s : List UInt8) (hs : s.length ≤ 100000000000) (w : World) (hR : (WrC 134 22 bq fm bound ao cp ws room).holds w) (hl : ws.length ≤ 1000000000000) (hr0 : 0 ≤ room) (hr1 : room ≤ 1000000000000) : Ret Tryz.prog 139 #[.pointer (some ⟨bq, 0, none⟩), str s] w (fun v w' => ∃ ao' cp' ws' room', v = .int .i64 (zjP s) ∧ ((zjP s) = 0 → ws' = ws ++ zby s ∧ room' = room + ((s.length / 4 + 1 : Nat) : Int)) ∧ ws'.length ≤ ws.length + (s.length / 4 + 1) ∧ 0 ≤ room' ∧ room' ≤ room + ((s.length / 4 + 1 : Nat) : Int) ∧ St w (WrC 134 22 bq fm bound ao cp ws room).foot [WrC 134 22 bq fm bound ao' cp' ws' room'] [] w') := by
 refine zav (args := [.pointer (some ⟨bq, 0, none⟩), str s]) Tryz.func139 rfl rfl rfl ?_
 have hst : St w (WrC 134 22 bq fm bound ao cp ws room).foot [WrC 134 22 bq fm bound ao cp ws room] [] w := St.enter1 hR (fun d hd => by cases hd) (fun d hd => by cases hd)
 replace hst : St _ _ [_, _] _ _ := hst.unpack
 have hle := zj5 s
 refine SR <| AI rfl <| NL <| SQ <| SR <| MS rfl <| CN <| zaz (v1 := str _) (v2 := .int .u8 _) ent87 rfl rfl rfl <| Ret.det (zoQ s _) hst fun w hst => CN <| zbo rfl rfl <| NL <| zab rfl (fun g1 => ?_) (fun g1 => ?_)
 ·refine SR <| AI rfl <| NL <| zah Tryz.func139 rfl (TP (v := .int .i64 _) rfl) ?_
  replace hst := hst.pick (.cons .u0 (.cons .u0 .nil))
  have hE : zjP s = 13 := if_pos (idxZ_neg.1 (by omega))
  rw [hE]
  exact ⟨ao, cp, ws, room, rfl, fun h => absurd h De, by omega, hr0, by omega, (St.pack (L1 := [_, _]) (L2 := []) hst)⟩
 refine zaf <| SR <| MS rfl <| CN (Op1.call1 (v1 := str _) ent182 rfl rfl ((zpT s _ Om).mono fun v w hp => ?_))
 obtain ⟨aT, cT, rfl, hp⟩ := hp
 replace hst : St _ _ (_ :: _) _ _ := hst.call0 hp
 clear hp
 refine CN <| zad (v := .tuple #[.slice _ _ _, .int .i64 _]) rfl <| CN <| Ex (.slice _ _ _) rfl rfl <| CN <| Ex (.int .i64 _) rfl rfl <| AL rfl <| AI rfl <| NL <| SQ <| SR <| MI rfl <| CN <| zaW rfl rfl <| NL <| zab rfl (fun g2 => ?_) (fun g2 => ?_)
 ·refine SQ <| RunD.start [] hst (bs := [0, 1, 3, 7, 0, 16, 63, 127, 255, 511]) (ds := [some 17, some 18, some 19, some 20, some 21, some 22, some 23, some 24, some 25, none]) ⟨Kr, Kr, Kr⟩ (fun tab3 => ?_)
  refine DO tab3 1 (fun f' L' w' hc=> zad (v := Pp _ _) (hc.old rfl rfl rfl) hc.z) <| DO tab3 2 (fun f' L' w' hc=> zaK (hc.d 0 rfl rfl rfl rfl) hc.z) <| DO tab3 3 (fun f' L' w' hc=> zaa zfP (hc.d 1 rfl rfl rfl rfl) hc.z) <| DO tab3 4 (fun f' L' w' hc=> zae (v := .int .i64 _) ty3 rfl (hc.d 2 rfl rfl rfl rfl) (hc.st.cellL (List.mem_append_right _ Q1) rfl) hc.z) <| DO tab3 5 (fun f' L' w' hc=> zad (v := str _) (hc.old rfl rfl rfl) hc.z) <| DO tab3 6 (fun _ _ _ hc => Op1.call1 (v1 := str _) zuj rfl (hc.d 4 rfl rfl rfl rfl) ((zky s _ Om).mono fun v w hp => ⟨[], ⟨hp.1, rfl⟩, hc.st.keepc hp.2⟩)) <| RunD.fin zaw tab3 hst rfl (fun f4 w R7 hs5 hd6 hr8 hst => ?_)
  obtain ⟨h17_, r0⟩ := hd6 0 17 rfl rfl
  obtain ⟨h18_, r1⟩ := hd6 1 18 rfl rfl
  obtain ⟨h19_, r2⟩ := hd6 2 19 rfl rfl
  obtain ⟨h20_, r3⟩ := hd6 3 20 rfl rfl
  obtain ⟨h21_, r4⟩ := hd6 4 21 rfl rfl
  obtain ⟨h22_, r5⟩ := hd6 5 22 rfl rfl
  simp only [rg6, Fc, Fn, Mc, Mn, r0, r1, r2, r3, r4, r5, Na, An, Ca] at hst
  refine zaD (sl := [(17, Pp _ _), (20, .int .i64 _), (22, .int .i64 _)]) ⟨h17_, h20_, h22_, trivial⟩ ?_
  clear hs5 hd6 hr8 tab3
  refine CN <| zas rfl rfl rfl zbe <| CN <| zaK rfl <| CN <| zaa zfP rfl <| CN (SO (v := .int .i64 _) hst ty3 rfl rfl .u1 fun w hst => ?_)
  refine NL <| zaj [] trivial fun f => SR <| AI rfl <| NL <| zah Tryz.func139 rfl (TP (v := .int .i64 _) rfl) ?_
  replace hst := hst.pick (.cons .u1 (.cons .u1 .nil))
  have hE : zjP s = 0 := if_neg (fun h => by have := idxZ_neg.2 h; omega)
  rw [hE]
  have hT : zby s = [] := zdF g2
  exact ⟨ao, cp, ws, room + ((s.length / 4 + 1 : Nat) : Int), rfl, fun _ => ⟨by rw [hT]; simp, rfl⟩, by omega, by omega, by omega, (St.pack (L1 := [_, _]) (L2 := []) hst)⟩
 refine zaf <| SR <| MP rfl <| MP rfl <| CN <| zaK rfl <| CN <| zaa zh5 rfl <| CN <| zae (v := .slice _ _ _) ze7 rfl rfl (hst.cellL Q1 rfl) <| ML rfl <| CN <| zo7 hst ze7 zbt rfl rfl .u2 rfl rfl (Res.rs_of_sl (hst.hL _ Q0)) (zpH (fun _ => rfl) _) rfl Om fun w ao2 cp2 hst => CN <| zaK rfl <| CN <| zaa zh5 rfl <| CN (SO (v := .slice _ _ _) hst ze7 rfl rfl .u2 fun w hst => ?_)
 refine NL <| zaj [(0, Pp _ _), (5, .slice _ _ _)] E2 fun f => SR <| MP rfl <| CN <| zaK rfl <| CN <| zaa zfP rfl <| CN <| zae (v := .int .i64 _) ty3 rfl rfl (hst.cellL Q2 rfl) <| ML rfl <| CN <| zaQ (rest := []) ze7 rfl <| CN <| zas rfl rfl rfl zbe <| CN <| zaK rfl <| CN <| zaa zfP rfl <| CN (SO (v := .int .i64 _) hst ty3 rfl rfl .u2 fun w hst => ?_)
 refine NSR <| AI rfl <| NL <| zah Tryz.func139 rfl (TP (v := .int .i64 _) rfl) ?_
 replace hst := hst.pick (.cons .u2 (.cons .u0 .nil))
 have hE : zjP s = 0 := if_neg (fun h => by have := idxZ_neg.2 h; omega)
 rw [hE]
 have hT := ziC (Nn g2)
 have e1 : ws.length + (zby s).length = (ws ++ zby s).length := by simp
 have e2 : ws.flatMap zdE ++ (zby s).flatMap zdE = (ws ++ zby s).flatMap zdE := by simp
 rw [e1, e2] at hst
 exact ⟨ao2, cp2, ws ++ zby s, room + ((zby s).length : Int), rfl, fun _ => ⟨rfl, by rw [hT]⟩, by rw [List.length_append]; omega, by omega, by omega, (St.pack (L1 := [_, _]) (L2 := []) hst)⟩
end Go.SK
namespace Go.SK
open Go Go.Proofs
theorem zv7 : FldF Tryz.prog 134 0 0 := FldF.of (n := 7) Kr
theorem ent139 : zaN Tryz.prog 139 := ⟨Tryz.f139, _, Tryz.func139, Kr, rfl⟩
end Go.SK
namespace Go.SK
open Go Go.Proofs
open Go.RowKit
theorem zuZ (bq : Nat) (fm : FormL) (bound : Int) (ao : Option Addr) (cp : Nat) (ws : List Int) (room : Int) (k : Nat) (hk : k ≤ 9000000000000000) (a : ArgP) (hs : a.s.length ≤ 100000000000) (c : Int) (hfm : zbq fm.op = fm) (hc : zaP fm (k : Int) = c) (w : World) (hR : (WrC 134 22 bq fm bound ao cp ws room).holds w) (hl : ws.length ≤ 1000000000000) (hr0 : 0 ≤ room) (hr1 : room ≤ 1000000000000) : Ret Tryz.prog 77 #[.pointer (some ⟨bq, 0, none⟩), .int .i64 (k : Int), .agg #[.int .u8 a.kind, .int .u32 a.n, str a.s]] w (fun v w' => ∃ ao' cp' ws' room', v = .int .i64 (zbN c a bound) ∧ ((zbN c a bound) = 0 → ws' = ws ++ zpN a ∧ room' = room + (za1 a : Int)) ∧ ws'.length ≤ ws.length + za1 a ∧ 0 ≤ room' ∧ room' ≤ room + (za1 a : Int) ∧ St w (WrC 134 22 bq fm bound ao cp ws room).foot [WrC 134 22 bq fm bound ao' cp' ws' room'] [] w') := by
 refine zav (args := [.pointer (some ⟨bq, 0, none⟩), .int .i64 (k : Int), .agg #[.int .u8 a.kind, .int .u32 a.n, str a.s]]) Tryz.func77 rfl rfl rfl ?_
 have hst : St w (WrC 134 22 bq fm bound ao cp ws room).foot [WrC 134 22 bq fm bound ao cp ws room] [] w := St.enter1 hR (fun d hd => by cases hd) (fun d hd => by cases hd)
 replace hst : St _ _ [_, _] _ _ := hst.unpack
 have hf : FOk fm := hfm ▸ zeg fm.op
 have hop := hf.op
 have hcb : 0 ≤ c ∧ c ≤ 255 := hc ▸ zcp fm _
 obtain ⟨kd, hkd⟩ : ∃ kd, zbZ c = kd := ⟨_, rfl⟩
 refine SR <| CN <| zbi (v := zcy _ _ _) hst rfl rfl fun w b5 hst => AI rfl <| NSR <| MP rfl <| CN <| zaK rfl <| CN <| zaa zv7 rfl <| CN <| zaa ze6 rfl <| CN <| zae (v := .int .u16 _) zi4 rfl rfl (hst.cellL Q1 rfl) <| MI rfl <| CN <| zaz (v1 := .int .u16 _) (v2 := .int .i64 _) zun rfl rfl rfl <| Ret.det (zoS hop.1 hfm hc Om _) hst fun w hst => AC rfl ?_
 refine NSR <| CN <| zaa zbA rfl <| CN <| zae (v := .int .u8 _) ty5 rfl rfl (hst.cellL Q0 rfl) <| CN <| zak rfl rfl <| AB rfl <| NL <| SQ <| zao <| SQ <| RunD.start [] hst (bs := [0, 1, 3, 7, 15, 7, 39, 127, 255, 511, 1023, 2047, 4095, 8191, 16383, 32767, 65535, 131071, 262143, 524287, 1048575, 2097151, 4194303, 8388607, 16777215, 33554431, 67108863]) (ds := [some 20, some 21, some 22, some 23, some 24, some 25, some 26, some 27, some 28, some 29, some 30, some 31, some 32, some 33, some 34, some 35, some 36, some 37, some 38, some 39, some 40, some 41, some 42, some 43, some 44, some 45, some 19]) ⟨Kr, Kr, Kr⟩ (fun tab1 => ?_)
 refine DO tab1 1 (fun f' L' w' hc=> zad (v := .int .u8 _) (hc.old rfl rfl rfl) hc.z) <| DO tab1 2 (fun f' L' w' hc=> zak (hc.d 0 rfl rfl rfl rfl) rfl hc.z) <| DO tab1 3 (fun _ _ _ hc => zad (v := .bool _) (hc.d 1 rfl rfl rfl rfl) hc.z) <| zcM (j := 2) rfl (fun g2 => ?_) (fun g2 => ?_)
 ·refine zaX tab1 4 rfl rfl (fun f' L' w' hc=> (hc.d 2 rfl rfl rfl rfl).trans (Vb (Dt g2))) <| zaX tab1 5 rfl rfl (fun f' L' w' hc=> (hc.d 2 rfl rfl rfl rfl).trans (Vb (Dt g2))) <| zaX tab1 6 rfl rfl (fun f' L' w' hc=> (hc.d 2 rfl rfl rfl rfl).trans (Vb (Dt g2))) <| zaX tab1 7 rfl rfl (fun _ _ _ hc => (hc.d 2 rfl rfl rfl rfl).trans (Vb (Dt g2))) <| RunD.fin zaw tab1 hst rfl (fun f3 w R6 hs4 hd5 hr7 hst => ?_)
  obtain ⟨h20_, r0⟩ := hd5 0 20 rfl rfl
  obtain ⟨h21_, r1⟩ := hd5 1 21 rfl rfl
  obtain ⟨h22_, r2⟩ := hd5 2 22 rfl rfl
  obtain ⟨h23_, r3⟩ := hd5 3 23 rfl rfl
  obtain ⟨h24_, r4⟩ := hd5 4 24 rfl rfl
  obtain ⟨h25_, r5⟩ := hd5 5 25 rfl rfl
  obtain ⟨h26_, r6⟩ := hd5 6 26 rfl rfl
  simp only [rg7, Fc, Fn, Mc, Mn, r0, r1, r2, r3, r4, r5, r6, Na, An, Ca] at hst
  refine zaD (sl := [(0, Pp _ _), (5, Pp _ _), (7, .int .u8 _), (8, .bool _), (22, .bool _), (24, _), (26, _)]) ⟨(hs4 0 rfl).trans rfl, (hs4 5 rfl).trans rfl, (hs4 7 rfl).trans rfl, (hs4 8 rfl).trans rfl, h22_, h24_, h26_, trivial⟩ ?_
  clear hs4 hd5 hr7 tab1
  refine OM (t := 22) rfl (Vb (Dt g2)) rfl <| CN <| zap (u := .bool _) (Vb (Dt g2)) rfl <| MB rfl <| OM (t := 29) rfl (Vb (rfl : true = _)) rfl <| OM (t := 29) rfl (Vb (rfl : true = _)) rfl <| zaB (t := 31) rfl rfl <| zaB (t := 31) rfl rfl <| zaB (t := 31) rfl rfl <| OM (t := 29) rfl (Vb (rfl : true = _)) rfl <| CN <| zap (u := .bool _) (Vb (rfl : true = _)) rfl <| MB rfl <| OM (t := 37) rfl (Vb (rfl : true = _)) rfl <| OM (t := 37) rfl (Vb (rfl : true = _)) rfl <| OM (t := 37) rfl (Vb (rfl : true = _)) rfl <| zaB (t := 40) rfl rfl ?_
  refine zaB (t := 40) rfl rfl <| zaB (t := 40) rfl rfl <| OM (t := 37) rfl (Vb (rfl : true = _)) rfl <| CN <| zap (u := .bool _) (Vb (rfl : true = _)) rfl <| AB rfl <| NL <| zaj [(0, Pp _ _), (5, Pp _ _), (7, .int .u8 _), (8, .bool _), (19, .bool _)] E5 fun f => zax (Vb (rfl : true = _)) <| SR <| AI rfl <| NL <| zah Tryz.func77 rfl (TP (v := .int .i64 _) rfl) ?_
  replace hst := hst.pick (.cons .u1 (.cons .u1 .nil))
  have hX : zbN c a bound = 42 := zcI (.inl Om)
  rw [hX]
  exact ⟨ao, cp, ws, room, rfl, fun h => absurd h De, by omega, hr0, by omega, (St.pack (L1 := [_, _]) (L2 := []) hst)⟩
 refine RunD.take (det _) tab1 4 rfl (fun f' L' w' hc=> (hc.d 2 rfl rfl rfl rfl).trans (Vb (Df g2))) (fun f' L' w' hc=> zaa zbA (hc.old (v := Pp _ _) rfl rfl rfl) hc.z) <| RunD.take (det _) tab1 5 rfl (fun f' L' w' hc=> (hc.d 2 rfl rfl rfl rfl).trans (Vb (Df g2))) (fun f' L' w' hc=> zae (v := .int .u8 _) ty5 rfl (hc.d 3 rfl rfl rfl rfl) (hc.st.cellL (List.mem_append_right _ Q0) rfl) hc.z) <| RunD.take (det _) tab1 6 rfl (fun f' L' w' hc=> (hc.d 2 rfl rfl rfl rfl).trans (Vb (Df g2))) (fun f' L' w' hc=> zad (v := .int .u8 _) (hc.old rfl rfl rfl) hc.z) <| RunD.take (det _) tab1 7 rfl (fun f' L' w' hc=> (hc.d 2 rfl rfl rfl rfl).trans (Vb (Df g2))) (fun _ _ _ hc => Op1.call1 (v1 := .int .u8 _) zxh rfl (hc.d 5 rfl rfl rfl rfl) ((zsE hkd _).mono fun v w hp => ⟨[], ⟨hp.1, rfl⟩, hc.st.keepc hp.2⟩)) <| RunD.fin zaw tab1 hst rfl (fun f8 w R11 hs9 hd10 hr12 hst => ?_)
 obtain ⟨h20_, r0⟩ := hd10 0 20 rfl rfl
 obtain ⟨h21_, r1⟩ := hd10 1 21 rfl rfl
 obtain ⟨h22_, r2⟩ := hd10 2 22 rfl rfl
 obtain ⟨h23_, r3⟩ := hd10 3 23 rfl rfl
 obtain ⟨h24_, r4⟩ := hd10 4 24 rfl rfl
 obtain ⟨h25_, r5⟩ := hd10 5 25 rfl rfl
 obtain ⟨h26_, r6⟩ := hd10 6 26 rfl rfl
 simp only [rg7, Fc, Fn, Mc, Mn, r0, r1, r2, r3, r4, r5, r6, Na, An, Ca] at hst
 refine zaD (sl := [(0, Pp _ _), (5, Pp _ _), (7, .int .u8 _), (8, .bool _), (22, .bool _), (24, .int .u8 _), (26, .int .u8 _)]) ⟨(hs9 0 rfl).trans rfl, (hs9 5 rfl).trans rfl, (hs9 7 rfl).trans rfl, (hs9 8 rfl).trans rfl, h22_, h24_, h26_, trivial⟩ ?_
 clear hs9 hd10 hr12 tab1
 refine TK (t := 22) rfl (Vb (Df g2)) <| zaW rfl rfl <| CN <| zaq (u := .bool _) (Vb (Df g2)) rfl <| MB rfl <| zan (d := 29) rfl (fun g13 => ?_) (fun g13 => ?_)
 ·refine OM (t := 29) rfl (Vb (Dt g13)) rfl <| OM (t := 29) rfl (Vb (Dt g13)) rfl <| zaB (t := 31) rfl rfl <| zaB (t := 31) rfl rfl <| zaB (t := 31) rfl rfl <| OM (t := 29) rfl (Vb (Dt g13)) rfl <| CN <| zap (u := .bool _) (Vb (Dt g13)) rfl <| MB rfl <| OM (t := 37) rfl (Vb (rfl : true = _)) rfl <| OM (t := 37) rfl (Vb (rfl : true = _)) rfl <| OM (t := 37) rfl (Vb (rfl : true = _)) rfl <| zaB (t := 40) rfl rfl <| zaB (t := 40) rfl rfl <| zaB (t := 40) rfl rfl <| OM (t := 37) rfl (Vb (rfl : true = _)) rfl ?_
  refine CN <| zap (u := .bool _) (Vb (rfl : true = _)) rfl <| AB rfl <| NL <| zaj [(0, Pp _ _), (5, Pp _ _), (7, .int .u8 _), (8, .bool _), (19, .bool _)] E5 fun f => zax (Vb (rfl : true = _)) <| SR <| AI rfl <| NL <| zah Tryz.func77 rfl (TP (v := .int .i64 _) rfl) ?_
  replace hst := hst.pick (.cons .u1 (.cons .u1 .nil))
  have hX : zbN c a bound = 42 := zcI (.inr (.inl (by rw [hkd]; omega)))
  rw [hX]
  exact ⟨ao, cp, ws, room, rfl, fun h => absurd h De, by omega, hr0, by omega, (St.pack (L1 := [_, _]) (L2 := []) hst)⟩
 refine TK (t := 29) rfl (Vb (Df g13)) <| zad (v := .bool _) rfl <| TK (t := 29) rfl (Vb (Df g13)) <| zad (v := .bool _) rfl <| zan (d := 31) rfl (fun g14 => ?_) (fun g14 => ?_)
 ·refine TK (t := 31) rfl (Vb (Dt g14)) <| zaa zbM rfl <| TK (t := 31) rfl (Vb (Dt g14)) <| zae (v := .int .u32 _) zbt rfl rfl (hst.cellL Q0 rfl) <| TK (t := 31) rfl (Vb (Dt g14)) <| zaW rfl rfl <| TK (t := 29) rfl (Vb (Df g13)) <| zap (u := .bool _) (Vb (Dt g14)) rfl <| CN <| zaq (u := .bool _) (Vb (Df g13)) rfl <| MB rfl <| zan (d := 37) rfl (fun g15 => ?_) (fun g15 => ?_)
  ·refine OM (t := 37) rfl (Vb (Dt g15)) rfl <| OM (t := 37) rfl (Vb (Dt g15)) rfl <| OM (t := 37) rfl (Vb (Dt g15)) rfl <| zaB (t := 40) rfl rfl <| zaB (t := 40) rfl rfl <| zaB (t := 40) rfl rfl <| OM (t := 37) rfl (Vb (Dt g15)) rfl <| CN <| zap (u := .bool _) (Vb (Dt g15)) rfl <| AB rfl <| NL <| zaj [(0, Pp _ _), (5, Pp _ _), (7, .int .u8 _), (8, .bool _), (19, .bool _)] E5 fun f => zax (Vb (rfl : true = _)) <| SR <| AI rfl ?_
   refine NL <| zah Tryz.func77 rfl (TP (v := .int .i64 _) rfl) ?_
   replace hst := hst.pick (.cons .u1 (.cons .u1 .nil))
   have hX : zbN c a bound = 42 := zcI (.inr (.inr (.inl ⟨by omega, by omega⟩)))
   rw [hX]
   exact ⟨ao, cp, ws, room, rfl, fun h => absurd h De, by omega, hr0, by omega, (St.pack (L1 := [_, _]) (L2 := []) hst)⟩
  refine TK (t := 37) rfl (Vb (Df g15)) <| zad (v := .bool _) rfl <| TK (t := 37) rfl (Vb (Df g15)) <| zin rfl <| TK (t := 37) rfl (Vb (Df g15)) <| zad (v := .bool _) rfl <| zan (d := 40) rfl (fun g16 => ?_) (fun g16 => ?_)
  ·exfalso
   omega
  refine OM (t := 40) rfl (Vb (Df g16)) rfl <| OM (t := 40) rfl (Vb (Df g16)) rfl <| OM (t := 40) rfl (Vb (Df g16)) rfl <| TK (t := 37) rfl (Vb (Df g15)) <| zaq (u := .bool _) (Vb (Df g16)) rfl <| CN <| zaq (u := .bool _) (Vb (Df g15)) rfl <| AB rfl <| NL <| zaj [(0, Pp _ _), (5, Pp _ _), (7, .int .u8 _), (8, .bool _), (19, .bool _)] E5 fun f => zat (Vb (rfl : false = _)) <| SR <| MB rfl <| AB rfl <| NL <| zab rfl (fun g17 => ?_) (fun g17 => ?_)
  ·refine SR <| MP rfl <| CN <| zaa zbh rfl <| CN (zae (v := str _) ty9 rfl rfl (hst.cellL Q0 rfl) ?_)
   replace hst := hst.pick (.cons .u1 (.cons .u1 (.cons .u0 .nil)))
   replace hst : St _ _ (WrC 134 22 bq fm bound ao cp ws room :: _) _ _ := hst.pack (L1 := [_, _])
   refine CN (zaz (v1 := Pp _ _) (v2 := str _) ent139 rfl rfl rfl ((zsI bq fm bound ao cp ws room a.s hs _ (hst.hL _ Q0) hl hr0 hr1).mono fun v w hp => ?_))
   obtain ⟨ao2, cp2, ws2, room2, rfl, hE, hw2, hr2, hr3, hp⟩ := hp
   replace hst : St _ _ (WrC 134 22 bq fm bound ao2 cp2 ws2 room2 :: _) _ _ := hst.call1 hp
   clear hp
   refine AI rfl <| NL <| zah Tryz.func77 rfl (TP (v := .int .i64 _) rfl) ?_
   replace hst := hst.pick (.cons .u0 .nil)
   have hX := zpb (c := c) (a := a) (bound := bound) (by omega) (by rw [hkd]; omega) (by omega) (by omega)
   have hY := zd8 (a := a) Om
   rw [hX, hY.1, hY.2]
   exact ⟨ao2, cp2, ws2, room2, rfl, hE, hw2, hr2, hr3, hst⟩
  exfalso
  omega
 refine OM (t := 31) rfl (Vb (Df g14)) rfl <| OM (t := 31) rfl (Vb (Df g14)) rfl <| OM (t := 31) rfl (Vb (Df g14)) rfl <| TK (t := 29) rfl (Vb (Df g13)) <| zaq (u := .bool _) (Vb (Df g14)) rfl <| CN <| zaq (u := .bool _) (Vb (Df g13)) rfl <| MB rfl <| TK (t := 37) rfl (Vb (rfl : false = _)) <| zad (v := .bool _) rfl <| TK (t := 37) rfl (Vb (rfl : false = _)) <| zin rfl <| TK (t := 37) rfl (Vb (rfl : false = _)) <| zad (v := .bool _) rfl <| zan (d := 40) rfl (fun g18 => ?_) (fun g18 => ?_)
 ·refine TK (t := 40) rfl (Vb (Dt g18)) <| zaa zbh rfl <| TK (t := 40) rfl (Vb (Dt g18)) <| zae (v := str _) ty9 rfl rfl (hst.cellL Q0 rfl) <| TK (t := 40) rfl (Vb (Dt g18)) <| zcN rfl rfl <| TK (t := 37) rfl (Vb (rfl : false = _)) <| zap (u := .bool _) (Vb (Dt g18)) rfl <| CN <| zaq (u := .bool _) (Vb (rfl : false = _)) rfl <| AB rfl <| NL <| zaj [(0, Pp _ _), (5, Pp _ _), (7, .int .u8 _), (8, .bool _), (19, .bool _)] E5 fun f => zab rfl (fun g19 => ?_) (fun g19 => ?_)
  ·refine SR <| AI rfl <| NL <| zah Tryz.func77 rfl (TP (v := .int .i64 _) rfl) ?_
   replace hst := hst.pick (.cons .u1 (.cons .u1 .nil))
   have hX : zbN c a bound = 42 := zcI (.inr (.inr (.inr ⟨by omega, by simpa using g19⟩)))
   rw [hX]
   exact ⟨ao, cp, ws, room, rfl, fun h => absurd h De, by omega, hr0, by omega, (St.pack (L1 := [_, _]) (L2 := []) hst)⟩
  refine SR <| MB rfl <| AB rfl <| NL <| zab rfl (fun g20 => ?_) (fun g20 => ?_)
  ·exfalso
   omega
  refine zaf <| zam <| SR <| MP rfl <| CN <| zaa zbM rfl <| CN (zae (v := .int .u32 _) zbt rfl rfl (hst.cellL Q0 rfl) ?_)
  replace hst := hst.pick (.cons .u1 (.cons .u1 (.cons .u0 .nil)))
  replace hst : St _ _ (WrC 134 22 bq fm bound ao cp ws room :: _) _ _ := hst.pack (L1 := [_, _])
  refine CN (zaz (v1 := Pp _ _) (v2 := .int .u32 _) zxj rfl rfl rfl ((zrs bq fm bound ao cp ws room _ _ (hst.hL _ Q0) hl hr0 hr1).mono fun v w hp => ?_))
  obtain ⟨ao2, cp2, hp⟩ := hp
  replace hst : St _ _ (WrC 134 22 bq fm bound ao2 cp2 (ws ++ [a.n]) (room + 1) :: _) _ _ := hst.call1 hp
  replace hst : St _ _ (_ :: _ :: _) _ _ := hst.unpack
  clear hp
  refine NL <| SQ <| SR <| CN <| zaa zbA rfl <| CN <| zae (v := .int .u8 _) ty5 rfl rfl (hst.cellL Q2 rfl) <| NL <| zao <| SR <| CN <| zak rfl rfl <| AB rfl <| NL <| zab rfl (fun g21 => ?_) (fun g21 => ?_)
  ·refine SQ <| RunD.start [] hst (bs := [0, 1, 0, 4, 12, 28, 63, 127]) (ds := [some 60, some 61, some 62, some 63, some 64, some 65, some 66, some 6]) ⟨Kr, Kr, Kr⟩ (fun tab22 => ?_)
   refine DO tab22 1 (fun f' L' w' hc=> zaa zbM (hc.old (v := Pp _ _) rfl rfl rfl) hc.z) <| DO tab22 2 (fun f' L' w' hc=> zae (v := .int .u32 _) zbt rfl (hc.d 0 rfl rfl rfl rfl) (hc.st.cellL (List.mem_append_right _ Q2) rfl) hc.z) <| DO tab22 3 (fun f' L' w' hc=> zad (v := Pp _ _) (hc.old rfl rfl rfl) hc.z) <| DO tab22 4 (fun f' L' w' hc=> zaK (hc.d 2 rfl rfl rfl rfl) hc.z) <| DO tab22 5 (fun f' L' w' hc=> zaa zq2 (hc.d 3 rfl rfl rfl rfl) hc.z) <| DO tab22 6 (fun _ _ _ hc => zae (v := .int .u32 _) zbt rfl (hc.d 4 rfl rfl rfl rfl) (hc.st.cellL (List.mem_append_right _ Q0) rfl) hc.z) <| RunD.fin zaw tab22 hst rfl (fun f23 w R26 hs24 hd25 hr27 hst => ?_)
   obtain ⟨h60_, r0⟩ := hd25 0 60 rfl rfl
   obtain ⟨h61_, r1⟩ := hd25 1 61 rfl rfl
   obtain ⟨h62_, r2⟩ := hd25 2 62 rfl rfl
   obtain ⟨h63_, r3⟩ := hd25 3 63 rfl rfl
   obtain ⟨h64_, r4⟩ := hd25 4 64 rfl rfl
   obtain ⟨h65_, r5⟩ := hd25 5 65 rfl rfl
   simp only [rg6, Fc, Fn, Mc, Mn, r0, r1, r2, r3, r4, r5, Na, An, Ca] at hst
   refine zaD (sl := [(61, .int .u32 _), (65, .int .u32 _)]) ⟨h61_, h65_, trivial⟩ ?_
   clear hs24 hd25 hr27 tab22
   refine CN <| zaz (v1 := .int .u32 _) (v2 := .int .u32 _) zxi rfl rfl rfl <| Ret.det (zu1 _ _ _) hst fun w hst => AI rfl <| NL <| zah Tryz.func77 rfl (TP (v := .int .i64 _) rfl) ?_
   replace hst := hst.pick (.cons .u0 (.cons .u0 .nil))
   have hX := zix (c := c) (a := a) (bound := bound) (by omega) (by rw [hkd]; omega) (by omega) (by simpa using g19)
   have hY := zek (a := a) Om
   rw [if_pos (by omega)] at hX
   rw [hX, hY.1, hY.2]
   exact ⟨ao2, cp2, ws ++ [a.n], room + 1, rfl, fun _ => ⟨rfl, rfl⟩, by simp, by omega, by omega, (St.pack (L1 := [_, _]) (L2 := []) hst)⟩
  refine SR <| CN <| zak rfl rfl <| AB rfl <| NL <| zab rfl (fun g28 => ?_) (fun g28 => ?_)
  ·refine SR <| MC rfl <| CN <| zaa zbM rfl <| CN <| zae (v := .int .u32 _) zbt rfl rfl (hst.cellL Q2 rfl) <| CN <| zaz (v1 := .int .u8 _) (v2 := .int .u32 _) ent140 rfl rfl rfl <| Ret.det (zsL _ _ hcb.1 hcb.2 _) hst fun w hst => AI rfl <| NL <| zah Tryz.func77 rfl (TP (v := .int .i64 _) rfl) ?_
   replace hst := hst.pick (.cons .u0 (.cons .u0 .nil))
   have hX := zix (c := c) (a := a) (bound := bound) (by omega) (by rw [hkd]; omega) (by omega) (by simpa using g19)
   have hY := zek (a := a) Om
   rw [if_neg (by omega), if_pos (by omega)] at hX
   rw [hX, hY.1, hY.2]
   exact ⟨ao2, cp2, ws ++ [a.n], room + 1, rfl, fun _ => ⟨rfl, rfl⟩, by simp, by omega, by omega, (St.pack (L1 := [_, _]) (L2 := []) hst)⟩
  refine zaf <| zam <| SR <| AI rfl <| NL <| zah Tryz.func77 rfl (TP (v := .int .i64 _) rfl) ?_
  replace hst := hst.pick (.cons .u0 (.cons .u0 .nil))
  have hX := zix (c := c) (a := a) (bound := bound) (by omega) (by rw [hkd]; omega) (by omega) (by simpa using g19)
  have hY := zek (a := a) Om
  rw [if_neg (by omega), if_neg (by omega)] at hX
  rw [hX, hY.1, hY.2]
  exact ⟨ao2, cp2, ws ++ [a.n], room + 1, rfl, fun _ => ⟨rfl, rfl⟩, by simp, by omega, by omega, (St.pack (L1 := [_, _]) (L2 := []) hst)⟩
 exfalso
 omega
end Go.SK
namespace Go.SK
open Go Go.Proofs
theorem ty134 : TyF Tryz.prog 134 (.struct (zbJ Tryz.prog 134)) 11 120 [.int .u16 0, str [], .bool false, .bool false, str [], str [], .int .i64 0, .int .u8 0, .int .u32 0, .slice none 0 0, .int .i64 0] := zbK Kr Kr
theorem stf134 : zdL Tryz.prog 134 [(0, 8), (8, 1), (9, 1), (10, 1)] := ⟨zbJ Tryz.prog 134, Kr, fun w => Kr⟩
theorem ent76 : zaN Tryz.prog 76 := ⟨Tryz.f76, _, Tryz.func76, Kr, rfl⟩
theorem ent77 : zaN Tryz.prog 77 := ⟨Tryz.f77, _, Tryz.func77, Kr, rfl⟩
end Go.SK
namespace Go.SK
open Go Go.Proofs
open Go.RowKit
theorem zrt (p : InstP) (bound : Int) (h0 : 0 ≤ p.op) (w : World) (hA : (Res.rargs p).holds w) (hsm : (p.args.map za1).sum ≤ 900000000) (hla : ∀ a ∈ p.args, a.s.length ≤ 100000000000) : Ret Tryz.prog 37 #[.agg #[.int .u16 p.op, .int .u32 p.ty, .int .u32 p.res, .slice p.ao p.args.length p.cap], .int .u32 bound] w (fun v w' => ∃ ro rc, v = .tuple #[.agg #[.int .u16 (zis bound p.L).1.1, .slice ro (zis bound p.L).1.2.length rc], .int .i64 (zis bound p.L).2] ∧ St w NoM [Res.sl ro (zis bound p.L).1.2.length rc 22 1 ((zis bound p.L).1.2.flatMap zdE)] [] w') := by
 refine zav (args := [.agg #[.int .u16 p.op, .int .u32 p.ty, .int .u32 p.res, .slice p.ao p.args.length p.cap], .int .u32 bound]) Tryz.func37 rfl rfl rfl ?_
 have hst : St w NoM [] [Res.rargs p] w := St.init_D hA
 clear hA
 obtain ⟨fm, hfm⟩ : ∃ fm, zbq p.op = fm := ⟨_, rfl⟩
 obtain ⟨ob, hob⟩ : ∃ ob, (zbv p.op).isSome = ob := ⟨_, rfl⟩
 obtain ⟨we, hwe⟩ : ∃ we, zgh fm.op p.args = we := ⟨_, rfl⟩
 have hf : FOk fm := hfm ▸ zeg p.op
 have hlen := zeE p.args
 refine SR <| CN <| zbi (v := zbb _ _ _ _ _ _) hst rfl rfl fun w b2 hst => CN <| Op1.alloc hst zeR fun w b4 hst => AI rfl <| NSR <| CN <| zaa zdj rfl <| CN <| zae (v := .int .u16 _) zi4 rfl rfl (hst.cellL Q1 rfl) <| CN <| Op1.call1 (v1 := .int .u16 _) zue rfl rfl <| Ret.det (zmY h0 hfm hob _) hst fun w hst => CN <| zad (v := .tuple #[zau _ _ _ _ _ _ _ _, .bool _]) rfl <| CN <| Ex (zau _ _ _ _ _ _ _ _) rfl rfl <| CN <| Ex (.bool _) rfl rfl <| CN (Op1.alloc hst zaM fun w b6 hst => ?_)
 refine CN (SO (v := zau _ _ _ _ _ _ _ _) hst zaM rfl rfl .u0 fun w hst => ?_)
 refine AB rfl <| NL <| SQ <| SR <| MB rfl <| CN <| zaZ rfl <| NL <| zaA rfl (fun g1 => ?_) (fun g1 => ?_)
 ·refine SR <| CN (zag zeR zpm .nil ?_)
  refine CN (SO (v := gHL _ _ _ _) hst zeR rfl rfl .u1 fun w hst => ?_)
  refine AI rfl <| NL <| zai Tryz.func37 rfl (zal (vs := lHL _ _ _ _) rfl zeR rfl rfl (zac (n := 2) (hst.objL Q1) _ rfl)) (TP (v := .int .i64 _) rfl) ?_
  replace hst := hst.pick .nil
  have hI := zgO (bound := bound) (i := p.L) (zkm (by rw [hob]; simpa using g1)) (by decide)
  rw [hI]
  exact ⟨none, 0, rfl, (hst.pushNil 22 1).noD⟩
 have hobt : ob = true := by simpa using g1
 have hisS : (zbv p.op).isSome = true := hob.trans hobt
 have hfo : fm.op = p.op := by rw [← hfm]; exact (ztp hisS).2
 have hfm2 : zbq fm.op = fm := by rw [hfo]; exact hfm
 refine zaf <| SR <| CN <| zar (vs := zaC _ _ _ _ _ _ _ _) zaM rfl rfl rfl (zac (n := 8) (hst.objL Q0) _ rfl) <| MU rfl <| CN (zag ty134 stf134 (.c (v := zau _ _ _ _ _ _ _ _) rfl (h := (.c (v := .int .u32 _) rfl (h := .nil)))) ?_)
 refine CN <| zbi (v := .agg #[.int .u16 _, str _, .bool _, .bool _, str _, str _, .int .i64 _, .int .u8 _, .int .u32 _, .slice _ _ _, .int .i64 _]) hst rfl rfl fun w b25 hst => AP rfl <| NL <| SQ ?_
 replace hst := hst.pushNil 22 1
 replace hst := hst.pick (.cons .u1 (.cons .u0 (.cons .u0 (.cons .u0 (.cons .u0 .nil)))))
 replace hst : St _ _ (WrC 134 22 b25 fm bound none 0 [] 0 :: _) _ _ := hst.pack (L1 := [_, _])
 refine RG <| MP rfl <| CN <| zaa zdy rfl <| CN <| zae (v := .bool _) ty4 rfl rfl (hst.cellL Q1 rfl) <| CN <| zaa zdK rfl <| CN (zae (v := .int .u32 _) zbt rfl rfl (hst.cellL Q3 rfl) ?_)
 replace hst := hst.pick (.cons .u0 (.cons .u0 (.cons .u0 (.cons .u0 .nil))))
 refine CN (zir (v1 := Pp _ _) (v2 := .bool _) (v3 := .int .u32 _) (v4 := .int .i64 _) ent76 rfl rfl rfl rfl rfl ((zlU b25 fm bound none 0 [] 0 fm.ty p.ty 40 De _ (hst.hL _ Q0) De De De).mono fun v w hp => ?_))
 obtain ⟨ao1, cp1, ws1, rm1, rfl, hE1, hw1, hr1, hs1, hp⟩ := hp
 replace hst : St _ _ (WrC 134 22 b25 fm bound ao1 cp1 ws1 rm1 :: _) _ _ := hst.call1 hp
 clear hp
 refine AI rfl <| NL <| zaj [(2, Pp _ _), (4, Pp _ _), (6, Pp _ _), (8, Pp _ _), (9, .int .i64 _)] E5 fun f => SQ <| zcT (L1 := [_]) [(2, Pp _ _), (4, Pp _ _), (6, Pp _ _), (8, Pp _ _)] hst E4 (fun (q : Option Addr × Nat × List Int × Int × Int) => [(9, .int .i64 q.2.2.2.2)]) (fun (q : Option Addr × Nat × List Int × Int × Int) => [WrC 134 22 b25 fm bound q.1 q.2.1 q.2.2.1 q.2.2.2.1]) (fun (q : Option Addr × Nat × List Int × Int × Int) => RW bound p.L 0 q.2.2.1 q.2.2.2.1 q.2.2.2.2) (fun ⟨ao0, cp0, ws0, rm0, e0⟩ f w hst hJ1 => ?_) (fun cut2 => ?_)
 replace hst : St _ _ ([WrC 134 22 b25 fm bound ao0 cp0 ws0 rm0] ++ [_, _, _]) _ _ := hst
 replace hJ1 : RW bound p.L 0 ws0 rm0 e0 := hJ1
 refine za2 (sl := [(9, .int .i64 e0)]) ⟨rfl, trivial⟩ ?_
 ·refine SR <| MP rfl <| CN <| zce <| CN <| Op1.assign (v := .func _ _ _) rfl <| NL <| SQ <| SR <| CN <| zaa zbR rfl <| CN <| zae (v := .slice _ _ _) zdb rfl rfl (hst.cellL Q3 rfl) <| CN <| zaQ (rest := []) zdb rfl <| MI rfl <| NL <| zao ?_
  refine zaV <| zaU [(2, Pp _ _), (4, Pp _ _), (6, Pp _ _), (8, Pp _ _), (10, .func _ _ _), (43, .slice _ _ _), (44, .int .i64 _)] E7 (fun (q : Nat × Option Addr × Nat × List Int × Int × Int) => [(9, .int .i64 q.2.2.2.2.2), (45, .int .i64 (q.1 : Int))]) (fun (q : Nat × Option Addr × Nat × List Int × Int × Int) => [WrC 134 22 b25 fm bound q.2.1 q.2.2.1 q.2.2.2.1 q.2.2.2.2.1]) (fun (q : Nat × Option Addr × Nat × List Int × Int × Int) => q.1 ≤ p.args.length ∧ RW bound p.L q.1 q.2.2.2.1 q.2.2.2.2.1 q.2.2.2.2.2) (fun (q : Nat × Option Addr × Nat × List Int × Int × Int) => p.args.length - q.1) ((0, ao0, cp0, ws0, rm0, e0)) hst ⟨Nat.zero_le _, hJ1⟩ E2 ?_
  intro ⟨k, ao, cp, ws, room, e⟩ f w hst hK0 ih4
  replace hst : St _ _ ([WrC 134 22 b25 fm bound ao cp ws room] ++ [_, _, _]) _ _ := hst
  replace hK0 : k ≤ p.args.length ∧ RW bound p.L k ws room e := hK0
  refine za2 (sl := [(9, .int .i64 e), (45, .int .i64 (k : Int))]) E2 ?_
  have hK := hK0.2
  refine SR <| CN <| zaS rfl rfl <| NL <| SQ <| zab rfl (fun g5 => ?_) (fun g5 => ?_)
  ·have hsum : zm3 p.L.args k ≤ (p.args.map za1).sum := zmd
   have hlk := hK.len
   have hrk := hK.r1
   have hr0 := hK.r0
   have hmem : (p.args.getD k zeroA) ∈ p.args := zb8 Om
   have hsl := hla _ hmem
   have hidx : p.args.getD ((k : Int)).toNat zeroA = (p.args.getD k zeroA) := rfl
   refine zaf <| SQ <| zao <| SR <| MI rfl <| CN <| zaO zdb za9 (hst.hD _ Q0) rfl rfl Om Om <| CN <| zar (vs := zcX _ _ _) za9 rfl rfl rfl (Res.rs2_cells (m := 3) (hst.hD _ Q0) _ (zbG (g := zff) (d := zeroA) zcL _ _ Om)) <| CN <| Op1.alloc hst za9 fun w b12 hst => AI rfl <| CN (SO (v := zcy _ _ _) hst za9 rfl rfl .u0 fun w hst => ?_)
   refine NSR <| MI rfl <| CN <| zak rfl rfl <| NL <| zab rfl (fun g6 => ?_) (fun g6 => ?_)
   ·refine RG <| CN <| zad (v := .func _ _ _) rfl <| MI rfl <| CN (zar (vs := zcX _ _ _) za9 rfl rfl rfl (zac (n := 3) (hst.objL Q0) _ rfl) ?_)
    replace hst := hst.pick (.cons .u1 (.cons .u0 (.cons .u0 (.cons .u0 (.cons .u0 .nil)))))
    obtain rfl : e = 0 := by omega
    refine CN (zg9 (v1 := .int .i64 _) (v2 := zcy _ _ _) rfl rfl rfl (zdN ent77 ((zuZ b25 fm bound ao cp ws room k Om (p.args.getD k zeroA) hsl _ hfm2 rfl _ (hst.hL _ Q0) Om hr0 Om).mono fun v w hp => ?_)))
    obtain ⟨ao3, cp3, ws3, rm3, rfl, hE3, hw3, hr3, hs3, hp⟩ := hp
    replace hst : St _ _ (WrC 134 22 b25 fm bound ao3 cp3 ws3 rm3 :: _) _ _ := hst.call1 hp
    clear hp
    refine AI rfl <| NL <| zam <| RG <| CN <| zas rfl rfl rfl zbe <| MI rfl <| NL <| zay ?_
    replace hst := hst.pick (.cons .u0 (.cons .u0 (.cons .u0 (.cons .u0 (.cons .u0 .nil)))))
    have hst2 := hK.step (ws2 := ws3) (room2 := rm3) hisS (by (try dsimp only); omega) (by rw [hfm]; exact hE3) hw3 hr3 hs3
    rw [hfm] at hst2
    replace hst := hst.pick (.cons .u0 (.cons .u1 (.cons .u1 (.cons .u1 .nil))))
    exact ih4 ((k + 1, ao3, cp3, ws3, rm3, (zbN (zaP fm (k : Int)) (p.args.getD k zeroA) bound))) _ w Od hst (⟨by (try dsimp only); omega, hst2⟩) E7 ⟨rfl, (Vi Od), trivial⟩
   refine zaf <| zam <| RG <| CN <| zas rfl rfl rfl zbe <| MI rfl <| NL <| zay ?_
   replace hst := hst.pick (.cons .u1 (.cons .u0 (.cons .u0 (.cons .u0 (.cons .u0 .nil)))))
   have hst2 := hK.skip g6 Od
   replace hst := hst.pick (.cons .u0 (.cons .u1 (.cons .u1 (.cons .u1 .nil))))
   exact ih4 ((k + 1, ao, cp, ws, room, e)) _ w Od hst (⟨by (try dsimp only); omega, hst2⟩) E7 ⟨rfl, (Vi Od), trivial⟩
  obtain rfl : k = p.args.length := by omega
  refine zaJ (id := 0) rfl <| SQ <| SR <| MI rfl <| CN <| zak rfl rfl <| NL <| zab rfl (fun g7 => ?_) (fun g7 => ?_)
  ·refine RG <| CN <| zar (vs := zaC _ _ _ _ _ _ _ _) zaM rfl rfl rfl (zac (n := 8) (hst.objL Q1) _ rfl) <| CN <| zaa zbR rfl <| CN (zae (v := .slice _ _ _) zdb rfl rfl (hst.cellL Q3 rfl) ?_)
   obtain rfl : e = 0 := by omega
   have hfu := hK.full hisS
   have hsum := zmd (l := p.args) (k := p.args.length)
   have hrk := hK.r1
   have hr0 := hK.r0
   refine CN <| zaz (v1 := zau _ _ _ _ _ _ _ _) (v2 := .slice _ _ _) ent78 rfl rfl rfl <| zf0 (zsJ fm hf p.args _ _ _ (hst.hD _ Q0) Om) (Vi hwe) hst fun w hst => AI rfl <| NL <| SQ <| SQ ?_
   replace hst := hst.pick (.cons .u0 (.cons .u0 (.cons .u0 (.cons .u0 .nil))))
   replace hst : St _ _ (_ :: _ :: _) _ _ := hst.unpack
   refine RG <| MI rfl <| CN <| zak rfl rfl <| MB rfl <| zan (d := 65) rfl (fun g8 => ?_) (fun g8 => ?_)
   ·refine TK (t := 65) rfl (Vb (Dt g8)) <| zad (v := Pp _ _) rfl <| TK (t := 65) rfl (Vb (Dt g8)) <| zaK rfl <| TK (t := 65) rfl (Vb (Dt g8)) <| zaa zfP rfl <| TK (t := 65) rfl (Vb (Dt g8)) <| zae (v := .int .i64 _) ty3 rfl rfl (hst.cellL Q0 rfl) <| TK (t := 65) rfl (Vb (Dt g8)) <| zbo rfl rfl <| CN <| zap (u := .bool _) (Vb (Dt g8)) rfl <| NL <| zab rfl (fun g9 => ?_) (fun g9 => ?_)
    ·refine RG <| AI rfl <| NL <| SQ <| SR <| MI rfl <| CN <| zaW rfl rfl <| NL <| zaj [(2, Pp _ _), (4, Pp _ _), (8, Pp _ _), (9, .int .i64 _), (73, .bool _)] E5 fun f => zab rfl (fun g10 => ?_) (fun g10 => ?_)
     ·refine SR <| CN (zag zeR zpm .nil ?_)
      refine MI rfl <| CN (SO (v := gHL _ _ _ _) hst zeR rfl rfl .u3 fun w hst => ?_)
      refine AI rfl <| NL <| zai Tryz.func37 rfl (zal (vs := lHL _ _ _ _) rfl zeR rfl rfl (zac (n := 2) (hst.objL Q3) _ rfl)) (TP (v := .int .i64 _) rfl) ?_
      replace hst := hst.pick .nil
      have hf2 := hfu.2.2
      rw [show zgh p.L.op p.L.args = we from by rw [← hwe, hfo]] at hf2
      rw [if_neg (fun h => h (by omega))] at hf2
      have hr2 := hfu.2.1
      rw [hfm] at hr2 hf2
      rw [if_pos (by (try dsimp only at hr2 ⊢); omega)] at hf2
      have hI := zgO (bound := bound) (i := p.L) (hf2) De
      rw [hI]
      exact ⟨none, 0, rfl, (hst.pushNil 22 1).noD⟩
     exfalso
     exact g10 De
    refine zaf <| SQ <| SR <| MI rfl <| CN <| zaW rfl rfl <| NL <| zaj [(2, Pp _ _), (4, Pp _ _), (8, Pp _ _), (9, .int .i64 _), (73, .bool _)] E5 fun f => zab rfl (fun g11 => ?_) (fun g11 => ?_)
    ·exfalso
     omega
    refine zaf <| SQ <| RunD.start [] hst (bs := [0, 1, 0, 4, 12, 28, 63, 127, 255]) (ds := [some 76, some 77, some 78, some 79, some 80, some 81, some 82, none, some 5]) ⟨Kr, Kr, Kr⟩ (fun tab12 => ?_)
    refine DO tab12 1 (fun f' L' w' hc=> zaa zdj (hc.old (v := Pp _ _) rfl rfl rfl) hc.z) <| DO tab12 2 (fun f' L' w' hc=> zae (v := .int .u16 _) zi4 rfl (hc.d 0 rfl rfl rfl rfl) (hc.st.cellL (List.mem_append_right _ Q4) rfl) hc.z) <| DO tab12 3 (fun f' L' w' hc=> zad (v := Pp _ _) (hc.old rfl rfl rfl) hc.z) <| DO tab12 4 (fun f' L' w' hc=> zaK (hc.d 2 rfl rfl rfl rfl) hc.z) <| DO tab12 5 (fun f' L' w' hc=> zaa zh5 (hc.d 3 rfl rfl rfl rfl) hc.z) <| DO tab12 6 (fun _ _ _ hc => zae (v := .slice _ _ _) ze7 rfl (hc.d 4 rfl rfl rfl rfl) (hc.st.cellL (List.mem_append_right _ Q0) rfl) hc.z) <| RunD.fin zaw tab12 hst rfl (fun f13 w R16 hs14 hd15 hr17 hst => ?_)
    obtain ⟨h76_, r0⟩ := hd15 0 76 rfl rfl
    obtain ⟨h77_, r1⟩ := hd15 1 77 rfl rfl
    obtain ⟨h78_, r2⟩ := hd15 2 78 rfl rfl
    obtain ⟨h79_, r3⟩ := hd15 3 79 rfl rfl
    obtain ⟨h80_, r4⟩ := hd15 4 80 rfl rfl
    obtain ⟨h81_, r5⟩ := hd15 5 81 rfl rfl
    simp only [rg6, Fc, Fn, Mc, Mn, r0, r1, r2, r3, r4, r5, Na, An, Ca] at hst
    refine zaD (sl := [(4, Pp _ _), (77, .int .u16 _), (81, .slice _ _ _)]) ⟨(hs14 4 rfl).trans rfl, h77_, h81_, trivial⟩ ?_
    clear hs14 hd15 hr17 tab12
    refine CN (zag zeR zpm (.c (v := .int .u16 _) rfl (h := (.c (v := .slice _ _ _) rfl (h := .nil)))) ?_)
    refine CN (SO (v := gHL _ _ _ _) hst zeR rfl rfl .u3 fun w hst => ?_)
    refine AI rfl <| NL <| zai Tryz.func37 rfl (zal (vs := lHL _ _ _ _) rfl zeR rfl rfl (zac (n := 2) (hst.objL Q3) _ rfl)) (TP (v := .int .i64 _) rfl) ?_
    replace hst := hst.pick (.cons .u1 .nil)
    have hf2 := hfu.2.2
    rw [show zgh p.L.op p.L.args = we from by rw [← hwe, hfo]] at hf2
    rw [if_neg (fun h => h (by omega))] at hf2
    have hr2 := hfu.2.1
    rw [hfm] at hr2 hf2
    rw [if_neg (by (try dsimp only at hr2 ⊢); omega)] at hf2
    have hI := zps (bound := bound) (i := p.L) hf2
    rw [hI, ← hfu.1]
    exact ⟨ao, cp, rfl, hst.noD⟩
   refine OM (t := 65) rfl (Vb (Df g8)) rfl <| OM (t := 65) rfl (Vb (Df g8)) rfl <| OM (t := 65) rfl (Vb (Df g8)) rfl <| OM (t := 65) rfl (Vb (Df g8)) rfl <| OM (t := 65) rfl (Vb (Df g8)) rfl <| CN <| zaq (u := .bool _) (Vb (Df g8)) rfl <| NL <| zat (Vb (rfl : false = _)) <| zaf <| SQ <| SR <| MI rfl <| CN <| zaW rfl rfl <| NL ?_
   refine zab rfl (fun g18 => ?_) (fun g18 => ?_)
   ·refine SR <| CN (zag zeR zpm .nil ?_)
    refine MI rfl <| CN (SO (v := gHL _ _ _ _) hst zeR rfl rfl .u3 fun w hst => ?_)
    refine AI rfl <| NL <| zai Tryz.func37 rfl (zal (vs := lHL _ _ _ _) rfl zeR rfl rfl (zac (n := 2) (hst.objL Q3) _ rfl)) (TP (v := .int .i64 _) rfl) ?_
    replace hst := hst.pick .nil
    have hf2 := hfu.2.2
    rw [show zgh p.L.op p.L.args = we from by rw [← hwe, hfo]] at hf2
    rw [if_pos g8] at hf2
    have hI := zgO (bound := bound) (i := p.L) (hf2) g8
    rw [hI]
    exact ⟨none, 0, rfl, (hst.pushNil 22 1).noD⟩
   exfalso
   omega
  refine zaf <| SQ <| SQ ?_
  replace hst := hst.pick (.cons .u0 (.cons .u0 (.cons .u0 (.cons .u0 .nil))))
  replace hst : St _ _ (_ :: _ :: _) _ _ := hst.unpack
  refine RG <| MI rfl <| CN <| zak rfl rfl <| MB rfl <| zan (d := 65) rfl (fun g19 => ?_) (fun g19 => ?_)
  ·exfalso
   omega
  refine OM (t := 65) rfl (Vb (Df g19)) rfl <| OM (t := 65) rfl (Vb (Df g19)) rfl <| OM (t := 65) rfl (Vb (Df g19)) rfl <| OM (t := 65) rfl (Vb (Df g19)) rfl <| OM (t := 65) rfl (Vb (Df g19)) rfl <| CN <| zaq (u := .bool _) (Vb (Df g19)) rfl <| NL <| zat (Vb (rfl : false = _)) <| zaf <| SQ <| SR <| MI rfl <| CN <| zaW rfl rfl <| NL ?_
  refine zab rfl (fun g20 => ?_) (fun g20 => ?_)
  ·refine SR <| CN (zag zeR zpm .nil ?_)
   refine MI rfl <| CN (SO (v := gHL _ _ _ _) hst zeR rfl rfl .u3 fun w hst => ?_)
   refine AI rfl <| NL <| zai Tryz.func37 rfl (zal (vs := lHL _ _ _ _) rfl zeR rfl rfl (zac (n := 2) (hst.objL Q3) _ rfl)) (TP (v := .int .i64 _) rfl) ?_
   replace hst := hst.pick .nil
   have hI := zgO (bound := bound) (i := p.L) (hK.err g7) g7
   rw [hI]
   exact ⟨none, 0, rfl, (hst.pushNil 22 1).noD⟩
  exfalso
  omega
 ·refine SR <| MI rfl <| CN <| zak rfl rfl <| NL <| zab rfl (fun g21 => ?_) (fun g21 => ?_)
  ·refine RG <| MP rfl <| CN <| zaa zcS rfl <| CN <| zae (v := .bool _) ty4 rfl rfl (hst.cellL Q1 rfl) <| CN <| zaa zeb rfl <| CN (zae (v := .int .u32 _) zbt rfl rfl (hst.cellL Q3 rfl) ?_)
   replace hst := hst.pick (.cons .u0 (.cons .u0 (.cons .u0 (.cons .u0 .nil))))
   have h10 : idH fm.ty p.ty bound 40 = 0 := by simpa using g21
   have hx1 := hE1 h10
   have hw1b : ws1.length ≤ 1 := hw1
   refine CN (zir (v1 := Pp _ _) (v2 := .bool _) (v3 := .int .u32 _) (v4 := .int .i64 _) ent76 rfl rfl rfl rfl rfl ((zlU b25 fm bound ao1 cp1 ws1 rm1 fm.res p.res 41 De _ (hst.hL _ Q0) Om hr1 Om).mono fun v w hp => ?_))
   obtain ⟨ao2, cp2, ws2, rm2, rfl, hE2, hw2, hr2, hs2, hp⟩ := hp
   replace hst : St _ _ (WrC 134 22 b25 fm bound ao2 cp2 ws2 rm2 :: _) _ _ := hst.call1 hp
   clear hp
   refine AI rfl <| NL ?_
   replace hst := hst.pick (.cons .u0 (.cons .u0 (.cons .u0 (.cons .u0 .nil))))
   exact cut2 ((ao2, cp2, ws2, rm2, idH fm.res p.res bound 41)) _ w (hst) ((by have hq := RW.start (i := p.L) (bound := bound) (ws2 := ws2) (room2 := rm2) hisS (by rw [hfm]; exact h10) (fun he => by rw [hfm] at he ⊢; have h2 := hE2 he; rw [hx1.1, hx1.2] at h2; exact h2) (by omega) hr2 (by omega); rw [hfm] at hq; exact hq)) E4 ⟨rfl, trivial⟩
  refine zaf ?_
  replace hst := hst.pick (.cons .u0 (.cons .u0 (.cons .u0 (.cons .u0 .nil))))
  have hq := RW.ty (i := p.L) (bound := bound) (ws := ws1) (room := rm1) hisS (by rw [hfm]; exact g21) hw1 hr1 (by omega)
  rw [hfm] at hq
  exact cut2 ((ao1, cp1, ws1, rm1, idH fm.ty p.ty bound 40)) _ w (hst) (hq) E4 ⟨rfl, trivial⟩
end Go.SK
namespace Go.SK
open Go Go.Proofs
theorem zug : zaN Tryz.prog 37 := ⟨Tryz.f37, _, Tryz.func37, Kr, rfl⟩
end Go.SK
namespace Go.SK
open Go Go.Proofs
open Go.RowKit
theorem zim {p : InstP} {bound rop re : Int} {rws : List Int} (hR : zis bound p.L = ((rop, rws), re)) (h0 : 0 ≤ p.op) (w : World) (hA : (Res.rargs p).holds w) (hsm : (p.args.map za1).sum ≤ 900000000) (hla : ∀ a ∈ p.args, a.s.length ≤ 100000000000) : Ret Tryz.prog 37 #[.agg #[.int .u16 p.op, .int .u32 p.ty, .int .u32 p.res, .slice p.ao p.args.length p.cap], .int .u32 bound] w (fun v w' => ∃ ro rc, v = .tuple #[.agg #[.int .u16 rop, .slice ro rws.length rc], .int .i64 re] ∧ St w NoM [Res.sl ro rws.length rc 22 1 (rws.flatMap zdE)] [] w') := by
 have h := zrt p bound h0 w hA hsm hla
 rw [hR] at h; exact h
end Go.SK
namespace Go.SK
open Go Go.Proofs
theorem zb3 : TyF Tryz.prog 25 (.struct (zbJ Tryz.prog 25)) 3 32 [.int .u32 0, .int .u32 0, .slice none 0 0] := zbK Kr Kr
theorem zpn : zdL Tryz.prog 25 [(0, 1), (1, 1), (2, 1)] := ⟨zbJ Tryz.prog 25, Kr, fun w => Kr⟩
end Go.SK
namespace Go.SK
theorem endJ.en {t : Tx} {a ln : Int} {i en : Nat} (h : endJ t a i ln en) (hi : i ≤ t.length) : en ≤ t.length := by
  rcases h.2 with h2 | h2
  · omega
  · omega
theorem endJ.ln {t : Tx} {a ln : Int} {i en : Nat} (h : endJ t a i ln en) : 1 ≤ ln ∧ ln ≤ 1 + (t.length : Int) := by
  have h1 := h.1
  have h2 := ztJ (t.take i)
  have h3 := List.length_take (i := i) (l := t)
  omega
end Go.SK
namespace Go.SK
theorem InstL.Okay.u32 {i : InstL} (h : i.Okay) : i.U32 := ⟨h.ty, h.res, fun a ha => (h.args a ha).1⟩
end Go.SK
namespace Go.SK
open Go.RowKit Go.ChangeShapes Go.WideShapes Go.ChangeAt
section
variable {P : Program} {ty : TypeId} {ρ : Operand → Value} {w0 w : World} {C : Value → World → Prop} {M : Nat → Prop} {L L' D : List Res}
variable {T U e : TypeId} {de : TypeDesc} {sz bytes sz2 b2 es eb : Nat} {zs ez z2 : List Value} {ao : Option Addr} {n cap : Nat} {xs : List Value}
def ByteF (P : Program) (e : TypeId) : Prop := (P.info? e).map (fun i => (i.zero, i.size, i.bytes)) = some (some (.int .u8 0), 1, 1)
theorem ByteF.parts (h : ByteF P e) : ∃ i, P.info? e = some i ∧ i.zero = some (.int .u8 0) ∧ i.size = 1 ∧ i.bytes = 1 := by
  obtain ⟨i, hi, h2⟩ := Option.map_eq_some_iff.1 h
  injection h2 with h3 h4
  injection h4 with h5 h6
  exact ⟨i, hi, h3, h5, h6⟩
end
end Go.SK
namespace Go.SK
open Go.RowKit Go.ChangeShapes Go.WideShapes Go.ChangeAt
abbrev BdR (T e : TypeId) (b : Nat) (p : Value) (ao : Option Addr) (cp : Nat) (l : List UInt8) : Res := Res.star [Res.row b T [p, .slice ao l.length cp], Res.sl ao l.length cp e 1 (l.flatMap byC)]
theorem BdR.app {T e : TypeId} {b : Nat} {p : Value} {ao : Option Addr} {cp : Nat} {l s : List UInt8} {w0 w : World} {M : Nat → Prop} {L D : List Res}
    (h : St w0 M (Res.row b T [p, .slice ao (l.length + s.length) cp] :: Res.sl ao (l.length + s.length) cp e 1 (l.flatMap byC ++ s.flatMap byC) :: L) D w) : St w0 M (BdR T e b p ao cp (l ++ s) :: L) D w := by
  rw [← List.length_append, ← List.flatMap_append] at h
  exact St.pack (L1 := [_, _]) h
abbrev VsR (T e : TypeId) (es : Nat) {α : Type} (g : α → List Value) (b : Nat) (ao : Option Addr) (cp : Nat) (l : List α) : Res := Res.star [Res.row b T [.slice ao l.length cp], Res.sl ao l.length cp e es (l.flatMap g)]
theorem VsR.app {α : Type} {g : α → List Value} {T e : TypeId} {es b : Nat} {ao : Option Addr} {cp : Nat} {l s : List α} {w0 w : World} {M : Nat → Prop} {L D : List Res}
    (h : St w0 M (Res.row b T [.slice ao (l.length + s.length) cp] :: Res.sl ao (l.length + s.length) cp e es (l.flatMap g ++ s.flatMap g) :: L) D w) : St w0 M (VsR T e es g b ao cp (l ++ s) :: L) D w := by
  rw [← List.length_append, ← List.flatMap_append] at h
  exact St.pack (L1 := [_, _]) h
end Go.SK
namespace Go.SK
theorem Wd.drop {l : List Int} (h : Wd l) (i : Nat) : Wd (l.drop i) := fun x hx => h x (List.mem_of_mem_drop hx)
end Go.SK
