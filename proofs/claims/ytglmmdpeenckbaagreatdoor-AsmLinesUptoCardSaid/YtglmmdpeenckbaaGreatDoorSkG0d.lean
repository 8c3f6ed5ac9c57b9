/-
  Steps of functions, plain law, and walks of functions: what the laws rest on.
-/
import Derived.Test.YtglmmdpeenckbaaGreatDoorSkG0c
set_option linter.unusedVariables false
set_option linter.unusedSimpArgs false
set_option linter.unusedSectionVars false
namespace Go.SK
open Go Go.Proofs
open Go.RowKit
theorem R7gr_first (op : Int) (w : World) : Ret Tryz.prog 178 #[.int .u16 op] w (fun v w' => v = str (look firstT op) ∧ St w NoM [] [] w') := by
 refine Ret.enter (args := [.int .u16 op]) Tryz.func178 rfl rfl rfl ?_
 have hst := St.init w
 refine SR <| AS rfl <| NL <| SQ <| SR <| MH rfl <| NL <| run_block <| SR <| CN <| Op1.eql rfl rfl <| AB rfl <| NL ?_
 refine run_cond_dec rfl (fun g1 => ?_) (fun g1 => ?_)
 · skip
   refine SR <| AS rfl <| NL <| run_ret1 Tryz.func178 rfl (TP (v := str _) rfl) ?_
   subst g1
   exact ⟨congrArg str (by decide +kernel), hst.pure⟩
 refine SR <| CN <| Op1.eql rfl rfl <| AB rfl <| NL <| run_cond_dec rfl (fun g2 => ?_) (fun g2 => ?_)
 · skip
   refine SR <| AS rfl <| NL <| run_ret1 Tryz.func178 rfl (TP (v := str _) rfl) ?_
   subst g2
   exact ⟨congrArg str (by decide +kernel), hst.pure⟩
 refine SR <| CN <| Op1.eql rfl rfl <| AB rfl <| NL <| run_cond_dec rfl (fun g3 => ?_) (fun g3 => ?_)
 · skip
   refine SR <| AS rfl <| NL <| run_ret1 Tryz.func178 rfl (TP (v := str _) rfl) ?_
   subst g3
   exact ⟨congrArg str (by decide +kernel), hst.pure⟩
 refine SR <| CN <| Op1.eql rfl rfl <| AB rfl <| NL <| run_cond_dec rfl (fun g4 => ?_) (fun g4 => ?_)
 · skip
   refine SR <| AS rfl <| NL <| run_ret1 Tryz.func178 rfl (TP (v := str _) rfl) ?_
   subst g4
   exact ⟨congrArg str (by decide +kernel), hst.pure⟩
 refine SR <| CN <| Op1.eql rfl rfl <| AB rfl <| NL <| run_cond_dec rfl (fun g5 => ?_) (fun g5 => ?_)
 · skip
   refine SR <| AS rfl <| NL <| run_ret1 Tryz.func178 rfl (TP (v := str _) rfl) ?_
   subst g5
   exact ⟨congrArg str (by decide +kernel), hst.pure⟩
 refine SR <| CN <| Op1.eql rfl rfl <| AB rfl <| NL <| run_cond_dec rfl (fun g6 => ?_) (fun g6 => ?_)
 · skip
   refine SR <| AS rfl <| NL <| run_ret1 Tryz.func178 rfl (TP (v := str _) rfl) ?_
   subst g6
   exact ⟨congrArg str (by decide +kernel), hst.pure⟩
 refine SR <| CN <| Op1.eql rfl rfl <| AB rfl <| NL <| run_cond_dec rfl (fun g7 => ?_) (fun g7 => ?_)
 · skip
   refine SR <| AS rfl <| NL <| run_ret1 Tryz.func178 rfl (TP (v := str _) rfl) ?_
   subst g7
   exact ⟨congrArg str (by decide +kernel), hst.pure⟩
 refine SR <| CN <| Op1.eql rfl rfl <| AB rfl <| NL <| run_cond_dec rfl (fun g8 => ?_) (fun g8 => ?_)
 · skip
   refine SR <| AS rfl <| NL <| run_ret1 Tryz.func178 rfl (TP (v := str _) rfl) ?_
   subst g8
   exact ⟨congrArg str (by decide +kernel), hst.pure⟩
 refine SR <| CN <| Op1.eql rfl rfl <| AB rfl <| NL <| Run.forget [(3, .int .u16 _), (20, .bool _)] ⟨rfl, rfl, trivial⟩ fun f => run_cond_dec rfl (fun g9 => ?_) (fun g9 => ?_)
 · skip
   refine SR <| AS rfl <| NL <| run_ret1 Tryz.func178 rfl (TP (v := str _) rfl) ?_
   subst g9
   exact ⟨congrArg str (by decide +kernel), hst.pure⟩
 refine SR <| CN <| Op1.eql rfl rfl <| AB rfl <| NL <| run_cond_dec rfl (fun g10 => ?_) (fun g10 => ?_)
 · skip
   refine SR <| AS rfl <| NL <| run_ret1 Tryz.func178 rfl (TP (v := str _) rfl) ?_
   subst g10
   exact ⟨congrArg str (by decide +kernel), hst.pure⟩
 refine SR <| CN <| Op1.eql rfl rfl <| AB rfl <| NL <| run_cond_dec rfl (fun g11 => ?_) (fun g11 => ?_)
 · skip
   refine SR <| AS rfl <| NL <| run_ret1 Tryz.func178 rfl (TP (v := str _) rfl) ?_
   subst g11
   exact ⟨congrArg str (by decide +kernel), hst.pure⟩
 refine SR <| CN <| Op1.eql rfl rfl <| AB rfl <| NL <| run_cond_dec rfl (fun g12 => ?_) (fun g12 => ?_)
 · skip
   refine SR <| AS rfl <| NL <| run_ret1 Tryz.func178 rfl (TP (v := str _) rfl) ?_
   subst g12
   exact ⟨congrArg str (by decide +kernel), hst.pure⟩
 refine SR <| CN <| Op1.eql rfl rfl <| AB rfl <| NL <| run_cond_dec rfl (fun g13 => ?_) (fun g13 => ?_)
 · skip
   refine SR <| AS rfl <| NL <| run_ret1 Tryz.func178 rfl (TP (v := str _) rfl) ?_
   subst g13
   exact ⟨congrArg str (by decide +kernel), hst.pure⟩
 refine SR <| CN <| Op1.eql rfl rfl <| AB rfl <| NL <| run_cond_dec rfl (fun g14 => ?_) (fun g14 => ?_)
 · skip
   refine SR <| AS rfl <| NL <| run_ret1 Tryz.func178 rfl (TP (v := str _) rfl) ?_
   subst g14
   exact ⟨congrArg str (by decide +kernel), hst.pure⟩
 refine SR <| CN <| Op1.eql rfl rfl <| AB rfl <| NL <| run_cond_dec rfl (fun g15 => ?_) (fun g15 => ?_)
 · skip
   refine SR <| AS rfl <| NL <| run_ret1 Tryz.func178 rfl (TP (v := str _) rfl) ?_
   subst g15
   exact ⟨congrArg str (by decide +kernel), hst.pure⟩
 refine SR <| CN <| Op1.eql rfl rfl <| AB rfl <| NL <| run_cond_dec rfl (fun g16 => ?_) (fun g16 => ?_)
 · skip
   refine SR <| AS rfl <| NL <| run_ret1 Tryz.func178 rfl (TP (v := str _) rfl) ?_
   subst g16
   exact ⟨congrArg str (by decide +kernel), hst.pure⟩
 refine SR <| CN <| Op1.eql rfl rfl <| AB rfl <| NL <| run_cond_dec rfl (fun g17 => ?_) (fun g17 => ?_)
 · skip
   refine SR <| AS rfl <| NL <| run_ret1 Tryz.func178 rfl (TP (v := str _) rfl) ?_
   subst g17
   exact ⟨congrArg str (by decide +kernel), hst.pure⟩
 refine SR <| CN <| Op1.eql rfl rfl <| AB rfl <| NL <| run_cond_dec rfl (fun g18 => ?_) (fun g18 => ?_)
 · skip
   refine SR <| AS rfl <| NL <| run_ret1 Tryz.func178 rfl (TP (v := str _) rfl) ?_
   subst g18
   exact ⟨congrArg str (by decide +kernel), hst.pure⟩
 refine SR <| CN <| Op1.eql rfl rfl <| AB rfl <| NL <| Run.forget [(3, .int .u16 _), (40, .bool _)] ⟨rfl, rfl, trivial⟩ fun f => run_cond_dec rfl (fun g19 => ?_) (fun g19 => ?_)
 · skip
   refine SR <| AS rfl <| NL <| run_ret1 Tryz.func178 rfl (TP (v := str _) rfl) ?_
   subst g19
   exact ⟨congrArg str (by decide +kernel), hst.pure⟩
 refine SR <| CN <| Op1.eql rfl rfl <| AB rfl <| NL <| run_cond_dec rfl (fun g20 => ?_) (fun g20 => ?_)
 · skip
   refine SR <| AS rfl <| NL <| run_ret1 Tryz.func178 rfl (TP (v := str _) rfl) ?_
   subst g20
   exact ⟨congrArg str (by decide +kernel), hst.pure⟩
 refine SR <| CN <| Op1.eql rfl rfl <| AB rfl <| NL <| run_cond_dec rfl (fun g21 => ?_) (fun g21 => ?_)
 · skip
   refine SR <| AS rfl <| NL <| run_ret1 Tryz.func178 rfl (TP (v := str _) rfl) ?_
   subst g21
   exact ⟨congrArg str (by decide +kernel), hst.pure⟩
 refine SR <| CN <| Op1.eql rfl rfl <| AB rfl <| NL <| run_cond_dec rfl (fun g22 => ?_) (fun g22 => ?_)
 · skip
   refine SR <| AS rfl <| NL <| run_ret1 Tryz.func178 rfl (TP (v := str _) rfl) ?_
   subst g22
   exact ⟨congrArg str (by decide +kernel), hst.pure⟩
 refine SR <| CN <| Op1.eql rfl rfl <| AB rfl <| NL <| run_cond_dec rfl (fun g23 => ?_) (fun g23 => ?_)
 · skip
   refine SR <| AS rfl <| NL <| run_ret1 Tryz.func178 rfl (TP (v := str _) rfl) ?_
   subst g23
   exact ⟨congrArg str (by decide +kernel), hst.pure⟩
 refine SR <| CN <| Op1.eql rfl rfl <| AB rfl <| NL <| run_cond_dec rfl (fun g24 => ?_) (fun g24 => ?_)
 · skip
   refine SR <| AS rfl <| NL <| run_ret1 Tryz.func178 rfl (TP (v := str _) rfl) ?_
   subst g24
   exact ⟨congrArg str (by decide +kernel), hst.pure⟩
 refine SR <| CN <| Op1.eql rfl rfl <| AB rfl <| NL <| run_cond_dec rfl (fun g25 => ?_) (fun g25 => ?_)
 · skip
   refine SR <| AS rfl <| NL <| run_ret1 Tryz.func178 rfl (TP (v := str _) rfl) ?_
   subst g25
   exact ⟨congrArg str (by decide +kernel), hst.pure⟩
 refine SR <| CN <| Op1.eql rfl rfl <| AB rfl <| NL <| run_cond_dec rfl (fun g26 => ?_) (fun g26 => ?_)
 · skip
   refine SR <| AS rfl <| NL <| run_ret1 Tryz.func178 rfl (TP (v := str _) rfl) ?_
   subst g26
   exact ⟨congrArg str (by decide +kernel), hst.pure⟩
 refine SR <| CN <| Op1.eql rfl rfl <| AB rfl <| NL <| run_cond_dec rfl (fun g27 => ?_) (fun g27 => ?_)
 · skip
   refine SR <| AS rfl <| NL <| run_ret1 Tryz.func178 rfl (TP (v := str _) rfl) ?_
   subst g27
   exact ⟨congrArg str (by decide +kernel), hst.pure⟩
 refine SR <| CN <| Op1.eql rfl rfl <| AB rfl <| NL <| run_cond_dec rfl (fun g28 => ?_) (fun g28 => ?_)
 · skip
   refine SR <| AS rfl <| NL <| run_ret1 Tryz.func178 rfl (TP (v := str _) rfl) ?_
   subst g28
   exact ⟨congrArg str (by decide +kernel), hst.pure⟩
 refine SR <| CN <| Op1.eql rfl rfl <| AB rfl <| NL <| Run.forget [(3, .int .u16 _), (60, .bool _)] ⟨rfl, rfl, trivial⟩ fun f => run_cond_dec rfl (fun g29 => ?_) (fun g29 => ?_)
 · skip
   refine SR <| AS rfl <| NL <| run_ret1 Tryz.func178 rfl (TP (v := str _) rfl) ?_
   subst g29
   exact ⟨congrArg str (by decide +kernel), hst.pure⟩
 refine SR <| CN <| Op1.eql rfl rfl <| AB rfl <| NL <| run_cond_dec rfl (fun g30 => ?_) (fun g30 => ?_)
 · skip
   refine SR <| AS rfl <| NL <| run_ret1 Tryz.func178 rfl (TP (v := str _) rfl) ?_
   subst g30
   exact ⟨congrArg str (by decide +kernel), hst.pure⟩
 refine SR <| CN <| Op1.eql rfl rfl <| AB rfl <| NL <| run_cond_dec rfl (fun g31 => ?_) (fun g31 => ?_)
 · skip
   refine SR <| AS rfl <| NL <| run_ret1 Tryz.func178 rfl (TP (v := str _) rfl) ?_
   subst g31
   exact ⟨congrArg str (by decide +kernel), hst.pure⟩
 refine run_skip <| run_inBlock <| SR <| AS rfl <| NL <| run_ret1 Tryz.func178 rfl (TP (v := str _) rfl) ?_
 exact ⟨congrArg str (look_none (by simp only [firstT, List.forall_mem_cons]; exact ⟨g1, g2, g3, g4, g5, g6, g7, g8, g9, g10, g11, g12, g13, g14, g15, g16, g17, g18, g19, g20, g21, g22, g23, g24, g25, g26, g27, g28, g29, g30, g31, fun _ h => absurd h List.not_mem_nil⟩)).symm, hst.pure⟩
theorem R7gr_second (op : Int) (w : World) : Ret Tryz.prog 179 #[.int .u16 op] w (fun v w' => v = str (look secondT op) ∧ St w NoM [] [] w') := by
 refine Ret.enter (args := [.int .u16 op]) Tryz.func179 rfl rfl rfl ?_
 have hst := St.init w
 refine SR <| AS rfl <| NL <| SQ <| SR <| MH rfl <| NL <| run_block <| SR <| CN <| Op1.eql rfl rfl <| AB rfl <| NL ?_
 refine run_cond_dec rfl (fun g1 => ?_) (fun g1 => ?_)
 · skip
   refine SR <| AS rfl <| NL <| run_ret1 Tryz.func179 rfl (TP (v := str _) rfl) ?_
   subst g1
   exact ⟨congrArg str (by decide +kernel), hst.pure⟩
 refine SR <| CN <| Op1.eql rfl rfl <| AB rfl <| NL <| run_cond_dec rfl (fun g2 => ?_) (fun g2 => ?_)
 · skip
   refine SR <| AS rfl <| NL <| run_ret1 Tryz.func179 rfl (TP (v := str _) rfl) ?_
   subst g2
   exact ⟨congrArg str (by decide +kernel), hst.pure⟩
 refine SR <| CN <| Op1.eql rfl rfl <| AB rfl <| NL <| run_cond_dec rfl (fun g3 => ?_) (fun g3 => ?_)
 · skip
   refine SR <| AS rfl <| NL <| run_ret1 Tryz.func179 rfl (TP (v := str _) rfl) ?_
   subst g3
   exact ⟨congrArg str (by decide +kernel), hst.pure⟩
 refine SR <| CN <| Op1.eql rfl rfl <| AB rfl <| NL <| run_cond_dec rfl (fun g4 => ?_) (fun g4 => ?_)
 · skip
   refine SR <| AS rfl <| NL <| run_ret1 Tryz.func179 rfl (TP (v := str _) rfl) ?_
   subst g4
   exact ⟨congrArg str (by decide +kernel), hst.pure⟩
 refine SR <| CN <| Op1.eql rfl rfl <| AB rfl <| NL <| run_cond_dec rfl (fun g5 => ?_) (fun g5 => ?_)
 · skip
   refine SR <| AS rfl <| NL <| run_ret1 Tryz.func179 rfl (TP (v := str _) rfl) ?_
   subst g5
   exact ⟨congrArg str (by decide +kernel), hst.pure⟩
 refine SR <| CN <| Op1.eql rfl rfl <| AB rfl <| NL <| run_cond_dec rfl (fun g6 => ?_) (fun g6 => ?_)
 · skip
   refine SR <| AS rfl <| NL <| run_ret1 Tryz.func179 rfl (TP (v := str _) rfl) ?_
   subst g6
   exact ⟨congrArg str (by decide +kernel), hst.pure⟩
 refine SR <| CN <| Op1.eql rfl rfl <| AB rfl <| NL <| run_cond_dec rfl (fun g7 => ?_) (fun g7 => ?_)
 · skip
   refine SR <| AS rfl <| NL <| run_ret1 Tryz.func179 rfl (TP (v := str _) rfl) ?_
   subst g7
   exact ⟨congrArg str (by decide +kernel), hst.pure⟩
 refine SR <| CN <| Op1.eql rfl rfl <| AB rfl <| NL <| run_cond_dec rfl (fun g8 => ?_) (fun g8 => ?_)
 · skip
   refine SR <| AS rfl <| NL <| run_ret1 Tryz.func179 rfl (TP (v := str _) rfl) ?_
   subst g8
   exact ⟨congrArg str (by decide +kernel), hst.pure⟩
 refine SR <| CN <| Op1.eql rfl rfl <| AB rfl <| NL <| Run.forget [(3, .int .u16 _), (20, .bool _)] ⟨rfl, rfl, trivial⟩ fun f => run_cond_dec rfl (fun g9 => ?_) (fun g9 => ?_)
 · skip
   refine SR <| AS rfl <| NL <| run_ret1 Tryz.func179 rfl (TP (v := str _) rfl) ?_
   subst g9
   exact ⟨congrArg str (by decide +kernel), hst.pure⟩
 refine SR <| CN <| Op1.eql rfl rfl <| AB rfl <| NL <| run_cond_dec rfl (fun g10 => ?_) (fun g10 => ?_)
 · skip
   refine SR <| AS rfl <| NL <| run_ret1 Tryz.func179 rfl (TP (v := str _) rfl) ?_
   subst g10
   exact ⟨congrArg str (by decide +kernel), hst.pure⟩
 refine SR <| CN <| Op1.eql rfl rfl <| AB rfl <| NL <| run_cond_dec rfl (fun g11 => ?_) (fun g11 => ?_)
 · skip
   refine SR <| AS rfl <| NL <| run_ret1 Tryz.func179 rfl (TP (v := str _) rfl) ?_
   subst g11
   exact ⟨congrArg str (by decide +kernel), hst.pure⟩
 refine SR <| CN <| Op1.eql rfl rfl <| AB rfl <| NL <| run_cond_dec rfl (fun g12 => ?_) (fun g12 => ?_)
 · skip
   refine SR <| AS rfl <| NL <| run_ret1 Tryz.func179 rfl (TP (v := str _) rfl) ?_
   subst g12
   exact ⟨congrArg str (by decide +kernel), hst.pure⟩
 refine SR <| CN <| Op1.eql rfl rfl <| AB rfl <| NL <| run_cond_dec rfl (fun g13 => ?_) (fun g13 => ?_)
 · skip
   refine SR <| AS rfl <| NL <| run_ret1 Tryz.func179 rfl (TP (v := str _) rfl) ?_
   subst g13
   exact ⟨congrArg str (by decide +kernel), hst.pure⟩
 refine SR <| CN <| Op1.eql rfl rfl <| AB rfl <| NL <| run_cond_dec rfl (fun g14 => ?_) (fun g14 => ?_)
 · skip
   refine SR <| AS rfl <| NL <| run_ret1 Tryz.func179 rfl (TP (v := str _) rfl) ?_
   subst g14
   exact ⟨congrArg str (by decide +kernel), hst.pure⟩
 refine SR <| CN <| Op1.eql rfl rfl <| AB rfl <| NL <| run_cond_dec rfl (fun g15 => ?_) (fun g15 => ?_)
 · skip
   refine SR <| AS rfl <| NL <| run_ret1 Tryz.func179 rfl (TP (v := str _) rfl) ?_
   subst g15
   exact ⟨congrArg str (by decide +kernel), hst.pure⟩
 refine SR <| CN <| Op1.eql rfl rfl <| AB rfl <| NL <| run_cond_dec rfl (fun g16 => ?_) (fun g16 => ?_)
 · skip
   refine SR <| AS rfl <| NL <| run_ret1 Tryz.func179 rfl (TP (v := str _) rfl) ?_
   subst g16
   exact ⟨congrArg str (by decide +kernel), hst.pure⟩
 refine SR <| CN <| Op1.eql rfl rfl <| AB rfl <| NL <| run_cond_dec rfl (fun g17 => ?_) (fun g17 => ?_)
 · skip
   refine SR <| AS rfl <| NL <| run_ret1 Tryz.func179 rfl (TP (v := str _) rfl) ?_
   subst g17
   exact ⟨congrArg str (by decide +kernel), hst.pure⟩
 refine SR <| CN <| Op1.eql rfl rfl <| AB rfl <| NL <| run_cond_dec rfl (fun g18 => ?_) (fun g18 => ?_)
 · skip
   refine SR <| AS rfl <| NL <| run_ret1 Tryz.func179 rfl (TP (v := str _) rfl) ?_
   subst g18
   exact ⟨congrArg str (by decide +kernel), hst.pure⟩
 refine SR <| CN <| Op1.eql rfl rfl <| AB rfl <| NL <| Run.forget [(3, .int .u16 _), (40, .bool _)] ⟨rfl, rfl, trivial⟩ fun f => run_cond_dec rfl (fun g19 => ?_) (fun g19 => ?_)
 · skip
   refine SR <| AS rfl <| NL <| run_ret1 Tryz.func179 rfl (TP (v := str _) rfl) ?_
   subst g19
   exact ⟨congrArg str (by decide +kernel), hst.pure⟩
 refine SR <| CN <| Op1.eql rfl rfl <| AB rfl <| NL <| run_cond_dec rfl (fun g20 => ?_) (fun g20 => ?_)
 · skip
   refine SR <| AS rfl <| NL <| run_ret1 Tryz.func179 rfl (TP (v := str _) rfl) ?_
   subst g20
   exact ⟨congrArg str (by decide +kernel), hst.pure⟩
 refine SR <| CN <| Op1.eql rfl rfl <| AB rfl <| NL <| run_cond_dec rfl (fun g21 => ?_) (fun g21 => ?_)
 · skip
   refine SR <| AS rfl <| NL <| run_ret1 Tryz.func179 rfl (TP (v := str _) rfl) ?_
   subst g21
   exact ⟨congrArg str (by decide +kernel), hst.pure⟩
 refine SR <| CN <| Op1.eql rfl rfl <| AB rfl <| NL <| run_cond_dec rfl (fun g22 => ?_) (fun g22 => ?_)
 · skip
   refine SR <| AS rfl <| NL <| run_ret1 Tryz.func179 rfl (TP (v := str _) rfl) ?_
   subst g22
   exact ⟨congrArg str (by decide +kernel), hst.pure⟩
 refine SR <| CN <| Op1.eql rfl rfl <| AB rfl <| NL <| run_cond_dec rfl (fun g23 => ?_) (fun g23 => ?_)
 · skip
   refine SR <| AS rfl <| NL <| run_ret1 Tryz.func179 rfl (TP (v := str _) rfl) ?_
   subst g23
   exact ⟨congrArg str (by decide +kernel), hst.pure⟩
 refine SR <| CN <| Op1.eql rfl rfl <| AB rfl <| NL <| run_cond_dec rfl (fun g24 => ?_) (fun g24 => ?_)
 · skip
   refine SR <| AS rfl <| NL <| run_ret1 Tryz.func179 rfl (TP (v := str _) rfl) ?_
   subst g24
   exact ⟨congrArg str (by decide +kernel), hst.pure⟩
 refine SR <| CN <| Op1.eql rfl rfl <| AB rfl <| NL <| run_cond_dec rfl (fun g25 => ?_) (fun g25 => ?_)
 · skip
   refine SR <| AS rfl <| NL <| run_ret1 Tryz.func179 rfl (TP (v := str _) rfl) ?_
   subst g25
   exact ⟨congrArg str (by decide +kernel), hst.pure⟩
 refine SR <| CN <| Op1.eql rfl rfl <| AB rfl <| NL <| run_cond_dec rfl (fun g26 => ?_) (fun g26 => ?_)
 · skip
   refine SR <| AS rfl <| NL <| run_ret1 Tryz.func179 rfl (TP (v := str _) rfl) ?_
   subst g26
   exact ⟨congrArg str (by decide +kernel), hst.pure⟩
 refine SR <| CN <| Op1.eql rfl rfl <| AB rfl <| NL <| run_cond_dec rfl (fun g27 => ?_) (fun g27 => ?_)
 · skip
   refine SR <| AS rfl <| NL <| run_ret1 Tryz.func179 rfl (TP (v := str _) rfl) ?_
   subst g27
   exact ⟨congrArg str (by decide +kernel), hst.pure⟩
 refine SR <| CN <| Op1.eql rfl rfl <| AB rfl <| NL <| run_cond_dec rfl (fun g28 => ?_) (fun g28 => ?_)
 · skip
   refine SR <| AS rfl <| NL <| run_ret1 Tryz.func179 rfl (TP (v := str _) rfl) ?_
   subst g28
   exact ⟨congrArg str (by decide +kernel), hst.pure⟩
 refine SR <| CN <| Op1.eql rfl rfl <| AB rfl <| NL <| Run.forget [(3, .int .u16 _), (60, .bool _)] ⟨rfl, rfl, trivial⟩ fun f => run_cond_dec rfl (fun g29 => ?_) (fun g29 => ?_)
 · skip
   refine SR <| AS rfl <| NL <| run_ret1 Tryz.func179 rfl (TP (v := str _) rfl) ?_
   subst g29
   exact ⟨congrArg str (by decide +kernel), hst.pure⟩
 refine SR <| CN <| Op1.eql rfl rfl <| AB rfl <| NL <| run_cond_dec rfl (fun g30 => ?_) (fun g30 => ?_)
 · skip
   refine SR <| AS rfl <| NL <| run_ret1 Tryz.func179 rfl (TP (v := str _) rfl) ?_
   subst g30
   exact ⟨congrArg str (by decide +kernel), hst.pure⟩
 refine SR <| CN <| Op1.eql rfl rfl <| AB rfl <| NL <| run_cond_dec rfl (fun g31 => ?_) (fun g31 => ?_)
 · skip
   refine SR <| AS rfl <| NL <| run_ret1 Tryz.func179 rfl (TP (v := str _) rfl) ?_
   subst g31
   exact ⟨congrArg str (by decide +kernel), hst.pure⟩
 refine run_skip <| run_inBlock <| SR <| AS rfl <| NL <| run_ret1 Tryz.func179 rfl (TP (v := str _) rfl) ?_
 exact ⟨congrArg str (look_none (by simp only [secondT, List.forall_mem_cons]; exact ⟨g1, g2, g3, g4, g5, g6, g7, g8, g9, g10, g11, g12, g13, g14, g15, g16, g17, g18, g19, g20, g21, g22, g23, g24, g25, g26, g27, g28, g29, g30, g31, fun _ h => absurd h List.not_mem_nil⟩)).symm, hst.pure⟩
theorem R7gr_third (op : Int) (w : World) : Ret Tryz.prog 180 #[.int .u16 op] w (fun v w' => v = str (look thirdT op) ∧ St w NoM [] [] w') := by
 refine Ret.enter (args := [.int .u16 op]) Tryz.func180 rfl rfl rfl ?_
 have hst := St.init w
 refine SR <| AS rfl <| NL <| SQ <| SR <| MH rfl <| NL <| run_block <| SR <| CN <| Op1.eql rfl rfl <| AB rfl <| NL ?_
 refine run_cond_dec rfl (fun g1 => ?_) (fun g1 => ?_)
 · skip
   refine SR <| AS rfl <| NL <| run_ret1 Tryz.func180 rfl (TP (v := str _) rfl) ?_
   subst g1
   exact ⟨congrArg str (by decide +kernel), hst.pure⟩
 refine SR <| CN <| Op1.eql rfl rfl <| AB rfl <| NL <| run_cond_dec rfl (fun g2 => ?_) (fun g2 => ?_)
 · skip
   refine SR <| AS rfl <| NL <| run_ret1 Tryz.func180 rfl (TP (v := str _) rfl) ?_
   subst g2
   exact ⟨congrArg str (by decide +kernel), hst.pure⟩
 refine SR <| CN <| Op1.eql rfl rfl <| AB rfl <| NL <| run_cond_dec rfl (fun g3 => ?_) (fun g3 => ?_)
 · skip
   refine SR <| AS rfl <| NL <| run_ret1 Tryz.func180 rfl (TP (v := str _) rfl) ?_
   subst g3
   exact ⟨congrArg str (by decide +kernel), hst.pure⟩
 refine SR <| CN <| Op1.eql rfl rfl <| AB rfl <| NL <| run_cond_dec rfl (fun g4 => ?_) (fun g4 => ?_)
 · skip
   refine SR <| AS rfl <| NL <| run_ret1 Tryz.func180 rfl (TP (v := str _) rfl) ?_
   subst g4
   exact ⟨congrArg str (by decide +kernel), hst.pure⟩
 refine SR <| CN <| Op1.eql rfl rfl <| AB rfl <| NL <| run_cond_dec rfl (fun g5 => ?_) (fun g5 => ?_)
 · skip
   refine SR <| AS rfl <| NL <| run_ret1 Tryz.func180 rfl (TP (v := str _) rfl) ?_
   subst g5
   exact ⟨congrArg str (by decide +kernel), hst.pure⟩
 refine SR <| CN <| Op1.eql rfl rfl <| AB rfl <| NL <| run_cond_dec rfl (fun g6 => ?_) (fun g6 => ?_)
 · skip
   refine SR <| AS rfl <| NL <| run_ret1 Tryz.func180 rfl (TP (v := str _) rfl) ?_
   subst g6
   exact ⟨congrArg str (by decide +kernel), hst.pure⟩
 refine SR <| CN <| Op1.eql rfl rfl <| AB rfl <| NL <| run_cond_dec rfl (fun g7 => ?_) (fun g7 => ?_)
 · skip
   refine SR <| AS rfl <| NL <| run_ret1 Tryz.func180 rfl (TP (v := str _) rfl) ?_
   subst g7
   exact ⟨congrArg str (by decide +kernel), hst.pure⟩
 refine SR <| CN <| Op1.eql rfl rfl <| AB rfl <| NL <| run_cond_dec rfl (fun g8 => ?_) (fun g8 => ?_)
 · skip
   refine SR <| AS rfl <| NL <| run_ret1 Tryz.func180 rfl (TP (v := str _) rfl) ?_
   subst g8
   exact ⟨congrArg str (by decide +kernel), hst.pure⟩
 refine SR <| CN <| Op1.eql rfl rfl <| AB rfl <| NL <| Run.forget [(3, .int .u16 _), (20, .bool _)] ⟨rfl, rfl, trivial⟩ fun f => run_cond_dec rfl (fun g9 => ?_) (fun g9 => ?_)
 · skip
   refine SR <| AS rfl <| NL <| run_ret1 Tryz.func180 rfl (TP (v := str _) rfl) ?_
   subst g9
   exact ⟨congrArg str (by decide +kernel), hst.pure⟩
 refine SR <| CN <| Op1.eql rfl rfl <| AB rfl <| NL <| run_cond_dec rfl (fun g10 => ?_) (fun g10 => ?_)
 · skip
   refine SR <| AS rfl <| NL <| run_ret1 Tryz.func180 rfl (TP (v := str _) rfl) ?_
   subst g10
   exact ⟨congrArg str (by decide +kernel), hst.pure⟩
 refine SR <| CN <| Op1.eql rfl rfl <| AB rfl <| NL <| run_cond_dec rfl (fun g11 => ?_) (fun g11 => ?_)
 · skip
   refine SR <| AS rfl <| NL <| run_ret1 Tryz.func180 rfl (TP (v := str _) rfl) ?_
   subst g11
   exact ⟨congrArg str (by decide +kernel), hst.pure⟩
 refine SR <| CN <| Op1.eql rfl rfl <| AB rfl <| NL <| run_cond_dec rfl (fun g12 => ?_) (fun g12 => ?_)
 · skip
   refine SR <| AS rfl <| NL <| run_ret1 Tryz.func180 rfl (TP (v := str _) rfl) ?_
   subst g12
   exact ⟨congrArg str (by decide +kernel), hst.pure⟩
 refine SR <| CN <| Op1.eql rfl rfl <| AB rfl <| NL <| run_cond_dec rfl (fun g13 => ?_) (fun g13 => ?_)
 · skip
   refine SR <| AS rfl <| NL <| run_ret1 Tryz.func180 rfl (TP (v := str _) rfl) ?_
   subst g13
   exact ⟨congrArg str (by decide +kernel), hst.pure⟩
 refine SR <| CN <| Op1.eql rfl rfl <| AB rfl <| NL <| run_cond_dec rfl (fun g14 => ?_) (fun g14 => ?_)
 · skip
   refine SR <| AS rfl <| NL <| run_ret1 Tryz.func180 rfl (TP (v := str _) rfl) ?_
   subst g14
   exact ⟨congrArg str (by decide +kernel), hst.pure⟩
 refine SR <| CN <| Op1.eql rfl rfl <| AB rfl <| NL <| run_cond_dec rfl (fun g15 => ?_) (fun g15 => ?_)
 · skip
   refine SR <| AS rfl <| NL <| run_ret1 Tryz.func180 rfl (TP (v := str _) rfl) ?_
   subst g15
   exact ⟨congrArg str (by decide +kernel), hst.pure⟩
 refine SR <| CN <| Op1.eql rfl rfl <| AB rfl <| NL <| run_cond_dec rfl (fun g16 => ?_) (fun g16 => ?_)
 · skip
   refine SR <| AS rfl <| NL <| run_ret1 Tryz.func180 rfl (TP (v := str _) rfl) ?_
   subst g16
   exact ⟨congrArg str (by decide +kernel), hst.pure⟩
 refine SR <| CN <| Op1.eql rfl rfl <| AB rfl <| NL <| run_cond_dec rfl (fun g17 => ?_) (fun g17 => ?_)
 · skip
   refine SR <| AS rfl <| NL <| run_ret1 Tryz.func180 rfl (TP (v := str _) rfl) ?_
   subst g17
   exact ⟨congrArg str (by decide +kernel), hst.pure⟩
 refine SR <| CN <| Op1.eql rfl rfl <| AB rfl <| NL <| run_cond_dec rfl (fun g18 => ?_) (fun g18 => ?_)
 · skip
   refine SR <| AS rfl <| NL <| run_ret1 Tryz.func180 rfl (TP (v := str _) rfl) ?_
   subst g18
   exact ⟨congrArg str (by decide +kernel), hst.pure⟩
 refine SR <| CN <| Op1.eql rfl rfl <| AB rfl <| NL <| Run.forget [(3, .int .u16 _), (40, .bool _)] ⟨rfl, rfl, trivial⟩ fun f => run_cond_dec rfl (fun g19 => ?_) (fun g19 => ?_)
 · skip
   refine SR <| AS rfl <| NL <| run_ret1 Tryz.func180 rfl (TP (v := str _) rfl) ?_
   subst g19
   exact ⟨congrArg str (by decide +kernel), hst.pure⟩
 refine SR <| CN <| Op1.eql rfl rfl <| AB rfl <| NL <| run_cond_dec rfl (fun g20 => ?_) (fun g20 => ?_)
 · skip
   refine SR <| AS rfl <| NL <| run_ret1 Tryz.func180 rfl (TP (v := str _) rfl) ?_
   subst g20
   exact ⟨congrArg str (by decide +kernel), hst.pure⟩
 refine SR <| CN <| Op1.eql rfl rfl <| AB rfl <| NL <| run_cond_dec rfl (fun g21 => ?_) (fun g21 => ?_)
 · skip
   refine SR <| AS rfl <| NL <| run_ret1 Tryz.func180 rfl (TP (v := str _) rfl) ?_
   subst g21
   exact ⟨congrArg str (by decide +kernel), hst.pure⟩
 refine SR <| CN <| Op1.eql rfl rfl <| AB rfl <| NL <| run_cond_dec rfl (fun g22 => ?_) (fun g22 => ?_)
 · skip
   refine SR <| AS rfl <| NL <| run_ret1 Tryz.func180 rfl (TP (v := str _) rfl) ?_
   subst g22
   exact ⟨congrArg str (by decide +kernel), hst.pure⟩
 refine SR <| CN <| Op1.eql rfl rfl <| AB rfl <| NL <| run_cond_dec rfl (fun g23 => ?_) (fun g23 => ?_)
 · skip
   refine SR <| AS rfl <| NL <| run_ret1 Tryz.func180 rfl (TP (v := str _) rfl) ?_
   subst g23
   exact ⟨congrArg str (by decide +kernel), hst.pure⟩
 refine SR <| CN <| Op1.eql rfl rfl <| AB rfl <| NL <| run_cond_dec rfl (fun g24 => ?_) (fun g24 => ?_)
 · skip
   refine SR <| AS rfl <| NL <| run_ret1 Tryz.func180 rfl (TP (v := str _) rfl) ?_
   subst g24
   exact ⟨congrArg str (by decide +kernel), hst.pure⟩
 refine SR <| CN <| Op1.eql rfl rfl <| AB rfl <| NL <| run_cond_dec rfl (fun g25 => ?_) (fun g25 => ?_)
 · skip
   refine SR <| AS rfl <| NL <| run_ret1 Tryz.func180 rfl (TP (v := str _) rfl) ?_
   subst g25
   exact ⟨congrArg str (by decide +kernel), hst.pure⟩
 refine SR <| CN <| Op1.eql rfl rfl <| AB rfl <| NL <| run_cond_dec rfl (fun g26 => ?_) (fun g26 => ?_)
 · skip
   refine SR <| AS rfl <| NL <| run_ret1 Tryz.func180 rfl (TP (v := str _) rfl) ?_
   subst g26
   exact ⟨congrArg str (by decide +kernel), hst.pure⟩
 refine SR <| CN <| Op1.eql rfl rfl <| AB rfl <| NL <| run_cond_dec rfl (fun g27 => ?_) (fun g27 => ?_)
 · skip
   refine SR <| AS rfl <| NL <| run_ret1 Tryz.func180 rfl (TP (v := str _) rfl) ?_
   subst g27
   exact ⟨congrArg str (by decide +kernel), hst.pure⟩
 refine SR <| CN <| Op1.eql rfl rfl <| AB rfl <| NL <| run_cond_dec rfl (fun g28 => ?_) (fun g28 => ?_)
 · skip
   refine SR <| AS rfl <| NL <| run_ret1 Tryz.func180 rfl (TP (v := str _) rfl) ?_
   subst g28
   exact ⟨congrArg str (by decide +kernel), hst.pure⟩
 refine SR <| CN <| Op1.eql rfl rfl <| AB rfl <| NL <| Run.forget [(3, .int .u16 _), (60, .bool _)] ⟨rfl, rfl, trivial⟩ fun f => run_cond_dec rfl (fun g29 => ?_) (fun g29 => ?_)
 · skip
   refine SR <| AS rfl <| NL <| run_ret1 Tryz.func180 rfl (TP (v := str _) rfl) ?_
   subst g29
   exact ⟨congrArg str (by decide +kernel), hst.pure⟩
 refine SR <| CN <| Op1.eql rfl rfl <| AB rfl <| NL <| run_cond_dec rfl (fun g30 => ?_) (fun g30 => ?_)
 · skip
   refine SR <| AS rfl <| NL <| run_ret1 Tryz.func180 rfl (TP (v := str _) rfl) ?_
   subst g30
   exact ⟨congrArg str (by decide +kernel), hst.pure⟩
 refine SR <| CN <| Op1.eql rfl rfl <| AB rfl <| NL <| run_cond_dec rfl (fun g31 => ?_) (fun g31 => ?_)
 · skip
   refine SR <| AS rfl <| NL <| run_ret1 Tryz.func180 rfl (TP (v := str _) rfl) ?_
   subst g31
   exact ⟨congrArg str (by decide +kernel), hst.pure⟩
 refine run_skip <| run_inBlock <| SR <| AS rfl <| NL <| run_ret1 Tryz.func180 rfl (TP (v := str _) rfl) ?_
 exact ⟨congrArg str (look_none (by simp only [thirdT, List.forall_mem_cons]; exact ⟨g1, g2, g3, g4, g5, g6, g7, g8, g9, g10, g11, g12, g13, g14, g15, g16, g17, g18, g19, g20, g21, g22, g23, g24, g25, g26, g27, g28, g29, g30, g31, fun _ h => absurd h List.not_mem_nil⟩)).symm, hst.pure⟩
theorem R7gr_row (op : Int) (w : World) : Ret Tryz.prog 134 #[.int .u16 op] w (fun v w' => v = str (rowS op) ∧ St w NoM [] [] w') := by
 refine Ret.enter (args := [.int .u16 op]) Tryz.func134 rfl rfl rfl ?_
 have hst := St.init w
 refine SR <| AS rfl <| NL <| SQ <| run_block <| SR <| MH rfl <| CN <| Op1.leq rfl rfl <| AB rfl <| NL <| run_cond_dec rfl (fun g1 => ?_) (fun g1 => ?_)
 · skip
   refine SR <| MH rfl <| CN <| Op1.call1 (v1 := .int .u16 _) ent178 rfl rfl <| Ret.det (R7gr_first _ _) hst fun w hst => AS rfl <| NL <| run_ret1 Tryz.func134 rfl (TP (v := str _) rfl) <| ⟨congrArg str ?_, hst.pure⟩
   unfold rowS
   rw [if_pos g1]
 refine SR <| MH rfl <| CN <| Op1.leq rfl rfl <| AB rfl <| NL <| run_cond_dec rfl (fun g2 => ?_) (fun g2 => ?_)
 · skip
   refine SR <| MH rfl <| CN <| Op1.call1 (v1 := .int .u16 _) ent179 rfl rfl <| Ret.det (R7gr_second _ _) hst fun w hst => AS rfl <| NL <| run_ret1 Tryz.func134 rfl (TP (v := str _) rfl) <| ⟨congrArg str ?_, hst.pure⟩
   unfold rowS
   rw [if_neg g1, if_pos g2]
 refine run_skip <| run_inBlock <| SR <| MH rfl <| CN <| Op1.call1 (v1 := .int .u16 _) ent180 rfl rfl <| Ret.det (R7gr_third _ _) hst fun w hst => AS rfl <| NL <| run_ret1 Tryz.func134 rfl (TP (v := str _) rfl) <| ⟨congrArg str ?_, hst.pure⟩
 unfold rowS
 rw [if_neg g1, if_neg g2]
theorem R7gr_names (c : Int) (w : World) : Ret Tryz.prog 181 #[.int .u8 c] w (fun v w' => v = str (look namesT c) ∧ St w NoM [] [] w') := by
 refine Ret.enter (args := [.int .u8 c]) Tryz.func181 rfl rfl rfl ?_
 have hst := St.init w
 refine SR <| AS rfl <| NL <| SQ <| SR <| MC rfl <| NL <| run_block <| SR <| CN <| Op1.eql rfl rfl <| AB rfl <| NL ?_
 refine run_cond_dec rfl (fun g1 => ?_) (fun g1 => ?_)
 · skip
   refine SR <| AS rfl <| NL <| run_ret1 Tryz.func181 rfl (TP (v := str _) rfl) ?_
   subst g1
   exact ⟨congrArg str (by decide +kernel), hst.pure⟩
 refine SR <| CN <| Op1.eql rfl rfl <| AB rfl <| NL <| run_cond_dec rfl (fun g2 => ?_) (fun g2 => ?_)
 · skip
   refine SR <| AS rfl <| NL <| run_ret1 Tryz.func181 rfl (TP (v := str _) rfl) ?_
   subst g2
   exact ⟨congrArg str (by decide +kernel), hst.pure⟩
 refine SR <| CN <| Op1.eql rfl rfl <| AB rfl <| NL <| run_cond_dec rfl (fun g3 => ?_) (fun g3 => ?_)
 · skip
   refine SR <| AS rfl <| NL <| run_ret1 Tryz.func181 rfl (TP (v := str _) rfl) ?_
   subst g3
   exact ⟨congrArg str (by decide +kernel), hst.pure⟩
 refine SR <| CN <| Op1.eql rfl rfl <| AB rfl <| NL <| run_cond_dec rfl (fun g4 => ?_) (fun g4 => ?_)
 · skip
   refine SR <| AS rfl <| NL <| run_ret1 Tryz.func181 rfl (TP (v := str _) rfl) ?_
   subst g4
   exact ⟨congrArg str (by decide +kernel), hst.pure⟩
 refine SR <| CN <| Op1.eql rfl rfl <| AB rfl <| NL <| run_cond_dec rfl (fun g5 => ?_) (fun g5 => ?_)
 · skip
   refine SR <| AS rfl <| NL <| run_ret1 Tryz.func181 rfl (TP (v := str _) rfl) ?_
   subst g5
   exact ⟨congrArg str (by decide +kernel), hst.pure⟩
 refine SR <| CN <| Op1.eql rfl rfl <| AB rfl <| NL <| run_cond_dec rfl (fun g6 => ?_) (fun g6 => ?_)
 · skip
   refine SR <| AS rfl <| NL <| run_ret1 Tryz.func181 rfl (TP (v := str _) rfl) ?_
   subst g6
   exact ⟨congrArg str (by decide +kernel), hst.pure⟩
 refine SR <| CN <| Op1.eql rfl rfl <| AB rfl <| NL <| run_cond_dec rfl (fun g7 => ?_) (fun g7 => ?_)
 · skip
   refine SR <| AS rfl <| NL <| run_ret1 Tryz.func181 rfl (TP (v := str _) rfl) ?_
   subst g7
   exact ⟨congrArg str (by decide +kernel), hst.pure⟩
 refine SR <| CN <| Op1.eql rfl rfl <| AB rfl <| NL <| run_cond_dec rfl (fun g8 => ?_) (fun g8 => ?_)
 · skip
   refine SR <| AS rfl <| NL <| run_ret1 Tryz.func181 rfl (TP (v := str _) rfl) ?_
   subst g8
   exact ⟨congrArg str (by decide +kernel), hst.pure⟩
 refine SR <| CN <| Op1.eql rfl rfl <| AB rfl <| NL <| Run.forget [(3, .int .u8 _), (20, .bool _)] ⟨rfl, rfl, trivial⟩ fun f => run_cond_dec rfl (fun g9 => ?_) (fun g9 => ?_)
 · skip
   refine SR <| AS rfl <| NL <| run_ret1 Tryz.func181 rfl (TP (v := str _) rfl) ?_
   subst g9
   exact ⟨congrArg str (by decide +kernel), hst.pure⟩
 refine SR <| CN <| Op1.eql rfl rfl <| AB rfl <| NL <| run_cond_dec rfl (fun g10 => ?_) (fun g10 => ?_)
 · skip
   refine SR <| AS rfl <| NL <| run_ret1 Tryz.func181 rfl (TP (v := str _) rfl) ?_
   subst g10
   exact ⟨congrArg str (by decide +kernel), hst.pure⟩
 refine SR <| CN <| Op1.eql rfl rfl <| AB rfl <| NL <| run_cond_dec rfl (fun g11 => ?_) (fun g11 => ?_)
 · skip
   refine SR <| AS rfl <| NL <| run_ret1 Tryz.func181 rfl (TP (v := str _) rfl) ?_
   subst g11
   exact ⟨congrArg str (by decide +kernel), hst.pure⟩
 refine run_skip <| run_inBlock <| SR <| AS rfl <| NL <| run_ret1 Tryz.func181 rfl (TP (v := str _) rfl) ?_
 exact ⟨congrArg str (look_none (by simp only [namesT, List.forall_mem_cons]; exact ⟨g1, g2, g3, g4, g5, g6, g7, g8, g9, g10, g11, fun _ h => absurd h List.not_mem_nil⟩)).symm, hst.pure⟩
theorem R7flds_get {l : List Byts} {n : Nat} {a : Int} (ha : a = n) (hn : n < l.length) : (l.map str)[0 + a.toNat * 1]? = some (str (l.getD n [])) := by
 subst ha; simp [List.getD, hn]
theorem R7flds_set {l : List Byts} {n : Nat} {c : UInt8} (hn : n < l.length) : setSeg (l.map str) (0 + (n : Int).toNat * 1) [str (l.getD n [] ++ [UInt8.ofNat ((c.toNat : Int)).toNat])] = (l.modify n (· ++ [c])).map str := by
 simp only [setSeg, Int.toNat_natCast, Nat.mul_one, Nat.zero_add, UInt8.ofNat_toNat]
 apply List.ext_getElem
 · simp
 · intro j h1 h2
   simp only [List.length_map, List.length_modify] at h2
   by_cases hj : n = j
   · subst hj; simp [List.getElem_modify, List.getD, hn]
   · simp [List.getElem_modify, hj, List.getElem_set_ne hj]
theorem R7six {l : List Byts} (h : l.length = 6) : ∃ f0 f1 f2 f3 f4 f5, l = [f0, f1, f2, f3, f4, f5] := by
 match l, h with
 | [f0, f1, f2, f3, f4, f5], _ => exact ⟨f0, f1, f2, f3, f4, f5, rfl⟩
theorem R7gr_fields (s f0 f1 f2 f3 f4 f5 : Byts) (hok : rowOk s = true) (hf : fieldsS s = [f0, f1, f2, f3, f4, f5]) (w : World) : Ret Tryz.prog 135 #[str s] w (fun v w' => v = .agg #[str f0, str f1, str f2, str f3, str f4, str f5] ∧ St w NoM [] [] w') := by
 refine Ret.enter (args := [str s]) Tryz.func135 rfl rfl rfl ?_
 have hst := St.init w
 obtain ⟨hasc, h5, hlen, _, _⟩ := rowOk_spec hok
 refine SR <| CN <| Op1.alloc hst ty211 fun w b2 hst => NSR <| CN <| Op1.alloc hst ty211 fun w b3 hst => NSR <| AI rfl <| NL <| SQ <| SQ <| RG ?_
 refine MS rfl <| CN <| Op1.rangeS hst ty9 rfl fun w it8 hst => NL <| run_block <| run_loop <| Run.indW [(2, .pointer (some ⟨_, _, none⟩)), (3, .pointer (some ⟨_, _, none⟩)), (8, .pointer (some ⟨_, 0, none⟩))] ⟨rfl, rfl, rfl, trivial⟩ (fun (i : Nat) => [(4, .int .i64 ((fieldsF (s.take i)).1 : Int))]) (fun (i : Nat) => [Res.iter it8 s i, Res.row b3 211 ((fieldsF (s.take i)).2.map str)]) (fun (i : Nat) => i ≤ s.length) (fun (i : Nat) => s.length - i) (0) hst (Nat.zero_le _) ⟨rfl, trivial⟩ ?_
 intro i f w hst hJ ih1
 refine SQ <| RG ?_
 rcases Nat.lt_or_ge i s.length with g2 | g2
 · skip
   have hc := hasc _ (List.getElem_mem g2)
   have hstep := fieldsF_step g2
   have hat : (fieldsF (s.take (i + 1))).1 ≤ 5 := Nat.le_trans fieldsF_at h5
   have hat0 : (fieldsF (s.take i)).1 ≤ 5 := Nat.le_trans fieldsF_at h5
   have hsh : ((fieldsF (s.take i)).2.getD (fieldsF (s.take i)).1 []).length ≤ i := getD_short (fieldsF_short s i hJ)
   refine CN (Op1.nextS hst rfl (.here) (List.getElem?_eq_getElem g2) (hc) fun w hst => ?_)
   refine CN <| Op1.extract (v := .bool _) rfl rfl <| NL <| SQ <| run_cond_true (congrArg Value.bool (rfl : true = _)) <| run_skip <| run_block <| SR <| CN <| Op1.extract (v := .int .i32 _) rfl rfl <| CN <| Op1.assign (v := .int .i32 _) rfl <| NSR <| CN <| Op1.move (v := .int .i32 _) rfl <| CN (Op1.eql rfl rfl ?_)
   refine NL <| run_cond_dec rfl (fun g3 => ?_) (fun g3 => ?_)
   · skip
     refine RG <| MI rfl <| CN <| Op1.addN rfl rfl rfl (wrap_i64 (by omega) (by omega)) <| AI rfl <| NL <| run_inBlock <| run_inLoop ?_
     have hsp : fieldsF (s.take (i + 1)) = ((fieldsF (s.take i)).1 + 1, (fieldsF (s.take i)).2) := by rw [hstep]; unfold stepF; rw [if_pos (UInt8.toNat_inj.1 (by have : (32 : UInt8).toNat = 32 := rfl; omega))]
     exact ih1 (i + 1) _ w (by omega) (by (try dsimp only); rw [hsp]; exact hst) (by omega) ⟨rfl, rfl, rfl, trivial⟩ ⟨(congrArg (Value.int .i64) (by rw [hsp]; rfl)), trivial⟩
   refine RG <| MI rfl <| CN <| Op1.indexArr ty211 ty9 rfl rfl (by omega) (by omega) <| CN <| Op1.load1 (v := str _) ty9 rfl rfl (hst.cellL (.tail _ (.head _)) (R7flds_get rfl (by rw [fieldsF_len]; omega))) <| CN <| Op1.move (v := .int .i32 _) rfl <| CN <| Op1.runeStr ty21 ty9 rfl (by omega) (by omega) <| CN <| Op1.addS rfl rfl (by first | omega | (simp only [List.length_cons, List.length_nil, List.length_append]; omega) | (simp; omega)) <| CN <| Op1.indexArr ty211 ty9 rfl rfl (by omega) (by omega) <| CN <| Op1.storeAt (v := str _) hst ty9 rfl rfl rfl rfl rfl (.there (.here)) (by simp only [List.length_map, fieldsF_len, List.length_cons, List.length_nil]; omega) fun w hst => NL <| run_inBlock <| run_inLoop ?_
   have hsp : fieldsF (s.take (i + 1)) = ((fieldsF (s.take i)).1, (fieldsF (s.take i)).2.modify (fieldsF (s.take i)).1 (· ++ [s[i]])) := by rw [hstep]; unfold stepF; rw [if_neg (fun he => g3 (by rw [he]; rfl))]
   exact ih1 (i + 1) _ w (by omega) (by (try dsimp only); rw [hsp]; dsimp only; rw [← R7flds_set (by rw [fieldsF_len]; omega)]; exact hst) (by omega) ⟨rfl, rfl, rfl, trivial⟩ ⟨(congrArg (Value.int .i64) (by rw [hsp])), trivial⟩
 obtain rfl : i = s.length := by omega
 rw [List.take_length, show (fieldsF s).2 = [f0, f1, f2, f3, f4, f5] from hf] at hst
 dsimp only [List.map] at hst
 refine CN <| Op1.nextE hst rfl (.head _) g2 <| CN <| Op1.extract (v := .bool _) rfl rfl <| NL <| SQ <| run_cond_false (congrArg Value.bool (rfl : false = _)) <| run_exit (id := 0) rfl <| SR <| CN <| Op1.loadA (vs := [str _, str _, str _, str _, str _, str _]) ty211 rfl rfl rfl (cells_of_obj (n := 6) (hst.objL (.tail _ (.head _))) _ rfl) <| CN (SO (v := .agg #[str _, str _, str _, str _, str _, str _]) hst ty211 rfl rfl (.there (.there (.here))) fun w hst => ?_)
 refine NL <| run_ret1 Tryz.func135 rfl (RV.cellA (vs := [str _, str _, str _, str _, str _, str _]) rfl ty211 rfl rfl (cells_of_obj (n := 6) (hst.objL (.tail _ (.tail _ (.head _)))) _ rfl)) ?_
 exact ⟨rfl, hst.pure⟩
end Go.SK
namespace Go.SK
open Go Go.Proofs
theorem ty113 : TyF Tryz.prog 113 (.struct (fieldsOf Tryz.prog 113)) 8 80 [.int .u16 0, str [], .bool false, .bool false, str [], str [], .int .i64 0, .int .u8 0] := TyF.of (by kernel_rfl) (by kernel_rfl)
theorem stf113 : StructF Tryz.prog 113 [(0, 1), (1, 1), (2, 1), (3, 1), (4, 1), (5, 1), (6, 1), (7, 1)] := ⟨fieldsOf Tryz.prog 113, by kernel_rfl, fun w => by kernel_rfl⟩
theorem ent147 : Enters Tryz.prog 147 := ⟨Tryz.f147, _, Tryz.func147, by kernel_rfl, rfl⟩
theorem ent134 : Enters Tryz.prog 134 := ⟨Tryz.f134, _, Tryz.func134, by kernel_rfl, rfl⟩
theorem ent135 : Enters Tryz.prog 135 := ⟨Tryz.f135, _, Tryz.func135, by kernel_rfl, rfl⟩
theorem fld113_2 : FldF Tryz.prog 113 2 2 := FldF.of (n := 0) (by kernel_rfl)
theorem ty4 : TyF Tryz.prog 4 .bool 1 1 [.bool false] := TyF.of (by kernel_rfl) (by kernel_rfl)
theorem fld113_3 : FldF Tryz.prog 113 3 3 := FldF.of (n := 0) (by kernel_rfl)
theorem fld113_6 : FldF Tryz.prog 113 6 6 := FldF.of (n := 0) (by kernel_rfl)
end Go.SK
namespace Go.SK
open Go Go.Proofs
open Go.RowKit
theorem R7gr_number (s : Byts) (hasc : ∀ c ∈ s, c.toNat < 128) (w : World) : Ret Tryz.prog 222 #[str s] w (fun v w' => v = .int .u32 (numF s) ∧ St w NoM [] [] w') := by
 refine Ret.enter (args := [str s]) Tryz.func222 rfl rfl rfl ?_
 have hst := St.init w
 refine SR <| AU rfl <| NSR <| AU rfl <| NL <| SQ <| SR <| MS rfl <| CN <| Op1.rangeS hst ty9 rfl fun w it7 hst => NL <| run_block ?_
 refine run_loop <| Run.indW [(7, .pointer (some ⟨_, 0, none⟩))] ⟨rfl, trivial⟩ (fun (i : Nat) => [(3, .int .u32 (numF (s.take i)))]) (fun (i : Nat) => [Res.iter it7 s i]) (fun (i : Nat) => i ≤ s.length) (fun (i : Nat) => s.length - i) (0) hst (Nat.zero_le _) ⟨rfl, trivial⟩ ?_
 intro i f w hst hJ ih1
 refine SQ <| RG ?_
 rcases Nat.lt_or_ge i s.length with g2 | g2
 · skip
   have hc := hasc _ (List.getElem_mem g2)
   have hstep := numF_step g2
   refine CN (Op1.nextS hst rfl (.here) (List.getElem?_eq_getElem g2) (hc) fun w hst => ?_)
   refine CN <| Op1.extract (v := .bool _) rfl rfl <| NL <| SQ <| run_cond_true (congrArg Value.bool (rfl : true = _)) <| run_skip <| run_block <| SR <| CN <| Op1.extract (v := .int .i32 _) rfl rfl <| CN <| Op1.assign (v := .int .i32 _) rfl <| NR <| MU rfl <| CN <| Op1.mul rfl rfl <| CN (Op1.move (v := .int .i32 _) rfl ?_)
   refine CN (Op1.subN rfl rfl rfl (wrap_i32 (by omega) (by omega)) ?_)
   first | refine CN (Op1.convN ty21 ty22 rfl (wrap_u32 (by omega) (by omega)) ?_) | refine CN (Op1.conv ty21 ty22 rfl ?_)
   refine CN <| Op1.add rfl rfl <| AU rfl <| NL <| run_inBlock <| run_inLoop ?_
   exact ih1 (i + 1) _ w (by omega) hst (by omega) ⟨rfl, trivial⟩ ⟨(congrArg (Value.int .u32) (by rw [hstep]; rfl)), trivial⟩
 obtain rfl : i = s.length := by omega
 refine CN <| Op1.nextE hst rfl (.head _) g2 <| CN <| Op1.extract (v := .bool _) rfl rfl <| NL <| SQ <| run_cond_false (congrArg Value.bool (rfl : false = _)) <| run_exit (id := 0) rfl <| SR <| MU rfl <| AU rfl <| NL <| run_ret1 Tryz.func222 rfl (TP (v := .int .u32 _) rfl) ?_
 exact ⟨congrArg (Value.int .u32) (by rw [List.take_length]), hst.pure⟩
theorem R7ref_form (op : Int) (name : Byts) (t r : Bool) (fixed rest : Byts) (most part : Int) (w : World) : Ret Tryz.prog 147 #[.int .u16 op, str name, .bool t, .bool r, str fixed, str rest, .int .i64 most, .int .u8 part] w (fun v w' => v = .agg #[.int .u16 op, str name, .bool t, .bool r, str fixed, str rest, .int .i64 most, .int .u8 part] ∧ St w NoM [] [] w') := by
 refine Ret.enter (args := [.int .u16 op, str name, .bool t, .bool r, str fixed, str rest, .int .i64 most, .int .u8 part]) Tryz.func147 rfl rfl rfl ?_
 have hst := St.init w
 refine SR <| CN <| Op1.alloc hst ty113 fun w b16 hst => NSR <| MH rfl <| MS rfl <| MB rfl <| MB rfl <| MS rfl <| MS rfl <| MI rfl <| MC rfl <| CN (Op1.buildStruct ty113 stf113 (.c (v := .int .u16 _) rfl (h := (.c (v := str _) rfl (h := (.c (v := .bool _) rfl (h := (.c (v := .bool _) rfl (h := (.c (v := str _) rfl (h := (.c (v := str _) rfl (h := (.c (v := .int .i64 _) rfl (h := (.c (v := .int .u8 _) rfl (h := .nil)))))))))))))))) ?_)
 refine CN (SO (v := .agg #[.int .u16 _, str _, .bool _, .bool _, str _, str _, .int .i64 _, .int .u8 _]) hst ty113 rfl rfl (.here) fun w hst => ?_)
 refine NL <| run_ret1 Tryz.func147 rfl (RV.cellA (vs := [.int .u16 _, str _, .bool _, .bool _, str _, str _, .int .i64 _, .int .u8 _]) rfl ty113 rfl rfl (cells_of_obj (n := 8) (hst.objL (.head _)) _ rfl)) ?_
 exact ⟨rfl, hst.pure⟩
set_option maxRecDepth 4000 in
set_option maxHeartbeats 4000000 in
theorem R7ref_Of (op : Int) (w : World) : Ret Tryz.prog 90 #[.int .u16 op] w (fun v w' => v = formV (refS op) ∧ St w NoM [] [] w') := by
 refine Ret.enter (args := [.int .u16 op]) Tryz.func90 rfl rfl rfl ?_
 have hst := St.init w
 refine SR <| CN <| Op1.alloc hst ty113 fun w b2 hst => AB rfl <| NL <| SQ <| SR <| MH rfl <| NL <| run_block <| SR <| CN <| Op1.eql rfl rfl <| AB rfl ?_
 refine NL <| run_cond_dec rfl (fun g1 => ?_) (fun g1 => ?_)
 · skip
   refine SR <| MH rfl <| CN <| Op1.call8 (v1 := .int .u16 _) (v2 := str _) (v3 := .bool _) (v4 := .bool _) (v5 := str _) (v6 := str _) (v7 := .int .i64 _) (v8 := .int .u8 _) ent147 rfl rfl rfl rfl rfl rfl rfl rfl rfl <| Ret.det (R7ref_form _ _ _ _ _ _ _ _ _) hst fun w hst => CN (SO (v := .agg #[.int .u16 _, str _, .bool _, .bool _, str _, str _, .int .i64 _, .int .u8 _]) hst ty113 rfl rfl (.here) fun w hst => ?_)
   refine AB rfl <| NL <| run_ret2 Tryz.func90 rfl (RV.cellA (vs := [.int .u16 _, str _, .bool _, .bool _, str _, str _, .int .i64 _, .int .u8 _]) rfl ty113 rfl rfl (cells_of_obj (n := 8) (hst.objL (.head _)) _ rfl)) (TP (v := .bool _) rfl) ?_
   subst g1
   have e : refS 1 = some ⟨1, [79, 112, 85, 110, 100, 101, 102], true, true, [], [], 0, 7⟩ := by decide +kernel
   rw [e]
   exact ⟨rfl, hst.pure⟩
 refine SR <| CN <| Op1.eql rfl rfl <| AB rfl <| NL <| run_cond_dec rfl (fun g2 => ?_) (fun g2 => ?_)
 · skip
   refine SR <| MH rfl <| CN <| Op1.call8 (v1 := .int .u16 _) (v2 := str _) (v3 := .bool _) (v4 := .bool _) (v5 := str _) (v6 := str _) (v7 := .int .i64 _) (v8 := .int .u8 _) ent147 rfl rfl rfl rfl rfl rfl rfl rfl rfl <| Ret.det (R7ref_form _ _ _ _ _ _ _ _ _) hst fun w hst => CN (SO (v := .agg #[.int .u16 _, str _, .bool _, .bool _, str _, str _, .int .i64 _, .int .u8 _]) hst ty113 rfl rfl (.here) fun w hst => ?_)
   refine AB rfl <| NL <| run_ret2 Tryz.func90 rfl (RV.cellA (vs := [.int .u16 _, str _, .bool _, .bool _, str _, str _, .int .i64 _, .int .u8 _]) rfl ty113 rfl rfl (cells_of_obj (n := 8) (hst.objL (.head _)) _ rfl)) (TP (v := .bool _) rfl) ?_
   subst g2
   have e : refS 3 = some ⟨3, [79, 112, 83, 111, 117, 114, 99, 101], false, false, [108, 110], [], 0, 4⟩ := by decide +kernel
   rw [e]
   exact ⟨rfl, hst.pure⟩
 refine SR <| CN <| Op1.eql rfl rfl <| AB rfl <| NL <| run_cond_dec rfl (fun g3 => ?_) (fun g3 => ?_)
 · skip
   refine SR <| MH rfl <| CN <| Op1.call8 (v1 := .int .u16 _) (v2 := str _) (v3 := .bool _) (v4 := .bool _) (v5 := str _) (v6 := str _) (v7 := .int .i64 _) (v8 := .int .u8 _) ent147 rfl rfl rfl rfl rfl rfl rfl rfl rfl <| Ret.det (R7ref_form _ _ _ _ _ _ _ _ _) hst fun w hst => CN (SO (v := .agg #[.int .u16 _, str _, .bool _, .bool _, str _, str _, .int .i64 _, .int .u8 _]) hst ty113 rfl rfl (.here) fun w hst => ?_)
   refine AB rfl <| NL <| run_ret2 Tryz.func90 rfl (RV.cellA (vs := [.int .u16 _, str _, .bool _, .bool _, str _, str _, .int .i64 _, .int .u8 _]) rfl ty113 rfl rfl (cells_of_obj (n := 8) (hst.objL (.head _)) _ rfl)) (TP (v := .bool _) rfl) ?_
   subst g3
   have e : refS 5 = some ⟨5, [79, 112, 78, 97, 109, 101], false, false, [105, 115], [], 0, 5⟩ := by decide +kernel
   rw [e]
   exact ⟨rfl, hst.pure⟩
 refine SR <| CN <| Op1.eql rfl rfl <| AB rfl <| NL <| run_cond_dec rfl (fun g4 => ?_) (fun g4 => ?_)
 · skip
   refine SR <| MH rfl <| CN <| Op1.call8 (v1 := .int .u16 _) (v2 := str _) (v3 := .bool _) (v4 := .bool _) (v5 := str _) (v6 := str _) (v7 := .int .i64 _) (v8 := .int .u8 _) ent147 rfl rfl rfl rfl rfl rfl rfl rfl rfl <| Ret.det (R7ref_form _ _ _ _ _ _ _ _ _) hst fun w hst => CN (SO (v := .agg #[.int .u16 _, str _, .bool _, .bool _, str _, str _, .int .i64 _, .int .u8 _]) hst ty113 rfl rfl (.here) fun w hst => ?_)
   refine AB rfl <| NL <| run_ret2 Tryz.func90 rfl (RV.cellA (vs := [.int .u16 _, str _, .bool _, .bool _, str _, str _, .int .i64 _, .int .u8 _]) rfl ty113 rfl rfl (cells_of_obj (n := 8) (hst.objL (.head _)) _ rfl)) (TP (v := .bool _) rfl) ?_
   subst g4
   have e : refS 6 = some ⟨6, [79, 112, 77, 101, 109, 98, 101, 114, 78, 97, 109, 101], false, false, [105, 110, 115], [], 0, 5⟩ := by decide +kernel
   rw [e]
   exact ⟨rfl, hst.pure⟩
 refine SR <| CN <| Op1.eql rfl rfl <| AB rfl <| NL <| run_cond_dec rfl (fun g5 => ?_) (fun g5 => ?_)
 · skip
   refine SR <| MH rfl <| CN <| Op1.call8 (v1 := .int .u16 _) (v2 := str _) (v3 := .bool _) (v4 := .bool _) (v5 := str _) (v6 := str _) (v7 := .int .i64 _) (v8 := .int .u8 _) ent147 rfl rfl rfl rfl rfl rfl rfl rfl rfl <| Ret.det (R7ref_form _ _ _ _ _ _ _ _ _) hst fun w hst => CN (SO (v := .agg #[.int .u16 _, str _, .bool _, .bool _, str _, str _, .int .i64 _, .int .u8 _]) hst ty113 rfl rfl (.here) fun w hst => ?_)
   refine AB rfl <| NL <| run_ret2 Tryz.func90 rfl (RV.cellA (vs := [.int .u16 _, str _, .bool _, .bool _, str _, str _, .int .i64 _, .int .u8 _]) rfl ty113 rfl rfl (cells_of_obj (n := 8) (hst.objL (.head _)) _ rfl)) (TP (v := .bool _) rfl) ?_
   subst g5
   have e : refS 7 = some ⟨7, [79, 112, 83, 116, 114, 105, 110, 103], false, true, [115], [], 0, 4⟩ := by decide +kernel
   rw [e]
   exact ⟨rfl, hst.pure⟩
 refine SR <| CN <| Op1.eql rfl rfl <| AB rfl <| NL <| run_cond_dec rfl (fun g6 => ?_) (fun g6 => ?_)
 · skip
   refine SR <| MH rfl <| CN <| Op1.call8 (v1 := .int .u16 _) (v2 := str _) (v3 := .bool _) (v4 := .bool _) (v5 := str _) (v6 := str _) (v7 := .int .i64 _) (v8 := .int .u8 _) ent147 rfl rfl rfl rfl rfl rfl rfl rfl rfl <| Ret.det (R7ref_form _ _ _ _ _ _ _ _ _) hst fun w hst => CN (SO (v := .agg #[.int .u16 _, str _, .bool _, .bool _, str _, str _, .int .i64 _, .int .u8 _]) hst ty113 rfl rfl (.here) fun w hst => ?_)
   refine AB rfl <| NL <| run_ret2 Tryz.func90 rfl (RV.cellA (vs := [.int .u16 _, str _, .bool _, .bool _, str _, str _, .int .i64 _, .int .u8 _]) rfl ty113 rfl rfl (cells_of_obj (n := 8) (hst.objL (.head _)) _ rfl)) (TP (v := .bool _) rfl) ?_
   subst g6
   have e : refS 14 = some ⟨14, [79, 112, 77, 101, 109, 111, 114, 121, 77, 111, 100, 101, 108], false, false, [97, 109], [], 0, 1⟩ := by decide +kernel
   rw [e]
   exact ⟨rfl, hst.pure⟩
 refine SR <| CN <| Op1.eql rfl rfl <| AB rfl <| NL <| run_cond_dec rfl (fun g7 => ?_) (fun g7 => ?_)
 · skip
   refine SR <| MH rfl <| CN <| Op1.call8 (v1 := .int .u16 _) (v2 := str _) (v3 := .bool _) (v4 := .bool _) (v5 := str _) (v6 := str _) (v7 := .int .i64 _) (v8 := .int .u8 _) ent147 rfl rfl rfl rfl rfl rfl rfl rfl rfl <| Ret.det (R7ref_form _ _ _ _ _ _ _ _ _) hst fun w hst => CN (SO (v := .agg #[.int .u16 _, str _, .bool _, .bool _, str _, str _, .int .i64 _, .int .u8 _]) hst ty113 rfl rfl (.here) fun w hst => ?_)
   refine AB rfl <| NL <| run_ret2 Tryz.func90 rfl (RV.cellA (vs := [.int .u16 _, str _, .bool _, .bool _, str _, str _, .int .i64 _, .int .u8 _]) rfl ty113 rfl rfl (cells_of_obj (n := 8) (hst.objL (.head _)) _ rfl)) (TP (v := .bool _) rfl) ?_
   subst g7
   have e : refS 15 = some ⟨15, [79, 112, 69, 110, 116, 114, 121, 80, 111, 105, 110, 116], false, false, [101, 105, 115], [105], 0, 2⟩ := by decide +kernel
   rw [e]
   exact ⟨rfl, hst.pure⟩
 refine SR <| CN <| Op1.eql rfl rfl <| AB rfl <| NL <| Run.forget [(0, .int .u16 _), (2, .pointer (some ⟨_, _, none⟩)), (4, .int .u16 _), (33, .bool _)] ⟨rfl, rfl, rfl, rfl, trivial⟩ fun f => run_cond_dec rfl (fun g8 => ?_) (fun g8 => ?_)
 · skip
   refine SR <| MH rfl <| CN <| Op1.call8 (v1 := .int .u16 _) (v2 := str _) (v3 := .bool _) (v4 := .bool _) (v5 := str _) (v6 := str _) (v7 := .int .i64 _) (v8 := .int .u8 _) ent147 rfl rfl rfl rfl rfl rfl rfl rfl rfl <| Ret.det (R7ref_form _ _ _ _ _ _ _ _ _) hst fun w hst => CN (SO (v := .agg #[.int .u16 _, str _, .bool _, .bool _, str _, str _, .int .i64 _, .int .u8 _]) hst ty113 rfl rfl (.here) fun w hst => ?_)
   refine AB rfl <| NL <| run_ret2 Tryz.func90 rfl (RV.cellA (vs := [.int .u16 _, str _, .bool _, .bool _, str _, str _, .int .i64 _, .int .u8 _]) rfl ty113 rfl rfl (cells_of_obj (n := 8) (hst.objL (.head _)) _ rfl)) (TP (v := .bool _) rfl) ?_
   subst g8
   have e : refS 16 = some ⟨16, [79, 112, 69, 120, 101, 99, 117, 116, 105, 111, 110, 77, 111, 100, 101], false, false, [105, 120], [], 0, 3⟩ := by decide +kernel
   rw [e]
   exact ⟨rfl, hst.pure⟩
 refine SR <| CN <| Op1.eql rfl rfl <| AB rfl <| NL <| run_cond_dec rfl (fun g9 => ?_) (fun g9 => ?_)
 · skip
   refine SR <| MH rfl <| CN <| Op1.call8 (v1 := .int .u16 _) (v2 := str _) (v3 := .bool _) (v4 := .bool _) (v5 := str _) (v6 := str _) (v7 := .int .i64 _) (v8 := .int .u8 _) ent147 rfl rfl rfl rfl rfl rfl rfl rfl rfl <| Ret.det (R7ref_form _ _ _ _ _ _ _ _ _) hst fun w hst => CN (SO (v := .agg #[.int .u16 _, str _, .bool _, .bool _, str _, str _, .int .i64 _, .int .u8 _]) hst ty113 rfl rfl (.here) fun w hst => ?_)
   refine AB rfl <| NL <| run_ret2 Tryz.func90 rfl (RV.cellA (vs := [.int .u16 _, str _, .bool _, .bool _, str _, str _, .int .i64 _, .int .u8 _]) rfl ty113 rfl rfl (cells_of_obj (n := 8) (hst.objL (.head _)) _ rfl)) (TP (v := .bool _) rfl) ?_
   subst g9
   have e : refS 17 = some ⟨17, [79, 112, 67, 97, 112, 97, 98, 105, 108, 105, 116, 121], false, false, [107], [], 0, 0⟩ := by decide +kernel
   rw [e]
   exact ⟨rfl, hst.pure⟩
 refine SR <| CN <| Op1.eql rfl rfl <| AB rfl <| NL <| run_cond_dec rfl (fun g10 => ?_) (fun g10 => ?_)
 · skip
   refine SR <| MH rfl <| CN <| Op1.call8 (v1 := .int .u16 _) (v2 := str _) (v3 := .bool _) (v4 := .bool _) (v5 := str _) (v6 := str _) (v7 := .int .i64 _) (v8 := .int .u8 _) ent147 rfl rfl rfl rfl rfl rfl rfl rfl rfl <| Ret.det (R7ref_form _ _ _ _ _ _ _ _ _) hst fun w hst => CN (SO (v := .agg #[.int .u16 _, str _, .bool _, .bool _, str _, str _, .int .i64 _, .int .u8 _]) hst ty113 rfl rfl (.here) fun w hst => ?_)
   refine AB rfl <| NL <| run_ret2 Tryz.func90 rfl (RV.cellA (vs := [.int .u16 _, str _, .bool _, .bool _, str _, str _, .int .i64 _, .int .u8 _]) rfl ty113 rfl rfl (cells_of_obj (n := 8) (hst.objL (.head _)) _ rfl)) (TP (v := .bool _) rfl) ?_
   subst g10
   have e : refS 19 = some ⟨19, [79, 112, 84, 121, 112, 101, 86, 111, 105, 100], false, true, [], [], 0, 7⟩ := by decide +kernel
   rw [e]
   exact ⟨rfl, hst.pure⟩
 refine SR <| CN <| Op1.eql rfl rfl <| AB rfl <| NL <| run_cond_dec rfl (fun g11 => ?_) (fun g11 => ?_)
 · skip
   refine SR <| MH rfl <| CN <| Op1.call8 (v1 := .int .u16 _) (v2 := str _) (v3 := .bool _) (v4 := .bool _) (v5 := str _) (v6 := str _) (v7 := .int .i64 _) (v8 := .int .u8 _) ent147 rfl rfl rfl rfl rfl rfl rfl rfl rfl <| Ret.det (R7ref_form _ _ _ _ _ _ _ _ _) hst fun w hst => CN (SO (v := .agg #[.int .u16 _, str _, .bool _, .bool _, str _, str _, .int .i64 _, .int .u8 _]) hst ty113 rfl rfl (.here) fun w hst => ?_)
   refine AB rfl <| NL <| run_ret2 Tryz.func90 rfl (RV.cellA (vs := [.int .u16 _, str _, .bool _, .bool _, str _, str _, .int .i64 _, .int .u8 _]) rfl ty113 rfl rfl (cells_of_obj (n := 8) (hst.objL (.head _)) _ rfl)) (TP (v := .bool _) rfl) ?_
   subst g11
   have e : refS 20 = some ⟨20, [79, 112, 84, 121, 112, 101, 66, 111, 111, 108], false, true, [], [], 0, 7⟩ := by decide +kernel
   rw [e]
   exact ⟨rfl, hst.pure⟩
 refine SR <| CN <| Op1.eql rfl rfl <| AB rfl <| NL <| run_cond_dec rfl (fun g12 => ?_) (fun g12 => ?_)
 · skip
   refine SR <| MH rfl <| CN <| Op1.call8 (v1 := .int .u16 _) (v2 := str _) (v3 := .bool _) (v4 := .bool _) (v5 := str _) (v6 := str _) (v7 := .int .i64 _) (v8 := .int .u8 _) ent147 rfl rfl rfl rfl rfl rfl rfl rfl rfl <| Ret.det (R7ref_form _ _ _ _ _ _ _ _ _) hst fun w hst => CN (SO (v := .agg #[.int .u16 _, str _, .bool _, .bool _, str _, str _, .int .i64 _, .int .u8 _]) hst ty113 rfl rfl (.here) fun w hst => ?_)
   refine AB rfl <| NL <| run_ret2 Tryz.func90 rfl (RV.cellA (vs := [.int .u16 _, str _, .bool _, .bool _, str _, str _, .int .i64 _, .int .u8 _]) rfl ty113 rfl rfl (cells_of_obj (n := 8) (hst.objL (.head _)) _ rfl)) (TP (v := .bool _) rfl) ?_
   subst g12
   have e : refS 21 = some ⟨21, [79, 112, 84, 121, 112, 101, 73, 110, 116], false, true, [110, 110], [], 0, 7⟩ := by decide +kernel
   rw [e]
   exact ⟨rfl, hst.pure⟩
 refine SR <| CN <| Op1.eql rfl rfl <| AB rfl <| NL <| run_cond_dec rfl (fun g13 => ?_) (fun g13 => ?_)
 · skip
   refine SR <| MH rfl <| CN <| Op1.call8 (v1 := .int .u16 _) (v2 := str _) (v3 := .bool _) (v4 := .bool _) (v5 := str _) (v6 := str _) (v7 := .int .i64 _) (v8 := .int .u8 _) ent147 rfl rfl rfl rfl rfl rfl rfl rfl rfl <| Ret.det (R7ref_form _ _ _ _ _ _ _ _ _) hst fun w hst => CN (SO (v := .agg #[.int .u16 _, str _, .bool _, .bool _, str _, str _, .int .i64 _, .int .u8 _]) hst ty113 rfl rfl (.here) fun w hst => ?_)
   refine AB rfl <| NL <| run_ret2 Tryz.func90 rfl (RV.cellA (vs := [.int .u16 _, str _, .bool _, .bool _, str _, str _, .int .i64 _, .int .u8 _]) rfl ty113 rfl rfl (cells_of_obj (n := 8) (hst.objL (.head _)) _ rfl)) (TP (v := .bool _) rfl) ?_
   subst g13
   have e : refS 23 = some ⟨23, [79, 112, 84, 121, 112, 101, 86, 101, 99, 116, 111, 114], false, true, [105, 110], [], 0, 7⟩ := by decide +kernel
   rw [e]
   exact ⟨rfl, hst.pure⟩
 refine SR <| CN <| Op1.eql rfl rfl <| AB rfl <| NL <| run_cond_dec rfl (fun g14 => ?_) (fun g14 => ?_)
 · skip
   refine SR <| MH rfl <| CN <| Op1.call8 (v1 := .int .u16 _) (v2 := str _) (v3 := .bool _) (v4 := .bool _) (v5 := str _) (v6 := str _) (v7 := .int .i64 _) (v8 := .int .u8 _) ent147 rfl rfl rfl rfl rfl rfl rfl rfl rfl <| Ret.det (R7ref_form _ _ _ _ _ _ _ _ _) hst fun w hst => CN (SO (v := .agg #[.int .u16 _, str _, .bool _, .bool _, str _, str _, .int .i64 _, .int .u8 _]) hst ty113 rfl rfl (.here) fun w hst => ?_)
   refine AB rfl <| NL <| run_ret2 Tryz.func90 rfl (RV.cellA (vs := [.int .u16 _, str _, .bool _, .bool _, str _, str _, .int .i64 _, .int .u8 _]) rfl ty113 rfl rfl (cells_of_obj (n := 8) (hst.objL (.head _)) _ rfl)) (TP (v := .bool _) rfl) ?_
   subst g14
   have e : refS 28 = some ⟨28, [79, 112, 84, 121, 112, 101, 65, 114, 114, 97, 121], false, true, [105, 105], [], 0, 7⟩ := by decide +kernel
   rw [e]
   exact ⟨rfl, hst.pure⟩
 refine SR <| CN <| Op1.eql rfl rfl <| AB rfl <| NL <| run_cond_dec rfl (fun g15 => ?_) (fun g15 => ?_)
 · skip
   refine SR <| MH rfl <| CN <| Op1.call8 (v1 := .int .u16 _) (v2 := str _) (v3 := .bool _) (v4 := .bool _) (v5 := str _) (v6 := str _) (v7 := .int .i64 _) (v8 := .int .u8 _) ent147 rfl rfl rfl rfl rfl rfl rfl rfl rfl <| Ret.det (R7ref_form _ _ _ _ _ _ _ _ _) hst fun w hst => CN (SO (v := .agg #[.int .u16 _, str _, .bool _, .bool _, str _, str _, .int .i64 _, .int .u8 _]) hst ty113 rfl rfl (.here) fun w hst => ?_)
   refine AB rfl <| NL <| run_ret2 Tryz.func90 rfl (RV.cellA (vs := [.int .u16 _, str _, .bool _, .bool _, str _, str _, .int .i64 _, .int .u8 _]) rfl ty113 rfl rfl (cells_of_obj (n := 8) (hst.objL (.head _)) _ rfl)) (TP (v := .bool _) rfl) ?_
   subst g15
   have e : refS 30 = some ⟨30, [79, 112, 84, 121, 112, 101, 83, 116, 114, 117, 99, 116], false, true, [], [105], 0, 7⟩ := by decide +kernel
   rw [e]
   exact ⟨rfl, hst.pure⟩
 refine SR <| CN <| Op1.eql rfl rfl <| AB rfl <| NL <| run_cond_dec rfl (fun g16 => ?_) (fun g16 => ?_)
 · skip
   refine SR <| MH rfl <| CN <| Op1.call8 (v1 := .int .u16 _) (v2 := str _) (v3 := .bool _) (v4 := .bool _) (v5 := str _) (v6 := str _) (v7 := .int .i64 _) (v8 := .int .u8 _) ent147 rfl rfl rfl rfl rfl rfl rfl rfl rfl <| Ret.det (R7ref_form _ _ _ _ _ _ _ _ _) hst fun w hst => CN (SO (v := .agg #[.int .u16 _, str _, .bool _, .bool _, str _, str _, .int .i64 _, .int .u8 _]) hst ty113 rfl rfl (.here) fun w hst => ?_)
   refine AB rfl <| NL <| run_ret2 Tryz.func90 rfl (RV.cellA (vs := [.int .u16 _, str _, .bool _, .bool _, str _, str _, .int .i64 _, .int .u8 _]) rfl ty113 rfl rfl (cells_of_obj (n := 8) (hst.objL (.head _)) _ rfl)) (TP (v := .bool _) rfl) ?_
   subst g16
   have e : refS 32 = some ⟨32, [79, 112, 84, 121, 112, 101, 80, 111, 105, 110, 116, 101, 114], false, true, [99, 105], [], 0, 7⟩ := by decide +kernel
   rw [e]
   exact ⟨rfl, hst.pure⟩
 refine SR <| CN <| Op1.eql rfl rfl <| AB rfl <| NL <| run_cond_dec rfl (fun g17 => ?_) (fun g17 => ?_)
 · skip
   refine SR <| MH rfl <| CN <| Op1.call8 (v1 := .int .u16 _) (v2 := str _) (v3 := .bool _) (v4 := .bool _) (v5 := str _) (v6 := str _) (v7 := .int .i64 _) (v8 := .int .u8 _) ent147 rfl rfl rfl rfl rfl rfl rfl rfl rfl <| Ret.det (R7ref_form _ _ _ _ _ _ _ _ _) hst fun w hst => CN (SO (v := .agg #[.int .u16 _, str _, .bool _, .bool _, str _, str _, .int .i64 _, .int .u8 _]) hst ty113 rfl rfl (.here) fun w hst => ?_)
   refine AB rfl <| NL <| run_ret2 Tryz.func90 rfl (RV.cellA (vs := [.int .u16 _, str _, .bool _, .bool _, str _, str _, .int .i64 _, .int .u8 _]) rfl ty113 rfl rfl (cells_of_obj (n := 8) (hst.objL (.head _)) _ rfl)) (TP (v := .bool _) rfl) ?_
   subst g17
   have e : refS 33 = some ⟨33, [79, 112, 84, 121, 112, 101, 70, 117, 110, 99, 116, 105, 111, 110], false, true, [105], [105], 0, 7⟩ := by decide +kernel
   rw [e]
   exact ⟨rfl, hst.pure⟩
 refine SR <| CN <| Op1.eql rfl rfl <| AB rfl <| NL <| Run.forget [(0, .int .u16 _), (2, .pointer (some ⟨_, _, none⟩)), (4, .int .u16 _), (73, .bool _)] ⟨rfl, rfl, rfl, rfl, trivial⟩ fun f => run_cond_dec rfl (fun g18 => ?_) (fun g18 => ?_)
 · skip
   refine SR <| MH rfl <| CN <| Op1.call8 (v1 := .int .u16 _) (v2 := str _) (v3 := .bool _) (v4 := .bool _) (v5 := str _) (v6 := str _) (v7 := .int .i64 _) (v8 := .int .u8 _) ent147 rfl rfl rfl rfl rfl rfl rfl rfl rfl <| Ret.det (R7ref_form _ _ _ _ _ _ _ _ _) hst fun w hst => CN (SO (v := .agg #[.int .u16 _, str _, .bool _, .bool _, str _, str _, .int .i64 _, .int .u8 _]) hst ty113 rfl rfl (.here) fun w hst => ?_)
   refine AB rfl <| NL <| run_ret2 Tryz.func90 rfl (RV.cellA (vs := [.int .u16 _, str _, .bool _, .bool _, str _, str _, .int .i64 _, .int .u8 _]) rfl ty113 rfl rfl (cells_of_obj (n := 8) (hst.objL (.head _)) _ rfl)) (TP (v := .bool _) rfl) ?_
   subst g18
   have e : refS 41 = some ⟨41, [79, 112, 67, 111, 110, 115, 116, 97, 110, 116, 84, 114, 117, 101], true, true, [], [], 0, 7⟩ := by decide +kernel
   rw [e]
   exact ⟨rfl, hst.pure⟩
 refine SR <| CN <| Op1.eql rfl rfl <| AB rfl <| NL <| run_cond_dec rfl (fun g19 => ?_) (fun g19 => ?_)
 · skip
   refine SR <| MH rfl <| CN <| Op1.call8 (v1 := .int .u16 _) (v2 := str _) (v3 := .bool _) (v4 := .bool _) (v5 := str _) (v6 := str _) (v7 := .int .i64 _) (v8 := .int .u8 _) ent147 rfl rfl rfl rfl rfl rfl rfl rfl rfl <| Ret.det (R7ref_form _ _ _ _ _ _ _ _ _) hst fun w hst => CN (SO (v := .agg #[.int .u16 _, str _, .bool _, .bool _, str _, str _, .int .i64 _, .int .u8 _]) hst ty113 rfl rfl (.here) fun w hst => ?_)
   refine AB rfl <| NL <| run_ret2 Tryz.func90 rfl (RV.cellA (vs := [.int .u16 _, str _, .bool _, .bool _, str _, str _, .int .i64 _, .int .u8 _]) rfl ty113 rfl rfl (cells_of_obj (n := 8) (hst.objL (.head _)) _ rfl)) (TP (v := .bool _) rfl) ?_
   subst g19
   have e : refS 42 = some ⟨42, [79, 112, 67, 111, 110, 115, 116, 97, 110, 116, 70, 97, 108, 115, 101], true, true, [], [], 0, 7⟩ := by decide +kernel
   rw [e]
   exact ⟨rfl, hst.pure⟩
 refine SR <| CN <| Op1.eql rfl rfl <| AB rfl <| NL <| run_cond_dec rfl (fun g20 => ?_) (fun g20 => ?_)
 · skip
   refine SR <| MH rfl <| CN <| Op1.call8 (v1 := .int .u16 _) (v2 := str _) (v3 := .bool _) (v4 := .bool _) (v5 := str _) (v6 := str _) (v7 := .int .i64 _) (v8 := .int .u8 _) ent147 rfl rfl rfl rfl rfl rfl rfl rfl rfl <| Ret.det (R7ref_form _ _ _ _ _ _ _ _ _) hst fun w hst => CN (SO (v := .agg #[.int .u16 _, str _, .bool _, .bool _, str _, str _, .int .i64 _, .int .u8 _]) hst ty113 rfl rfl (.here) fun w hst => ?_)
   refine AB rfl <| NL <| run_ret2 Tryz.func90 rfl (RV.cellA (vs := [.int .u16 _, str _, .bool _, .bool _, str _, str _, .int .i64 _, .int .u8 _]) rfl ty113 rfl rfl (cells_of_obj (n := 8) (hst.objL (.head _)) _ rfl)) (TP (v := .bool _) rfl) ?_
   subst g20
   have e : refS 43 = some ⟨43, [79, 112, 67, 111, 110, 115, 116, 97, 110, 116], true, true, [110], [], 0, 7⟩ := by decide +kernel
   rw [e]
   exact ⟨rfl, hst.pure⟩
 refine SR <| CN <| Op1.eql rfl rfl <| AB rfl <| NL <| run_cond_dec rfl (fun g21 => ?_) (fun g21 => ?_)
 · skip
   refine SR <| MH rfl <| CN <| Op1.call8 (v1 := .int .u16 _) (v2 := str _) (v3 := .bool _) (v4 := .bool _) (v5 := str _) (v6 := str _) (v7 := .int .i64 _) (v8 := .int .u8 _) ent147 rfl rfl rfl rfl rfl rfl rfl rfl rfl <| Ret.det (R7ref_form _ _ _ _ _ _ _ _ _) hst fun w hst => CN (SO (v := .agg #[.int .u16 _, str _, .bool _, .bool _, str _, str _, .int .i64 _, .int .u8 _]) hst ty113 rfl rfl (.here) fun w hst => ?_)
   refine AB rfl <| NL <| run_ret2 Tryz.func90 rfl (RV.cellA (vs := [.int .u16 _, str _, .bool _, .bool _, str _, str _, .int .i64 _, .int .u8 _]) rfl ty113 rfl rfl (cells_of_obj (n := 8) (hst.objL (.head _)) _ rfl)) (TP (v := .bool _) rfl) ?_
   subst g21
   have e : refS 44 = some ⟨44, [79, 112, 67, 111, 110, 115, 116, 97, 110, 116, 67, 111, 109, 112, 111, 115, 105, 116, 101], true, true, [], [105], 0, 7⟩ := by decide +kernel
   rw [e]
   exact ⟨rfl, hst.pure⟩
 refine SR <| CN <| Op1.eql rfl rfl <| AB rfl <| NL <| run_cond_dec rfl (fun g22 => ?_) (fun g22 => ?_)
 · skip
   refine SR <| MH rfl <| CN <| Op1.call8 (v1 := .int .u16 _) (v2 := str _) (v3 := .bool _) (v4 := .bool _) (v5 := str _) (v6 := str _) (v7 := .int .i64 _) (v8 := .int .u8 _) ent147 rfl rfl rfl rfl rfl rfl rfl rfl rfl <| Ret.det (R7ref_form _ _ _ _ _ _ _ _ _) hst fun w hst => CN (SO (v := .agg #[.int .u16 _, str _, .bool _, .bool _, str _, str _, .int .i64 _, .int .u8 _]) hst ty113 rfl rfl (.here) fun w hst => ?_)
   refine AB rfl <| NL <| run_ret2 Tryz.func90 rfl (RV.cellA (vs := [.int .u16 _, str _, .bool _, .bool _, str _, str _, .int .i64 _, .int .u8 _]) rfl ty113 rfl rfl (cells_of_obj (n := 8) (hst.objL (.head _)) _ rfl)) (TP (v := .bool _) rfl) ?_
   subst g22
   have e : refS 46 = some ⟨46, [79, 112, 67, 111, 110, 115, 116, 97, 110, 116, 78, 117, 108, 108], true, true, [], [], 0, 7⟩ := by decide +kernel
   rw [e]
   exact ⟨rfl, hst.pure⟩
 refine SR <| CN <| Op1.eql rfl rfl <| AB rfl <| NL <| run_cond_dec rfl (fun g23 => ?_) (fun g23 => ?_)
 · skip
   refine SR <| MH rfl <| CN <| Op1.call8 (v1 := .int .u16 _) (v2 := str _) (v3 := .bool _) (v4 := .bool _) (v5 := str _) (v6 := str _) (v7 := .int .i64 _) (v8 := .int .u8 _) ent147 rfl rfl rfl rfl rfl rfl rfl rfl rfl <| Ret.det (R7ref_form _ _ _ _ _ _ _ _ _) hst fun w hst => CN (SO (v := .agg #[.int .u16 _, str _, .bool _, .bool _, str _, str _, .int .i64 _, .int .u8 _]) hst ty113 rfl rfl (.here) fun w hst => ?_)
   refine AB rfl <| NL <| run_ret2 Tryz.func90 rfl (RV.cellA (vs := [.int .u16 _, str _, .bool _, .bool _, str _, str _, .int .i64 _, .int .u8 _]) rfl ty113 rfl rfl (cells_of_obj (n := 8) (hst.objL (.head _)) _ rfl)) (TP (v := .bool _) rfl) ?_
   subst g23
   have e : refS 54 = some ⟨54, [79, 112, 70, 117, 110, 99, 116, 105, 111, 110], true, true, [102, 105], [], 0, 8⟩ := by decide +kernel
   rw [e]
   exact ⟨rfl, hst.pure⟩
 refine SR <| CN <| Op1.eql rfl rfl <| AB rfl <| NL <| run_cond_dec rfl (fun g24 => ?_) (fun g24 => ?_)
 · skip
   refine SR <| MH rfl <| CN <| Op1.call8 (v1 := .int .u16 _) (v2 := str _) (v3 := .bool _) (v4 := .bool _) (v5 := str _) (v6 := str _) (v7 := .int .i64 _) (v8 := .int .u8 _) ent147 rfl rfl rfl rfl rfl rfl rfl rfl rfl <| Ret.det (R7ref_form _ _ _ _ _ _ _ _ _) hst fun w hst => CN (SO (v := .agg #[.int .u16 _, str _, .bool _, .bool _, str _, str _, .int .i64 _, .int .u8 _]) hst ty113 rfl rfl (.here) fun w hst => ?_)
   refine AB rfl <| NL <| run_ret2 Tryz.func90 rfl (RV.cellA (vs := [.int .u16 _, str _, .bool _, .bool _, str _, str _, .int .i64 _, .int .u8 _]) rfl ty113 rfl rfl (cells_of_obj (n := 8) (hst.objL (.head _)) _ rfl)) (TP (v := .bool _) rfl) ?_
   subst g24
   have e : refS 55 = some ⟨55, [79, 112, 70, 117, 110, 99, 116, 105, 111, 110, 80, 97, 114, 97, 109, 101, 116, 101, 114], true, true, [], [], 0, 8⟩ := by decide +kernel
   rw [e]
   exact ⟨rfl, hst.pure⟩
 refine SR <| CN <| Op1.eql rfl rfl <| AB rfl <| NL <| run_cond_dec rfl (fun g25 => ?_) (fun g25 => ?_)
 · skip
   refine SR <| MH rfl <| CN <| Op1.call8 (v1 := .int .u16 _) (v2 := str _) (v3 := .bool _) (v4 := .bool _) (v5 := str _) (v6 := str _) (v7 := .int .i64 _) (v8 := .int .u8 _) ent147 rfl rfl rfl rfl rfl rfl rfl rfl rfl <| Ret.det (R7ref_form _ _ _ _ _ _ _ _ _) hst fun w hst => CN (SO (v := .agg #[.int .u16 _, str _, .bool _, .bool _, str _, str _, .int .i64 _, .int .u8 _]) hst ty113 rfl rfl (.here) fun w hst => ?_)
   refine AB rfl <| NL <| run_ret2 Tryz.func90 rfl (RV.cellA (vs := [.int .u16 _, str _, .bool _, .bool _, str _, str _, .int .i64 _, .int .u8 _]) rfl ty113 rfl rfl (cells_of_obj (n := 8) (hst.objL (.head _)) _ rfl)) (TP (v := .bool _) rfl) ?_
   subst g25
   have e : refS 56 = some ⟨56, [79, 112, 70, 117, 110, 99, 116, 105, 111, 110, 69, 110, 100], false, false, [], [], 0, 8⟩ := by decide +kernel
   rw [e]
   exact ⟨rfl, hst.pure⟩
 refine SR <| CN <| Op1.eql rfl rfl <| AB rfl <| NL <| run_cond_dec rfl (fun g26 => ?_) (fun g26 => ?_)
 · skip
   refine SR <| MH rfl <| CN <| Op1.call8 (v1 := .int .u16 _) (v2 := str _) (v3 := .bool _) (v4 := .bool _) (v5 := str _) (v6 := str _) (v7 := .int .i64 _) (v8 := .int .u8 _) ent147 rfl rfl rfl rfl rfl rfl rfl rfl rfl <| Ret.det (R7ref_form _ _ _ _ _ _ _ _ _) hst fun w hst => CN (SO (v := .agg #[.int .u16 _, str _, .bool _, .bool _, str _, str _, .int .i64 _, .int .u8 _]) hst ty113 rfl rfl (.here) fun w hst => ?_)
   refine AB rfl <| NL <| run_ret2 Tryz.func90 rfl (RV.cellA (vs := [.int .u16 _, str _, .bool _, .bool _, str _, str _, .int .i64 _, .int .u8 _]) rfl ty113 rfl rfl (cells_of_obj (n := 8) (hst.objL (.head _)) _ rfl)) (TP (v := .bool _) rfl) ?_
   subst g26
   have e : refS 57 = some ⟨57, [79, 112, 70, 117, 110, 99, 116, 105, 111, 110, 67, 97, 108, 108], true, true, [105], [105], 0, 8⟩ := by decide +kernel
   rw [e]
   exact ⟨rfl, hst.pure⟩
 refine SR <| CN <| Op1.eql rfl rfl <| AB rfl <| NL <| run_cond_dec rfl (fun g27 => ?_) (fun g27 => ?_)
 · skip
   refine SR <| MH rfl <| CN <| Op1.call8 (v1 := .int .u16 _) (v2 := str _) (v3 := .bool _) (v4 := .bool _) (v5 := str _) (v6 := str _) (v7 := .int .i64 _) (v8 := .int .u8 _) ent147 rfl rfl rfl rfl rfl rfl rfl rfl rfl <| Ret.det (R7ref_form _ _ _ _ _ _ _ _ _) hst fun w hst => CN (SO (v := .agg #[.int .u16 _, str _, .bool _, .bool _, str _, str _, .int .i64 _, .int .u8 _]) hst ty113 rfl rfl (.here) fun w hst => ?_)
   refine AB rfl <| NL <| run_ret2 Tryz.func90 rfl (RV.cellA (vs := [.int .u16 _, str _, .bool _, .bool _, str _, str _, .int .i64 _, .int .u8 _]) rfl ty113 rfl rfl (cells_of_obj (n := 8) (hst.objL (.head _)) _ rfl)) (TP (v := .bool _) rfl) ?_
   subst g27
   have e : refS 59 = some ⟨59, [79, 112, 86, 97, 114, 105, 97, 98, 108, 101], true, true, [99], [105], 1, 7⟩ := by decide +kernel
   rw [e]
   exact ⟨rfl, hst.pure⟩
 refine SR <| CN <| Op1.eql rfl rfl <| AB rfl <| NL <| Run.forget [(0, .int .u16 _), (2, .pointer (some ⟨_, _, none⟩)), (4, .int .u16 _), (113, .bool _)] ⟨rfl, rfl, rfl, rfl, trivial⟩ fun f => run_cond_dec rfl (fun g28 => ?_) (fun g28 => ?_)
 · skip
   refine SR <| MH rfl <| CN <| Op1.call8 (v1 := .int .u16 _) (v2 := str _) (v3 := .bool _) (v4 := .bool _) (v5 := str _) (v6 := str _) (v7 := .int .i64 _) (v8 := .int .u8 _) ent147 rfl rfl rfl rfl rfl rfl rfl rfl rfl <| Ret.det (R7ref_form _ _ _ _ _ _ _ _ _) hst fun w hst => CN (SO (v := .agg #[.int .u16 _, str _, .bool _, .bool _, str _, str _, .int .i64 _, .int .u8 _]) hst ty113 rfl rfl (.here) fun w hst => ?_)
   refine AB rfl <| NL <| run_ret2 Tryz.func90 rfl (RV.cellA (vs := [.int .u16 _, str _, .bool _, .bool _, str _, str _, .int .i64 _, .int .u8 _]) rfl ty113 rfl rfl (cells_of_obj (n := 8) (hst.objL (.head _)) _ rfl)) (TP (v := .bool _) rfl) ?_
   subst g28
   have e : refS 61 = some ⟨61, [79, 112, 76, 111, 97, 100], true, true, [105], [], 0, 8⟩ := by decide +kernel
   rw [e]
   exact ⟨rfl, hst.pure⟩
 refine SR <| CN <| Op1.eql rfl rfl <| AB rfl <| NL <| run_cond_dec rfl (fun g29 => ?_) (fun g29 => ?_)
 · skip
   refine SR <| MH rfl <| CN <| Op1.call8 (v1 := .int .u16 _) (v2 := str _) (v3 := .bool _) (v4 := .bool _) (v5 := str _) (v6 := str _) (v7 := .int .i64 _) (v8 := .int .u8 _) ent147 rfl rfl rfl rfl rfl rfl rfl rfl rfl <| Ret.det (R7ref_form _ _ _ _ _ _ _ _ _) hst fun w hst => CN (SO (v := .agg #[.int .u16 _, str _, .bool _, .bool _, str _, str _, .int .i64 _, .int .u8 _]) hst ty113 rfl rfl (.here) fun w hst => ?_)
   refine AB rfl <| NL <| run_ret2 Tryz.func90 rfl (RV.cellA (vs := [.int .u16 _, str _, .bool _, .bool _, str _, str _, .int .i64 _, .int .u8 _]) rfl ty113 rfl rfl (cells_of_obj (n := 8) (hst.objL (.head _)) _ rfl)) (TP (v := .bool _) rfl) ?_
   subst g29
   have e : refS 62 = some ⟨62, [79, 112, 83, 116, 111, 114, 101], false, false, [105, 105], [], 0, 8⟩ := by decide +kernel
   rw [e]
   exact ⟨rfl, hst.pure⟩
 refine SR <| CN <| Op1.eql rfl rfl <| AB rfl <| NL <| run_cond_dec rfl (fun g30 => ?_) (fun g30 => ?_)
 · skip
   refine SR <| MH rfl <| CN <| Op1.call8 (v1 := .int .u16 _) (v2 := str _) (v3 := .bool _) (v4 := .bool _) (v5 := str _) (v6 := str _) (v7 := .int .i64 _) (v8 := .int .u8 _) ent147 rfl rfl rfl rfl rfl rfl rfl rfl rfl <| Ret.det (R7ref_form _ _ _ _ _ _ _ _ _) hst fun w hst => CN (SO (v := .agg #[.int .u16 _, str _, .bool _, .bool _, str _, str _, .int .i64 _, .int .u8 _]) hst ty113 rfl rfl (.here) fun w hst => ?_)
   refine AB rfl <| NL <| run_ret2 Tryz.func90 rfl (RV.cellA (vs := [.int .u16 _, str _, .bool _, .bool _, str _, str _, .int .i64 _, .int .u8 _]) rfl ty113 rfl rfl (cells_of_obj (n := 8) (hst.objL (.head _)) _ rfl)) (TP (v := .bool _) rfl) ?_
   subst g30
   have e : refS 65 = some ⟨65, [79, 112, 65, 99, 99, 101, 115, 115, 67, 104, 97, 105, 110], true, true, [105], [105], 0, 8⟩ := by decide +kernel
   rw [e]
   exact ⟨rfl, hst.pure⟩
 refine SR <| CN <| Op1.eql rfl rfl <| AB rfl <| NL <| run_cond_dec rfl (fun g31 => ?_) (fun g31 => ?_)
 · skip
   refine SR <| MH rfl <| CN <| Op1.call8 (v1 := .int .u16 _) (v2 := str _) (v3 := .bool _) (v4 := .bool _) (v5 := str _) (v6 := str _) (v7 := .int .i64 _) (v8 := .int .u8 _) ent147 rfl rfl rfl rfl rfl rfl rfl rfl rfl <| Ret.det (R7ref_form _ _ _ _ _ _ _ _ _) hst fun w hst => CN (SO (v := .agg #[.int .u16 _, str _, .bool _, .bool _, str _, str _, .int .i64 _, .int .u8 _]) hst ty113 rfl rfl (.here) fun w hst => ?_)
   refine AB rfl <| NL <| run_ret2 Tryz.func90 rfl (RV.cellA (vs := [.int .u16 _, str _, .bool _, .bool _, str _, str _, .int .i64 _, .int .u8 _]) rfl ty113 rfl rfl (cells_of_obj (n := 8) (hst.objL (.head _)) _ rfl)) (TP (v := .bool _) rfl) ?_
   subst g31
   have e : refS 71 = some ⟨71, [79, 112, 68, 101, 99, 111, 114, 97, 116, 101], false, false, [105, 100], [110], 0, 6⟩ := by decide +kernel
   rw [e]
   exact ⟨rfl, hst.pure⟩
 refine SR <| CN <| Op1.eql rfl rfl <| AB rfl <| NL <| run_cond_dec rfl (fun g32 => ?_) (fun g32 => ?_)
 · skip
   refine SR <| MH rfl <| CN <| Op1.call8 (v1 := .int .u16 _) (v2 := str _) (v3 := .bool _) (v4 := .bool _) (v5 := str _) (v6 := str _) (v7 := .int .i64 _) (v8 := .int .u8 _) ent147 rfl rfl rfl rfl rfl rfl rfl rfl rfl <| Ret.det (R7ref_form _ _ _ _ _ _ _ _ _) hst fun w hst => CN (SO (v := .agg #[.int .u16 _, str _, .bool _, .bool _, str _, str _, .int .i64 _, .int .u8 _]) hst ty113 rfl rfl (.here) fun w hst => ?_)
   refine AB rfl <| NL <| run_ret2 Tryz.func90 rfl (RV.cellA (vs := [.int .u16 _, str _, .bool _, .bool _, str _, str _, .int .i64 _, .int .u8 _]) rfl ty113 rfl rfl (cells_of_obj (n := 8) (hst.objL (.head _)) _ rfl)) (TP (v := .bool _) rfl) ?_
   subst g32
   have e : refS 77 = some ⟨77, [79, 112, 86, 101, 99, 116, 111, 114, 69, 120, 116, 114, 97, 99, 116, 68, 121, 110, 97, 109, 105, 99], true, true, [105, 105], [], 0, 8⟩ := by decide +kernel
   rw [e]
   exact ⟨rfl, hst.pure⟩
 refine SR <| CN <| Op1.eql rfl rfl <| AB rfl <| NL <| run_cond_dec rfl (fun g33 => ?_) (fun g33 => ?_)
 · skip
   refine SR <| MH rfl <| CN <| Op1.call8 (v1 := .int .u16 _) (v2 := str _) (v3 := .bool _) (v4 := .bool _) (v5 := str _) (v6 := str _) (v7 := .int .i64 _) (v8 := .int .u8 _) ent147 rfl rfl rfl rfl rfl rfl rfl rfl rfl <| Ret.det (R7ref_form _ _ _ _ _ _ _ _ _) hst fun w hst => CN (SO (v := .agg #[.int .u16 _, str _, .bool _, .bool _, str _, str _, .int .i64 _, .int .u8 _]) hst ty113 rfl rfl (.here) fun w hst => ?_)
   refine AB rfl <| NL <| run_ret2 Tryz.func90 rfl (RV.cellA (vs := [.int .u16 _, str _, .bool _, .bool _, str _, str _, .int .i64 _, .int .u8 _]) rfl ty113 rfl rfl (cells_of_obj (n := 8) (hst.objL (.head _)) _ rfl)) (TP (v := .bool _) rfl) ?_
   subst g33
   have e : refS 78 = some ⟨78, [79, 112, 86, 101, 99, 116, 111, 114, 73, 110, 115, 101, 114, 116, 68, 121, 110, 97, 109, 105, 99], true, true, [105, 105, 105], [], 0, 8⟩ := by decide +kernel
   rw [e]
   exact ⟨rfl, hst.pure⟩
 refine SR <| CN <| Op1.eql rfl rfl <| AB rfl <| NL <| run_cond_dec rfl (fun g34 => ?_) (fun g34 => ?_)
 · skip
   refine SR <| MH rfl <| CN <| Op1.call8 (v1 := .int .u16 _) (v2 := str _) (v3 := .bool _) (v4 := .bool _) (v5 := str _) (v6 := str _) (v7 := .int .i64 _) (v8 := .int .u8 _) ent147 rfl rfl rfl rfl rfl rfl rfl rfl rfl <| Ret.det (R7ref_form _ _ _ _ _ _ _ _ _) hst fun w hst => CN (SO (v := .agg #[.int .u16 _, str _, .bool _, .bool _, str _, str _, .int .i64 _, .int .u8 _]) hst ty113 rfl rfl (.here) fun w hst => ?_)
   refine AB rfl <| NL <| run_ret2 Tryz.func90 rfl (RV.cellA (vs := [.int .u16 _, str _, .bool _, .bool _, str _, str _, .int .i64 _, .int .u8 _]) rfl ty113 rfl rfl (cells_of_obj (n := 8) (hst.objL (.head _)) _ rfl)) (TP (v := .bool _) rfl) ?_
   subst g34
   have e : refS 79 = some ⟨79, [79, 112, 86, 101, 99, 116, 111, 114, 83, 104, 117, 102, 102, 108, 101], true, true, [105, 105], [110], 0, 8⟩ := by decide +kernel
   rw [e]
   exact ⟨rfl, hst.pure⟩
 refine SR <| CN <| Op1.eql rfl rfl <| AB rfl <| NL <| run_cond_dec rfl (fun g35 => ?_) (fun g35 => ?_)
 · skip
   refine SR <| MH rfl <| CN <| Op1.call8 (v1 := .int .u16 _) (v2 := str _) (v3 := .bool _) (v4 := .bool _) (v5 := str _) (v6 := str _) (v7 := .int .i64 _) (v8 := .int .u8 _) ent147 rfl rfl rfl rfl rfl rfl rfl rfl rfl <| Ret.det (R7ref_form _ _ _ _ _ _ _ _ _) hst fun w hst => CN (SO (v := .agg #[.int .u16 _, str _, .bool _, .bool _, str _, str _, .int .i64 _, .int .u8 _]) hst ty113 rfl rfl (.here) fun w hst => ?_)
   refine AB rfl <| NL <| run_ret2 Tryz.func90 rfl (RV.cellA (vs := [.int .u16 _, str _, .bool _, .bool _, str _, str _, .int .i64 _, .int .u8 _]) rfl ty113 rfl rfl (cells_of_obj (n := 8) (hst.objL (.head _)) _ rfl)) (TP (v := .bool _) rfl) ?_
   subst g35
   have e : refS 80 = some ⟨80, [79, 112, 67, 111, 109, 112, 111, 115, 105, 116, 101, 67, 111, 110, 115, 116, 114, 117, 99, 116], true, true, [], [105], 0, 8⟩ := by decide +kernel
   rw [e]
   exact ⟨rfl, hst.pure⟩
 refine SR <| CN <| Op1.eql rfl rfl <| AB rfl <| NL <| run_cond_dec rfl (fun g36 => ?_) (fun g36 => ?_)
 · skip
   refine SR <| MH rfl <| CN <| Op1.call8 (v1 := .int .u16 _) (v2 := str _) (v3 := .bool _) (v4 := .bool _) (v5 := str _) (v6 := str _) (v7 := .int .i64 _) (v8 := .int .u8 _) ent147 rfl rfl rfl rfl rfl rfl rfl rfl rfl <| Ret.det (R7ref_form _ _ _ _ _ _ _ _ _) hst fun w hst => CN (SO (v := .agg #[.int .u16 _, str _, .bool _, .bool _, str _, str _, .int .i64 _, .int .u8 _]) hst ty113 rfl rfl (.here) fun w hst => ?_)
   refine AB rfl <| NL <| run_ret2 Tryz.func90 rfl (RV.cellA (vs := [.int .u16 _, str _, .bool _, .bool _, str _, str _, .int .i64 _, .int .u8 _]) rfl ty113 rfl rfl (cells_of_obj (n := 8) (hst.objL (.head _)) _ rfl)) (TP (v := .bool _) rfl) ?_
   subst g36
   have e : refS 81 = some ⟨81, [79, 112, 67, 111, 109, 112, 111, 115, 105, 116, 101, 69, 120, 116, 114, 97, 99, 116], true, true, [105], [110], 0, 8⟩ := by decide +kernel
   rw [e]
   exact ⟨rfl, hst.pure⟩
 refine SR <| CN <| Op1.eql rfl rfl <| AB rfl <| NL <| run_cond_dec rfl (fun g37 => ?_) (fun g37 => ?_)
 · skip
   refine SR <| MH rfl <| CN <| Op1.call8 (v1 := .int .u16 _) (v2 := str _) (v3 := .bool _) (v4 := .bool _) (v5 := str _) (v6 := str _) (v7 := .int .i64 _) (v8 := .int .u8 _) ent147 rfl rfl rfl rfl rfl rfl rfl rfl rfl <| Ret.det (R7ref_form _ _ _ _ _ _ _ _ _) hst fun w hst => CN (SO (v := .agg #[.int .u16 _, str _, .bool _, .bool _, str _, str _, .int .i64 _, .int .u8 _]) hst ty113 rfl rfl (.here) fun w hst => ?_)
   refine AB rfl <| NL <| run_ret2 Tryz.func90 rfl (RV.cellA (vs := [.int .u16 _, str _, .bool _, .bool _, str _, str _, .int .i64 _, .int .u8 _]) rfl ty113 rfl rfl (cells_of_obj (n := 8) (hst.objL (.head _)) _ rfl)) (TP (v := .bool _) rfl) ?_
   subst g37
   have e : refS 82 = some ⟨82, [79, 112, 67, 111, 109, 112, 111, 115, 105, 116, 101, 73, 110, 115, 101, 114, 116], true, true, [105, 105], [110], 0, 8⟩ := by decide +kernel
   rw [e]
   exact ⟨rfl, hst.pure⟩
 refine SR <| CN <| Op1.eql rfl rfl <| AB rfl <| NL <| Run.forget [(0, .int .u16 _), (2, .pointer (some ⟨_, _, none⟩)), (4, .int .u16 _), (153, .bool _)] ⟨rfl, rfl, rfl, rfl, trivial⟩ fun f => run_cond_dec rfl (fun g38 => ?_) (fun g38 => ?_)
 · skip
   refine SR <| MH rfl <| CN <| Op1.call8 (v1 := .int .u16 _) (v2 := str _) (v3 := .bool _) (v4 := .bool _) (v5 := str _) (v6 := str _) (v7 := .int .i64 _) (v8 := .int .u8 _) ent147 rfl rfl rfl rfl rfl rfl rfl rfl rfl <| Ret.det (R7ref_form _ _ _ _ _ _ _ _ _) hst fun w hst => CN (SO (v := .agg #[.int .u16 _, str _, .bool _, .bool _, str _, str _, .int .i64 _, .int .u8 _]) hst ty113 rfl rfl (.here) fun w hst => ?_)
   refine AB rfl <| NL <| run_ret2 Tryz.func90 rfl (RV.cellA (vs := [.int .u16 _, str _, .bool _, .bool _, str _, str _, .int .i64 _, .int .u8 _]) rfl ty113 rfl rfl (cells_of_obj (n := 8) (hst.objL (.head _)) _ rfl)) (TP (v := .bool _) rfl) ?_
   subst g38
   have e : refS 83 = some ⟨83, [79, 112, 67, 111, 112, 121, 79, 98, 106, 101, 99, 116], true, true, [105], [], 0, 8⟩ := by decide +kernel
   rw [e]
   exact ⟨rfl, hst.pure⟩
 refine SR <| CN <| Op1.eql rfl rfl <| AB rfl <| NL <| run_cond_dec rfl (fun g39 => ?_) (fun g39 => ?_)
 · skip
   refine SR <| MH rfl <| CN <| Op1.call8 (v1 := .int .u16 _) (v2 := str _) (v3 := .bool _) (v4 := .bool _) (v5 := str _) (v6 := str _) (v7 := .int .i64 _) (v8 := .int .u8 _) ent147 rfl rfl rfl rfl rfl rfl rfl rfl rfl <| Ret.det (R7ref_form _ _ _ _ _ _ _ _ _) hst fun w hst => CN (SO (v := .agg #[.int .u16 _, str _, .bool _, .bool _, str _, str _, .int .i64 _, .int .u8 _]) hst ty113 rfl rfl (.here) fun w hst => ?_)
   refine AB rfl <| NL <| run_ret2 Tryz.func90 rfl (RV.cellA (vs := [.int .u16 _, str _, .bool _, .bool _, str _, str _, .int .i64 _, .int .u8 _]) rfl ty113 rfl rfl (cells_of_obj (n := 8) (hst.objL (.head _)) _ rfl)) (TP (v := .bool _) rfl) ?_
   subst g39
   have e : refS 124 = some ⟨124, [79, 112, 66, 105, 116, 99, 97, 115, 116], true, true, [105], [], 0, 8⟩ := by decide +kernel
   rw [e]
   exact ⟨rfl, hst.pure⟩
 refine SR <| CN <| Op1.eql rfl rfl <| AB rfl <| NL <| run_cond_dec rfl (fun g40 => ?_) (fun g40 => ?_)
 · skip
   refine SR <| MH rfl <| CN <| Op1.call8 (v1 := .int .u16 _) (v2 := str _) (v3 := .bool _) (v4 := .bool _) (v5 := str _) (v6 := str _) (v7 := .int .i64 _) (v8 := .int .u8 _) ent147 rfl rfl rfl rfl rfl rfl rfl rfl rfl <| Ret.det (R7ref_form _ _ _ _ _ _ _ _ _) hst fun w hst => CN (SO (v := .agg #[.int .u16 _, str _, .bool _, .bool _, str _, str _, .int .i64 _, .int .u8 _]) hst ty113 rfl rfl (.here) fun w hst => ?_)
   refine AB rfl <| NL <| run_ret2 Tryz.func90 rfl (RV.cellA (vs := [.int .u16 _, str _, .bool _, .bool _, str _, str _, .int .i64 _, .int .u8 _]) rfl ty113 rfl rfl (cells_of_obj (n := 8) (hst.objL (.head _)) _ rfl)) (TP (v := .bool _) rfl) ?_
   subst g40
   have e : refS 126 = some ⟨126, [79, 112, 83, 78, 101, 103, 97, 116, 101], true, true, [105], [], 0, 8⟩ := by decide +kernel
   rw [e]
   exact ⟨rfl, hst.pure⟩
 refine SR <| CN <| Op1.eql rfl rfl <| AB rfl <| NL <| run_cond_dec rfl (fun g41 => ?_) (fun g41 => ?_)
 · skip
   refine SR <| MH rfl <| CN <| Op1.call8 (v1 := .int .u16 _) (v2 := str _) (v3 := .bool _) (v4 := .bool _) (v5 := str _) (v6 := str _) (v7 := .int .i64 _) (v8 := .int .u8 _) ent147 rfl rfl rfl rfl rfl rfl rfl rfl rfl <| Ret.det (R7ref_form _ _ _ _ _ _ _ _ _) hst fun w hst => CN (SO (v := .agg #[.int .u16 _, str _, .bool _, .bool _, str _, str _, .int .i64 _, .int .u8 _]) hst ty113 rfl rfl (.here) fun w hst => ?_)
   refine AB rfl <| NL <| run_ret2 Tryz.func90 rfl (RV.cellA (vs := [.int .u16 _, str _, .bool _, .bool _, str _, str _, .int .i64 _, .int .u8 _]) rfl ty113 rfl rfl (cells_of_obj (n := 8) (hst.objL (.head _)) _ rfl)) (TP (v := .bool _) rfl) ?_
   subst g41
   have e : refS 128 = some ⟨128, [79, 112, 73, 65, 100, 100], true, true, [105, 105], [], 0, 8⟩ := by decide +kernel
   rw [e]
   exact ⟨rfl, hst.pure⟩
 refine SR <| CN <| Op1.eql rfl rfl <| AB rfl <| NL <| run_cond_dec rfl (fun g42 => ?_) (fun g42 => ?_)
 · skip
   refine SR <| MH rfl <| CN <| Op1.call8 (v1 := .int .u16 _) (v2 := str _) (v3 := .bool _) (v4 := .bool _) (v5 := str _) (v6 := str _) (v7 := .int .i64 _) (v8 := .int .u8 _) ent147 rfl rfl rfl rfl rfl rfl rfl rfl rfl <| Ret.det (R7ref_form _ _ _ _ _ _ _ _ _) hst fun w hst => CN (SO (v := .agg #[.int .u16 _, str _, .bool _, .bool _, str _, str _, .int .i64 _, .int .u8 _]) hst ty113 rfl rfl (.here) fun w hst => ?_)
   refine AB rfl <| NL <| run_ret2 Tryz.func90 rfl (RV.cellA (vs := [.int .u16 _, str _, .bool _, .bool _, str _, str _, .int .i64 _, .int .u8 _]) rfl ty113 rfl rfl (cells_of_obj (n := 8) (hst.objL (.head _)) _ rfl)) (TP (v := .bool _) rfl) ?_
   subst g42
   have e : refS 130 = some ⟨130, [79, 112, 73, 83, 117, 98], true, true, [105, 105], [], 0, 8⟩ := by decide +kernel
   rw [e]
   exact ⟨rfl, hst.pure⟩
 refine SR <| CN <| Op1.eql rfl rfl <| AB rfl <| NL <| run_cond_dec rfl (fun g43 => ?_) (fun g43 => ?_)
 · skip
   refine SR <| MH rfl <| CN <| Op1.call8 (v1 := .int .u16 _) (v2 := str _) (v3 := .bool _) (v4 := .bool _) (v5 := str _) (v6 := str _) (v7 := .int .i64 _) (v8 := .int .u8 _) ent147 rfl rfl rfl rfl rfl rfl rfl rfl rfl <| Ret.det (R7ref_form _ _ _ _ _ _ _ _ _) hst fun w hst => CN (SO (v := .agg #[.int .u16 _, str _, .bool _, .bool _, str _, str _, .int .i64 _, .int .u8 _]) hst ty113 rfl rfl (.here) fun w hst => ?_)
   refine AB rfl <| NL <| run_ret2 Tryz.func90 rfl (RV.cellA (vs := [.int .u16 _, str _, .bool _, .bool _, str _, str _, .int .i64 _, .int .u8 _]) rfl ty113 rfl rfl (cells_of_obj (n := 8) (hst.objL (.head _)) _ rfl)) (TP (v := .bool _) rfl) ?_
   subst g43
   have e : refS 132 = some ⟨132, [79, 112, 73, 77, 117, 108], true, true, [105, 105], [], 0, 8⟩ := by decide +kernel
   rw [e]
   exact ⟨rfl, hst.pure⟩
 refine SR <| CN <| Op1.eql rfl rfl <| AB rfl <| NL <| run_cond_dec rfl (fun g44 => ?_) (fun g44 => ?_)
 · skip
   refine SR <| MH rfl <| CN <| Op1.call8 (v1 := .int .u16 _) (v2 := str _) (v3 := .bool _) (v4 := .bool _) (v5 := str _) (v6 := str _) (v7 := .int .i64 _) (v8 := .int .u8 _) ent147 rfl rfl rfl rfl rfl rfl rfl rfl rfl <| Ret.det (R7ref_form _ _ _ _ _ _ _ _ _) hst fun w hst => CN (SO (v := .agg #[.int .u16 _, str _, .bool _, .bool _, str _, str _, .int .i64 _, .int .u8 _]) hst ty113 rfl rfl (.here) fun w hst => ?_)
   refine AB rfl <| NL <| run_ret2 Tryz.func90 rfl (RV.cellA (vs := [.int .u16 _, str _, .bool _, .bool _, str _, str _, .int .i64 _, .int .u8 _]) rfl ty113 rfl rfl (cells_of_obj (n := 8) (hst.objL (.head _)) _ rfl)) (TP (v := .bool _) rfl) ?_
   subst g44
   have e : refS 134 = some ⟨134, [79, 112, 85, 68, 105, 118], true, true, [105, 105], [], 0, 8⟩ := by decide +kernel
   rw [e]
   exact ⟨rfl, hst.pure⟩
 refine SR <| CN <| Op1.eql rfl rfl <| AB rfl <| NL <| run_cond_dec rfl (fun g45 => ?_) (fun g45 => ?_)
 · skip
   refine SR <| MH rfl <| CN <| Op1.call8 (v1 := .int .u16 _) (v2 := str _) (v3 := .bool _) (v4 := .bool _) (v5 := str _) (v6 := str _) (v7 := .int .i64 _) (v8 := .int .u8 _) ent147 rfl rfl rfl rfl rfl rfl rfl rfl rfl <| Ret.det (R7ref_form _ _ _ _ _ _ _ _ _) hst fun w hst => CN (SO (v := .agg #[.int .u16 _, str _, .bool _, .bool _, str _, str _, .int .i64 _, .int .u8 _]) hst ty113 rfl rfl (.here) fun w hst => ?_)
   refine AB rfl <| NL <| run_ret2 Tryz.func90 rfl (RV.cellA (vs := [.int .u16 _, str _, .bool _, .bool _, str _, str _, .int .i64 _, .int .u8 _]) rfl ty113 rfl rfl (cells_of_obj (n := 8) (hst.objL (.head _)) _ rfl)) (TP (v := .bool _) rfl) ?_
   subst g45
   have e : refS 135 = some ⟨135, [79, 112, 83, 68, 105, 118], true, true, [105, 105], [], 0, 8⟩ := by decide +kernel
   rw [e]
   exact ⟨rfl, hst.pure⟩
 refine SR <| CN <| Op1.eql rfl rfl <| AB rfl <| NL <| run_cond_dec rfl (fun g46 => ?_) (fun g46 => ?_)
 · skip
   refine SR <| MH rfl <| CN <| Op1.call8 (v1 := .int .u16 _) (v2 := str _) (v3 := .bool _) (v4 := .bool _) (v5 := str _) (v6 := str _) (v7 := .int .i64 _) (v8 := .int .u8 _) ent147 rfl rfl rfl rfl rfl rfl rfl rfl rfl <| Ret.det (R7ref_form _ _ _ _ _ _ _ _ _) hst fun w hst => CN (SO (v := .agg #[.int .u16 _, str _, .bool _, .bool _, str _, str _, .int .i64 _, .int .u8 _]) hst ty113 rfl rfl (.here) fun w hst => ?_)
   refine AB rfl <| NL <| run_ret2 Tryz.func90 rfl (RV.cellA (vs := [.int .u16 _, str _, .bool _, .bool _, str _, str _, .int .i64 _, .int .u8 _]) rfl ty113 rfl rfl (cells_of_obj (n := 8) (hst.objL (.head _)) _ rfl)) (TP (v := .bool _) rfl) ?_
   subst g46
   have e : refS 137 = some ⟨137, [79, 112, 85, 77, 111, 100], true, true, [105, 105], [], 0, 8⟩ := by decide +kernel
   rw [e]
   exact ⟨rfl, hst.pure⟩
 refine SR <| CN <| Op1.eql rfl rfl <| AB rfl <| NL <| run_cond_dec rfl (fun g47 => ?_) (fun g47 => ?_)
 · skip
   refine SR <| MH rfl <| CN <| Op1.call8 (v1 := .int .u16 _) (v2 := str _) (v3 := .bool _) (v4 := .bool _) (v5 := str _) (v6 := str _) (v7 := .int .i64 _) (v8 := .int .u8 _) ent147 rfl rfl rfl rfl rfl rfl rfl rfl rfl <| Ret.det (R7ref_form _ _ _ _ _ _ _ _ _) hst fun w hst => CN (SO (v := .agg #[.int .u16 _, str _, .bool _, .bool _, str _, str _, .int .i64 _, .int .u8 _]) hst ty113 rfl rfl (.here) fun w hst => ?_)
   refine AB rfl <| NL <| run_ret2 Tryz.func90 rfl (RV.cellA (vs := [.int .u16 _, str _, .bool _, .bool _, str _, str _, .int .i64 _, .int .u8 _]) rfl ty113 rfl rfl (cells_of_obj (n := 8) (hst.objL (.head _)) _ rfl)) (TP (v := .bool _) rfl) ?_
   subst g47
   have e : refS 138 = some ⟨138, [79, 112, 83, 82, 101, 109], true, true, [105, 105], [], 0, 8⟩ := by decide +kernel
   rw [e]
   exact ⟨rfl, hst.pure⟩
 refine SR <| CN <| Op1.eql rfl rfl <| AB rfl <| NL <| Run.forget [(0, .int .u16 _), (2, .pointer (some ⟨_, _, none⟩)), (4, .int .u16 _), (193, .bool _)] ⟨rfl, rfl, rfl, rfl, trivial⟩ fun f => run_cond_dec rfl (fun g48 => ?_) (fun g48 => ?_)
 · skip
   refine SR <| MH rfl <| CN <| Op1.call8 (v1 := .int .u16 _) (v2 := str _) (v3 := .bool _) (v4 := .bool _) (v5 := str _) (v6 := str _) (v7 := .int .i64 _) (v8 := .int .u8 _) ent147 rfl rfl rfl rfl rfl rfl rfl rfl rfl <| Ret.det (R7ref_form _ _ _ _ _ _ _ _ _) hst fun w hst => CN (SO (v := .agg #[.int .u16 _, str _, .bool _, .bool _, str _, str _, .int .i64 _, .int .u8 _]) hst ty113 rfl rfl (.here) fun w hst => ?_)
   refine AB rfl <| NL <| run_ret2 Tryz.func90 rfl (RV.cellA (vs := [.int .u16 _, str _, .bool _, .bool _, str _, str _, .int .i64 _, .int .u8 _]) rfl ty113 rfl rfl (cells_of_obj (n := 8) (hst.objL (.head _)) _ rfl)) (TP (v := .bool _) rfl) ?_
   subst g48
   have e : refS 139 = some ⟨139, [79, 112, 83, 77, 111, 100], true, true, [105, 105], [], 0, 8⟩ := by decide +kernel
   rw [e]
   exact ⟨rfl, hst.pure⟩
 refine SR <| CN <| Op1.eql rfl rfl <| AB rfl <| NL <| run_cond_dec rfl (fun g49 => ?_) (fun g49 => ?_)
 · skip
   refine SR <| MH rfl <| CN <| Op1.call8 (v1 := .int .u16 _) (v2 := str _) (v3 := .bool _) (v4 := .bool _) (v5 := str _) (v6 := str _) (v7 := .int .i64 _) (v8 := .int .u8 _) ent147 rfl rfl rfl rfl rfl rfl rfl rfl rfl <| Ret.det (R7ref_form _ _ _ _ _ _ _ _ _) hst fun w hst => CN (SO (v := .agg #[.int .u16 _, str _, .bool _, .bool _, str _, str _, .int .i64 _, .int .u8 _]) hst ty113 rfl rfl (.here) fun w hst => ?_)
   refine AB rfl <| NL <| run_ret2 Tryz.func90 rfl (RV.cellA (vs := [.int .u16 _, str _, .bool _, .bool _, str _, str _, .int .i64 _, .int .u8 _]) rfl ty113 rfl rfl (cells_of_obj (n := 8) (hst.objL (.head _)) _ rfl)) (TP (v := .bool _) rfl) ?_
   subst g49
   have e : refS 149 = some ⟨149, [79, 112, 73, 65, 100, 100, 67, 97, 114, 114, 121], true, true, [105, 105], [], 0, 8⟩ := by decide +kernel
   rw [e]
   exact ⟨rfl, hst.pure⟩
 refine SR <| CN <| Op1.eql rfl rfl <| AB rfl <| NL <| run_cond_dec rfl (fun g50 => ?_) (fun g50 => ?_)
 · skip
   refine SR <| MH rfl <| CN <| Op1.call8 (v1 := .int .u16 _) (v2 := str _) (v3 := .bool _) (v4 := .bool _) (v5 := str _) (v6 := str _) (v7 := .int .i64 _) (v8 := .int .u8 _) ent147 rfl rfl rfl rfl rfl rfl rfl rfl rfl <| Ret.det (R7ref_form _ _ _ _ _ _ _ _ _) hst fun w hst => CN (SO (v := .agg #[.int .u16 _, str _, .bool _, .bool _, str _, str _, .int .i64 _, .int .u8 _]) hst ty113 rfl rfl (.here) fun w hst => ?_)
   refine AB rfl <| NL <| run_ret2 Tryz.func90 rfl (RV.cellA (vs := [.int .u16 _, str _, .bool _, .bool _, str _, str _, .int .i64 _, .int .u8 _]) rfl ty113 rfl rfl (cells_of_obj (n := 8) (hst.objL (.head _)) _ rfl)) (TP (v := .bool _) rfl) ?_
   subst g50
   have e : refS 150 = some ⟨150, [79, 112, 73, 83, 117, 98, 66, 111, 114, 114, 111, 119], true, true, [105, 105], [], 0, 8⟩ := by decide +kernel
   rw [e]
   exact ⟨rfl, hst.pure⟩
 refine SR <| CN <| Op1.eql rfl rfl <| AB rfl <| NL <| run_cond_dec rfl (fun g51 => ?_) (fun g51 => ?_)
 · skip
   refine SR <| MH rfl <| CN <| Op1.call8 (v1 := .int .u16 _) (v2 := str _) (v3 := .bool _) (v4 := .bool _) (v5 := str _) (v6 := str _) (v7 := .int .i64 _) (v8 := .int .u8 _) ent147 rfl rfl rfl rfl rfl rfl rfl rfl rfl <| Ret.det (R7ref_form _ _ _ _ _ _ _ _ _) hst fun w hst => CN (SO (v := .agg #[.int .u16 _, str _, .bool _, .bool _, str _, str _, .int .i64 _, .int .u8 _]) hst ty113 rfl rfl (.here) fun w hst => ?_)
   refine AB rfl <| NL <| run_ret2 Tryz.func90 rfl (RV.cellA (vs := [.int .u16 _, str _, .bool _, .bool _, str _, str _, .int .i64 _, .int .u8 _]) rfl ty113 rfl rfl (cells_of_obj (n := 8) (hst.objL (.head _)) _ rfl)) (TP (v := .bool _) rfl) ?_
   subst g51
   have e : refS 151 = some ⟨151, [79, 112, 85, 77, 117, 108, 69, 120, 116, 101, 110, 100, 101, 100], true, true, [105, 105], [], 0, 8⟩ := by decide +kernel
   rw [e]
   exact ⟨rfl, hst.pure⟩
 refine SR <| CN <| Op1.eql rfl rfl <| AB rfl <| NL <| run_cond_dec rfl (fun g52 => ?_) (fun g52 => ?_)
 · skip
   refine SR <| MH rfl <| CN <| Op1.call8 (v1 := .int .u16 _) (v2 := str _) (v3 := .bool _) (v4 := .bool _) (v5 := str _) (v6 := str _) (v7 := .int .i64 _) (v8 := .int .u8 _) ent147 rfl rfl rfl rfl rfl rfl rfl rfl rfl <| Ret.det (R7ref_form _ _ _ _ _ _ _ _ _) hst fun w hst => CN (SO (v := .agg #[.int .u16 _, str _, .bool _, .bool _, str _, str _, .int .i64 _, .int .u8 _]) hst ty113 rfl rfl (.here) fun w hst => ?_)
   refine AB rfl <| NL <| run_ret2 Tryz.func90 rfl (RV.cellA (vs := [.int .u16 _, str _, .bool _, .bool _, str _, str _, .int .i64 _, .int .u8 _]) rfl ty113 rfl rfl (cells_of_obj (n := 8) (hst.objL (.head _)) _ rfl)) (TP (v := .bool _) rfl) ?_
   subst g52
   have e : refS 152 = some ⟨152, [79, 112, 83, 77, 117, 108, 69, 120, 116, 101, 110, 100, 101, 100], true, true, [105, 105], [], 0, 8⟩ := by decide +kernel
   rw [e]
   exact ⟨rfl, hst.pure⟩
 refine SR <| CN <| Op1.eql rfl rfl <| AB rfl <| NL <| run_cond_dec rfl (fun g53 => ?_) (fun g53 => ?_)
 · skip
   refine SR <| MH rfl <| CN <| Op1.call8 (v1 := .int .u16 _) (v2 := str _) (v3 := .bool _) (v4 := .bool _) (v5 := str _) (v6 := str _) (v7 := .int .i64 _) (v8 := .int .u8 _) ent147 rfl rfl rfl rfl rfl rfl rfl rfl rfl <| Ret.det (R7ref_form _ _ _ _ _ _ _ _ _) hst fun w hst => CN (SO (v := .agg #[.int .u16 _, str _, .bool _, .bool _, str _, str _, .int .i64 _, .int .u8 _]) hst ty113 rfl rfl (.here) fun w hst => ?_)
   refine AB rfl <| NL <| run_ret2 Tryz.func90 rfl (RV.cellA (vs := [.int .u16 _, str _, .bool _, .bool _, str _, str _, .int .i64 _, .int .u8 _]) rfl ty113 rfl rfl (cells_of_obj (n := 8) (hst.objL (.head _)) _ rfl)) (TP (v := .bool _) rfl) ?_
   subst g53
   have e : refS 154 = some ⟨154, [79, 112, 65, 110, 121], true, true, [105], [], 0, 8⟩ := by decide +kernel
   rw [e]
   exact ⟨rfl, hst.pure⟩
 refine SR <| CN <| Op1.eql rfl rfl <| AB rfl <| NL <| run_cond_dec rfl (fun g54 => ?_) (fun g54 => ?_)
 · skip
   refine SR <| MH rfl <| CN <| Op1.call8 (v1 := .int .u16 _) (v2 := str _) (v3 := .bool _) (v4 := .bool _) (v5 := str _) (v6 := str _) (v7 := .int .i64 _) (v8 := .int .u8 _) ent147 rfl rfl rfl rfl rfl rfl rfl rfl rfl <| Ret.det (R7ref_form _ _ _ _ _ _ _ _ _) hst fun w hst => CN (SO (v := .agg #[.int .u16 _, str _, .bool _, .bool _, str _, str _, .int .i64 _, .int .u8 _]) hst ty113 rfl rfl (.here) fun w hst => ?_)
   refine AB rfl <| NL <| run_ret2 Tryz.func90 rfl (RV.cellA (vs := [.int .u16 _, str _, .bool _, .bool _, str _, str _, .int .i64 _, .int .u8 _]) rfl ty113 rfl rfl (cells_of_obj (n := 8) (hst.objL (.head _)) _ rfl)) (TP (v := .bool _) rfl) ?_
   subst g54
   have e : refS 155 = some ⟨155, [79, 112, 65, 108, 108], true, true, [105], [], 0, 8⟩ := by decide +kernel
   rw [e]
   exact ⟨rfl, hst.pure⟩
 refine SR <| CN <| Op1.eql rfl rfl <| AB rfl <| NL <| run_cond_dec rfl (fun g55 => ?_) (fun g55 => ?_)
 · skip
   refine SR <| MH rfl <| CN <| Op1.call8 (v1 := .int .u16 _) (v2 := str _) (v3 := .bool _) (v4 := .bool _) (v5 := str _) (v6 := str _) (v7 := .int .i64 _) (v8 := .int .u8 _) ent147 rfl rfl rfl rfl rfl rfl rfl rfl rfl <| Ret.det (R7ref_form _ _ _ _ _ _ _ _ _) hst fun w hst => CN (SO (v := .agg #[.int .u16 _, str _, .bool _, .bool _, str _, str _, .int .i64 _, .int .u8 _]) hst ty113 rfl rfl (.here) fun w hst => ?_)
   refine AB rfl <| NL <| run_ret2 Tryz.func90 rfl (RV.cellA (vs := [.int .u16 _, str _, .bool _, .bool _, str _, str _, .int .i64 _, .int .u8 _]) rfl ty113 rfl rfl (cells_of_obj (n := 8) (hst.objL (.head _)) _ rfl)) (TP (v := .bool _) rfl) ?_
   subst g55
   have e : refS 164 = some ⟨164, [79, 112, 76, 111, 103, 105, 99, 97, 108, 69, 113, 117, 97, 108], true, true, [105, 105], [], 0, 8⟩ := by decide +kernel
   rw [e]
   exact ⟨rfl, hst.pure⟩
 refine SR <| CN <| Op1.eql rfl rfl <| AB rfl <| NL <| run_cond_dec rfl (fun g56 => ?_) (fun g56 => ?_)
 · skip
   refine SR <| MH rfl <| CN <| Op1.call8 (v1 := .int .u16 _) (v2 := str _) (v3 := .bool _) (v4 := .bool _) (v5 := str _) (v6 := str _) (v7 := .int .i64 _) (v8 := .int .u8 _) ent147 rfl rfl rfl rfl rfl rfl rfl rfl rfl <| Ret.det (R7ref_form _ _ _ _ _ _ _ _ _) hst fun w hst => CN (SO (v := .agg #[.int .u16 _, str _, .bool _, .bool _, str _, str _, .int .i64 _, .int .u8 _]) hst ty113 rfl rfl (.here) fun w hst => ?_)
   refine AB rfl <| NL <| run_ret2 Tryz.func90 rfl (RV.cellA (vs := [.int .u16 _, str _, .bool _, .bool _, str _, str _, .int .i64 _, .int .u8 _]) rfl ty113 rfl rfl (cells_of_obj (n := 8) (hst.objL (.head _)) _ rfl)) (TP (v := .bool _) rfl) ?_
   subst g56
   have e : refS 165 = some ⟨165, [79, 112, 76, 111, 103, 105, 99, 97, 108, 78, 111, 116, 69, 113, 117, 97, 108], true, true, [105, 105], [], 0, 8⟩ := by decide +kernel
   rw [e]
   exact ⟨rfl, hst.pure⟩
 refine SR <| CN <| Op1.eql rfl rfl <| AB rfl <| NL <| run_cond_dec rfl (fun g57 => ?_) (fun g57 => ?_)
 · skip
   refine SR <| MH rfl <| CN <| Op1.call8 (v1 := .int .u16 _) (v2 := str _) (v3 := .bool _) (v4 := .bool _) (v5 := str _) (v6 := str _) (v7 := .int .i64 _) (v8 := .int .u8 _) ent147 rfl rfl rfl rfl rfl rfl rfl rfl rfl <| Ret.det (R7ref_form _ _ _ _ _ _ _ _ _) hst fun w hst => CN (SO (v := .agg #[.int .u16 _, str _, .bool _, .bool _, str _, str _, .int .i64 _, .int .u8 _]) hst ty113 rfl rfl (.here) fun w hst => ?_)
   refine AB rfl <| NL <| run_ret2 Tryz.func90 rfl (RV.cellA (vs := [.int .u16 _, str _, .bool _, .bool _, str _, str _, .int .i64 _, .int .u8 _]) rfl ty113 rfl rfl (cells_of_obj (n := 8) (hst.objL (.head _)) _ rfl)) (TP (v := .bool _) rfl) ?_
   subst g57
   have e : refS 166 = some ⟨166, [79, 112, 76, 111, 103, 105, 99, 97, 108, 79, 114], true, true, [105, 105], [], 0, 8⟩ := by decide +kernel
   rw [e]
   exact ⟨rfl, hst.pure⟩
 refine SR <| CN <| Op1.eql rfl rfl <| AB rfl <| NL <| Run.forget [(0, .int .u16 _), (2, .pointer (some ⟨_, _, none⟩)), (4, .int .u16 _), (233, .bool _)] ⟨rfl, rfl, rfl, rfl, trivial⟩ fun f => run_cond_dec rfl (fun g58 => ?_) (fun g58 => ?_)
 · skip
   refine SR <| MH rfl <| CN <| Op1.call8 (v1 := .int .u16 _) (v2 := str _) (v3 := .bool _) (v4 := .bool _) (v5 := str _) (v6 := str _) (v7 := .int .i64 _) (v8 := .int .u8 _) ent147 rfl rfl rfl rfl rfl rfl rfl rfl rfl <| Ret.det (R7ref_form _ _ _ _ _ _ _ _ _) hst fun w hst => CN (SO (v := .agg #[.int .u16 _, str _, .bool _, .bool _, str _, str _, .int .i64 _, .int .u8 _]) hst ty113 rfl rfl (.here) fun w hst => ?_)
   refine AB rfl <| NL <| run_ret2 Tryz.func90 rfl (RV.cellA (vs := [.int .u16 _, str _, .bool _, .bool _, str _, str _, .int .i64 _, .int .u8 _]) rfl ty113 rfl rfl (cells_of_obj (n := 8) (hst.objL (.head _)) _ rfl)) (TP (v := .bool _) rfl) ?_
   subst g58
   have e : refS 167 = some ⟨167, [79, 112, 76, 111, 103, 105, 99, 97, 108, 65, 110, 100], true, true, [105, 105], [], 0, 8⟩ := by decide +kernel
   rw [e]
   exact ⟨rfl, hst.pure⟩
 refine SR <| CN <| Op1.eql rfl rfl <| AB rfl <| NL <| run_cond_dec rfl (fun g59 => ?_) (fun g59 => ?_)
 · skip
   refine SR <| MH rfl <| CN <| Op1.call8 (v1 := .int .u16 _) (v2 := str _) (v3 := .bool _) (v4 := .bool _) (v5 := str _) (v6 := str _) (v7 := .int .i64 _) (v8 := .int .u8 _) ent147 rfl rfl rfl rfl rfl rfl rfl rfl rfl <| Ret.det (R7ref_form _ _ _ _ _ _ _ _ _) hst fun w hst => CN (SO (v := .agg #[.int .u16 _, str _, .bool _, .bool _, str _, str _, .int .i64 _, .int .u8 _]) hst ty113 rfl rfl (.here) fun w hst => ?_)
   refine AB rfl <| NL <| run_ret2 Tryz.func90 rfl (RV.cellA (vs := [.int .u16 _, str _, .bool _, .bool _, str _, str _, .int .i64 _, .int .u8 _]) rfl ty113 rfl rfl (cells_of_obj (n := 8) (hst.objL (.head _)) _ rfl)) (TP (v := .bool _) rfl) ?_
   subst g59
   have e : refS 168 = some ⟨168, [79, 112, 76, 111, 103, 105, 99, 97, 108, 78, 111, 116], true, true, [105], [], 0, 8⟩ := by decide +kernel
   rw [e]
   exact ⟨rfl, hst.pure⟩
 refine SR <| CN <| Op1.eql rfl rfl <| AB rfl <| NL <| run_cond_dec rfl (fun g60 => ?_) (fun g60 => ?_)
 · skip
   refine SR <| MH rfl <| CN <| Op1.call8 (v1 := .int .u16 _) (v2 := str _) (v3 := .bool _) (v4 := .bool _) (v5 := str _) (v6 := str _) (v7 := .int .i64 _) (v8 := .int .u8 _) ent147 rfl rfl rfl rfl rfl rfl rfl rfl rfl <| Ret.det (R7ref_form _ _ _ _ _ _ _ _ _) hst fun w hst => CN (SO (v := .agg #[.int .u16 _, str _, .bool _, .bool _, str _, str _, .int .i64 _, .int .u8 _]) hst ty113 rfl rfl (.here) fun w hst => ?_)
   refine AB rfl <| NL <| run_ret2 Tryz.func90 rfl (RV.cellA (vs := [.int .u16 _, str _, .bool _, .bool _, str _, str _, .int .i64 _, .int .u8 _]) rfl ty113 rfl rfl (cells_of_obj (n := 8) (hst.objL (.head _)) _ rfl)) (TP (v := .bool _) rfl) ?_
   subst g60
   have e : refS 169 = some ⟨169, [79, 112, 83, 101, 108, 101, 99, 116], true, true, [105, 105, 105], [], 0, 8⟩ := by decide +kernel
   rw [e]
   exact ⟨rfl, hst.pure⟩
 refine SR <| CN <| Op1.eql rfl rfl <| AB rfl <| NL <| run_cond_dec rfl (fun g61 => ?_) (fun g61 => ?_)
 · skip
   refine SR <| MH rfl <| CN <| Op1.call8 (v1 := .int .u16 _) (v2 := str _) (v3 := .bool _) (v4 := .bool _) (v5 := str _) (v6 := str _) (v7 := .int .i64 _) (v8 := .int .u8 _) ent147 rfl rfl rfl rfl rfl rfl rfl rfl rfl <| Ret.det (R7ref_form _ _ _ _ _ _ _ _ _) hst fun w hst => CN (SO (v := .agg #[.int .u16 _, str _, .bool _, .bool _, str _, str _, .int .i64 _, .int .u8 _]) hst ty113 rfl rfl (.here) fun w hst => ?_)
   refine AB rfl <| NL <| run_ret2 Tryz.func90 rfl (RV.cellA (vs := [.int .u16 _, str _, .bool _, .bool _, str _, str _, .int .i64 _, .int .u8 _]) rfl ty113 rfl rfl (cells_of_obj (n := 8) (hst.objL (.head _)) _ rfl)) (TP (v := .bool _) rfl) ?_
   subst g61
   have e : refS 170 = some ⟨170, [79, 112, 73, 69, 113, 117, 97, 108], true, true, [105, 105], [], 0, 8⟩ := by decide +kernel
   rw [e]
   exact ⟨rfl, hst.pure⟩
 refine SR <| CN <| Op1.eql rfl rfl <| AB rfl <| NL <| run_cond_dec rfl (fun g62 => ?_) (fun g62 => ?_)
 · skip
   refine SR <| MH rfl <| CN <| Op1.call8 (v1 := .int .u16 _) (v2 := str _) (v3 := .bool _) (v4 := .bool _) (v5 := str _) (v6 := str _) (v7 := .int .i64 _) (v8 := .int .u8 _) ent147 rfl rfl rfl rfl rfl rfl rfl rfl rfl <| Ret.det (R7ref_form _ _ _ _ _ _ _ _ _) hst fun w hst => CN (SO (v := .agg #[.int .u16 _, str _, .bool _, .bool _, str _, str _, .int .i64 _, .int .u8 _]) hst ty113 rfl rfl (.here) fun w hst => ?_)
   refine AB rfl <| NL <| run_ret2 Tryz.func90 rfl (RV.cellA (vs := [.int .u16 _, str _, .bool _, .bool _, str _, str _, .int .i64 _, .int .u8 _]) rfl ty113 rfl rfl (cells_of_obj (n := 8) (hst.objL (.head _)) _ rfl)) (TP (v := .bool _) rfl) ?_
   subst g62
   have e : refS 171 = some ⟨171, [79, 112, 73, 78, 111, 116, 69, 113, 117, 97, 108], true, true, [105, 105], [], 0, 8⟩ := by decide +kernel
   rw [e]
   exact ⟨rfl, hst.pure⟩
 refine SR <| CN <| Op1.eql rfl rfl <| AB rfl <| NL <| run_cond_dec rfl (fun g63 => ?_) (fun g63 => ?_)
 · skip
   refine SR <| MH rfl <| CN <| Op1.call8 (v1 := .int .u16 _) (v2 := str _) (v3 := .bool _) (v4 := .bool _) (v5 := str _) (v6 := str _) (v7 := .int .i64 _) (v8 := .int .u8 _) ent147 rfl rfl rfl rfl rfl rfl rfl rfl rfl <| Ret.det (R7ref_form _ _ _ _ _ _ _ _ _) hst fun w hst => CN (SO (v := .agg #[.int .u16 _, str _, .bool _, .bool _, str _, str _, .int .i64 _, .int .u8 _]) hst ty113 rfl rfl (.here) fun w hst => ?_)
   refine AB rfl <| NL <| run_ret2 Tryz.func90 rfl (RV.cellA (vs := [.int .u16 _, str _, .bool _, .bool _, str _, str _, .int .i64 _, .int .u8 _]) rfl ty113 rfl rfl (cells_of_obj (n := 8) (hst.objL (.head _)) _ rfl)) (TP (v := .bool _) rfl) ?_
   subst g63
   have e : refS 172 = some ⟨172, [79, 112, 85, 71, 114, 101, 97, 116, 101, 114, 84, 104, 97, 110], true, true, [105, 105], [], 0, 8⟩ := by decide +kernel
   rw [e]
   exact ⟨rfl, hst.pure⟩
 refine SR <| CN <| Op1.eql rfl rfl <| AB rfl <| NL <| run_cond_dec rfl (fun g64 => ?_) (fun g64 => ?_)
 · skip
   refine SR <| MH rfl <| CN <| Op1.call8 (v1 := .int .u16 _) (v2 := str _) (v3 := .bool _) (v4 := .bool _) (v5 := str _) (v6 := str _) (v7 := .int .i64 _) (v8 := .int .u8 _) ent147 rfl rfl rfl rfl rfl rfl rfl rfl rfl <| Ret.det (R7ref_form _ _ _ _ _ _ _ _ _) hst fun w hst => CN (SO (v := .agg #[.int .u16 _, str _, .bool _, .bool _, str _, str _, .int .i64 _, .int .u8 _]) hst ty113 rfl rfl (.here) fun w hst => ?_)
   refine AB rfl <| NL <| run_ret2 Tryz.func90 rfl (RV.cellA (vs := [.int .u16 _, str _, .bool _, .bool _, str _, str _, .int .i64 _, .int .u8 _]) rfl ty113 rfl rfl (cells_of_obj (n := 8) (hst.objL (.head _)) _ rfl)) (TP (v := .bool _) rfl) ?_
   subst g64
   have e : refS 173 = some ⟨173, [79, 112, 83, 71, 114, 101, 97, 116, 101, 114, 84, 104, 97, 110], true, true, [105, 105], [], 0, 8⟩ := by decide +kernel
   rw [e]
   exact ⟨rfl, hst.pure⟩
 refine SR <| CN <| Op1.eql rfl rfl <| AB rfl <| NL <| run_cond_dec rfl (fun g65 => ?_) (fun g65 => ?_)
 · skip
   refine SR <| MH rfl <| CN <| Op1.call8 (v1 := .int .u16 _) (v2 := str _) (v3 := .bool _) (v4 := .bool _) (v5 := str _) (v6 := str _) (v7 := .int .i64 _) (v8 := .int .u8 _) ent147 rfl rfl rfl rfl rfl rfl rfl rfl rfl <| Ret.det (R7ref_form _ _ _ _ _ _ _ _ _) hst fun w hst => CN (SO (v := .agg #[.int .u16 _, str _, .bool _, .bool _, str _, str _, .int .i64 _, .int .u8 _]) hst ty113 rfl rfl (.here) fun w hst => ?_)
   refine AB rfl <| NL <| run_ret2 Tryz.func90 rfl (RV.cellA (vs := [.int .u16 _, str _, .bool _, .bool _, str _, str _, .int .i64 _, .int .u8 _]) rfl ty113 rfl rfl (cells_of_obj (n := 8) (hst.objL (.head _)) _ rfl)) (TP (v := .bool _) rfl) ?_
   subst g65
   have e : refS 174 = some ⟨174, [79, 112, 85, 71, 114, 101, 97, 116, 101, 114, 84, 104, 97, 110, 69, 113, 117, 97, 108], true, true, [105, 105], [], 0, 8⟩ := by decide +kernel
   rw [e]
   exact ⟨rfl, hst.pure⟩
 refine SR <| CN <| Op1.eql rfl rfl <| AB rfl <| NL <| run_cond_dec rfl (fun g66 => ?_) (fun g66 => ?_)
 · skip
   refine SR <| MH rfl <| CN <| Op1.call8 (v1 := .int .u16 _) (v2 := str _) (v3 := .bool _) (v4 := .bool _) (v5 := str _) (v6 := str _) (v7 := .int .i64 _) (v8 := .int .u8 _) ent147 rfl rfl rfl rfl rfl rfl rfl rfl rfl <| Ret.det (R7ref_form _ _ _ _ _ _ _ _ _) hst fun w hst => CN (SO (v := .agg #[.int .u16 _, str _, .bool _, .bool _, str _, str _, .int .i64 _, .int .u8 _]) hst ty113 rfl rfl (.here) fun w hst => ?_)
   refine AB rfl <| NL <| run_ret2 Tryz.func90 rfl (RV.cellA (vs := [.int .u16 _, str _, .bool _, .bool _, str _, str _, .int .i64 _, .int .u8 _]) rfl ty113 rfl rfl (cells_of_obj (n := 8) (hst.objL (.head _)) _ rfl)) (TP (v := .bool _) rfl) ?_
   subst g66
   have e : refS 175 = some ⟨175, [79, 112, 83, 71, 114, 101, 97, 116, 101, 114, 84, 104, 97, 110, 69, 113, 117, 97, 108], true, true, [105, 105], [], 0, 8⟩ := by decide +kernel
   rw [e]
   exact ⟨rfl, hst.pure⟩
 refine SR <| CN <| Op1.eql rfl rfl <| AB rfl <| NL <| run_cond_dec rfl (fun g67 => ?_) (fun g67 => ?_)
 · skip
   refine SR <| MH rfl <| CN <| Op1.call8 (v1 := .int .u16 _) (v2 := str _) (v3 := .bool _) (v4 := .bool _) (v5 := str _) (v6 := str _) (v7 := .int .i64 _) (v8 := .int .u8 _) ent147 rfl rfl rfl rfl rfl rfl rfl rfl rfl <| Ret.det (R7ref_form _ _ _ _ _ _ _ _ _) hst fun w hst => CN (SO (v := .agg #[.int .u16 _, str _, .bool _, .bool _, str _, str _, .int .i64 _, .int .u8 _]) hst ty113 rfl rfl (.here) fun w hst => ?_)
   refine AB rfl <| NL <| run_ret2 Tryz.func90 rfl (RV.cellA (vs := [.int .u16 _, str _, .bool _, .bool _, str _, str _, .int .i64 _, .int .u8 _]) rfl ty113 rfl rfl (cells_of_obj (n := 8) (hst.objL (.head _)) _ rfl)) (TP (v := .bool _) rfl) ?_
   subst g67
   have e : refS 176 = some ⟨176, [79, 112, 85, 76, 101, 115, 115, 84, 104, 97, 110], true, true, [105, 105], [], 0, 8⟩ := by decide +kernel
   rw [e]
   exact ⟨rfl, hst.pure⟩
 refine SR <| CN <| Op1.eql rfl rfl <| AB rfl <| NL <| Run.forget [(0, .int .u16 _), (2, .pointer (some ⟨_, _, none⟩)), (4, .int .u16 _), (273, .bool _)] ⟨rfl, rfl, rfl, rfl, trivial⟩ fun f => run_cond_dec rfl (fun g68 => ?_) (fun g68 => ?_)
 · skip
   refine SR <| MH rfl <| CN <| Op1.call8 (v1 := .int .u16 _) (v2 := str _) (v3 := .bool _) (v4 := .bool _) (v5 := str _) (v6 := str _) (v7 := .int .i64 _) (v8 := .int .u8 _) ent147 rfl rfl rfl rfl rfl rfl rfl rfl rfl <| Ret.det (R7ref_form _ _ _ _ _ _ _ _ _) hst fun w hst => CN (SO (v := .agg #[.int .u16 _, str _, .bool _, .bool _, str _, str _, .int .i64 _, .int .u8 _]) hst ty113 rfl rfl (.here) fun w hst => ?_)
   refine AB rfl <| NL <| run_ret2 Tryz.func90 rfl (RV.cellA (vs := [.int .u16 _, str _, .bool _, .bool _, str _, str _, .int .i64 _, .int .u8 _]) rfl ty113 rfl rfl (cells_of_obj (n := 8) (hst.objL (.head _)) _ rfl)) (TP (v := .bool _) rfl) ?_
   subst g68
   have e : refS 177 = some ⟨177, [79, 112, 83, 76, 101, 115, 115, 84, 104, 97, 110], true, true, [105, 105], [], 0, 8⟩ := by decide +kernel
   rw [e]
   exact ⟨rfl, hst.pure⟩
 refine SR <| CN <| Op1.eql rfl rfl <| AB rfl <| NL <| run_cond_dec rfl (fun g69 => ?_) (fun g69 => ?_)
 · skip
   refine SR <| MH rfl <| CN <| Op1.call8 (v1 := .int .u16 _) (v2 := str _) (v3 := .bool _) (v4 := .bool _) (v5 := str _) (v6 := str _) (v7 := .int .i64 _) (v8 := .int .u8 _) ent147 rfl rfl rfl rfl rfl rfl rfl rfl rfl <| Ret.det (R7ref_form _ _ _ _ _ _ _ _ _) hst fun w hst => CN (SO (v := .agg #[.int .u16 _, str _, .bool _, .bool _, str _, str _, .int .i64 _, .int .u8 _]) hst ty113 rfl rfl (.here) fun w hst => ?_)
   refine AB rfl <| NL <| run_ret2 Tryz.func90 rfl (RV.cellA (vs := [.int .u16 _, str _, .bool _, .bool _, str _, str _, .int .i64 _, .int .u8 _]) rfl ty113 rfl rfl (cells_of_obj (n := 8) (hst.objL (.head _)) _ rfl)) (TP (v := .bool _) rfl) ?_
   subst g69
   have e : refS 178 = some ⟨178, [79, 112, 85, 76, 101, 115, 115, 84, 104, 97, 110, 69, 113, 117, 97, 108], true, true, [105, 105], [], 0, 8⟩ := by decide +kernel
   rw [e]
   exact ⟨rfl, hst.pure⟩
 refine SR <| CN <| Op1.eql rfl rfl <| AB rfl <| NL <| run_cond_dec rfl (fun g70 => ?_) (fun g70 => ?_)
 · skip
   refine SR <| MH rfl <| CN <| Op1.call8 (v1 := .int .u16 _) (v2 := str _) (v3 := .bool _) (v4 := .bool _) (v5 := str _) (v6 := str _) (v7 := .int .i64 _) (v8 := .int .u8 _) ent147 rfl rfl rfl rfl rfl rfl rfl rfl rfl <| Ret.det (R7ref_form _ _ _ _ _ _ _ _ _) hst fun w hst => CN (SO (v := .agg #[.int .u16 _, str _, .bool _, .bool _, str _, str _, .int .i64 _, .int .u8 _]) hst ty113 rfl rfl (.here) fun w hst => ?_)
   refine AB rfl <| NL <| run_ret2 Tryz.func90 rfl (RV.cellA (vs := [.int .u16 _, str _, .bool _, .bool _, str _, str _, .int .i64 _, .int .u8 _]) rfl ty113 rfl rfl (cells_of_obj (n := 8) (hst.objL (.head _)) _ rfl)) (TP (v := .bool _) rfl) ?_
   subst g70
   have e : refS 179 = some ⟨179, [79, 112, 83, 76, 101, 115, 115, 84, 104, 97, 110, 69, 113, 117, 97, 108], true, true, [105, 105], [], 0, 8⟩ := by decide +kernel
   rw [e]
   exact ⟨rfl, hst.pure⟩
 refine SR <| CN <| Op1.eql rfl rfl <| AB rfl <| NL <| run_cond_dec rfl (fun g71 => ?_) (fun g71 => ?_)
 · skip
   refine SR <| MH rfl <| CN <| Op1.call8 (v1 := .int .u16 _) (v2 := str _) (v3 := .bool _) (v4 := .bool _) (v5 := str _) (v6 := str _) (v7 := .int .i64 _) (v8 := .int .u8 _) ent147 rfl rfl rfl rfl rfl rfl rfl rfl rfl <| Ret.det (R7ref_form _ _ _ _ _ _ _ _ _) hst fun w hst => CN (SO (v := .agg #[.int .u16 _, str _, .bool _, .bool _, str _, str _, .int .i64 _, .int .u8 _]) hst ty113 rfl rfl (.here) fun w hst => ?_)
   refine AB rfl <| NL <| run_ret2 Tryz.func90 rfl (RV.cellA (vs := [.int .u16 _, str _, .bool _, .bool _, str _, str _, .int .i64 _, .int .u8 _]) rfl ty113 rfl rfl (cells_of_obj (n := 8) (hst.objL (.head _)) _ rfl)) (TP (v := .bool _) rfl) ?_
   subst g71
   have e : refS 194 = some ⟨194, [79, 112, 83, 104, 105, 102, 116, 82, 105, 103, 104, 116, 76, 111, 103, 105, 99, 97, 108], true, true, [105, 105], [], 0, 8⟩ := by decide +kernel
   rw [e]
   exact ⟨rfl, hst.pure⟩
 refine SR <| CN <| Op1.eql rfl rfl <| AB rfl <| NL <| run_cond_dec rfl (fun g72 => ?_) (fun g72 => ?_)
 · skip
   refine SR <| MH rfl <| CN <| Op1.call8 (v1 := .int .u16 _) (v2 := str _) (v3 := .bool _) (v4 := .bool _) (v5 := str _) (v6 := str _) (v7 := .int .i64 _) (v8 := .int .u8 _) ent147 rfl rfl rfl rfl rfl rfl rfl rfl rfl <| Ret.det (R7ref_form _ _ _ _ _ _ _ _ _) hst fun w hst => CN (SO (v := .agg #[.int .u16 _, str _, .bool _, .bool _, str _, str _, .int .i64 _, .int .u8 _]) hst ty113 rfl rfl (.here) fun w hst => ?_)
   refine AB rfl <| NL <| run_ret2 Tryz.func90 rfl (RV.cellA (vs := [.int .u16 _, str _, .bool _, .bool _, str _, str _, .int .i64 _, .int .u8 _]) rfl ty113 rfl rfl (cells_of_obj (n := 8) (hst.objL (.head _)) _ rfl)) (TP (v := .bool _) rfl) ?_
   subst g72
   have e : refS 195 = some ⟨195, [79, 112, 83, 104, 105, 102, 116, 82, 105, 103, 104, 116, 65, 114, 105, 116, 104, 109, 101, 116, 105, 99], true, true, [105, 105], [], 0, 8⟩ := by decide +kernel
   rw [e]
   exact ⟨rfl, hst.pure⟩
 refine SR <| CN <| Op1.eql rfl rfl <| AB rfl <| NL <| run_cond_dec rfl (fun g73 => ?_) (fun g73 => ?_)
 · skip
   refine SR <| MH rfl <| CN <| Op1.call8 (v1 := .int .u16 _) (v2 := str _) (v3 := .bool _) (v4 := .bool _) (v5 := str _) (v6 := str _) (v7 := .int .i64 _) (v8 := .int .u8 _) ent147 rfl rfl rfl rfl rfl rfl rfl rfl rfl <| Ret.det (R7ref_form _ _ _ _ _ _ _ _ _) hst fun w hst => CN (SO (v := .agg #[.int .u16 _, str _, .bool _, .bool _, str _, str _, .int .i64 _, .int .u8 _]) hst ty113 rfl rfl (.here) fun w hst => ?_)
   refine AB rfl <| NL <| run_ret2 Tryz.func90 rfl (RV.cellA (vs := [.int .u16 _, str _, .bool _, .bool _, str _, str _, .int .i64 _, .int .u8 _]) rfl ty113 rfl rfl (cells_of_obj (n := 8) (hst.objL (.head _)) _ rfl)) (TP (v := .bool _) rfl) ?_
   subst g73
   have e : refS 196 = some ⟨196, [79, 112, 83, 104, 105, 102, 116, 76, 101, 102, 116, 76, 111, 103, 105, 99, 97, 108], true, true, [105, 105], [], 0, 8⟩ := by decide +kernel
   rw [e]
   exact ⟨rfl, hst.pure⟩
 refine SR <| CN <| Op1.eql rfl rfl <| AB rfl <| NL <| run_cond_dec rfl (fun g74 => ?_) (fun g74 => ?_)
 · skip
   refine SR <| MH rfl <| CN <| Op1.call8 (v1 := .int .u16 _) (v2 := str _) (v3 := .bool _) (v4 := .bool _) (v5 := str _) (v6 := str _) (v7 := .int .i64 _) (v8 := .int .u8 _) ent147 rfl rfl rfl rfl rfl rfl rfl rfl rfl <| Ret.det (R7ref_form _ _ _ _ _ _ _ _ _) hst fun w hst => CN (SO (v := .agg #[.int .u16 _, str _, .bool _, .bool _, str _, str _, .int .i64 _, .int .u8 _]) hst ty113 rfl rfl (.here) fun w hst => ?_)
   refine AB rfl <| NL <| run_ret2 Tryz.func90 rfl (RV.cellA (vs := [.int .u16 _, str _, .bool _, .bool _, str _, str _, .int .i64 _, .int .u8 _]) rfl ty113 rfl rfl (cells_of_obj (n := 8) (hst.objL (.head _)) _ rfl)) (TP (v := .bool _) rfl) ?_
   subst g74
   have e : refS 197 = some ⟨197, [79, 112, 66, 105, 116, 119, 105, 115, 101, 79, 114], true, true, [105, 105], [], 0, 8⟩ := by decide +kernel
   rw [e]
   exact ⟨rfl, hst.pure⟩
 refine SR <| CN <| Op1.eql rfl rfl <| AB rfl <| NL <| run_cond_dec rfl (fun g75 => ?_) (fun g75 => ?_)
 · skip
   refine SR <| MH rfl <| CN <| Op1.call8 (v1 := .int .u16 _) (v2 := str _) (v3 := .bool _) (v4 := .bool _) (v5 := str _) (v6 := str _) (v7 := .int .i64 _) (v8 := .int .u8 _) ent147 rfl rfl rfl rfl rfl rfl rfl rfl rfl <| Ret.det (R7ref_form _ _ _ _ _ _ _ _ _) hst fun w hst => CN (SO (v := .agg #[.int .u16 _, str _, .bool _, .bool _, str _, str _, .int .i64 _, .int .u8 _]) hst ty113 rfl rfl (.here) fun w hst => ?_)
   refine AB rfl <| NL <| run_ret2 Tryz.func90 rfl (RV.cellA (vs := [.int .u16 _, str _, .bool _, .bool _, str _, str _, .int .i64 _, .int .u8 _]) rfl ty113 rfl rfl (cells_of_obj (n := 8) (hst.objL (.head _)) _ rfl)) (TP (v := .bool _) rfl) ?_
   subst g75
   have e : refS 198 = some ⟨198, [79, 112, 66, 105, 116, 119, 105, 115, 101, 88, 111, 114], true, true, [105, 105], [], 0, 8⟩ := by decide +kernel
   rw [e]
   exact ⟨rfl, hst.pure⟩
 refine SR <| CN <| Op1.eql rfl rfl <| AB rfl <| NL <| run_cond_dec rfl (fun g76 => ?_) (fun g76 => ?_)
 · skip
   refine SR <| MH rfl <| CN <| Op1.call8 (v1 := .int .u16 _) (v2 := str _) (v3 := .bool _) (v4 := .bool _) (v5 := str _) (v6 := str _) (v7 := .int .i64 _) (v8 := .int .u8 _) ent147 rfl rfl rfl rfl rfl rfl rfl rfl rfl <| Ret.det (R7ref_form _ _ _ _ _ _ _ _ _) hst fun w hst => CN (SO (v := .agg #[.int .u16 _, str _, .bool _, .bool _, str _, str _, .int .i64 _, .int .u8 _]) hst ty113 rfl rfl (.here) fun w hst => ?_)
   refine AB rfl <| NL <| run_ret2 Tryz.func90 rfl (RV.cellA (vs := [.int .u16 _, str _, .bool _, .bool _, str _, str _, .int .i64 _, .int .u8 _]) rfl ty113 rfl rfl (cells_of_obj (n := 8) (hst.objL (.head _)) _ rfl)) (TP (v := .bool _) rfl) ?_
   subst g76
   have e : refS 199 = some ⟨199, [79, 112, 66, 105, 116, 119, 105, 115, 101, 65, 110, 100], true, true, [105, 105], [], 0, 8⟩ := by decide +kernel
   rw [e]
   exact ⟨rfl, hst.pure⟩
 refine SR <| CN <| Op1.eql rfl rfl <| AB rfl <| NL <| run_cond_dec rfl (fun g77 => ?_) (fun g77 => ?_)
 · skip
   refine SR <| MH rfl <| CN <| Op1.call8 (v1 := .int .u16 _) (v2 := str _) (v3 := .bool _) (v4 := .bool _) (v5 := str _) (v6 := str _) (v7 := .int .i64 _) (v8 := .int .u8 _) ent147 rfl rfl rfl rfl rfl rfl rfl rfl rfl <| Ret.det (R7ref_form _ _ _ _ _ _ _ _ _) hst fun w hst => CN (SO (v := .agg #[.int .u16 _, str _, .bool _, .bool _, str _, str _, .int .i64 _, .int .u8 _]) hst ty113 rfl rfl (.here) fun w hst => ?_)
   refine AB rfl <| NL <| run_ret2 Tryz.func90 rfl (RV.cellA (vs := [.int .u16 _, str _, .bool _, .bool _, str _, str _, .int .i64 _, .int .u8 _]) rfl ty113 rfl rfl (cells_of_obj (n := 8) (hst.objL (.head _)) _ rfl)) (TP (v := .bool _) rfl) ?_
   subst g77
   have e : refS 200 = some ⟨200, [79, 112, 78, 111, 116], true, true, [105], [], 0, 8⟩ := by decide +kernel
   rw [e]
   exact ⟨rfl, hst.pure⟩
 refine SR <| CN <| Op1.eql rfl rfl <| AB rfl <| NL <| Run.forget [(0, .int .u16 _), (2, .pointer (some ⟨_, _, none⟩)), (4, .int .u16 _), (313, .bool _)] ⟨rfl, rfl, rfl, rfl, trivial⟩ fun f => run_cond_dec rfl (fun g78 => ?_) (fun g78 => ?_)
 · skip
   refine SR <| MH rfl <| CN <| Op1.call8 (v1 := .int .u16 _) (v2 := str _) (v3 := .bool _) (v4 := .bool _) (v5 := str _) (v6 := str _) (v7 := .int .i64 _) (v8 := .int .u8 _) ent147 rfl rfl rfl rfl rfl rfl rfl rfl rfl <| Ret.det (R7ref_form _ _ _ _ _ _ _ _ _) hst fun w hst => CN (SO (v := .agg #[.int .u16 _, str _, .bool _, .bool _, str _, str _, .int .i64 _, .int .u8 _]) hst ty113 rfl rfl (.here) fun w hst => ?_)
   refine AB rfl <| NL <| run_ret2 Tryz.func90 rfl (RV.cellA (vs := [.int .u16 _, str _, .bool _, .bool _, str _, str _, .int .i64 _, .int .u8 _]) rfl ty113 rfl rfl (cells_of_obj (n := 8) (hst.objL (.head _)) _ rfl)) (TP (v := .bool _) rfl) ?_
   subst g78
   have e : refS 201 = some ⟨201, [79, 112, 66, 105, 116, 70, 105, 101, 108, 100, 73, 110, 115, 101, 114, 116], true, true, [105, 105, 105, 105], [], 0, 8⟩ := by decide +kernel
   rw [e]
   exact ⟨rfl, hst.pure⟩
 refine SR <| CN <| Op1.eql rfl rfl <| AB rfl <| NL <| run_cond_dec rfl (fun g79 => ?_) (fun g79 => ?_)
 · skip
   refine SR <| MH rfl <| CN <| Op1.call8 (v1 := .int .u16 _) (v2 := str _) (v3 := .bool _) (v4 := .bool _) (v5 := str _) (v6 := str _) (v7 := .int .i64 _) (v8 := .int .u8 _) ent147 rfl rfl rfl rfl rfl rfl rfl rfl rfl <| Ret.det (R7ref_form _ _ _ _ _ _ _ _ _) hst fun w hst => CN (SO (v := .agg #[.int .u16 _, str _, .bool _, .bool _, str _, str _, .int .i64 _, .int .u8 _]) hst ty113 rfl rfl (.here) fun w hst => ?_)
   refine AB rfl <| NL <| run_ret2 Tryz.func90 rfl (RV.cellA (vs := [.int .u16 _, str _, .bool _, .bool _, str _, str _, .int .i64 _, .int .u8 _]) rfl ty113 rfl rfl (cells_of_obj (n := 8) (hst.objL (.head _)) _ rfl)) (TP (v := .bool _) rfl) ?_
   subst g79
   have e : refS 202 = some ⟨202, [79, 112, 66, 105, 116, 70, 105, 101, 108, 100, 83, 69, 120, 116, 114, 97, 99, 116], true, true, [105, 105, 105], [], 0, 8⟩ := by decide +kernel
   rw [e]
   exact ⟨rfl, hst.pure⟩
 refine SR <| CN <| Op1.eql rfl rfl <| AB rfl <| NL <| run_cond_dec rfl (fun g80 => ?_) (fun g80 => ?_)
 · skip
   refine SR <| MH rfl <| CN <| Op1.call8 (v1 := .int .u16 _) (v2 := str _) (v3 := .bool _) (v4 := .bool _) (v5 := str _) (v6 := str _) (v7 := .int .i64 _) (v8 := .int .u8 _) ent147 rfl rfl rfl rfl rfl rfl rfl rfl rfl <| Ret.det (R7ref_form _ _ _ _ _ _ _ _ _) hst fun w hst => CN (SO (v := .agg #[.int .u16 _, str _, .bool _, .bool _, str _, str _, .int .i64 _, .int .u8 _]) hst ty113 rfl rfl (.here) fun w hst => ?_)
   refine AB rfl <| NL <| run_ret2 Tryz.func90 rfl (RV.cellA (vs := [.int .u16 _, str _, .bool _, .bool _, str _, str _, .int .i64 _, .int .u8 _]) rfl ty113 rfl rfl (cells_of_obj (n := 8) (hst.objL (.head _)) _ rfl)) (TP (v := .bool _) rfl) ?_
   subst g80
   have e : refS 203 = some ⟨203, [79, 112, 66, 105, 116, 70, 105, 101, 108, 100, 85, 69, 120, 116, 114, 97, 99, 116], true, true, [105, 105, 105], [], 0, 8⟩ := by decide +kernel
   rw [e]
   exact ⟨rfl, hst.pure⟩
 refine SR <| CN <| Op1.eql rfl rfl <| AB rfl <| NL <| run_cond_dec rfl (fun g81 => ?_) (fun g81 => ?_)
 · skip
   refine SR <| MH rfl <| CN <| Op1.call8 (v1 := .int .u16 _) (v2 := str _) (v3 := .bool _) (v4 := .bool _) (v5 := str _) (v6 := str _) (v7 := .int .i64 _) (v8 := .int .u8 _) ent147 rfl rfl rfl rfl rfl rfl rfl rfl rfl <| Ret.det (R7ref_form _ _ _ _ _ _ _ _ _) hst fun w hst => CN (SO (v := .agg #[.int .u16 _, str _, .bool _, .bool _, str _, str _, .int .i64 _, .int .u8 _]) hst ty113 rfl rfl (.here) fun w hst => ?_)
   refine AB rfl <| NL <| run_ret2 Tryz.func90 rfl (RV.cellA (vs := [.int .u16 _, str _, .bool _, .bool _, str _, str _, .int .i64 _, .int .u8 _]) rfl ty113 rfl rfl (cells_of_obj (n := 8) (hst.objL (.head _)) _ rfl)) (TP (v := .bool _) rfl) ?_
   subst g81
   have e : refS 204 = some ⟨204, [79, 112, 66, 105, 116, 82, 101, 118, 101, 114, 115, 101], true, true, [105], [], 0, 8⟩ := by decide +kernel
   rw [e]
   exact ⟨rfl, hst.pure⟩
 refine SR <| CN <| Op1.eql rfl rfl <| AB rfl <| NL <| run_cond_dec rfl (fun g82 => ?_) (fun g82 => ?_)
 · skip
   refine SR <| MH rfl <| CN <| Op1.call8 (v1 := .int .u16 _) (v2 := str _) (v3 := .bool _) (v4 := .bool _) (v5 := str _) (v6 := str _) (v7 := .int .i64 _) (v8 := .int .u8 _) ent147 rfl rfl rfl rfl rfl rfl rfl rfl rfl <| Ret.det (R7ref_form _ _ _ _ _ _ _ _ _) hst fun w hst => CN (SO (v := .agg #[.int .u16 _, str _, .bool _, .bool _, str _, str _, .int .i64 _, .int .u8 _]) hst ty113 rfl rfl (.here) fun w hst => ?_)
   refine AB rfl <| NL <| run_ret2 Tryz.func90 rfl (RV.cellA (vs := [.int .u16 _, str _, .bool _, .bool _, str _, str _, .int .i64 _, .int .u8 _]) rfl ty113 rfl rfl (cells_of_obj (n := 8) (hst.objL (.head _)) _ rfl)) (TP (v := .bool _) rfl) ?_
   subst g82
   have e : refS 205 = some ⟨205, [79, 112, 66, 105, 116, 67, 111, 117, 110, 116], true, true, [105], [], 0, 8⟩ := by decide +kernel
   rw [e]
   exact ⟨rfl, hst.pure⟩
 refine SR <| CN <| Op1.eql rfl rfl <| AB rfl <| NL <| run_cond_dec rfl (fun g83 => ?_) (fun g83 => ?_)
 · skip
   refine SR <| MH rfl <| CN <| Op1.call8 (v1 := .int .u16 _) (v2 := str _) (v3 := .bool _) (v4 := .bool _) (v5 := str _) (v6 := str _) (v7 := .int .i64 _) (v8 := .int .u8 _) ent147 rfl rfl rfl rfl rfl rfl rfl rfl rfl <| Ret.det (R7ref_form _ _ _ _ _ _ _ _ _) hst fun w hst => CN (SO (v := .agg #[.int .u16 _, str _, .bool _, .bool _, str _, str _, .int .i64 _, .int .u8 _]) hst ty113 rfl rfl (.here) fun w hst => ?_)
   refine AB rfl <| NL <| run_ret2 Tryz.func90 rfl (RV.cellA (vs := [.int .u16 _, str _, .bool _, .bool _, str _, str _, .int .i64 _, .int .u8 _]) rfl ty113 rfl rfl (cells_of_obj (n := 8) (hst.objL (.head _)) _ rfl)) (TP (v := .bool _) rfl) ?_
   subst g83
   have e : refS 245 = some ⟨245, [79, 112, 80, 104, 105], true, true, [], [105, 105], 0, 8⟩ := by decide +kernel
   rw [e]
   exact ⟨rfl, hst.pure⟩
 refine SR <| CN <| Op1.eql rfl rfl <| AB rfl <| NL <| run_cond_dec rfl (fun g84 => ?_) (fun g84 => ?_)
 · skip
   refine SR <| MH rfl <| CN <| Op1.call8 (v1 := .int .u16 _) (v2 := str _) (v3 := .bool _) (v4 := .bool _) (v5 := str _) (v6 := str _) (v7 := .int .i64 _) (v8 := .int .u8 _) ent147 rfl rfl rfl rfl rfl rfl rfl rfl rfl <| Ret.det (R7ref_form _ _ _ _ _ _ _ _ _) hst fun w hst => CN (SO (v := .agg #[.int .u16 _, str _, .bool _, .bool _, str _, str _, .int .i64 _, .int .u8 _]) hst ty113 rfl rfl (.here) fun w hst => ?_)
   refine AB rfl <| NL <| run_ret2 Tryz.func90 rfl (RV.cellA (vs := [.int .u16 _, str _, .bool _, .bool _, str _, str _, .int .i64 _, .int .u8 _]) rfl ty113 rfl rfl (cells_of_obj (n := 8) (hst.objL (.head _)) _ rfl)) (TP (v := .bool _) rfl) ?_
   subst g84
   have e : refS 246 = some ⟨246, [79, 112, 76, 111, 111, 112, 77, 101, 114, 103, 101], false, false, [105, 105, 103], [], 0, 8⟩ := by decide +kernel
   rw [e]
   exact ⟨rfl, hst.pure⟩
 refine SR <| CN <| Op1.eql rfl rfl <| AB rfl <| NL <| run_cond_dec rfl (fun g85 => ?_) (fun g85 => ?_)
 · skip
   refine SR <| MH rfl <| CN <| Op1.call8 (v1 := .int .u16 _) (v2 := str _) (v3 := .bool _) (v4 := .bool _) (v5 := str _) (v6 := str _) (v7 := .int .i64 _) (v8 := .int .u8 _) ent147 rfl rfl rfl rfl rfl rfl rfl rfl rfl <| Ret.det (R7ref_form _ _ _ _ _ _ _ _ _) hst fun w hst => CN (SO (v := .agg #[.int .u16 _, str _, .bool _, .bool _, str _, str _, .int .i64 _, .int .u8 _]) hst ty113 rfl rfl (.here) fun w hst => ?_)
   refine AB rfl <| NL <| run_ret2 Tryz.func90 rfl (RV.cellA (vs := [.int .u16 _, str _, .bool _, .bool _, str _, str _, .int .i64 _, .int .u8 _]) rfl ty113 rfl rfl (cells_of_obj (n := 8) (hst.objL (.head _)) _ rfl)) (TP (v := .bool _) rfl) ?_
   subst g85
   have e : refS 247 = some ⟨247, [79, 112, 83, 101, 108, 101, 99, 116, 105, 111, 110, 77, 101, 114, 103, 101], false, false, [105, 104], [], 0, 8⟩ := by decide +kernel
   rw [e]
   exact ⟨rfl, hst.pure⟩
 refine SR <| CN <| Op1.eql rfl rfl <| AB rfl <| NL <| run_cond_dec rfl (fun g86 => ?_) (fun g86 => ?_)
 · skip
   refine SR <| MH rfl <| CN <| Op1.call8 (v1 := .int .u16 _) (v2 := str _) (v3 := .bool _) (v4 := .bool _) (v5 := str _) (v6 := str _) (v7 := .int .i64 _) (v8 := .int .u8 _) ent147 rfl rfl rfl rfl rfl rfl rfl rfl rfl <| Ret.det (R7ref_form _ _ _ _ _ _ _ _ _) hst fun w hst => CN (SO (v := .agg #[.int .u16 _, str _, .bool _, .bool _, str _, str _, .int .i64 _, .int .u8 _]) hst ty113 rfl rfl (.here) fun w hst => ?_)
   refine AB rfl <| NL <| run_ret2 Tryz.func90 rfl (RV.cellA (vs := [.int .u16 _, str _, .bool _, .bool _, str _, str _, .int .i64 _, .int .u8 _]) rfl ty113 rfl rfl (cells_of_obj (n := 8) (hst.objL (.head _)) _ rfl)) (TP (v := .bool _) rfl) ?_
   subst g86
   have e : refS 248 = some ⟨248, [79, 112, 76, 97, 98, 101, 108], false, true, [], [], 0, 8⟩ := by decide +kernel
   rw [e]
   exact ⟨rfl, hst.pure⟩
 refine SR <| CN <| Op1.eql rfl rfl <| AB rfl <| NL <| run_cond_dec rfl (fun g87 => ?_) (fun g87 => ?_)
 · skip
   refine SR <| MH rfl <| CN <| Op1.call8 (v1 := .int .u16 _) (v2 := str _) (v3 := .bool _) (v4 := .bool _) (v5 := str _) (v6 := str _) (v7 := .int .i64 _) (v8 := .int .u8 _) ent147 rfl rfl rfl rfl rfl rfl rfl rfl rfl <| Ret.det (R7ref_form _ _ _ _ _ _ _ _ _) hst fun w hst => CN (SO (v := .agg #[.int .u16 _, str _, .bool _, .bool _, str _, str _, .int .i64 _, .int .u8 _]) hst ty113 rfl rfl (.here) fun w hst => ?_)
   refine AB rfl <| NL <| run_ret2 Tryz.func90 rfl (RV.cellA (vs := [.int .u16 _, str _, .bool _, .bool _, str _, str _, .int .i64 _, .int .u8 _]) rfl ty113 rfl rfl (cells_of_obj (n := 8) (hst.objL (.head _)) _ rfl)) (TP (v := .bool _) rfl) ?_
   subst g87
   have e : refS 249 = some ⟨249, [79, 112, 66, 114, 97, 110, 99, 104], false, false, [105], [], 0, 8⟩ := by decide +kernel
   rw [e]
   exact ⟨rfl, hst.pure⟩
 refine SR <| CN <| Op1.eql rfl rfl <| AB rfl <| NL <| Run.forget [(0, .int .u16 _), (2, .pointer (some ⟨_, _, none⟩)), (4, .int .u16 _), (353, .bool _)] ⟨rfl, rfl, rfl, rfl, trivial⟩ fun f => run_cond_dec rfl (fun g88 => ?_) (fun g88 => ?_)
 · skip
   refine SR <| MH rfl <| CN <| Op1.call8 (v1 := .int .u16 _) (v2 := str _) (v3 := .bool _) (v4 := .bool _) (v5 := str _) (v6 := str _) (v7 := .int .i64 _) (v8 := .int .u8 _) ent147 rfl rfl rfl rfl rfl rfl rfl rfl rfl <| Ret.det (R7ref_form _ _ _ _ _ _ _ _ _) hst fun w hst => CN (SO (v := .agg #[.int .u16 _, str _, .bool _, .bool _, str _, str _, .int .i64 _, .int .u8 _]) hst ty113 rfl rfl (.here) fun w hst => ?_)
   refine AB rfl <| NL <| run_ret2 Tryz.func90 rfl (RV.cellA (vs := [.int .u16 _, str _, .bool _, .bool _, str _, str _, .int .i64 _, .int .u8 _]) rfl ty113 rfl rfl (cells_of_obj (n := 8) (hst.objL (.head _)) _ rfl)) (TP (v := .bool _) rfl) ?_
   subst g88
   have e : refS 250 = some ⟨250, [79, 112, 66, 114, 97, 110, 99, 104, 67, 111, 110, 100, 105, 116, 105, 111, 110, 97, 108], false, false, [105, 105, 105], [], 0, 8⟩ := by decide +kernel
   rw [e]
   exact ⟨rfl, hst.pure⟩
 refine SR <| CN <| Op1.eql rfl rfl <| AB rfl <| NL <| run_cond_dec rfl (fun g89 => ?_) (fun g89 => ?_)
 · skip
   refine SR <| MH rfl <| CN <| Op1.call8 (v1 := .int .u16 _) (v2 := str _) (v3 := .bool _) (v4 := .bool _) (v5 := str _) (v6 := str _) (v7 := .int .i64 _) (v8 := .int .u8 _) ent147 rfl rfl rfl rfl rfl rfl rfl rfl rfl <| Ret.det (R7ref_form _ _ _ _ _ _ _ _ _) hst fun w hst => CN (SO (v := .agg #[.int .u16 _, str _, .bool _, .bool _, str _, str _, .int .i64 _, .int .u8 _]) hst ty113 rfl rfl (.here) fun w hst => ?_)
   refine AB rfl <| NL <| run_ret2 Tryz.func90 rfl (RV.cellA (vs := [.int .u16 _, str _, .bool _, .bool _, str _, str _, .int .i64 _, .int .u8 _]) rfl ty113 rfl rfl (cells_of_obj (n := 8) (hst.objL (.head _)) _ rfl)) (TP (v := .bool _) rfl) ?_
   subst g89
   have e : refS 251 = some ⟨251, [79, 112, 83, 119, 105, 116, 99, 104], false, false, [105, 105], [110, 105], 0, 8⟩ := by decide +kernel
   rw [e]
   exact ⟨rfl, hst.pure⟩
 refine SR <| CN <| Op1.eql rfl rfl <| AB rfl <| NL <| run_cond_dec rfl (fun g90 => ?_) (fun g90 => ?_)
 · skip
   refine SR <| MH rfl <| CN <| Op1.call8 (v1 := .int .u16 _) (v2 := str _) (v3 := .bool _) (v4 := .bool _) (v5 := str _) (v6 := str _) (v7 := .int .i64 _) (v8 := .int .u8 _) ent147 rfl rfl rfl rfl rfl rfl rfl rfl rfl <| Ret.det (R7ref_form _ _ _ _ _ _ _ _ _) hst fun w hst => CN (SO (v := .agg #[.int .u16 _, str _, .bool _, .bool _, str _, str _, .int .i64 _, .int .u8 _]) hst ty113 rfl rfl (.here) fun w hst => ?_)
   refine AB rfl <| NL <| run_ret2 Tryz.func90 rfl (RV.cellA (vs := [.int .u16 _, str _, .bool _, .bool _, str _, str _, .int .i64 _, .int .u8 _]) rfl ty113 rfl rfl (cells_of_obj (n := 8) (hst.objL (.head _)) _ rfl)) (TP (v := .bool _) rfl) ?_
   subst g90
   have e : refS 252 = some ⟨252, [79, 112, 75, 105, 108, 108], false, false, [], [], 0, 8⟩ := by decide +kernel
   rw [e]
   exact ⟨rfl, hst.pure⟩
 refine SR <| CN <| Op1.eql rfl rfl <| AB rfl <| NL <| run_cond_dec rfl (fun g91 => ?_) (fun g91 => ?_)
 · skip
   refine SR <| MH rfl <| CN <| Op1.call8 (v1 := .int .u16 _) (v2 := str _) (v3 := .bool _) (v4 := .bool _) (v5 := str _) (v6 := str _) (v7 := .int .i64 _) (v8 := .int .u8 _) ent147 rfl rfl rfl rfl rfl rfl rfl rfl rfl <| Ret.det (R7ref_form _ _ _ _ _ _ _ _ _) hst fun w hst => CN (SO (v := .agg #[.int .u16 _, str _, .bool _, .bool _, str _, str _, .int .i64 _, .int .u8 _]) hst ty113 rfl rfl (.here) fun w hst => ?_)
   refine AB rfl <| NL <| run_ret2 Tryz.func90 rfl (RV.cellA (vs := [.int .u16 _, str _, .bool _, .bool _, str _, str _, .int .i64 _, .int .u8 _]) rfl ty113 rfl rfl (cells_of_obj (n := 8) (hst.objL (.head _)) _ rfl)) (TP (v := .bool _) rfl) ?_
   subst g91
   have e : refS 253 = some ⟨253, [79, 112, 82, 101, 116, 117, 114, 110], false, false, [], [], 0, 8⟩ := by decide +kernel
   rw [e]
   exact ⟨rfl, hst.pure⟩
 refine SR <| CN <| Op1.eql rfl rfl <| AB rfl <| NL <| run_cond_dec rfl (fun g92 => ?_) (fun g92 => ?_)
 · skip
   refine SR <| MH rfl <| CN <| Op1.call8 (v1 := .int .u16 _) (v2 := str _) (v3 := .bool _) (v4 := .bool _) (v5 := str _) (v6 := str _) (v7 := .int .i64 _) (v8 := .int .u8 _) ent147 rfl rfl rfl rfl rfl rfl rfl rfl rfl <| Ret.det (R7ref_form _ _ _ _ _ _ _ _ _) hst fun w hst => CN (SO (v := .agg #[.int .u16 _, str _, .bool _, .bool _, str _, str _, .int .i64 _, .int .u8 _]) hst ty113 rfl rfl (.here) fun w hst => ?_)
   refine AB rfl <| NL <| run_ret2 Tryz.func90 rfl (RV.cellA (vs := [.int .u16 _, str _, .bool _, .bool _, str _, str _, .int .i64 _, .int .u8 _]) rfl ty113 rfl rfl (cells_of_obj (n := 8) (hst.objL (.head _)) _ rfl)) (TP (v := .bool _) rfl) ?_
   subst g92
   have e : refS 254 = some ⟨254, [79, 112, 82, 101, 116, 117, 114, 110, 86, 97, 108, 117, 101], false, false, [105], [], 0, 8⟩ := by decide +kernel
   rw [e]
   exact ⟨rfl, hst.pure⟩
 refine SR <| CN <| Op1.eql rfl rfl <| AB rfl <| NL <| run_cond_dec rfl (fun g93 => ?_) (fun g93 => ?_)
 · skip
   refine SR <| MH rfl <| CN <| Op1.call8 (v1 := .int .u16 _) (v2 := str _) (v3 := .bool _) (v4 := .bool _) (v5 := str _) (v6 := str _) (v7 := .int .i64 _) (v8 := .int .u8 _) ent147 rfl rfl rfl rfl rfl rfl rfl rfl rfl <| Ret.det (R7ref_form _ _ _ _ _ _ _ _ _) hst fun w hst => CN (SO (v := .agg #[.int .u16 _, str _, .bool _, .bool _, str _, str _, .int .i64 _, .int .u8 _]) hst ty113 rfl rfl (.here) fun w hst => ?_)
   refine AB rfl <| NL <| run_ret2 Tryz.func90 rfl (RV.cellA (vs := [.int .u16 _, str _, .bool _, .bool _, str _, str _, .int .i64 _, .int .u8 _]) rfl ty113 rfl rfl (cells_of_obj (n := 8) (hst.objL (.head _)) _ rfl)) (TP (v := .bool _) rfl) ?_
   subst g93
   have e : refS 255 = some ⟨255, [79, 112, 85, 110, 114, 101, 97, 99, 104, 97, 98, 108, 101], false, false, [], [], 0, 8⟩ := by decide +kernel
   rw [e]
   exact ⟨rfl, hst.pure⟩
 refine run_skip <| run_inBlock <| SR <| CN (Op1.buildStruct ty113 stf113 .nil ?_)
 refine CN (SO (v := .agg #[.int .u16 _, str _, .bool _, .bool _, str _, str _, .int .i64 _, .int .u8 _]) hst ty113 rfl rfl (.here) fun w hst => ?_)
 refine AB rfl <| NL <| run_ret2 Tryz.func90 rfl (RV.cellA (vs := [.int .u16 _, str _, .bool _, .bool _, str _, str _, .int .i64 _, .int .u8 _]) rfl ty113 rfl rfl (cells_of_obj (n := 8) (hst.objL (.head _)) _ rfl)) (TP (v := .bool _) rfl) ?_
 rw [show refS op = none from refF_none (by simp only [refT, List.forall_mem_cons]; exact ⟨g1, g2, g3, g4, g5, g6, g7, g8, g9, g10, g11, g12, g13, g14, g15, g16, g17, g18, g19, g20, g21, g22, g23, g24, g25, g26, g27, g28, g29, g30, g31, g32, g33, g34, g35, g36, g37, g38, g39, g40, g41, g42, g43, g44, g45, g46, g47, g48, g49, g50, g51, g52, g53, g54, g55, g56, g57, g58, g59, g60, g61, g62, g63, g64, g65, g66, g67, g68, g69, g70, g71, g72, g73, g74, g75, g76, g77, g78, g79, g80, g81, g82, g83, g84, g85, g86, g87, g88, g89, g90, g91, g92, g93, fun _ h => absurd h List.not_mem_nil⟩)]
 exact ⟨rfl, hst.pure⟩
theorem R7gr_Of (op : Int) (h0 : 0 ≤ op) (w : World) : Ret Tryz.prog 75 #[.int .u16 op] w (fun v w' => v = formV (refS op) ∧ St w NoM [] [] w') := by
 refine Ret.enter (args := [.int .u16 op]) Tryz.func75 rfl rfl rfl ?_
 have hst := St.init w
 refine SR <| CN <| Op1.alloc hst ty113 fun w b2 hst => AB rfl <| NSR <| MH rfl <| CN <| Op1.call1 (v1 := .int .u16 _) ent134 rfl rfl <| Ret.det (R7gr_row _ _) hst fun w hst => AS rfl <| NL <| SQ <| SR <| MS rfl ?_
 refine CN <| Op1.eqlS rfl rfl <| NL <| run_cond_dec rfl (fun g1 => ?_) (fun g1 => ?_)
 · skip
   have hemp := g1
   refine SR <| CN (Op1.buildStruct ty113 stf113 .nil ?_)
   refine CN (SO (v := .agg #[.int .u16 _, str _, .bool _, .bool _, str _, str _, .int .i64 _, .int .u8 _]) hst ty113 rfl rfl (.here) fun w hst => ?_)
   refine AB rfl <| NL <| run_ret2 Tryz.func75 rfl (RV.cellA (vs := [.int .u16 _, str _, .bool _, .bool _, str _, str _, .int .i64 _, .int .u8 _]) rfl ty113 rfl rfl (cells_of_obj (n := 8) (hst.objL (.head _)) _ rfl)) (TP (v := .bool _) rfl) ?_
   rw [← (rowS_all h0).2]
   have e : ofS op = none := by unfold ofS; rw [if_pos hemp]
   rw [e]
   exact ⟨rfl, hst.pure⟩
 have hemp := g1
 obtain ⟨fd0, fd1, fd2, fd3, fd4, fd5, hf⟩ := R7six (fieldsF_len (rowS op))
 replace hf : fieldsS (rowS op) = [fd0, fd1, fd2, fd3, fd4, fd5] := hf
 obtain ⟨_, _, _, hfa, hf5⟩ := rowOk_spec (rowS_all h0).1
 rw [hf] at hfa hf5
 replace hf5 : 0 < fd5.length := List.length_pos_iff.2 (hf5.resolve_left hemp)
 have hasc : ∀ c ∈ fd1, c.toNat < 128 := hfa fd1 (by simp)
 refine run_skip <| SR <| MS rfl <| CN <| Op1.call1 (v1 := str _) ent135 rfl rfl <| Ret.det (R7gr_fields _ _ _ _ _ _ _ (rowS_all h0).1 hf _) hst fun w hst => CN <| Op1.alloc hst ty211 fun w b5 hst => CN (SO (v := .agg #[str _, str _, str _, str _, str _, str _]) hst ty211 rfl rfl (.here) fun w hst => ?_)
 refine NL <| SQ <| RunD.start [] hst (bs := [0, 0, 2, 0, 8, 0, 32, 0, 128, 384, 896, 2047, 0, 8191]) (ds := [some 16, some 17, some 18, some 19, some 20, some 21, some 22, some 23, some 24, some 25, some 26, some 27, some 6, none]) ⟨by kernel_rfl, by kernel_rfl, by kernel_rfl⟩ (fun tab2 => ?_)
 refine RunD.op (det _) tab2 1 (fun f' L' w' hc => Op1.move (v := .int .u16 _) (hc.old (v := .int .u16 _) rfl rfl rfl) ⟨[], ⟨rfl, rfl⟩, hc.st⟩) <| RunD.op (det _) tab2 2 (fun f' L' w' hc => Op1.indexArr ty211 ty9 (hc.old (v := .pointer (some ⟨_, _, none⟩)) rfl rfl rfl) rfl (by decide) (by decide) ⟨[], ⟨rfl, rfl⟩, hc.st⟩) <| RunD.op (det _) tab2 3 (fun f' L' w' hc => Op1.load1 (v := str _) ty9 rfl (hc.det (j := 1) rfl rfl rfl rfl) (hc.st.cellL (List.mem_append_right _ (.head _)) rfl) ⟨[], ⟨rfl, rfl⟩, hc.st⟩) <| RunD.op (det _) tab2 4 (fun f' L' w' hc => Op1.indexArr ty211 ty9 (hc.old (v := .pointer (some ⟨_, _, none⟩)) rfl rfl rfl) rfl (by decide) (by decide) ⟨[], ⟨rfl, rfl⟩, hc.st⟩) <| RunD.op (det _) tab2 5 (fun f' L' w' hc => Op1.load1 (v := str _) ty9 rfl (hc.det (j := 3) rfl rfl rfl rfl) (hc.st.cellL (List.mem_append_right _ (.head _)) rfl) ⟨[], ⟨rfl, rfl⟩, hc.st⟩) <| RunD.op (det _) tab2 6 (fun f' L' w' hc => Op1.indexArr ty211 ty9 (hc.old (v := .pointer (some ⟨_, _, none⟩)) rfl rfl rfl) rfl (by decide) (by decide) ⟨[], ⟨rfl, rfl⟩, hc.st⟩) <| RunD.op (det _) tab2 7 (fun f' L' w' hc => Op1.load1 (v := str _) ty9 rfl (hc.det (j := 5) rfl rfl rfl rfl) (hc.st.cellL (List.mem_append_right _ (.head _)) rfl) ⟨[], ⟨rfl, rfl⟩, hc.st⟩) <| RunD.op (det _) tab2 8 (fun f' L' w' hc => Op1.indexArr ty211 ty9 (hc.old (v := .pointer (some ⟨_, _, none⟩)) rfl rfl rfl) rfl (by decide) (by decide) ⟨[], ⟨rfl, rfl⟩, hc.st⟩) <| RunD.op (det _) tab2 9 (fun f' L' w' hc => Op1.load1 (v := str _) ty9 rfl (hc.det (j := 7) rfl rfl rfl rfl) (hc.st.cellL (List.mem_append_right _ (.head _)) rfl) ⟨[], ⟨rfl, rfl⟩, hc.st⟩) <| RunD.op (det _) tab2 10 (fun f' L' w' hc => Op1.indexS ty9 (hc.det (j := 8) rfl rfl rfl rfl) rfl (by omega) (by omega) ⟨[], ⟨rfl, rfl⟩, hc.st⟩) <| RunD.op (det _) tab2 11 (fun f' L' w' hc => Op1.sub (hc.det (j := 9) rfl rfl rfl rfl) rfl ⟨[], ⟨rfl, rfl⟩, hc.st⟩) <| RunD.op (det _) tab2 12 (fun f' L' w' hc => Op1.buildStruct ty113 stf113 (.c (v := .int .u16 _) (hc.det (j := 0) rfl rfl rfl rfl) (h := (.c (v := str _) (hc.det (j := 2) rfl rfl rfl rfl) (h := (.c (v := str _) (hc.det (j := 4) rfl rfl rfl rfl) (h := (.c (v := str _) (hc.det (j := 6) rfl rfl rfl rfl) (h := (.c (v := .int .u8 _) (hc.det (j := 10) rfl rfl rfl rfl) (h := .nil)))))))))) ⟨[], ⟨rfl, rfl⟩, hc.st⟩) ?_
 refine RunD.op (fun v rs => ∃ b, v = .pointer (some ⟨b, 0, none⟩) ∧ rs = [Res.row b 113 [.int .u16 0, str [], .bool false, .bool false, str [], str [], .int .i64 0, .int .u8 0]]) tab2 13 (fun f' L' w' hc => Op1.alloc hc.st ty113 fun w b hst => ⟨[_], ⟨b, rfl, rfl⟩, hst⟩) <| RunD.fin followsMixed tab2 hst rfl (fun f3 w R6 hs4 hd5 hr7 hst => ?_)
 obtain ⟨h16_, r0⟩ := hd5 0 16 rfl rfl
 obtain ⟨h17_, r1⟩ := hd5 1 17 rfl rfl
 obtain ⟨h18_, r2⟩ := hd5 2 18 rfl rfl
 obtain ⟨h19_, r3⟩ := hd5 3 19 rfl rfl
 obtain ⟨h20_, r4⟩ := hd5 4 20 rfl rfl
 obtain ⟨h21_, r5⟩ := hd5 5 21 rfl rfl
 obtain ⟨h22_, r6⟩ := hd5 6 22 rfl rfl
 obtain ⟨h23_, r7⟩ := hd5 7 23 rfl rfl
 obtain ⟨h24_, r8⟩ := hd5 8 24 rfl rfl
 obtain ⟨h25_, r9⟩ := hd5 9 25 rfl rfl
 obtain ⟨h26_, r10⟩ := hd5 10 26 rfl rfl
 obtain ⟨h27_, r11⟩ := hd5 11 27 rfl rfl
 obtain ⟨b6, h6_, r12⟩ := hd5 12 6 rfl rfl
 simp only [show List.range 13 = [0, 1, 2, 3, 4, 5, 6, 7, 8, 9, 10, 11, 12] from rfl, List.flatMap_cons, List.flatMap_nil, List.map_cons, List.map_nil, r0, r1, r2, r3, r4, r5, r6, r7, r8, r9, r10, r11, r12, List.nil_append, List.append_nil, List.cons_append] at hst
 refine RunL.slots (sl := [(2, .pointer (some ⟨_, _, none⟩)), (5, .pointer (some ⟨_, _, none⟩)), (6, .pointer (some ⟨_, _, none⟩)), (27, .agg #[.int .u16 _, str _, .bool _, .bool _, str _, str _, .int .i64 _, .int .u8 _])]) ⟨(hs4 2 rfl).trans rfl, (hs4 5 rfl).trans rfl, h6_, h27_, trivial⟩ ?_
 clear hs4 hd5 hr7 tab2
 refine CN (SO (v := .agg #[.int .u16 _, str _, .bool _, .bool _, str _, str _, .int .i64 _, .int .u8 _]) hst ty113 rfl rfl (.here) fun w hst => ?_)
 refine NL <| Run.forget [(2, .pointer (some ⟨_, _, none⟩)), (5, .pointer (some ⟨_, _, none⟩)), (6, .pointer (some ⟨_, _, none⟩))] ⟨rfl, rfl, rfl, trivial⟩ fun f => SQ <| SR <| CN <| Op1.indexArr ty211 ty9 rfl rfl (by decide) (by decide) <| CN <| Op1.load1 (v := str _) ty9 rfl rfl (hst.cellL (.tail _ (.head _)) rfl) <| CN <| Op1.rangeS hst ty9 rfl fun w it30 hst => NL <| run_block <| run_loop <| Run.indW [(2, .pointer (some ⟨_, _, none⟩)), (5, .pointer (some ⟨_, _, none⟩)), (6, .pointer (some ⟨_, _, none⟩)), (30, .pointer (some ⟨_, 0, none⟩))] ⟨rfl, rfl, rfl, rfl, trivial⟩ (fun (i : Nat) => []) (fun (i : Nat) => [Res.iter it30 fd1 i, Res.row b6 113 [.int .u16 op, str fd0, .bool ((fd1.take i).contains 84), .bool ((fd1.take i).contains 82), str fd2, str fd3, .int .i64 0, .int .u8 (subU8 (fd5.getD 0 0) 48)]]) (fun (i : Nat) => i ≤ fd1.length) (fun (i : Nat) => fd1.length - i) (0) hst (Nat.zero_le _) trivial ?_
 intro i f w hst hJ ih8
 refine SQ <| RG ?_
 rcases Nat.lt_or_ge i fd1.length with g9 | g9
 · skip
   have hc := hasc _ (List.getElem_mem g9)
   refine CN (Op1.nextS hst rfl (.here) (List.getElem?_eq_getElem g9) (hc) fun w hst => ?_)
   refine CN <| Op1.extract (v := .bool _) rfl rfl <| NL <| SQ <| run_cond_true (congrArg Value.bool (rfl : true = _)) <| run_skip <| run_block <| SR <| CN <| Op1.extract (v := .int .i32 _) rfl rfl <| CN <| Op1.assign (v := .int .i32 _) rfl <| NSR <| CN <| Op1.fieldAddr fld113_2 rfl <| CN (Op1.load1 (v := .bool _) ty4 rfl rfl (hst.cellL (.tail _ (.head _)) rfl) ?_)
   refine MB rfl <| RunL.split (d := 36) rfl (fun g10 => ?_) (fun g10 => ?_)
   · skip
     refine OM (t := 36) rfl (congrArg Value.bool g10) rfl <| OM (t := 36) rfl (congrArg Value.bool g10) rfl <| CN <| Op1.pickT (u := .bool _) (congrArg Value.bool g10) rfl <| CN <| Op1.fieldAddr fld113_2 rfl <| CN (SO (v := .bool _) hst ty4 rfl rfl (.there (.here)) fun w hst => ?_)
     refine NR <| CN <| Op1.fieldAddr fld113_3 rfl <| CN <| Op1.load1 (v := .bool _) ty4 rfl rfl (hst.cellL (.tail _ (.head _)) rfl) <| MB rfl <| RunL.split (d := 43) rfl (fun g11 => ?_) (fun g11 => ?_)
     · skip
       refine OM (t := 43) rfl (congrArg Value.bool g11) rfl <| OM (t := 43) rfl (congrArg Value.bool g11) rfl <| CN <| Op1.pickT (u := .bool _) (congrArg Value.bool g11) rfl <| CN <| Op1.fieldAddr fld113_3 rfl <| CN (SO (v := .bool _) hst ty4 rfl rfl (.there (.here)) fun w hst => ?_)
       refine NL <| run_inBlock <| run_inLoop ?_
       exact ih8 (i + 1) _ w (by omega) (by (try dsimp only); rw [has_step 84 (m := 84) rfl g9, has_step 82 (m := 82) rfl g9]; simp only [g10, g11, Bool.true_or, Bool.false_or]; exact hst) (by omega) ⟨rfl, rfl, rfl, rfl, trivial⟩ trivial
     refine TK (t := 43) rfl (congrArg Value.bool g11) <| Op1.move (v := .int .i32 _) rfl <| TK (t := 43) rfl (congrArg Value.bool g11) <| Op1.eql rfl rfl <| CN <| Op1.pickF (u := .bool _) (congrArg Value.bool g11) rfl <| CN <| Op1.fieldAddr fld113_3 rfl <| CN (SO (v := .bool _) hst ty4 rfl rfl (.there (.here)) fun w hst => ?_)
     refine NL <| run_inBlock <| run_inLoop ?_
     exact ih8 (i + 1) _ w (by omega) (by (try dsimp only); rw [has_step 84 (m := 84) rfl g9, has_step 82 (m := 82) rfl g9]; simp only [g10, g11, Bool.true_or, Bool.false_or]; exact hst) (by omega) ⟨rfl, rfl, rfl, rfl, trivial⟩ trivial
   refine TK (t := 36) rfl (congrArg Value.bool g10) <| Op1.move (v := .int .i32 _) rfl <| TK (t := 36) rfl (congrArg Value.bool g10) <| Op1.eql rfl rfl <| CN <| Op1.pickF (u := .bool _) (congrArg Value.bool g10) rfl <| CN <| Op1.fieldAddr fld113_2 rfl <| CN (SO (v := .bool _) hst ty4 rfl rfl (.there (.here)) fun w hst => ?_)
   refine NR <| CN <| Op1.fieldAddr fld113_3 rfl <| CN <| Op1.load1 (v := .bool _) ty4 rfl rfl (hst.cellL (.tail _ (.head _)) rfl) <| MB rfl <| RunL.split (d := 43) rfl (fun g12 => ?_) (fun g12 => ?_)
   · skip
     refine OM (t := 43) rfl (congrArg Value.bool g12) rfl <| OM (t := 43) rfl (congrArg Value.bool g12) rfl <| CN <| Op1.pickT (u := .bool _) (congrArg Value.bool g12) rfl <| CN <| Op1.fieldAddr fld113_3 rfl <| CN (SO (v := .bool _) hst ty4 rfl rfl (.there (.here)) fun w hst => ?_)
     refine NL <| run_inBlock <| run_inLoop ?_
     exact ih8 (i + 1) _ w (by omega) (by (try dsimp only); rw [has_step 84 (m := 84) rfl g9, has_step 82 (m := 82) rfl g9]; simp only [g10, g12, Bool.true_or, Bool.false_or]; exact hst) (by omega) ⟨rfl, rfl, rfl, rfl, trivial⟩ trivial
   refine TK (t := 43) rfl (congrArg Value.bool g12) <| Op1.move (v := .int .i32 _) rfl <| TK (t := 43) rfl (congrArg Value.bool g12) <| Op1.eql rfl rfl <| CN <| Op1.pickF (u := .bool _) (congrArg Value.bool g12) rfl <| CN <| Op1.fieldAddr fld113_3 rfl <| CN (SO (v := .bool _) hst ty4 rfl rfl (.there (.here)) fun w hst => ?_)
   refine NL <| run_inBlock <| run_inLoop ?_
   exact ih8 (i + 1) _ w (by omega) (by (try dsimp only); rw [has_step 84 (m := 84) rfl g9, has_step 82 (m := 82) rfl g9]; simp only [g10, g12, Bool.true_or, Bool.false_or]; exact hst) (by omega) ⟨rfl, rfl, rfl, rfl, trivial⟩ trivial
 obtain rfl : i = fd1.length := by omega
 rw [List.take_length] at hst
 refine CN <| Op1.nextE hst rfl (.head _) g9 <| CN <| Op1.extract (v := .bool _) rfl rfl <| NL <| SQ <| run_cond_false (congrArg Value.bool (rfl : false = _)) <| run_exit (id := 0) rfl <| SQ <| SR <| CN <| Op1.indexArr ty211 ty9 rfl rfl (by decide) (by decide) <| CN <| Op1.load1 (v := str _) ty9 rfl rfl (hst.cellL (.tail _ (.tail _ (.head _))) rfl) <| CN <| Op1.neqS rfl rfl <| NL <| run_cond_dec rfl (fun g13 => ?_) (fun g13 => ?_)
 · skip
   have hf4 : 0 < fd4.length := List.length_pos_iff.2 g13
   have hwb := u8wrap_bd ((((fd4.getD (0 : Int).toNat 0).toNat : Nat) : Int) - 48)
   refine RG <| CN <| Op1.indexArr ty211 ty9 rfl rfl (by decide) (by decide) <| CN <| Op1.load1 (v := str _) ty9 rfl rfl (hst.cellL (.tail _ (.tail _ (.head _))) rfl) <| CN <| Op1.indexS ty9 rfl rfl (by omega) (by omega) <| CN (Op1.sub rfl rfl ?_)
   first | refine CN (Op1.convN ty5 ty3 rfl (wrap_i64 (by omega) (by omega)) ?_) | refine CN (Op1.conv ty5 ty3 rfl ?_)
   refine CN <| Op1.fieldAddr fld113_6 rfl <| CN (SO (v := .int .i64 _) hst ty3 rfl rfl (.there (.here)) fun w hst => ?_)
   refine NSR <| CN <| Op1.loadA (vs := [.int .u16 _, str _, .bool _, .bool _, str _, str _, .int .i64 _, .int .u8 _]) ty113 rfl rfl rfl (cells_of_obj (n := 8) (hst.objL (.tail _ (.head _))) _ rfl) <| CN (SO (v := .agg #[.int .u16 _, str _, .bool _, .bool _, str _, str _, .int .i64 _, .int .u8 _]) hst ty113 rfl rfl (.there (.there (.there (.here)))) fun w hst => ?_)
   refine AB rfl <| NL <| run_ret2 Tryz.func75 rfl (RV.cellA (vs := [.int .u16 _, str _, .bool _, .bool _, str _, str _, .int .i64 _, .int .u8 _]) rfl ty113 rfl rfl (cells_of_obj (n := 8) (hst.objL (.tail _ (.tail _ (.tail _ (.head _))))) _ rfl)) (TP (v := .bool _) rfl) ?_
   rw [← (rowS_all h0).2]
   have e : ofS op = some (FormL.mk op fd0 (fd1.contains 84) (fd1.contains 82) fd2 fd3 (subU8 (fd4.getD 0 0) 48) (subU8 (fd5.getD 0 0) 48)) := by
     unfold ofS
     rw [if_neg hemp, hf]
     show some (FormL.mk op fd0 (fd1.contains 84) (fd1.contains 82) fd2 fd3 (if fd4 = [] then 0 else subU8 (fd4.getD 0 0) 48) (subU8 (fd5.getD 0 0) 48)) = _
     rw [if_neg g13]
   rw [e]
   exact ⟨rfl, hst.pure⟩
 refine run_skip <| SR <| CN <| Op1.loadA (vs := [.int .u16 _, str _, .bool _, .bool _, str _, str _, .int .i64 _, .int .u8 _]) ty113 rfl rfl rfl (cells_of_obj (n := 8) (hst.objL (.tail _ (.head _))) _ rfl) <| CN (SO (v := .agg #[.int .u16 _, str _, .bool _, .bool _, str _, str _, .int .i64 _, .int .u8 _]) hst ty113 rfl rfl (.there (.there (.there (.here)))) fun w hst => ?_)
 refine AB rfl <| NL <| run_ret2 Tryz.func75 rfl (RV.cellA (vs := [.int .u16 _, str _, .bool _, .bool _, str _, str _, .int .i64 _, .int .u8 _]) rfl ty113 rfl rfl (cells_of_obj (n := 8) (hst.objL (.tail _ (.tail _ (.tail _ (.head _))))) _ rfl)) (TP (v := .bool _) rfl) ?_
 rw [← (rowS_all h0).2]
 have e : ofS op = some (FormL.mk op fd0 (fd1.contains 84) (fd1.contains 82) fd2 fd3 0 (subU8 (fd5.getD 0 0) 48)) := by
   unfold ofS
   rw [if_neg hemp, hf]
   show some (FormL.mk op fd0 (fd1.contains 84) (fd1.contains 82) fd2 fd3 (if fd4 = [] then 0 else subU8 (fd4.getD 0 0) 48) (subU8 (fd5.getD 0 0) 48)) = _
   rw [if_pos (Classical.not_not.1 g13)]
 rw [e]
 exact ⟨rfl, hst.pure⟩
end Go.SK
namespace Go.SK
open Go Go.Proofs
theorem ty224 : TyF Tryz.prog 224 (.struct (fieldsOf Tryz.prog 224)) 3 24 [.int .u8 0, .int .u32 0, str []] := TyF.of (by kernel_rfl) (by kernel_rfl)
theorem stf224 : StructF Tryz.prog 224 [(0, 1), (1, 1), (2, 1)] := ⟨fieldsOf Tryz.prog 224, by kernel_rfl, fun w => by kernel_rfl⟩
theorem ty221 : TyF Tryz.prog 221 (.slice 224) 1 24 [.slice none 0 0] := TyF.of (by kernel_rfl) (by kernel_rfl)
theorem ent148 : Enters Tryz.prog 148 := ⟨Tryz.f148, _, Tryz.func148, by kernel_rfl, rfl⟩
theorem fld224_0 : FldF Tryz.prog 224 0 0 := FldF.of (n := 0) (by kernel_rfl)
theorem fld224_1 : FldF Tryz.prog 224 1 1 := FldF.of (n := 0) (by kernel_rfl)
theorem fld224_2 : FldF Tryz.prog 224 2 2 := FldF.of (n := 0) (by kernel_rfl)
theorem ent181 : Enters Tryz.prog 181 := ⟨Tryz.f181, _, Tryz.func181, by kernel_rfl, rfl⟩
theorem ent222 : Enters Tryz.prog 222 := ⟨Tryz.f222, _, Tryz.func222, by kernel_rfl, rfl⟩
end Go.SK
namespace Go.SK
open Go Go.Proofs
open Go.RowKit
set_option maxRecDepth 4000 in
theorem R7ref_Names  (w : World) : Ret Tryz.prog 148 #[] w (fun v w' => ∃ ao cp, v = .slice ao namesL.length cp ∧ St w NoM [Res.sl ao namesL.length cp 224 3 (namesL.flatMap nameC)] [] w') := by
 refine Ret.enter (args := []) Tryz.func148 rfl rfl rfl ?_
 have hst := St.init w
 refine SR <| AL rfl <| NSR <| AL rfl <| NSR <| ML rfl <| CN (Op1.buildStruct ty224 stf224 (.c (v := .int .u8 _) rfl (h := (.c (v := .int .u32 _) rfl (h := (.c (v := str _) rfl (h := .nil)))))) ?_)
 refine CN (Op1.buildSl (z0 := [.int .u8 0, .int .u32 0, str []]) hst ty221 ty224 rfl rfl (by kernel_rfl) (.c (v := .agg #[.int .u8 _, .int .u32 _, str _]) rfl (h := .nil)) fun w b4 hst => ?_)
 replace hst := hst.pushNil 224 3
 refine CN (Op1.append (news := [.int .u8 _, .int .u32 _, str _]) hst ty221 ty224 rfl rfl (.here) rfl rfl rfl (cells_of_obj (n := 3) (hst.objL (.tail _ (.head _))) _ rfl) rfl rfl (by omega) fun w ao1 cp2 hst => ?_)
 replace hst := hst.drop (.there (.here))
 refine AL rfl <| NSR <| ML rfl <| CN (Op1.buildStruct ty224 stf224 (.c (v := .int .u8 _) rfl (h := (.c (v := .int .u32 _) rfl (h := (.c (v := str _) rfl (h := .nil)))))) ?_)
 refine CN (Op1.buildSl (z0 := [.int .u8 0, .int .u32 0, str []]) hst ty221 ty224 rfl rfl (by kernel_rfl) (.c (v := .agg #[.int .u8 _, .int .u32 _, str _]) rfl (h := .nil)) fun w b8 hst => ?_)
 refine CN (Op1.append (news := [.int .u8 _, .int .u32 _, str _]) hst ty221 ty224 rfl rfl (.there (.here)) rfl rfl rfl (cells_of_obj (n := 3) (hst.objL (.head _)) _ rfl) rfl rfl (by omega) fun w ao3 cp4 hst => ?_)
 replace hst := hst.drop (.there (.here))
 refine AL rfl <| NSR <| ML rfl <| CN (Op1.buildStruct ty224 stf224 (.c (v := .int .u8 _) rfl (h := (.c (v := .int .u32 _) rfl (h := (.c (v := str _) rfl (h := .nil)))))) ?_)
 refine CN (Op1.buildSl (z0 := [.int .u8 0, .int .u32 0, str []]) hst ty221 ty224 rfl rfl (by kernel_rfl) (.c (v := .agg #[.int .u8 _, .int .u32 _, str _]) rfl (h := .nil)) fun w b12 hst => ?_)
 refine CN (Op1.append (news := [.int .u8 _, .int .u32 _, str _]) hst ty221 ty224 rfl rfl (.there (.here)) rfl rfl rfl (cells_of_obj (n := 3) (hst.objL (.head _)) _ rfl) rfl rfl (by omega) fun w ao5 cp6 hst => ?_)
 replace hst := hst.drop (.there (.here))
 refine AL rfl <| NSR <| ML rfl <| CN (Op1.buildStruct ty224 stf224 (.c (v := .int .u8 _) rfl (h := (.c (v := .int .u32 _) rfl (h := (.c (v := str _) rfl (h := .nil)))))) ?_)
 refine CN (Op1.buildSl (z0 := [.int .u8 0, .int .u32 0, str []]) hst ty221 ty224 rfl rfl (by kernel_rfl) (.c (v := .agg #[.int .u8 _, .int .u32 _, str _]) rfl (h := .nil)) fun w b16 hst => ?_)
 refine CN (Op1.append (news := [.int .u8 _, .int .u32 _, str _]) hst ty221 ty224 rfl rfl (.there (.here)) rfl rfl rfl (cells_of_obj (n := 3) (hst.objL (.head _)) _ rfl) rfl rfl (by omega) fun w ao7 cp8 hst => ?_)
 replace hst := hst.drop (.there (.here))
 refine AL rfl <| NL <| Run.forget [(1, .slice _ _ _)] ⟨rfl, trivial⟩ fun f => SR <| ML rfl <| CN (Op1.buildStruct ty224 stf224 (.c (v := .int .u8 _) rfl (h := (.c (v := .int .u32 _) rfl (h := (.c (v := str _) rfl (h := .nil)))))) ?_)
 refine CN (Op1.buildSl (z0 := [.int .u8 0, .int .u32 0, str []]) hst ty221 ty224 rfl rfl (by kernel_rfl) (.c (v := .agg #[.int .u8 _, .int .u32 _, str _]) rfl (h := .nil)) fun w b20 hst => ?_)
 refine CN (Op1.append (news := [.int .u8 _, .int .u32 _, str _]) hst ty221 ty224 rfl rfl (.there (.here)) rfl rfl rfl (cells_of_obj (n := 3) (hst.objL (.head _)) _ rfl) rfl rfl (by omega) fun w ao9 cp10 hst => ?_)
 replace hst := hst.drop (.there (.here))
 refine AL rfl <| NSR <| ML rfl <| CN (Op1.buildStruct ty224 stf224 (.c (v := .int .u8 _) rfl (h := (.c (v := .int .u32 _) rfl (h := (.c (v := str _) rfl (h := .nil)))))) ?_)
 refine CN (Op1.buildSl (z0 := [.int .u8 0, .int .u32 0, str []]) hst ty221 ty224 rfl rfl (by kernel_rfl) (.c (v := .agg #[.int .u8 _, .int .u32 _, str _]) rfl (h := .nil)) fun w b24 hst => ?_)
 refine CN (Op1.append (news := [.int .u8 _, .int .u32 _, str _]) hst ty221 ty224 rfl rfl (.there (.here)) rfl rfl rfl (cells_of_obj (n := 3) (hst.objL (.head _)) _ rfl) rfl rfl (by omega) fun w ao11 cp12 hst => ?_)
 replace hst := hst.drop (.there (.here))
 refine AL rfl <| NSR <| ML rfl <| CN (Op1.buildStruct ty224 stf224 (.c (v := .int .u8 _) rfl (h := (.c (v := .int .u32 _) rfl (h := (.c (v := str _) rfl (h := .nil)))))) ?_)
 refine CN (Op1.buildSl (z0 := [.int .u8 0, .int .u32 0, str []]) hst ty221 ty224 rfl rfl (by kernel_rfl) (.c (v := .agg #[.int .u8 _, .int .u32 _, str _]) rfl (h := .nil)) fun w b28 hst => ?_)
 refine CN (Op1.append (news := [.int .u8 _, .int .u32 _, str _]) hst ty221 ty224 rfl rfl (.there (.here)) rfl rfl rfl (cells_of_obj (n := 3) (hst.objL (.head _)) _ rfl) rfl rfl (by omega) fun w ao13 cp14 hst => ?_)
 replace hst := hst.drop (.there (.here))
 refine AL rfl <| NSR <| ML rfl <| CN (Op1.buildStruct ty224 stf224 (.c (v := .int .u8 _) rfl (h := (.c (v := .int .u32 _) rfl (h := (.c (v := str _) rfl (h := .nil)))))) ?_)
 refine CN (Op1.buildSl (z0 := [.int .u8 0, .int .u32 0, str []]) hst ty221 ty224 rfl rfl (by kernel_rfl) (.c (v := .agg #[.int .u8 _, .int .u32 _, str _]) rfl (h := .nil)) fun w b32 hst => ?_)
 refine CN (Op1.append (news := [.int .u8 _, .int .u32 _, str _]) hst ty221 ty224 rfl rfl (.there (.here)) rfl rfl rfl (cells_of_obj (n := 3) (hst.objL (.head _)) _ rfl) rfl rfl (by omega) fun w ao15 cp16 hst => ?_)
 replace hst := hst.drop (.there (.here))
 refine AL rfl <| NL <| Run.forget [(1, .slice _ _ _)] ⟨rfl, trivial⟩ fun f => SR <| ML rfl <| CN (Op1.buildStruct ty224 stf224 (.c (v := .int .u8 _) rfl (h := (.c (v := .int .u32 _) rfl (h := (.c (v := str _) rfl (h := .nil)))))) ?_)
 refine CN (Op1.buildSl (z0 := [.int .u8 0, .int .u32 0, str []]) hst ty221 ty224 rfl rfl (by kernel_rfl) (.c (v := .agg #[.int .u8 _, .int .u32 _, str _]) rfl (h := .nil)) fun w b36 hst => ?_)
 refine CN (Op1.append (news := [.int .u8 _, .int .u32 _, str _]) hst ty221 ty224 rfl rfl (.there (.here)) rfl rfl rfl (cells_of_obj (n := 3) (hst.objL (.head _)) _ rfl) rfl rfl (by omega) fun w ao17 cp18 hst => ?_)
 replace hst := hst.drop (.there (.here))
 refine AL rfl <| NSR <| ML rfl <| CN (Op1.buildStruct ty224 stf224 (.c (v := .int .u8 _) rfl (h := (.c (v := .int .u32 _) rfl (h := (.c (v := str _) rfl (h := .nil)))))) ?_)
 refine CN (Op1.buildSl (z0 := [.int .u8 0, .int .u32 0, str []]) hst ty221 ty224 rfl rfl (by kernel_rfl) (.c (v := .agg #[.int .u8 _, .int .u32 _, str _]) rfl (h := .nil)) fun w b40 hst => ?_)
 refine CN (Op1.append (news := [.int .u8 _, .int .u32 _, str _]) hst ty221 ty224 rfl rfl (.there (.here)) rfl rfl rfl (cells_of_obj (n := 3) (hst.objL (.head _)) _ rfl) rfl rfl (by omega) fun w ao19 cp20 hst => ?_)
 replace hst := hst.drop (.there (.here))
 refine AL rfl <| NSR <| ML rfl <| CN (Op1.buildStruct ty224 stf224 (.c (v := .int .u8 _) rfl (h := (.c (v := .int .u32 _) rfl (h := (.c (v := str _) rfl (h := .nil)))))) ?_)
 refine CN (Op1.buildSl (z0 := [.int .u8 0, .int .u32 0, str []]) hst ty221 ty224 rfl rfl (by kernel_rfl) (.c (v := .agg #[.int .u8 _, .int .u32 _, str _]) rfl (h := .nil)) fun w b44 hst => ?_)
 refine CN (Op1.append (news := [.int .u8 _, .int .u32 _, str _]) hst ty221 ty224 rfl rfl (.there (.here)) rfl rfl rfl (cells_of_obj (n := 3) (hst.objL (.head _)) _ rfl) rfl rfl (by omega) fun w ao21 cp22 hst => ?_)
 replace hst := hst.drop (.there (.here))
 refine AL rfl <| NSR <| ML rfl <| CN (Op1.buildStruct ty224 stf224 (.c (v := .int .u8 _) rfl (h := (.c (v := .int .u32 _) rfl (h := (.c (v := str _) rfl (h := .nil)))))) ?_)
 refine CN (Op1.buildSl (z0 := [.int .u8 0, .int .u32 0, str []]) hst ty221 ty224 rfl rfl (by kernel_rfl) (.c (v := .agg #[.int .u8 _, .int .u32 _, str _]) rfl (h := .nil)) fun w b48 hst => ?_)
 refine CN (Op1.append (news := [.int .u8 _, .int .u32 _, str _]) hst ty221 ty224 rfl rfl (.there (.here)) rfl rfl rfl (cells_of_obj (n := 3) (hst.objL (.head _)) _ rfl) rfl rfl (by omega) fun w ao23 cp24 hst => ?_)
 replace hst := hst.drop (.there (.here))
 refine AL rfl <| NL <| Run.forget [(1, .slice _ _ _)] ⟨rfl, trivial⟩ fun f => SR <| ML rfl <| CN (Op1.buildStruct ty224 stf224 (.c (v := .int .u8 _) rfl (h := (.c (v := .int .u32 _) rfl (h := (.c (v := str _) rfl (h := .nil)))))) ?_)
 refine CN (Op1.buildSl (z0 := [.int .u8 0, .int .u32 0, str []]) hst ty221 ty224 rfl rfl (by kernel_rfl) (.c (v := .agg #[.int .u8 _, .int .u32 _, str _]) rfl (h := .nil)) fun w b52 hst => ?_)
 refine CN (Op1.append (news := [.int .u8 _, .int .u32 _, str _]) hst ty221 ty224 rfl rfl (.there (.here)) rfl rfl rfl (cells_of_obj (n := 3) (hst.objL (.head _)) _ rfl) rfl rfl (by omega) fun w ao25 cp26 hst => ?_)
 replace hst := hst.drop (.there (.here))
 refine AL rfl <| NSR <| ML rfl <| CN (Op1.buildStruct ty224 stf224 (.c (v := .int .u8 _) rfl (h := (.c (v := .int .u32 _) rfl (h := (.c (v := str _) rfl (h := .nil)))))) ?_)
 refine CN (Op1.buildSl (z0 := [.int .u8 0, .int .u32 0, str []]) hst ty221 ty224 rfl rfl (by kernel_rfl) (.c (v := .agg #[.int .u8 _, .int .u32 _, str _]) rfl (h := .nil)) fun w b56 hst => ?_)
 refine CN (Op1.append (news := [.int .u8 _, .int .u32 _, str _]) hst ty221 ty224 rfl rfl (.there (.here)) rfl rfl rfl (cells_of_obj (n := 3) (hst.objL (.head _)) _ rfl) rfl rfl (by omega) fun w ao27 cp28 hst => ?_)
 replace hst := hst.drop (.there (.here))
 refine AL rfl <| NSR <| ML rfl <| CN (Op1.buildStruct ty224 stf224 (.c (v := .int .u8 _) rfl (h := (.c (v := .int .u32 _) rfl (h := (.c (v := str _) rfl (h := .nil)))))) ?_)
 refine CN (Op1.buildSl (z0 := [.int .u8 0, .int .u32 0, str []]) hst ty221 ty224 rfl rfl (by kernel_rfl) (.c (v := .agg #[.int .u8 _, .int .u32 _, str _]) rfl (h := .nil)) fun w b60 hst => ?_)
 refine CN (Op1.append (news := [.int .u8 _, .int .u32 _, str _]) hst ty221 ty224 rfl rfl (.there (.here)) rfl rfl rfl (cells_of_obj (n := 3) (hst.objL (.head _)) _ rfl) rfl rfl (by omega) fun w ao29 cp30 hst => ?_)
 replace hst := hst.drop (.there (.here))
 refine AL rfl <| NSR <| ML rfl <| CN (Op1.buildStruct ty224 stf224 (.c (v := .int .u8 _) rfl (h := (.c (v := .int .u32 _) rfl (h := (.c (v := str _) rfl (h := .nil)))))) ?_)
 refine CN (Op1.buildSl (z0 := [.int .u8 0, .int .u32 0, str []]) hst ty221 ty224 rfl rfl (by kernel_rfl) (.c (v := .agg #[.int .u8 _, .int .u32 _, str _]) rfl (h := .nil)) fun w b64 hst => ?_)
 refine CN (Op1.append (news := [.int .u8 _, .int .u32 _, str _]) hst ty221 ty224 rfl rfl (.there (.here)) rfl rfl rfl (cells_of_obj (n := 3) (hst.objL (.head _)) _ rfl) rfl rfl (by omega) fun w ao31 cp32 hst => ?_)
 replace hst := hst.drop (.there (.here))
 refine AL rfl <| NL <| Run.forget [(1, .slice _ _ _)] ⟨rfl, trivial⟩ fun f => SR <| ML rfl <| CN (Op1.buildStruct ty224 stf224 (.c (v := .int .u8 _) rfl (h := (.c (v := .int .u32 _) rfl (h := (.c (v := str _) rfl (h := .nil)))))) ?_)
 refine CN (Op1.buildSl (z0 := [.int .u8 0, .int .u32 0, str []]) hst ty221 ty224 rfl rfl (by kernel_rfl) (.c (v := .agg #[.int .u8 _, .int .u32 _, str _]) rfl (h := .nil)) fun w b68 hst => ?_)
 refine CN (Op1.append (news := [.int .u8 _, .int .u32 _, str _]) hst ty221 ty224 rfl rfl (.there (.here)) rfl rfl rfl (cells_of_obj (n := 3) (hst.objL (.head _)) _ rfl) rfl rfl (by omega) fun w ao33 cp34 hst => ?_)
 replace hst := hst.drop (.there (.here))
 refine AL rfl <| NSR <| ML rfl <| CN (Op1.buildStruct ty224 stf224 (.c (v := .int .u8 _) rfl (h := (.c (v := .int .u32 _) rfl (h := (.c (v := str _) rfl (h := .nil)))))) ?_)
 refine CN (Op1.buildSl (z0 := [.int .u8 0, .int .u32 0, str []]) hst ty221 ty224 rfl rfl (by kernel_rfl) (.c (v := .agg #[.int .u8 _, .int .u32 _, str _]) rfl (h := .nil)) fun w b72 hst => ?_)
 refine CN (Op1.append (news := [.int .u8 _, .int .u32 _, str _]) hst ty221 ty224 rfl rfl (.there (.here)) rfl rfl rfl (cells_of_obj (n := 3) (hst.objL (.head _)) _ rfl) rfl rfl (by omega) fun w ao35 cp36 hst => ?_)
 replace hst := hst.drop (.there (.here))
 refine AL rfl <| NSR <| ML rfl <| CN (Op1.buildStruct ty224 stf224 (.c (v := .int .u8 _) rfl (h := (.c (v := .int .u32 _) rfl (h := (.c (v := str _) rfl (h := .nil)))))) ?_)
 refine CN (Op1.buildSl (z0 := [.int .u8 0, .int .u32 0, str []]) hst ty221 ty224 rfl rfl (by kernel_rfl) (.c (v := .agg #[.int .u8 _, .int .u32 _, str _]) rfl (h := .nil)) fun w b76 hst => ?_)
 refine CN (Op1.append (news := [.int .u8 _, .int .u32 _, str _]) hst ty221 ty224 rfl rfl (.there (.here)) rfl rfl rfl (cells_of_obj (n := 3) (hst.objL (.head _)) _ rfl) rfl rfl (by omega) fun w ao37 cp38 hst => ?_)
 replace hst := hst.drop (.there (.here))
 refine AL rfl <| NSR <| ML rfl <| CN (Op1.buildStruct ty224 stf224 (.c (v := .int .u8 _) rfl (h := (.c (v := .int .u32 _) rfl (h := (.c (v := str _) rfl (h := .nil)))))) ?_)
 refine CN (Op1.buildSl (z0 := [.int .u8 0, .int .u32 0, str []]) hst ty221 ty224 rfl rfl (by kernel_rfl) (.c (v := .agg #[.int .u8 _, .int .u32 _, str _]) rfl (h := .nil)) fun w b80 hst => ?_)
 refine CN (Op1.append (news := [.int .u8 _, .int .u32 _, str _]) hst ty221 ty224 rfl rfl (.there (.here)) rfl rfl rfl (cells_of_obj (n := 3) (hst.objL (.head _)) _ rfl) rfl rfl (by omega) fun w ao39 cp40 hst => ?_)
 replace hst := hst.drop (.there (.here))
 refine AL rfl <| NL <| Run.forget [(1, .slice _ _ _)] ⟨rfl, trivial⟩ fun f => SR <| ML rfl <| CN (Op1.buildStruct ty224 stf224 (.c (v := .int .u8 _) rfl (h := (.c (v := .int .u32 _) rfl (h := (.c (v := str _) rfl (h := .nil)))))) ?_)
 refine CN (Op1.buildSl (z0 := [.int .u8 0, .int .u32 0, str []]) hst ty221 ty224 rfl rfl (by kernel_rfl) (.c (v := .agg #[.int .u8 _, .int .u32 _, str _]) rfl (h := .nil)) fun w b84 hst => ?_)
 refine CN (Op1.append (news := [.int .u8 _, .int .u32 _, str _]) hst ty221 ty224 rfl rfl (.there (.here)) rfl rfl rfl (cells_of_obj (n := 3) (hst.objL (.head _)) _ rfl) rfl rfl (by omega) fun w ao41 cp42 hst => ?_)
 replace hst := hst.drop (.there (.here))
 refine AL rfl <| NSR <| ML rfl <| CN (Op1.buildStruct ty224 stf224 (.c (v := .int .u8 _) rfl (h := (.c (v := .int .u32 _) rfl (h := (.c (v := str _) rfl (h := .nil)))))) ?_)
 refine CN (Op1.buildSl (z0 := [.int .u8 0, .int .u32 0, str []]) hst ty221 ty224 rfl rfl (by kernel_rfl) (.c (v := .agg #[.int .u8 _, .int .u32 _, str _]) rfl (h := .nil)) fun w b88 hst => ?_)
 refine CN (Op1.append (news := [.int .u8 _, .int .u32 _, str _]) hst ty221 ty224 rfl rfl (.there (.here)) rfl rfl rfl (cells_of_obj (n := 3) (hst.objL (.head _)) _ rfl) rfl rfl (by omega) fun w ao43 cp44 hst => ?_)
 replace hst := hst.drop (.there (.here))
 refine AL rfl <| NSR <| ML rfl <| CN (Op1.buildStruct ty224 stf224 (.c (v := .int .u8 _) rfl (h := (.c (v := .int .u32 _) rfl (h := (.c (v := str _) rfl (h := .nil)))))) ?_)
 refine CN (Op1.buildSl (z0 := [.int .u8 0, .int .u32 0, str []]) hst ty221 ty224 rfl rfl (by kernel_rfl) (.c (v := .agg #[.int .u8 _, .int .u32 _, str _]) rfl (h := .nil)) fun w b92 hst => ?_)
 refine CN (Op1.append (news := [.int .u8 _, .int .u32 _, str _]) hst ty221 ty224 rfl rfl (.there (.here)) rfl rfl rfl (cells_of_obj (n := 3) (hst.objL (.head _)) _ rfl) rfl rfl (by omega) fun w ao45 cp46 hst => ?_)
 replace hst := hst.drop (.there (.here))
 refine AL rfl <| NSR <| ML rfl <| CN (Op1.buildStruct ty224 stf224 (.c (v := .int .u8 _) rfl (h := (.c (v := .int .u32 _) rfl (h := (.c (v := str _) rfl (h := .nil)))))) ?_)
 refine CN (Op1.buildSl (z0 := [.int .u8 0, .int .u32 0, str []]) hst ty221 ty224 rfl rfl (by kernel_rfl) (.c (v := .agg #[.int .u8 _, .int .u32 _, str _]) rfl (h := .nil)) fun w b96 hst => ?_)
 refine CN (Op1.append (news := [.int .u8 _, .int .u32 _, str _]) hst ty221 ty224 rfl rfl (.there (.here)) rfl rfl rfl (cells_of_obj (n := 3) (hst.objL (.head _)) _ rfl) rfl rfl (by omega) fun w ao47 cp48 hst => ?_)
 replace hst := hst.drop (.there (.here))
 refine AL rfl <| NL <| Run.forget [(1, .slice _ _ _)] ⟨rfl, trivial⟩ fun f => SR <| ML rfl <| CN (Op1.buildStruct ty224 stf224 (.c (v := .int .u8 _) rfl (h := (.c (v := .int .u32 _) rfl (h := (.c (v := str _) rfl (h := .nil)))))) ?_)
 refine CN (Op1.buildSl (z0 := [.int .u8 0, .int .u32 0, str []]) hst ty221 ty224 rfl rfl (by kernel_rfl) (.c (v := .agg #[.int .u8 _, .int .u32 _, str _]) rfl (h := .nil)) fun w b100 hst => ?_)
 refine CN (Op1.append (news := [.int .u8 _, .int .u32 _, str _]) hst ty221 ty224 rfl rfl (.there (.here)) rfl rfl rfl (cells_of_obj (n := 3) (hst.objL (.head _)) _ rfl) rfl rfl (by omega) fun w ao49 cp50 hst => ?_)
 replace hst := hst.drop (.there (.here))
 refine AL rfl <| NSR <| ML rfl <| CN (Op1.buildStruct ty224 stf224 (.c (v := .int .u8 _) rfl (h := (.c (v := .int .u32 _) rfl (h := (.c (v := str _) rfl (h := .nil)))))) ?_)
 refine CN (Op1.buildSl (z0 := [.int .u8 0, .int .u32 0, str []]) hst ty221 ty224 rfl rfl (by kernel_rfl) (.c (v := .agg #[.int .u8 _, .int .u32 _, str _]) rfl (h := .nil)) fun w b104 hst => ?_)
 refine CN (Op1.append (news := [.int .u8 _, .int .u32 _, str _]) hst ty221 ty224 rfl rfl (.there (.here)) rfl rfl rfl (cells_of_obj (n := 3) (hst.objL (.head _)) _ rfl) rfl rfl (by omega) fun w ao51 cp52 hst => ?_)
 replace hst := hst.drop (.there (.here))
 refine AL rfl <| NSR <| ML rfl <| CN (Op1.buildStruct ty224 stf224 (.c (v := .int .u8 _) rfl (h := (.c (v := .int .u32 _) rfl (h := (.c (v := str _) rfl (h := .nil)))))) ?_)
 refine CN (Op1.buildSl (z0 := [.int .u8 0, .int .u32 0, str []]) hst ty221 ty224 rfl rfl (by kernel_rfl) (.c (v := .agg #[.int .u8 _, .int .u32 _, str _]) rfl (h := .nil)) fun w b108 hst => ?_)
 refine CN (Op1.append (news := [.int .u8 _, .int .u32 _, str _]) hst ty221 ty224 rfl rfl (.there (.here)) rfl rfl rfl (cells_of_obj (n := 3) (hst.objL (.head _)) _ rfl) rfl rfl (by omega) fun w ao53 cp54 hst => ?_)
 replace hst := hst.drop (.there (.here))
 refine AL rfl <| NSR <| ML rfl <| CN (Op1.buildStruct ty224 stf224 (.c (v := .int .u8 _) rfl (h := (.c (v := .int .u32 _) rfl (h := (.c (v := str _) rfl (h := .nil)))))) ?_)
 refine CN (Op1.buildSl (z0 := [.int .u8 0, .int .u32 0, str []]) hst ty221 ty224 rfl rfl (by kernel_rfl) (.c (v := .agg #[.int .u8 _, .int .u32 _, str _]) rfl (h := .nil)) fun w b112 hst => ?_)
 refine CN (Op1.append (news := [.int .u8 _, .int .u32 _, str _]) hst ty221 ty224 rfl rfl (.there (.here)) rfl rfl rfl (cells_of_obj (n := 3) (hst.objL (.head _)) _ rfl) rfl rfl (by omega) fun w ao55 cp56 hst => ?_)
 replace hst := hst.drop (.there (.here))
 refine AL rfl <| NL <| Run.forget [(1, .slice _ _ _)] ⟨rfl, trivial⟩ fun f => SR <| ML rfl <| CN (Op1.buildStruct ty224 stf224 (.c (v := .int .u8 _) rfl (h := (.c (v := .int .u32 _) rfl (h := (.c (v := str _) rfl (h := .nil)))))) ?_)
 refine CN (Op1.buildSl (z0 := [.int .u8 0, .int .u32 0, str []]) hst ty221 ty224 rfl rfl (by kernel_rfl) (.c (v := .agg #[.int .u8 _, .int .u32 _, str _]) rfl (h := .nil)) fun w b116 hst => ?_)
 refine CN (Op1.append (news := [.int .u8 _, .int .u32 _, str _]) hst ty221 ty224 rfl rfl (.there (.here)) rfl rfl rfl (cells_of_obj (n := 3) (hst.objL (.head _)) _ rfl) rfl rfl (by omega) fun w ao57 cp58 hst => ?_)
 replace hst := hst.drop (.there (.here))
 refine AL rfl <| NSR <| ML rfl <| CN (Op1.buildStruct ty224 stf224 (.c (v := .int .u8 _) rfl (h := (.c (v := .int .u32 _) rfl (h := (.c (v := str _) rfl (h := .nil)))))) ?_)
 refine CN (Op1.buildSl (z0 := [.int .u8 0, .int .u32 0, str []]) hst ty221 ty224 rfl rfl (by kernel_rfl) (.c (v := .agg #[.int .u8 _, .int .u32 _, str _]) rfl (h := .nil)) fun w b120 hst => ?_)
 refine CN (Op1.append (news := [.int .u8 _, .int .u32 _, str _]) hst ty221 ty224 rfl rfl (.there (.here)) rfl rfl rfl (cells_of_obj (n := 3) (hst.objL (.head _)) _ rfl) rfl rfl (by omega) fun w ao59 cp60 hst => ?_)
 replace hst := hst.drop (.there (.here))
 refine AL rfl <| NSR <| ML rfl <| AL rfl <| NL <| run_ret1 Tryz.func148 rfl (TP (v := .slice _ _ _) rfl) ?_
 exact ⟨_, _, rfl, hst⟩
theorem R7ref_EnumNamed (c : Int) (q : Byts) (w : World) : Ret Tryz.prog 123 #[.int .u8 c, str q] w (fun v w' => v = numV (namesL.find? (enS c q)) ∧ St w NoM [] [] w') := by
 refine Ret.enter (args := [.int .u8 c, str q]) Tryz.func123 rfl rfl rfl ?_
 have hst := St.init w
 have hnl : namesL.length = 30 := by decide +kernel
 refine SR <| AU rfl <| AB rfl <| NSR <| CN (Op1.call0  ent148 rfl  ((R7ref_Names _).mono fun v w hp => ?_))
 obtain ⟨aoN, cpN, rfl, hp⟩ := hp
 replace hst := hst.call0 hp
 clear hp
 refine AL rfl <| NL <| SQ <| SR <| AI rfl <| NL <| run_block <| run_loop <| Run.indW [(0, .int .u8 _), (1, str _), (6, .slice _ _ _)] ⟨rfl, rfl, rfl, trivial⟩ (fun (i : Nat) => [(7, .int .i64 (i : Int))]) (fun (i : Nat) => []) (fun (i : Nat) => i ≤ namesL.length ∧ (namesL.drop i).find? (enS c q) = namesL.find? (enS c q)) (fun (i : Nat) => namesL.length - i) (0) hst ⟨Nat.zero_le _, rfl⟩ ⟨rfl, trivial⟩ ?_
 intro i f w hst hJ ih1
 refine SQ <| SR <| MI rfl <| ML rfl <| CN <| Op1.lenSl (rest := []) ty221 rfl <| CN <| Op1.lss rfl rfl <| NL <| run_cond_dec rfl (fun g2 => ?_) (fun g2 => ?_)
 · skip
   refine run_skip <| SQ <| run_block <| SR <| ML rfl <| MI rfl ?_
   obtain ⟨bs3, rfl⟩ := Res.sl_some (hst.hL _ (.head _)) (by omega)
   refine CN <| Op1.indexSl ty221 ty224 rfl rfl (by omega) (by omega) <| CN <| Op1.fieldAddr fld224_0 rfl <| CN <| Op1.load1 (v := .int .u8 _) ty5 rfl rfl (Res.sl_cell (hst.hL _ (.head _)) (flat_cell (g := nameC) (d := zeroN) nameC_len rfl (by omega))) <| MC rfl <| CN <| Op1.eql rfl rfl <| MB rfl <| RunL.splitD (d := 22) rfl (fun g4 => ?_) (fun g4 => ?_)
   · skip
     refine TK (t := 22) rfl (congrArg Value.bool (decide_eq_true g4)) <| Op1.move (v := .slice _ _ _) rfl <| TK (t := 22) rfl (congrArg Value.bool (decide_eq_true g4)) <| Op1.move (v := .int .i64 _) rfl <| TK (t := 22) rfl (congrArg Value.bool (decide_eq_true g4)) <| Op1.indexSl ty221 ty224 rfl rfl (by omega) (by omega) <| TK (t := 22) rfl (congrArg Value.bool (decide_eq_true g4)) <| Op1.fieldAddr fld224_2 rfl <| TK (t := 22) rfl (congrArg Value.bool (decide_eq_true g4)) <| Op1.load1 (v := str _) ty9 rfl rfl (Res.sl_cell (hst.hL _ (.head _)) (flat_cell (g := nameC) (d := zeroN) nameC_len rfl (by omega))) <| TK (t := 22) rfl (congrArg Value.bool (decide_eq_true g4)) <| Op1.move (v := str _) rfl <| TK (t := 22) rfl (congrArg Value.bool (decide_eq_true g4)) <| Op1.eqlS rfl rfl <| CN <| Op1.pickT (u := .bool _) (congrArg Value.bool (decide_eq_true g4)) rfl <| NL <| Run.forget [(0, .int .u8 _), (1, str _), (6, .slice _ _ _), (7, .int .i64 _), (30, .bool _)] ⟨rfl, rfl, rfl, rfl, rfl, trivial⟩ fun f => run_cond_dec rfl (fun g5 => ?_) (fun g5 => ?_)
     · skip
       refine SR <| ML rfl <| MI rfl <| CN <| Op1.indexSl ty221 ty224 rfl rfl (by omega) (by omega) <| CN <| Op1.fieldAddr fld224_1 rfl <| CN <| Op1.load1 (v := .int .u32 _) ty22 rfl rfl (Res.sl_cell (hst.hL _ (.head _)) (flat_cell (g := nameC) (d := zeroN) nameC_len rfl (by omega))) <| AU rfl <| AB rfl <| NL <| run_ret2 Tryz.func123 rfl (TP (v := .int .u32 _) rfl) (TP (v := .bool _) rfl) ?_
       rw [find_hit (d := zeroN) hJ.2 (by omega) (decide_eq_true ⟨g4, g5⟩)]
       exact ⟨rfl, hst.pure⟩
     refine run_skip <| run_inBlock <| RG <| MI rfl <| CN <| Op1.addN rfl rfl rfl (wrap_i64 (by omega) (by omega)) <| AI rfl <| NL <| run_inLoop ?_
     exact ih1 (i + 1) _ w (by omega) hst (⟨by omega, find_miss (d := zeroN) hJ.2 (by omega) (decide_eq_false (fun h => g5 h.2))⟩) ⟨rfl, rfl, rfl, trivial⟩ ⟨(congrArg (Value.int .i64) (by omega)), trivial⟩
   refine OM (t := 22) rfl (congrArg Value.bool (decide_eq_false g4)) rfl <| OM (t := 22) rfl (congrArg Value.bool (decide_eq_false g4)) rfl <| OM (t := 22) rfl (congrArg Value.bool (decide_eq_false g4)) rfl <| OM (t := 22) rfl (congrArg Value.bool (decide_eq_false g4)) rfl <| OM (t := 22) rfl (congrArg Value.bool (decide_eq_false g4)) rfl <| OM (t := 22) rfl (congrArg Value.bool (decide_eq_false g4)) rfl <| OM (t := 22) rfl (congrArg Value.bool (decide_eq_false g4)) rfl <| CN <| Op1.pickF (u := .bool _) (congrArg Value.bool (decide_eq_false g4)) rfl <| NL <| run_cond_false (congrArg Value.bool (rfl : false = _)) <| run_skip <| run_inBlock <| RG <| MI rfl <| CN (Op1.addN rfl rfl rfl (wrap_i64 (by omega) (by omega)) ?_)
   refine AI rfl <| NL <| run_inLoop ?_
   exact ih1 (i + 1) _ w (by omega) hst (⟨by omega, find_miss (d := zeroN) hJ.2 (by omega) (decide_eq_false (fun h => g4 h.1))⟩) ⟨rfl, rfl, rfl, trivial⟩ ⟨(congrArg (Value.int .i64) (by omega)), trivial⟩
 refine run_exit (id := 0) rfl <| SR <| AU rfl <| AB rfl <| NL <| run_ret2 Tryz.func123 rfl (TP (v := .int .u32 _) rfl) (TP (v := .bool _) rfl) ?_
 rw [find_end hJ.2 (by omega)]
 exact ⟨rfl, hst.pure⟩
theorem R7gr_Enums (c : Int) (w : World) : Ret Tryz.prog 199 #[.int .u8 c] w (fun v w' => ∃ b, v = .func (.func 221) #[] #[.pointer (some ⟨b, 0, none⟩)] ∧ St w NoM [Res.row b 5 [.int .u8 c]] [] w') := by
 refine Ret.enter (args := [.int .u8 c]) Tryz.func199 rfl rfl rfl ?_
 have hst := St.init w
 refine SR <| CN <| Op1.box (v := .int .u8 _) hst rfl rfl fun w b1 hst => CN <| Op1.assign (v := _) rfl <| NSR <| CN <| Op1.makeFunc <| CN <| Op1.assign (v := .func _ _ _) rfl <| NL <| run_ret1 Tryz.func199 rfl (TP (v := .func _ _ _) rfl) ?_
 exact ⟨_, rfl, hst⟩
theorem R7gr_names2 {c : Int} {s : Byts} (hs : look namesT c = s) (w : World) : Ret Tryz.prog 181 #[.int .u8 c] w fun v w' => v = str s ∧ St w NoM [] [] w' := by
 subst hs; exact R7gr_names c w
theorem R7enums_iter (c : Int) (h0 : 0 ≤ c) (h1 : c ≤ 255) (bc : Nat) (w : World) (hb : (Res.row bc 5 [.int .u8 c]).holds w) : IterOk Tryz.prog 221 [.pointer (some ⟨bc, 0, none⟩)] (enumsL c).length (fun j => [.int .u32 ((enumsL c).getD j zeroN).n, str ((enumsL c).getD j zeroN).name]) (· = bc) w := by
 intro yv R S hR hFD hy
 obtain ⟨s, hs⟩ : ∃ s, look namesT c = s := ⟨_, rfl⟩
 obtain ⟨hasc, hlen, hl⟩ := names_all h0 h1
 rw [hs] at hasc hlen hl
 have hout : (enF s).out.length = (enumsL c).length := by rw [hl]; simp
 have hlt : ∀ i (hi : i < s.length), s[i] = 32 → (enF (s.take i)).num = true → (enF (s.take i)).out.length < (enumsL c).length := fun i hi h2 h3 => by
   have := (enF_told hl hi h2 h3).1; simpa using this
 have hyx : ∀ i (hi : i < s.length), s[i] = 32 → (enF (s.take i)).num = true → ∀ w1, St w (R 0).foot [R (enF (s.take i)).out.length] [] w1 → CallV Tryz.prog yv [.int .u32 (enF (s.take i)).n, str (enF (s.take i)).word] w1 fun v w2 => (v = .bool true ∧ St w1 (R (enF (s.take i)).out.length).foot [R ((enF (s.take i)).out.length + 1)] [] w2) ∨ (v = .bool false ∧ St w1 (R (enF (s.take i)).out.length).foot [S (enF (s.take i)).out.length] [] w2) := fun i hi h2 h3 w1 hw1 => by
   have t := hy _ (hlt i hi h2 h3) w1 hw1
   have ht := (enF_told hl hi h2 h3).2
   have hk := hlt i hi h2 h3
   rw [map_getD (d := zeroN) hk] at ht
   dsimp only at t
   injection ht with e1 e2
   rwa [e1, e2] at t
 refine Ret.enter (args := [yv, .pointer (some ⟨bc, 0, none⟩)]) Tryz.func221 rfl rfl rfl ?_
 have hst : St w (R 0).foot [R 0] [Res.row bc 5 [.int .u8 c]] w := St.enter1 hR (fun d hd => by cases hd with | head => exact hb | tail _ h => cases h) (fun d hd => by cases hd with | head => exact fun b hb hb2 => hFD b hb hb2 | tail _ h => cases h)
 refine SR <| AU rfl <| AS rfl <| NSR <| AS rfl <| NSR <| AB rfl <| NL <| SQ <| RG ?_
 refine CN <| Op1.load1 (v := .int .u8 _) ty5 rfl rfl (hst.cellD (.head _) rfl) <| CN <| Op1.call1 (v1 := .int .u8 _) ent181 rfl rfl <| Ret.det (R7gr_names2 hs _) hst fun w hst => CN <| Op1.rangeS hst ty9 rfl fun w it11 hst => NL <| run_block <| run_loop <| Run.indW [(0, _), (11, .pointer (some ⟨_, 0, none⟩))] ⟨rfl, rfl, trivial⟩ (fun (i : Nat) => [(3, .int .u32 (enF (s.take i)).n), (5, str (enF (s.take i)).word), (6, .bool (enF (s.take i)).num)]) (fun (i : Nat) => [Res.iter it11 s i, R (enF (s.take i)).out.length]) (fun (i : Nat) => i ≤ s.length) (fun (i : Nat) => s.length - i) (0) hst (Nat.zero_le _) ⟨rfl, rfl, rfl, trivial⟩ ?_
 intro i f w hst hJ ih1
 refine SQ <| RG ?_
 rcases Nat.lt_or_ge i s.length with g2 | g2
 · skip
   have hc := hasc _ (List.getElem_mem g2)
   have hwl := (enF_inv s hasc i (by omega)).1
   refine CN (Op1.nextS hst rfl (.here) (List.getElem?_eq_getElem g2) (hc) fun w hst => ?_)
   refine CN <| Op1.extract (v := .bool _) rfl rfl <| NL <| SQ <| run_cond_true (congrArg Value.bool (rfl : true = _)) <| run_skip <| run_block <| SR <| CN <| Op1.extract (v := .int .i32 _) rfl rfl <| CN <| Op1.assign (v := .int .i32 _) rfl <| NL <| SQ <| run_block <| SQ <| RG ?_
   refine CN <| Op1.move (v := .int .i32 _) rfl <| CN <| Op1.neq rfl rfl <| AB rfl <| NL <| run_cond_dec rfl (fun g3 => ?_) (fun g3 => ?_)
   · skip
     refine SR <| MS rfl <| CN <| Op1.move (v := .int .i32 _) rfl <| CN <| Op1.runeStr ty21 ty9 rfl (by omega) (by omega) <| CN <| Op1.addS rfl rfl (by first | omega | (simp only [List.length_cons, List.length_nil, List.length_append]; omega) | (simp; omega)) <| AS rfl <| NL <| run_exit (id := 1) rfl <| run_inLoop ?_
     have hstep := enF_step g2
     have hsp : enF (s.take (i + 1)) = ⟨(enF (s.take i)).n, (enF (s.take i)).word ++ [s[i]], (enF (s.take i)).num, (enF (s.take i)).out⟩ := by rw [hstep]; unfold enStep; rw [if_pos (fun he => g3 (by rw [he]; rfl))]
     exact ih1 (i + 1) _ w (by omega) (by (try dsimp only); rw [hsp]; exact hst) (by omega) ⟨rfl, rfl, trivial⟩ ⟨(congrArg (Value.int .u32) (by rw [hsp])), (congrArg str (by rw [hsp]; simp)), (congrArg Value.bool (by rw [hsp])), trivial⟩
   refine SR <| MB rfl <| CN <| Op1.not rfl <| AB rfl <| NL <| run_cond_split rfl (fun g4 => ?_) (fun g4 => ?_)
   · skip
     refine RG <| MS rfl <| CN <| Op1.call1 (v1 := str _) ent222 rfl rfl <| Ret.det (R7gr_number _ (enF_inv s hasc i (by omega)).2 _) hst fun w hst => AU rfl <| NL <| run_inBlock <| SR <| MB rfl <| CN <| Op1.not rfl <| AB rfl <| NR <| AS rfl <| NL ?_
     refine run_inBlock <| run_inLoop ?_
     have hstep := enF_step g2
     have hd32 : s[i] = 32 := UInt8.toNat_inj.1 (by have : (32 : UInt8).toNat = 32 := rfl; omega)
     have hnu : (enF (s.take i)).num = false := by simpa using g4
     have hsp : enF (s.take (i + 1)) = ⟨numF (enF (s.take i)).word, [], true, (enF (s.take i)).out⟩ := by rw [hstep]; unfold enStep; rw [if_neg (by simp [hd32]), if_neg (by simp [hnu])]
     exact ih1 (i + 1) _ w (by omega) (by (try dsimp only); rw [hsp]; exact hst) (by omega) ⟨rfl, rfl, trivial⟩ ⟨(congrArg (Value.int .u32) (by rw [hsp])), (congrArg str (by rw [hsp])), (congrArg Value.bool (by rw [hsp, hnu]; rfl)), trivial⟩
   refine SR <| MS rfl <| AS rfl <| NSR <| CN <| Op1.move (v := _) rfl <| MU rfl <| MS rfl ?_
   replace hst := hst.pick (.cons (.there (.here)) (.cons (.here) .nil))
   have hc32 : s[i] = 32 := UInt8.toNat_inj.1 (by have : (32 : UInt8).toNat = 32 := rfl; omega)
   have hnum : (enF (s.take i)).num = true := by simpa using g4
   refine CN (Op1.callV2 (v1 := .int .u32 _) (v2 := str _) rfl rfl rfl ((hyx i (by omega) hc32 hnum _ hst.one).mono fun v w hp => ?_))
   rcases hp with ⟨rfl, hp⟩ | ⟨rfl, hp⟩
   · skip
     replace hst := hst.call1 hp
     clear hp
     refine CN <| Op1.not rfl <| NL <| run_cond_false (congrArg Value.bool (congrArg not (rfl : true = _))) <| run_skip <| run_inBlock <| SR <| MB rfl <| CN <| Op1.not rfl <| AB rfl <| NL <| Run.forget [(0, _), (3, .int .u32 _), (6, .bool _), (11, .pointer (some ⟨_, 0, none⟩))] ⟨rfl, rfl, rfl, rfl, trivial⟩ fun f => RG <| AS rfl <| NL ?_
     refine run_inBlock <| run_inLoop ?_
     have hstep := enF_step g2
     have hd32 : s[i] = 32 := UInt8.toNat_inj.1 (by have : (32 : UInt8).toNat = 32 := rfl; omega)
     have hnu : (enF (s.take i)).num = true := by simpa using g4
     have hsp : enF (s.take (i + 1)) = ⟨(enF (s.take i)).n, [], false, (enF (s.take i)).out ++ [((enF (s.take i)).n, (enF (s.take i)).word)]⟩ := by rw [hstep]; unfold enStep; rw [if_neg (by simp [hd32]), if_pos hnu]
     replace hst := hst.pick (.cons (.there (.here)) (.cons (.here) .nil))
     exact ih1 (i + 1) _ w (by omega) (by (try dsimp only); rw [hsp]; simp only [List.length_append, List.length_cons, List.length_nil]; exact hst) (by omega) ⟨rfl, rfl, trivial⟩ ⟨(congrArg (Value.int .u32) (by rw [hsp])), (congrArg str (by rw [hsp])), (congrArg Value.bool (by rw [hsp, hnu]; rfl)), trivial⟩
   · skip
     replace hst := hst.call1 hp
     clear hp
     refine CN <| Op1.not rfl <| NL <| run_cond_true (congrArg Value.bool (congrArg not (rfl : false = _))) <| run_ret0 Tryz.func221 rfl  ?_
     replace hst := hst.pick (.cons (.here) (.cons (.here) .nil))
     exact .inr ⟨(enF (s.take i)).out.length, hlt i (by omega) hc32 hnum, hst.one⟩
 obtain rfl : i = s.length := by omega
 refine CN <| Op1.nextE hst rfl (.head _) g2 <| CN <| Op1.extract (v := .bool _) rfl rfl <| NL <| SQ <| run_cond_false (congrArg Value.bool (rfl : false = _)) <| run_exit (id := 0) rfl <| run_end0 Tryz.func221 rfl  ?_
 replace hst := hst.pick (.cons (.there (.here)) (.cons (.here) .nil))
 rw [List.take_length, hout] at hst
 exact .inl hst.one
end Go.SK
namespace Go.SK
open Go Go.Proofs
theorem ent199 : Enters Tryz.prog 199 := ⟨Tryz.f199, _, Tryz.func199, by kernel_rfl, rfl⟩
theorem ent221 : Enters Tryz.prog 221 := ⟨Tryz.f221, _, Tryz.func221, by kernel_rfl, rfl⟩
end Go.SK
namespace Go.SK
open Go Go.Proofs
open Go.RowKit
theorem R7gr_Enum (c n : Int) (h0 : 0 ≤ c) (h1 : c ≤ 255) (w : World) : Ret Tryz.prog 152 #[.int .u8 c, .int .u32 n] w (fun v w' => v = nameV (namesL.find? (enN c n)) ∧ St w NoM [] [] w') := by
 refine Ret.enter (args := [.int .u8 c, .int .u32 n]) Tryz.func152 rfl rfl rfl ?_
 have hst := St.init w
 refine SR <| CN <| Op1.box (v := .int .u32 _) hst rfl rfl fun w b3 hst => CN <| Op1.alloc hst ty9 fun w b4 hst => CN <| Op1.alloc hst ty4 fun w b5 hst => NL <| SQ <| SR <| MC rfl <| CN (Op1.call1 (v1 := .int .u8 _) ent199 rfl rfl ((R7gr_Enums _ _).mono fun v w hp => ?_))
 obtain ⟨bc, rfl, hp⟩ := hp
 replace hst := hst.call0 hp
 clear hp
 refine NL <| run_block ?_
 replace hst := hst.addProp (p := ((enumsL c).drop 0).find? (fun x => decide (x.n = n)) = (enumsL c).find? (fun x => decide (x.n = n))) (rfl)
 replace hst := hst.pick (.cons (.here) (.cons (.there (.there (.here))) (.cons (.there (.here)) (.cons (.here) (.cons (.here) .nil)))))
 refine run_rangeIter (L1 := [_, _, _]) (L2 := [_, _]) (item := (fun j => [.int .u32 ((enumsL c).getD j zeroN).n, str ((enumsL c).getD j zeroN).name])) (FD := (· = bc)) (fun i => [Res.prop (((enumsL c).drop i).find? (fun x => decide (x.n = n)) = (enumsL c).find? (fun x => decide (x.n = n))), Res.row b4 9 [str []], Res.row b5 4 [.bool false]]) (fun i => [Res.prop ((enumsL c).find? (fun x => decide (x.n = n)) = some ((enumsL c).getD i zeroN)), Res.row b4 9 [str ((enumsL c).getD i zeroN).name], Res.row b5 4 [.bool true]]) (fun _ => .ret) hst rfl rfl ent221 (fun b hb => .inl (by subst hb; exact ⟨_, (.head _), rfl⟩)) (fun w1 hw1 => R7enums_iter c h0 h1 bc w1 (hw1.hL _ (.tail _ (.tail _ (.tail _ (.head _)))))) (fun _ _ => rfl) ?_ ?_ ?_
 · intro i hi w bl br lp hlp hst hk
   have hprop : ((enumsL c).drop i).find? (fun x => decide (x.n = n)) = (enumsL c).find? (fun x => decide (x.n = n)) := hst.hL _ (.tail _ (.tail _ (.head _)))
   refine SR <| AU rfl <| NR <| AS rfl <| NL <| run_beginR hlp hst (.here) fun w hst => run_block <| SR <| MU rfl <| CN <| Op1.load1 (v := .int .u32 _) ty22 rfl rfl (hst.cellD (.tail _ (.head _)) rfl) <| CN <| Op1.eql rfl rfl <| NL ?_
   refine run_cond_dec rfl (fun g1 => ?_) (fun g1 => ?_)
   · skip
     refine SR <| MS rfl <| CN (SO (v := str _) hst ty9 rfl rfl (.there (.there (.there (.here)))) fun w hst => ?_)
     refine CN (SO (v := .bool _) hst ty4 rfl rfl (.there (.there (.there (.there (.here))))) fun w hst => ?_)
     refine NL <| run_retR hst (.here) fun w hst => ?_
     replace hst := hst.addProp (p := (enumsL c).find? (fun x => decide (x.n = n)) = some ((enumsL c).getD i zeroN)) (find_hit (d := zeroN) hprop hi (decide_eq_true g1))
     replace hst := hst.pick (.cons (.there (.here)) (.cons (.there (.here)) (.cons (.here) (.cons (.there (.here)) (.cons (.there (.here)) .nil)))))
     exact .inr ⟨rfl, _, hst⟩
   refine run_skip <| run_inBlock <| run_endR hlp hst (.here) fun w hst => ?_
   replace hst := hst.addProp (p := ((enumsL c).drop (i + 1)).find? (fun x => decide (x.n = n)) = (enumsL c).find? (fun x => decide (x.n = n))) (find_miss (d := zeroN) hprop hi (decide_eq_false g1))
   replace hst := hst.pick (.cons (.there (.here)) (.cons (.there (.here)) (.cons (.here) (.cons (.there (.here)) (.cons (.there (.here)) .nil)))))
   exact .inl ⟨rfl, _, hst⟩
 · intro w bl br lp hst
   have hall : ((enumsL c).drop (enumsL c).length).find? (fun x => decide (x.n = n)) = (enumsL c).find? (fun x => decide (x.n = n)) := hst.hL _ (.tail _ (.tail _ (.head _)))
   refine run_inBlock <| SR <| CN (SO (v := str _) hst ty9 rfl rfl (.there (.there (.there (.here)))) fun w hst => ?_)
   refine CN (SO (v := .bool _) hst ty4 rfl rfl (.there (.there (.there (.there (.here))))) fun w hst => ?_)
   refine NL ?_
   replace hst := hst.pick (.cons (.there (.here)) (.cons (.here) (.cons (.here) (.cons (.here) (.cons (.here) (.cons (.here) (.cons (.here) .nil)))))))
   refine run_ret_marks [br] Tryz.func152 hst fun w hst => ⟨_, res2 rfl (RV.cell1 (v := str _) rfl ty9 rfl (hst.cellL (.tail _ (.tail _ (.head _))) rfl)) (RV.cell1 (v := .bool _) rfl ty4 rfl (hst.cellL (.tail _ (.tail _ (.tail _ (.head _)))) rfl)), ?_⟩
   rw [← enums_find, find_end hall (Nat.le_refl _)]
   exact ⟨rfl, hst.pure⟩
 · intro i hi w bl br lp hst
   have hs : (enumsL c).find? (fun x => decide (x.n = n)) = some ((enumsL c).getD i zeroN) := hst.hL _ (.tail _ (.tail _ (.head _)))
   replace hst := hst.pick (.cons (.there (.here)) (.cons (.here) (.cons (.here) (.cons (.here) (.cons (.here) (.cons (.here) (.cons (.here) .nil)))))))
   refine run_ret_marks [br] Tryz.func152 hst fun w hst => ⟨_, res2 rfl (RV.cell1 (v := str _) rfl ty9 rfl (hst.cellL (.tail _ (.tail _ (.head _))) rfl)) (RV.cell1 (v := .bool _) rfl ty4 rfl (hst.cellL (.tail _ (.tail _ (.tail _ (.head _)))) rfl)), ?_⟩
   rw [← enums_find, hs]
   exact ⟨rfl, hst.pure⟩
theorem R7gr_EnumNamed (c : Int) (q : Byts) (h0 : 0 ≤ c) (h1 : c ≤ 255) (w : World) : Ret Tryz.prog 209 #[.int .u8 c, str q] w (fun v w' => v = numV (namesL.find? (enS c q)) ∧ St w NoM [] [] w') := by
 refine Ret.enter (args := [.int .u8 c, str q]) Tryz.func209 rfl rfl rfl ?_
 have hst := St.init w
 refine SR <| CN <| Op1.box (v := str _) hst rfl rfl fun w b3 hst => CN <| Op1.alloc hst ty22 fun w b4 hst => CN <| Op1.alloc hst ty4 fun w b5 hst => NL <| SQ <| SR <| MC rfl <| CN (Op1.call1 (v1 := .int .u8 _) ent199 rfl rfl ((R7gr_Enums _ _).mono fun v w hp => ?_))
 obtain ⟨bc, rfl, hp⟩ := hp
 replace hst := hst.call0 hp
 clear hp
 refine NL <| run_block ?_
 replace hst := hst.addProp (p := ((enumsL c).drop 0).find? (fun x => decide (x.name = q)) = (enumsL c).find? (fun x => decide (x.name = q))) (rfl)
 replace hst := hst.pick (.cons (.here) (.cons (.there (.there (.here))) (.cons (.there (.here)) (.cons (.here) (.cons (.here) .nil)))))
 refine run_rangeIter (L1 := [_, _, _]) (L2 := [_, _]) (item := (fun j => [.int .u32 ((enumsL c).getD j zeroN).n, str ((enumsL c).getD j zeroN).name])) (FD := (· = bc)) (fun i => [Res.prop (((enumsL c).drop i).find? (fun x => decide (x.name = q)) = (enumsL c).find? (fun x => decide (x.name = q))), Res.row b4 22 [.int .u32 0], Res.row b5 4 [.bool false]]) (fun i => [Res.prop ((enumsL c).find? (fun x => decide (x.name = q)) = some ((enumsL c).getD i zeroN)), Res.row b4 22 [.int .u32 ((enumsL c).getD i zeroN).n], Res.row b5 4 [.bool true]]) (fun _ => .ret) hst rfl rfl ent221 (fun b hb => .inl (by subst hb; exact ⟨_, (.head _), rfl⟩)) (fun w1 hw1 => R7enums_iter c h0 h1 bc w1 (hw1.hL _ (.tail _ (.tail _ (.tail _ (.head _)))))) (fun _ _ => rfl) ?_ ?_ ?_
 · intro i hi w bl br lp hlp hst hk
   have hprop : ((enumsL c).drop i).find? (fun x => decide (x.name = q)) = (enumsL c).find? (fun x => decide (x.name = q)) := hst.hL _ (.tail _ (.tail _ (.head _)))
   refine SR <| AU rfl <| NR <| AS rfl <| NL <| run_beginR hlp hst (.here) fun w hst => run_block <| SR <| MS rfl <| CN <| Op1.load1 (v := str _) ty9 rfl rfl (hst.cellD (.tail _ (.head _)) rfl) <| CN <| Op1.eqlS rfl rfl <| NL ?_
   refine run_cond_dec rfl (fun g1 => ?_) (fun g1 => ?_)
   · skip
     refine SR <| MU rfl <| CN (SO (v := .int .u32 _) hst ty22 rfl rfl (.there (.there (.there (.here)))) fun w hst => ?_)
     refine CN (SO (v := .bool _) hst ty4 rfl rfl (.there (.there (.there (.there (.here))))) fun w hst => ?_)
     refine NL <| run_retR hst (.here) fun w hst => ?_
     replace hst := hst.addProp (p := (enumsL c).find? (fun x => decide (x.name = q)) = some ((enumsL c).getD i zeroN)) (find_hit (d := zeroN) hprop hi (decide_eq_true g1))
     replace hst := hst.pick (.cons (.there (.here)) (.cons (.there (.here)) (.cons (.here) (.cons (.there (.here)) (.cons (.there (.here)) .nil)))))
     exact .inr ⟨rfl, _, hst⟩
   refine run_skip <| run_inBlock <| run_endR hlp hst (.here) fun w hst => ?_
   replace hst := hst.addProp (p := ((enumsL c).drop (i + 1)).find? (fun x => decide (x.name = q)) = (enumsL c).find? (fun x => decide (x.name = q))) (find_miss (d := zeroN) hprop hi (decide_eq_false g1))
   replace hst := hst.pick (.cons (.there (.here)) (.cons (.there (.here)) (.cons (.here) (.cons (.there (.here)) (.cons (.there (.here)) .nil)))))
   exact .inl ⟨rfl, _, hst⟩
 · intro w bl br lp hst
   have hall : ((enumsL c).drop (enumsL c).length).find? (fun x => decide (x.name = q)) = (enumsL c).find? (fun x => decide (x.name = q)) := hst.hL _ (.tail _ (.tail _ (.head _)))
   refine run_inBlock <| SR <| CN (SO (v := .int .u32 _) hst ty22 rfl rfl (.there (.there (.there (.here)))) fun w hst => ?_)
   refine CN (SO (v := .bool _) hst ty4 rfl rfl (.there (.there (.there (.there (.here))))) fun w hst => ?_)
   refine NL ?_
   replace hst := hst.pick (.cons (.there (.here)) (.cons (.here) (.cons (.here) (.cons (.here) (.cons (.here) (.cons (.here) (.cons (.here) .nil)))))))
   refine run_ret_marks [br] Tryz.func209 hst fun w hst => ⟨_, res2 rfl (RV.cell1 (v := .int .u32 _) rfl ty22 rfl (hst.cellL (.tail _ (.tail _ (.head _))) rfl)) (RV.cell1 (v := .bool _) rfl ty4 rfl (hst.cellL (.tail _ (.tail _ (.tail _ (.head _)))) rfl)), ?_⟩
   rw [← enums_findS, find_end hall (Nat.le_refl _)]
   exact ⟨rfl, hst.pure⟩
 · intro i hi w bl br lp hst
   have hs : (enumsL c).find? (fun x => decide (x.name = q)) = some ((enumsL c).getD i zeroN) := hst.hL _ (.tail _ (.tail _ (.head _)))
   replace hst := hst.pick (.cons (.there (.here)) (.cons (.here) (.cons (.here) (.cons (.here) (.cons (.here) (.cons (.here) (.cons (.here) .nil)))))))
   refine run_ret_marks [br] Tryz.func209 hst fun w hst => ⟨_, res2 rfl (RV.cell1 (v := .int .u32 _) rfl ty22 rfl (hst.cellL (.tail _ (.tail _ (.head _))) rfl)) (RV.cell1 (v := .bool _) rfl ty4 rfl (hst.cellL (.tail _ (.tail _ (.tail _ (.head _)))) rfl)), ?_⟩
   rw [← enums_findS, hs]
   exact ⟨rfl, hst.pure⟩
end Go.SK
namespace Go.SK
open Go Go.Proofs
theorem ent75 : Enters Tryz.prog 75 := ⟨Tryz.f75, _, Tryz.func75, by kernel_rfl, rfl⟩
theorem ty41 : TyF Tryz.prog 41 (.int .u16) 1 2 [.int .u16 0] := TyF.of (by kernel_rfl) (by kernel_rfl)
theorem ent90 : Enters Tryz.prog 90 := ⟨Tryz.f90, _, Tryz.func90, by kernel_rfl, rfl⟩
theorem ty194 : TyF Tryz.prog 194 (.slice 113) 1 24 [.slice none 0 0] := TyF.of (by kernel_rfl) (by kernel_rfl)
end Go.SK
namespace Go.SK
open Go Go.Proofs
open Go.RowKit
theorem R7gr_All  (w : World) : Ret Tryz.prog 171 #[] w (fun v w' => v = .func (.func 206) #[] #[] ∧ St w NoM [] [] w') := by
 refine Ret.enter (args := []) Tryz.func171 rfl rfl rfl ?_
 have hst := St.init w
 refine SR <| CN <| Op1.assign (v := _) rfl <| NSR <| CN <| Op1.assign (v := .func _ _ _) rfl <| NL <| run_ret1 Tryz.func171 rfl (TP (v := .func _ _ _) rfl) ?_
 exact ⟨rfl, hst.pure⟩
theorem R7all_iter (w : World) : IterOk Tryz.prog 206 [] refT.length (fun j => [.agg (formC (refT.getD j zeroF)).toArray]) (fun _ => False) w := by
 intro yv R S hR hFD hy
 have hyx : ∀ n : Nat, n < 256 → (refS (n : Int)).isSome = true → ∀ w1, St w (R 0).foot [R (allL n).length] [] w1 → CallV Tryz.prog yv [.agg (formC ((refS (n : Int)).getD zeroF)).toArray] w1 fun v w2 => (v = .bool true ∧ St w1 (R (allL n).length).foot [R ((allL n).length + 1)] [] w2) ∨ (v = .bool false ∧ St w1 (R (allL n).length).foot [S (allL n).length] [] w2) := fun n hn hs w1 hw1 => by
   have hk := (all_step hn).2 hs
   have t := hy _ hk.2 w1 hw1
   dsimp only at t
   rwa [hk.1] at t
 refine Ret.enter (args := [yv]) Tryz.func206 rfl rfl rfl ?_
 have hst : St w (R 0).foot [R 0] [] w := St.enter1 hR (fun d hd => by cases hd) (fun d hd => by cases hd)
 refine SR <| MH rfl <| NL <| run_block <| run_loop <| Run.indW [(0, _)] ⟨rfl, trivial⟩ (fun (n : Nat) => [(5, .int .u16 (n : Int))]) (fun (n : Nat) => [R (allL n).length]) (fun (n : Nat) => n ≤ 256) (fun (n : Nat) => 256 - n) (0) (by (try dsimp only); rw [all_0]; exact hst) (Nat.zero_le _) ⟨rfl, trivial⟩ ?_
 intro n f w hst hJ ih1
 refine SR <| CN <| Op1.lss rfl rfl <| NL <| SQ <| run_cond_dec rfl (fun g2 => ?_) (fun g2 => ?_)
 · skip
   refine run_skip <| SQ <| run_block <| SR <| MH rfl <| AH rfl <| NSR <| MH rfl <| CN <| Op1.call1 (v1 := .int .u16 _) ent75 rfl rfl <| Ret.det (R7gr_Of _ (by omega) _) hst fun w hst => CN <| Op1.move (v := .tuple #[.agg #[.int .u16 _, str _, .bool _, .bool _, str _, str _, .int .i64 _, .int .u8 _], .bool _]) rfl <| CN <| Op1.extract (v := .agg #[.int .u16 _, str _, .bool _, .bool _, str _, str _, .int .i64 _, .int .u8 _]) rfl rfl <| CN (Op1.extract (v := .bool _) rfl rfl ?_)
   refine CN <| Op1.alloc hst ty113 fun w b3 hst => CN (SO (v := .agg #[.int .u16 _, str _, .bool _, .bool _, str _, str _, .int .i64 _, .int .u8 _]) hst ty113 rfl rfl (.here) fun w hst => ?_)
   refine AB rfl <| NSR <| MB rfl <| MB rfl <| RunL.split (d := 14) rfl (fun g3 => ?_) (fun g3 => ?_)
   · skip
     refine TK (t := 14) rfl (congrArg Value.bool g3) <| Op1.move (v := _) rfl <| TK (t := 14) rfl (congrArg Value.bool g3) (Op1.loadA (vs := [.int .u16 _, str _, .bool _, .bool _, str _, str _, .int .i64 _, .int .u8 _]) ty113 rfl rfl rfl (cells_of_obj (n := 8) (hst.objL (.head _)) _ rfl) ?_)
     replace hst := hst.pick (.cons (.there (.here)) (.cons (.here) .nil))
     refine TK (t := 14) rfl (congrArg Value.bool g3) (Op1.callV1 (v1 := .agg #[.int .u16 _, str _, .bool _, .bool _, str _, str _, .int .i64 _, .int .u8 _]) rfl rfl ((hyx n (by omega) g3 _ hst.one).mono fun v w hp => ?_))
     rcases hp with ⟨rfl, hp⟩ | ⟨rfl, hp⟩
     · skip
       replace hst := hst.call1 hp
       clear hp
       refine TK (t := 14) rfl (congrArg Value.bool g3) <| Op1.not rfl <| CN <| Op1.pickT (u := .bool _) (congrArg Value.bool g3) rfl <| NL <| run_cond_false (congrArg Value.bool (congrArg not (rfl : true = _))) <| run_skip <| run_inBlock <| RG <| CN <| Op1.addN rfl rfl rfl (wrap_u16 (by omega) (by omega)) <| MH rfl <| NL <| run_inLoop ?_
       replace hst := hst.pick (.cons (.here) .nil)
       exact ih1 (n + 1) _ w (by omega) (by (try dsimp only); rw [all_some (by omega) g3]; simp only [List.length_append, List.length_singleton]; exact hst) (by omega) ⟨rfl, trivial⟩ ⟨(congrArg (Value.int .u16) (by omega)), trivial⟩
     · skip
       replace hst := hst.call1 hp
       clear hp
       refine TK (t := 14) rfl (congrArg Value.bool g3) <| Op1.not rfl <| CN <| Op1.pickT (u := .bool _) (congrArg Value.bool g3) rfl <| NL <| run_cond_true (congrArg Value.bool (congrArg not (rfl : false = _))) <| run_ret0 Tryz.func206 rfl  ?_
       replace hst := hst.pick (.cons (.here) (.cons (.here) .nil))
       exact .inr ⟨(allL n).length, ((all_step (by omega)).2 g3).2, hst.one⟩
   refine OM (t := 14) rfl (congrArg Value.bool g3) rfl <| OM (t := 14) rfl (congrArg Value.bool g3) rfl <| OM (t := 14) rfl (congrArg Value.bool g3) rfl <| OM (t := 14) rfl (congrArg Value.bool g3) rfl <| CN <| Op1.pickF (u := .bool _) (congrArg Value.bool g3) rfl <| NL <| run_cond_false (congrArg Value.bool (rfl : false = _)) <| run_skip <| run_inBlock <| RG <| CN <| Op1.addN rfl rfl rfl (wrap_u16 (by omega) (by omega)) <| MH rfl <| NL <| run_inLoop ?_
   replace hst := hst.pick (.cons (.there (.here)) .nil)
   exact ih1 (n + 1) _ w (by omega) (by (try dsimp only); rw [all_none (by omega) g3]; exact hst) (by omega) ⟨rfl, trivial⟩ ⟨(congrArg (Value.int .u16) (by omega)), trivial⟩
 refine run_exit (id := 0) rfl <| run_end0 Tryz.func206 rfl  ?_
 replace hst := hst.pick (.cons (.here) .nil)
 obtain rfl : n = 256 := by omega
 rw [all_256] at hst
 exact .inl hst.one
theorem R7ref_All  (w : World) : Ret Tryz.prog 119 #[] w (fun v w' => ∃ ao cp, v = .slice ao refT.length cp ∧ St w NoM [Res.sl ao refT.length cp 113 8 (refT.flatMap formC)] [] w') := by
 refine Ret.enter (args := []) Tryz.func119 rfl rfl rfl ?_
 have hst := St.init w
 refine SR <| AL rfl <| NSR <| AL rfl <| NL <| SQ <| SR <| AI rfl <| NL <| run_block <| run_loop ?_
 replace hst := hst.pushNil 113 8
 refine Run.indW [] trivial (fun (q : Nat × Option Addr × Nat) => [(1, .slice q.2.1 (allL q.1).length q.2.2), (2, .int .i64 (q.1 : Int))]) (fun (q : Nat × Option Addr × Nat) => [Res.sl q.2.1 (allL q.1).length q.2.2 113 8 ((allL q.1).flatMap formC)]) (fun (q : Nat × Option Addr × Nat) => q.1 ≤ 256) (fun (q : Nat × Option Addr × Nat) => 256 - q.1) ((0, none, 0)) (by (try dsimp only); rw [all_0]; exact hst) (Nat.zero_le _) ⟨(by (try dsimp only); rw [all_0]; rfl), rfl, trivial⟩ ?_
 intro ⟨n, ao, cp⟩ f w hst hJ ih1
 replace hst : St _ _ ([Res.sl ao (allL n).length cp 113 8 ((allL n).flatMap formC)] ++ []) _ _ := hst
 replace hJ : n ≤ 256 := hJ
 refine Run.slots (sl := [(1, .slice ao (allL n).length cp), (2, .int .i64 (n : Int))]) ⟨rfl, rfl, trivial⟩ <| SQ <| SR <| MI rfl <| CN <| Op1.lss rfl rfl <| NL <| run_cond_dec rfl (fun g2 => ?_) (fun g2 => ?_)
 · skip
   have hal := all_len n
   refine run_skip <| SQ <| run_block <| SR <| MI rfl ?_
   first | refine CN (Op1.convN ty3 ty41 rfl (wrap_u16 (by omega) (by omega)) ?_) | refine CN (Op1.conv ty3 ty41 rfl ?_)
   refine CN <| Op1.call1 (v1 := .int .u16 _) ent90 rfl rfl <| Ret.det (R7ref_Of _ _) hst fun w hst => CN <| Op1.move (v := .tuple #[.agg #[.int .u16 _, str _, .bool _, .bool _, str _, str _, .int .i64 _, .int .u8 _], .bool _]) rfl <| CN <| Op1.extract (v := .agg #[.int .u16 _, str _, .bool _, .bool _, str _, str _, .int .i64 _, .int .u8 _]) rfl rfl <| CN <| Op1.extract (v := .bool _) rfl rfl <| CN <| Op1.alloc hst ty113 fun w b3 hst => CN (SO (v := .agg #[.int .u16 _, str _, .bool _, .bool _, str _, str _, .int .i64 _, .int .u8 _]) hst ty113 rfl rfl (.here) fun w hst => ?_)
   refine AB rfl <| NSR <| MB rfl <| NL <| run_cond_split rfl (fun g3 => ?_) (fun g3 => ?_)
   · skip
     refine RG <| ML rfl <| CN <| Op1.loadA (vs := [.int .u16 _, str _, .bool _, .bool _, str _, str _, .int .i64 _, .int .u8 _]) ty113 rfl rfl rfl (cells_of_obj (n := 8) (hst.objL (.head _)) _ rfl) <| CN (Op1.buildSl (z0 := [.int .u16 0, str [], .bool false, .bool false, str [], str [], .int .i64 0, .int .u8 0]) hst ty194 ty113 rfl rfl (by kernel_rfl) (.c (v := .agg #[.int .u16 _, str _, .bool _, .bool _, str _, str _, .int .i64 _, .int .u8 _]) rfl (h := .nil)) fun w b18 hst => ?_)
     refine CN (Op1.append (news := [.int .u16 _, str _, .bool _, .bool _, str _, str _, .int .i64 _, .int .u8 _]) hst ty194 ty113 rfl rfl (.there (.there (.here))) rfl rfl rfl (cells_of_obj (n := 8) (hst.objL (.head _)) _ rfl) rfl rfl (by omega) fun w ao4 cp5 hst => ?_)
     replace hst := hst.drop (.there (.here))
     refine AL rfl <| NL <| run_inBlock <| RG <| MI rfl <| CN <| Op1.addN rfl rfl rfl (wrap_i64 (by omega) (by omega)) <| AI rfl <| NL <| run_inLoop ?_
     replace hst := hst.pick (.cons (.here) .nil)
     exact ih1 ((n + 1, ao4, cp5)) _ w (by (try dsimp only); omega) (by (try dsimp only); rw [all_some (by omega) g3, ← Res.sl_snoc]; exact hst) (by (try dsimp only); omega) trivial ⟨(by (try dsimp only); rw [all_some (by omega) g3]; simp only [List.length_append, List.length_singleton]; rfl), (congrArg (Value.int .i64) (by (try dsimp only); omega)), trivial⟩
   refine run_skip <| run_inBlock <| RG <| MI rfl <| CN <| Op1.addN rfl rfl rfl (wrap_i64 (by omega) (by omega)) <| AI rfl <| NL <| run_inLoop ?_
   replace hst := hst.pick (.cons (.there (.here)) .nil)
   exact ih1 ((n + 1, ao, cp)) _ w (by (try dsimp only); omega) (by (try dsimp only); rw [all_none (by omega) g3]; exact hst) (by (try dsimp only); omega) trivial ⟨(by (try dsimp only); rw [all_none (by omega) g3]; rfl), (congrArg (Value.int .i64) (by (try dsimp only); omega)), trivial⟩
 obtain rfl : n = 256 := by omega
 rw [all_256] at hst
 refine run_exit (id := 0) rfl <| SR <| ML rfl <| AL rfl <| NL <| run_ret1 Tryz.func119 rfl (TP (v := .slice _ _ _) rfl) ?_
 exact ⟨_, _, (by rw [all_256]), hst⟩
end Go.SK
namespace Go.SK
open Go Go.Proofs
theorem ent171 : Enters Tryz.prog 171 := ⟨Tryz.f171, _, Tryz.func171, by kernel_rfl, rfl⟩
theorem ent206 : Enters Tryz.prog 206 := ⟨Tryz.f206, _, Tryz.func206, by kernel_rfl, rfl⟩
theorem fld113_1 : FldF Tryz.prog 113 1 1 := FldF.of (n := 0) (by kernel_rfl)
theorem ent119 : Enters Tryz.prog 119 := ⟨Tryz.f119, _, Tryz.func119, by kernel_rfl, rfl⟩
theorem fld244_0 : FldF Tryz.prog 244 0 0 := FldF.of (n := 7) (by kernel_rfl)
theorem fld113_4 : FldF Tryz.prog 113 4 4 := FldF.of (n := 0) (by kernel_rfl)
theorem fld113_5 : FldF Tryz.prog 113 5 5 := FldF.of (n := 0) (by kernel_rfl)
theorem ty244 : TyF Tryz.prog 244 (.struct (fieldsOf Tryz.prog 244)) 8 80 [.int .u16 0, str [], .bool false, .bool false, str [], str [], .int .i64 0, .int .u8 0] := TyF.of (by kernel_rfl) (by kernel_rfl)
theorem ty272 : TyF Tryz.prog 272 (.slice 245) 1 24 [.slice none 0 0] := TyF.of (by kernel_rfl) (by kernel_rfl)
theorem ty245 : TyF Tryz.prog 245 (.func #[3] #[5] false) 1 8 [.nilFunc] := TyF.of (by kernel_rfl) (by kernel_rfl)
theorem ent207 : Enters Tryz.prog 207 := ⟨Tryz.f207, _, Tryz.func207, by kernel_rfl, rfl⟩
theorem ent208 : Enters Tryz.prog 208 := ⟨Tryz.f208, _, Tryz.func208, by kernel_rfl, rfl⟩
theorem stf244 : StructF Tryz.prog 244 [(0, 8)] := ⟨fieldsOf Tryz.prog 244, by kernel_rfl, fun w => by kernel_rfl⟩
theorem ent172 : Enters Tryz.prog 172 := ⟨Tryz.f172, _, Tryz.func172, by kernel_rfl, rfl⟩
end Go.SK
namespace Go.SK
open Go Go.Proofs
open Go.RowKit
theorem R7gr_Named (q : Byts) (w : World) : Ret Tryz.prog 127 #[str q] w (fun v w' => v = formV (refT.find? (nmF q)) ∧ St w NoM [] [] w') := by
 refine Ret.enter (args := [str q]) Tryz.func127 rfl rfl rfl ?_
 have hst := St.init w
 refine SR <| CN <| Op1.box (v := str _) hst rfl rfl fun w b1 hst => CN <| Op1.alloc hst ty113 fun w b2 hst => CN <| Op1.alloc hst ty4 fun w b3 hst => NL <| SQ <| SR <| CN <| Op1.call0  ent171 rfl  <| Ret.det (R7gr_All _) hst fun w hst => NL <| run_block ?_
 replace hst := hst.addProp (p := (refT.drop 0).find? (nmF q) = refT.find? (nmF q)) (rfl)
 replace hst := hst.pick (.cons (.here) (.cons (.there (.here)) (.cons (.here) (.cons (.here) .nil))))
 refine run_rangeIter (L1 := [_, _, _]) (L2 := [_]) (item := (fun j => [.agg (formC (refT.getD j zeroF)).toArray])) (FD := (fun _ => False)) (fun i => [Res.prop ((refT.drop i).find? (nmF q) = refT.find? (nmF q)), Res.row b2 113 [.int .u16 zeroF.op, str zeroF.name, .bool zeroF.ty, .bool zeroF.res, str zeroF.fixed, str zeroF.rest, .int .i64 zeroF.most, .int .u8 zeroF.part], Res.row b3 4 [.bool false]]) (fun i => [Res.prop (refT.find? (nmF q) = some (refT.getD i zeroF)), Res.row b2 113 [.int .u16 (refT.getD i zeroF).op, str (refT.getD i zeroF).name, .bool (refT.getD i zeroF).ty, .bool (refT.getD i zeroF).res, str (refT.getD i zeroF).fixed, str (refT.getD i zeroF).rest, .int .i64 (refT.getD i zeroF).most, .int .u8 (refT.getD i zeroF).part], Res.row b3 4 [.bool true]]) (fun _ => .ret) hst rfl rfl ent206 (fun b hb => hb.elim) (fun w1 _ => R7all_iter w1) (fun _ _ => rfl) ?_ ?_ ?_
 · intro i hi w bl br lp hlp hst hk
   have hprop : (refT.drop i).find? (nmF q) = refT.find? (nmF q) := hst.hL _ (.tail _ (.tail _ (.head _)))
   refine RG <| CN <| Op1.alloc hst ty113 fun w b4 hst => CN (SO (v := .agg #[.int .u16 _, str _, .bool _, .bool _, str _, str _, .int .i64 _, .int .u8 _]) hst ty113 rfl rfl (.here) fun w hst => ?_)
   refine NL <| run_beginR hlp hst (.there (.here)) fun w hst => run_block <| SR <| CN <| Op1.fieldAddr fld113_1 rfl <| CN <| Op1.load1 (v := str _) ty9 rfl rfl (hst.cellL (.head _) rfl) <| CN <| Op1.load1 (v := str _) ty9 rfl rfl (hst.cellD (.head _) rfl) <| CN <| Op1.eqlS rfl rfl <| NL <| run_cond_dec rfl (fun g1 => ?_) (fun g1 => ?_)
   · skip
     refine SR <| CN <| Op1.loadA (vs := [.int .u16 _, str _, .bool _, .bool _, str _, str _, .int .i64 _, .int .u8 _]) ty113 rfl rfl rfl (cells_of_obj (n := 8) (hst.objL (.head _)) _ rfl) <| CN (SO (v := .agg #[.int .u16 _, str _, .bool _, .bool _, str _, str _, .int .i64 _, .int .u8 _]) hst ty113 rfl rfl (.there (.there (.there (.there (.here))))) fun w hst => ?_)
     refine CN (SO (v := .bool _) hst ty4 rfl rfl (.there (.there (.there (.there (.there (.here)))))) fun w hst => ?_)
     refine NL <| run_retR hst (.there (.here)) fun w hst => ?_
     replace hst := hst.addProp (p := refT.find? (nmF q) = some (refT.getD i zeroF)) (find_hit (d := zeroF) hprop hi (decide_eq_true g1))
     replace hst := hst.pick (.cons (.there (.there (.here))) (.cons (.there (.there (.here))) (.cons (.here) (.cons (.there (.there (.here))) (.cons (.there (.there (.here))) .nil)))))
     exact .inr ⟨rfl, _, hst⟩
   refine run_skip <| run_inBlock <| run_endR hlp hst (.there (.here)) fun w hst => ?_
   replace hst := hst.addProp (p := (refT.drop (i + 1)).find? (nmF q) = refT.find? (nmF q)) (find_miss (d := zeroF) hprop hi (decide_eq_false g1))
   replace hst := hst.pick (.cons (.there (.there (.here))) (.cons (.there (.there (.here))) (.cons (.here) (.cons (.there (.there (.here))) (.cons (.there (.there (.here))) .nil)))))
   exact .inl ⟨rfl, _, hst⟩
 · intro w bl br lp hst
   have hall : (refT.drop refT.length).find? (nmF q) = refT.find? (nmF q) := hst.hL _ (.tail _ (.tail _ (.head _)))
   refine run_inBlock <| SR <| CN (Op1.buildStruct ty113 stf113 .nil ?_)
   refine CN (SO (v := .agg #[.int .u16 _, str _, .bool _, .bool _, str _, str _, .int .i64 _, .int .u8 _]) hst ty113 rfl rfl (.there (.there (.there (.here)))) fun w hst => ?_)
   refine CN (SO (v := .bool _) hst ty4 rfl rfl (.there (.there (.there (.there (.here))))) fun w hst => ?_)
   refine NL ?_
   replace hst := hst.pick (.cons (.there (.here)) (.cons (.here) (.cons (.here) (.cons (.here) (.cons (.here) (.cons (.here) .nil))))))
   refine run_ret_marks [br] Tryz.func127 hst fun w hst => ⟨_, res2 rfl (RV.cellA (vs := [.int .u16 _, str _, .bool _, .bool _, str _, str _, .int .i64 _, .int .u8 _]) rfl ty113 rfl rfl (cells_of_obj (n := 8) (hst.objL (.tail _ (.tail _ (.head _)))) _ rfl)) (RV.cell1 (v := .bool _) rfl ty4 rfl (hst.cellL (.tail _ (.tail _ (.tail _ (.head _)))) rfl)), ?_⟩
   rw [find_end hall (Nat.le_refl _)]
   exact ⟨rfl, hst.pure⟩
 · intro i hi w bl br lp hst
   have hs : refT.find? (nmF q) = some (refT.getD i zeroF) := hst.hL _ (.tail _ (.tail _ (.head _)))
   replace hst := hst.pick (.cons (.there (.here)) (.cons (.here) (.cons (.here) (.cons (.here) (.cons (.here) (.cons (.here) .nil))))))
   refine run_ret_marks [br] Tryz.func127 hst fun w hst => ⟨_, res2 rfl (RV.cellA (vs := [.int .u16 _, str _, .bool _, .bool _, str _, str _, .int .i64 _, .int .u8 _]) rfl ty113 rfl rfl (cells_of_obj (n := 8) (hst.objL (.tail _ (.tail _ (.head _)))) _ rfl)) (RV.cell1 (v := .bool _) rfl ty4 rfl (hst.cellL (.tail _ (.tail _ (.tail _ (.head _)))) rfl)), ?_⟩
   rw [hs]
   exact ⟨rfl, hst.pure⟩
theorem R7ref_Named (q : Byts) (w : World) : Ret Tryz.prog 66 #[str q] w (fun v w' => v = formV (refT.find? (nmF q)) ∧ St w NoM [] [] w') := by
 refine Ret.enter (args := [str q]) Tryz.func66 rfl rfl rfl ?_
 have hst := St.init w
 have hrl := refT_len
 refine SR <| CN <| Op1.alloc hst ty113 fun w b2 hst => AB rfl <| NSR <| CN (Op1.call0  ent119 rfl  ((R7ref_All _).mono fun v w hp => ?_))
 obtain ⟨aoF, cpF, rfl, hp⟩ := hp
 replace hst := hst.call0 hp
 clear hp
 refine AL rfl <| NL <| SQ <| SR <| AI rfl <| NL <| run_block <| run_loop <| Run.indW [(0, str _), (2, .pointer (some ⟨_, _, none⟩)), (4, .slice _ _ _)] ⟨rfl, rfl, rfl, trivial⟩ (fun (i : Nat) => [(5, .int .i64 (i : Int))]) (fun (i : Nat) => []) (fun (i : Nat) => i ≤ refT.length ∧ (refT.drop i).find? (nmF q) = refT.find? (nmF q)) (fun (i : Nat) => refT.length - i) (0) hst ⟨Nat.zero_le _, rfl⟩ ⟨rfl, trivial⟩ ?_
 intro i f w hst hJ ih1
 refine SQ <| SR <| MI rfl <| ML rfl <| CN <| Op1.lenSl (rest := []) ty194 rfl <| CN <| Op1.lss rfl rfl <| NL <| run_cond_dec rfl (fun g2 => ?_) (fun g2 => ?_)
 · skip
   refine run_skip <| SQ <| run_block <| SQ ?_
   obtain ⟨bs3, rfl⟩ := Res.sl_some (hst.hL _ (.head _)) (by omega)
   refine RG <| ML rfl <| MI rfl <| CN <| Op1.indexSl ty194 ty113 rfl rfl (by omega) (by omega) <| CN <| Op1.fieldAddr fld113_1 rfl <| CN <| Op1.load1 (v := str _) ty9 rfl rfl (Res.sl_cell (hst.hL _ (.head _)) (flat_cell (g := formC) (d := zeroF) formC_len rfl (by omega))) <| MS rfl <| CN <| Op1.eqlS rfl rfl <| NL <| run_cond_dec rfl (fun g4 => ?_) (fun g4 => ?_)
   · skip
     refine SR <| ML rfl <| MI rfl <| CN <| Op1.indexSl ty194 ty113 rfl rfl (by omega) (by omega) <| CN <| Op1.loadA (vs := [.int .u16 _, str _, .bool _, .bool _, str _, str _, .int .i64 _, .int .u8 _]) ty113 rfl rfl rfl (Res.sl_cells (k := 8) (hst.hL _ (.head _)) _ (flat_seg (g := formC) (d := zeroF) formC_len _ _ (by omega))) <| CN (SO (v := .agg #[.int .u16 _, str _, .bool _, .bool _, str _, str _, .int .i64 _, .int .u8 _]) hst ty113 rfl rfl (.there (.here)) fun w hst => ?_)
     refine AB rfl <| NL <| run_ret2 Tryz.func66 rfl (RV.cellA (vs := [.int .u16 _, str _, .bool _, .bool _, str _, str _, .int .i64 _, .int .u8 _]) rfl ty113 rfl rfl (cells_of_obj (n := 8) (hst.objL (.tail _ (.head _))) _ rfl)) (TP (v := .bool _) rfl) ?_
     rw [find_hit (d := zeroF) hJ.2 (by omega) (decide_eq_true g4)]
     exact ⟨rfl, hst.pure⟩
   refine run_skip <| run_inBlock <| RG <| MI rfl <| CN <| Op1.addN rfl rfl rfl (wrap_i64 (by omega) (by omega)) <| AI rfl <| NL <| run_inLoop ?_
   exact ih1 (i + 1) _ w (by omega) hst (⟨by omega, find_miss (d := zeroF) hJ.2 (by omega) (decide_eq_false g4)⟩) ⟨rfl, rfl, rfl, trivial⟩ ⟨(congrArg (Value.int .i64) (by omega)), trivial⟩
 refine run_exit (id := 0) rfl <| SR <| CN (Op1.buildStruct ty113 stf113 .nil ?_)
 refine CN (SO (v := .agg #[.int .u16 _, str _, .bool _, .bool _, str _, str _, .int .i64 _, .int .u8 _]) hst ty113 rfl rfl (.there (.here)) fun w hst => ?_)
 refine AB rfl <| NL <| run_ret2 Tryz.func66 rfl (RV.cellA (vs := [.int .u16 _, str _, .bool _, .bool _, str _, str _, .int .i64 _, .int .u8 _]) rfl ty113 rfl rfl (cells_of_obj (n := 8) (hst.objL (.tail _ (.head _))) _ rfl)) (TP (v := .bool _) rfl) ?_
 rw [find_end hJ.2 (by omega)]
 exact ⟨rfl, hst.pure⟩
theorem R7gr_Kind (c : Int) (w : World) : Ret Tryz.prog 138 #[.int .u8 c] w (fun v w' => v = .int .u8 (kindS c) ∧ St w NoM [] [] w') := by
 refine Ret.enter (args := [.int .u8 c]) Tryz.func138 rfl rfl rfl ?_
 have hst := St.init w
 refine SR <| AC rfl <| NL <| SQ <| SR <| MC rfl <| NL <| run_block <| SR <| CN <| Op1.eql rfl rfl <| AB rfl <| NL ?_
 refine run_cond_dec rfl (fun g1 => ?_) (fun g1 => ?_)
 · skip
   refine SR <| AC rfl <| NL <| run_ret1 Tryz.func138 rfl (TP (v := .int .u8 _) rfl) <| ⟨congrArg (Value.int .u8) (Eq.symm ?_), hst.pure⟩
   unfold kindS
   rw [if_pos g1]
 refine SR <| CN <| Op1.eql rfl rfl <| AB rfl <| NL <| run_cond_dec rfl (fun g2 => ?_) (fun g2 => ?_)
 · skip
   refine SR <| AC rfl <| NL <| run_ret1 Tryz.func138 rfl (TP (v := .int .u8 _) rfl) <| ⟨congrArg (Value.int .u8) (Eq.symm ?_), hst.pure⟩
   unfold kindS
   rw [if_neg g1, if_pos g2]
 refine SR <| CN <| Op1.eql rfl rfl <| AB rfl <| NL <| run_cond_dec rfl (fun g3 => ?_) (fun g3 => ?_)
 · skip
   refine SR <| AC rfl <| NL <| run_ret1 Tryz.func138 rfl (TP (v := .int .u8 _) rfl) <| ⟨congrArg (Value.int .u8) (Eq.symm ?_), hst.pure⟩
   unfold kindS
   rw [if_neg g1, if_neg g2, if_pos g3]
 refine run_skip <| run_inBlock <| SQ <| SR <| MC rfl <| CN <| Op1.call1 (v1 := .int .u8 _) ent181 rfl rfl <| Ret.det (R7gr_names _ _) hst fun w hst => CN <| Op1.neqS rfl rfl <| NL <| run_cond_dec rfl (fun g4 => ?_) (fun g4 => ?_)
 · skip
   refine SR <| AC rfl <| NL <| run_ret1 Tryz.func138 rfl (TP (v := .int .u8 _) rfl) <| ⟨congrArg (Value.int .u8) (Eq.symm ?_), hst.pure⟩
   unfold kindS
   rw [if_neg g1, if_neg g2, if_neg g3, if_pos g4]
 refine run_skip <| SR <| AC rfl <| NL <| run_ret1 Tryz.func138 rfl (TP (v := .int .u8 _) rfl) <| ⟨congrArg (Value.int .u8) (Eq.symm ?_), hst.pure⟩
 unfold kindS
 rw [if_neg g1, if_neg g2, if_neg g3, if_neg g4]
theorem R7ref_Kind (c : Int) (h0 : 0 ≤ c) (h1 : c ≤ 255) (w : World) : Ret Tryz.prog 124 #[.int .u8 c] w (fun v w' => v = .int .u8 (kindS c) ∧ St w NoM [] [] w') := by
 refine Ret.enter (args := [.int .u8 c]) Tryz.func124 rfl rfl rfl ?_
 have hst := St.init w
 have hnl : namesL.length = 30 := by decide +kernel
 refine SR <| AC rfl <| NL <| SQ <| SR <| MC rfl <| CN <| Op1.eql rfl rfl <| NL <| run_cond_dec rfl (fun g1 => ?_) (fun g1 => ?_)
 · skip
   refine SR <| AC rfl <| NL <| run_ret1 Tryz.func124 rfl (TP (v := .int .u8 _) rfl) <| ⟨congrArg (Value.int .u8) (Eq.symm ?_), hst.pure⟩
   unfold kindS
   rw [if_pos g1]
 refine run_skip <| SQ <| SR <| MC rfl <| CN <| Op1.eql rfl rfl <| NL <| run_cond_dec rfl (fun g2 => ?_) (fun g2 => ?_)
 · skip
   refine SR <| AC rfl <| NL <| run_ret1 Tryz.func124 rfl (TP (v := .int .u8 _) rfl) <| ⟨congrArg (Value.int .u8) (Eq.symm ?_), hst.pure⟩
   unfold kindS
   rw [if_neg g1, if_pos g2]
 refine run_skip <| SQ <| SR <| MC rfl <| CN <| Op1.eql rfl rfl <| NL <| run_cond_dec rfl (fun g3 => ?_) (fun g3 => ?_)
 · skip
   refine SR <| AC rfl <| NL <| run_ret1 Tryz.func124 rfl (TP (v := .int .u8 _) rfl) <| ⟨congrArg (Value.int .u8) (Eq.symm ?_), hst.pure⟩
   unfold kindS
   rw [if_neg g1, if_neg g2, if_pos g3]
 refine run_skip <| SR <| CN (Op1.call0  ent148 rfl  ((R7ref_Names _).mono fun v w hp => ?_))
 obtain ⟨aoN, cpN, rfl, hp⟩ := hp
 replace hst := hst.call0 hp
 clear hp
 refine AL rfl <| NL <| SQ <| SR <| AI rfl <| NL <| run_block <| run_loop <| Run.indW [(0, .int .u8 _), (3, .slice _ _ _)] ⟨rfl, rfl, trivial⟩ (fun (i : Nat) => [(4, .int .i64 (i : Int))]) (fun (i : Nat) => []) (fun (i : Nat) => i ≤ namesL.length ∧ (namesL.drop i).find? (fun x => decide (x.letter = c)) = namesL.find? (fun x => decide (x.letter = c))) (fun (i : Nat) => namesL.length - i) (0) hst ⟨Nat.zero_le _, rfl⟩ ⟨rfl, trivial⟩ ?_
 intro i f w hst hJ ih4
 refine SQ <| SR <| MI rfl <| ML rfl <| CN <| Op1.lenSl (rest := []) ty221 rfl <| CN <| Op1.lss rfl rfl <| NL <| run_cond_dec rfl (fun g5 => ?_) (fun g5 => ?_)
 · skip
   refine run_skip <| SQ <| run_block <| SR <| ML rfl <| MI rfl ?_
   obtain ⟨bs6, rfl⟩ := Res.sl_some (hst.hL _ (.head _)) (by omega)
   refine CN <| Op1.indexSl ty221 ty224 rfl rfl (by omega) (by omega) <| CN <| Op1.fieldAddr fld224_0 rfl <| CN <| Op1.load1 (v := .int .u8 _) ty5 rfl rfl (Res.sl_cell (hst.hL _ (.head _)) (flat_cell (g := nameC) (d := zeroN) nameC_len rfl (by omega))) <| MC rfl <| CN <| Op1.eql rfl rfl <| NL <| run_cond_dec rfl (fun g7 => ?_) (fun g7 => ?_)
   · skip
     refine SR <| AC rfl <| NL <| run_ret1 Tryz.func124 rfl (TP (v := .int .u8 _) rfl) <| ⟨congrArg (Value.int .u8) (Eq.symm ?_), hst.pure⟩
     unfold kindS
     rw [if_neg g1, if_neg g2, if_neg g3]
     rw [if_pos ((names_any h0 h1).2 (by rw [find_hit (d := zeroN) hJ.2 (by omega) (decide_eq_true g7)]; rfl))]
   refine run_skip <| run_inBlock <| RG <| MI rfl <| CN <| Op1.addN rfl rfl rfl (wrap_i64 (by omega) (by omega)) <| AI rfl <| NL <| run_inLoop ?_
   exact ih4 (i + 1) _ w (by omega) hst (⟨by omega, find_miss (d := zeroN) hJ.2 (by omega) (decide_eq_false g7)⟩) ⟨rfl, rfl, trivial⟩ ⟨(congrArg (Value.int .i64) (by omega)), trivial⟩
 refine run_exit (id := 0) rfl <| SR <| AC rfl <| NL <| run_ret1 Tryz.func124 rfl (TP (v := .int .u8 _) rfl) <| ⟨congrArg (Value.int .u8) (Eq.symm ?_), hst.pure⟩
 unfold kindS
 rw [if_neg g1, if_neg g2, if_neg g3]
 rw [if_neg (fun h => absurd ((names_any h0 h1).1 h) (by rw [find_end hJ.2 (by omega)]; simp))]
theorem R7gr_fixed (fm : FormL) (hf : FOk fm) (i : Int) (h0 : 0 ≤ i) (h1 : i ≤ 9223372036854775807) (w : World) : Ret Tryz.prog 207 #[.agg #[.int .u16 fm.op, str fm.name, .bool fm.ty, .bool fm.res, str fm.fixed, str fm.rest, .int .i64 fm.most, .int .u8 fm.part], .int .i64 i] w (fun v w' => v = .int .u8 (fixS fm i) ∧ St w NoM [] [] w') := by
 refine Ret.enter (args := [.agg #[.int .u16 fm.op, str fm.name, .bool fm.ty, .bool fm.res, str fm.fixed, str fm.rest, .int .i64 fm.most, .int .u8 fm.part], .int .i64 i]) Tryz.func207 rfl rfl rfl ?_
 have hst := St.init w
 obtain ⟨hop, hmost, hfx, hrs, _, _, hf0, hr0⟩ := hf
 refine SR <| CN <| Op1.box (v := .agg #[.int .u16 _, str _, .bool _, .bool _, str _, str _, .int .i64 _, .int .u8 _]) hst rfl rfl fun w b2 hst => AC rfl <| NL <| SQ <| SR <| MI rfl <| CN <| Op1.lss rfl rfl <| MB rfl <| RunL.splitD (d := 7) rfl (fun g1 => ?_) (fun g1 => ?_)
 · skip
   refine OM (t := 7) rfl (congrArg Value.bool (decide_eq_true g1)) rfl <| OM (t := 7) rfl (congrArg Value.bool (decide_eq_true g1)) rfl <| OM (t := 7) rfl (congrArg Value.bool (decide_eq_true g1)) rfl <| OM (t := 7) rfl (congrArg Value.bool (decide_eq_true g1)) rfl <| OM (t := 7) rfl (congrArg Value.bool (decide_eq_true g1)) rfl <| OM (t := 7) rfl (congrArg Value.bool (decide_eq_true g1)) rfl <| CN <| Op1.pickT (u := .bool _) (congrArg Value.bool (decide_eq_true g1)) rfl <| NL <| run_cond_true (congrArg Value.bool (rfl : true = _)) <| SR <| AC rfl <| NL <| run_ret1 Tryz.func207 rfl (TP (v := .int .u8 _) rfl) <| ⟨congrArg (Value.int .u8) (Eq.symm ?_), hst.pure⟩
   unfold fixS
   first | exact if_pos (by omega) | exact if_neg (by omega)
 refine TK (t := 7) rfl (congrArg Value.bool (decide_eq_false g1)) <| Op1.move (v := .int .i64 _) rfl <| TK (t := 7) rfl (congrArg Value.bool (decide_eq_false g1)) <| Op1.fieldAddr fld244_0 rfl <| TK (t := 7) rfl (congrArg Value.bool (decide_eq_false g1)) <| Op1.fieldAddr fld113_4 rfl <| TK (t := 7) rfl (congrArg Value.bool (decide_eq_false g1)) <| Op1.load1 (v := str _) ty9 rfl rfl (hst.cellL (.head _) rfl) <| TK (t := 7) rfl (congrArg Value.bool (decide_eq_false g1)) <| Op1.lenS (rest := []) ty9 rfl <| TK (t := 7) rfl (congrArg Value.bool (decide_eq_false g1)) <| Op1.geq rfl rfl <| CN <| Op1.pickF (u := .bool _) (congrArg Value.bool (decide_eq_false g1)) rfl <| NL <| run_cond_dec rfl (fun g2 => ?_) (fun g2 => ?_)
 · skip
   refine SR <| AC rfl <| NL <| run_ret1 Tryz.func207 rfl (TP (v := .int .u8 _) rfl) <| ⟨congrArg (Value.int .u8) (Eq.symm ?_), hst.pure⟩
   unfold fixS
   first | exact if_pos (by omega) | exact if_neg (by omega)
 refine run_skip <| SR <| CN <| Op1.fieldAddr fld244_0 rfl <| CN <| Op1.fieldAddr fld113_4 rfl <| CN <| Op1.load1 (v := str _) ty9 rfl rfl (hst.cellL (.head _) rfl) <| MI rfl <| CN <| Op1.indexS ty9 rfl rfl (by omega) (by omega) <| AC rfl <| NL <| run_ret1 Tryz.func207 rfl (TP (v := .int .u8 _) rfl) <| ⟨congrArg (Value.int .u8) (Eq.symm ?_), hst.pure⟩
 unfold fixS
 first | exact if_pos (by omega) | exact if_neg (by omega)
theorem R7gr_rest (fm : FormL) (hf : FOk fm) (i : Int) (h0 : 0 ≤ i) (h1 : i ≤ 9223372036854775807) (w : World) : Ret Tryz.prog 208 #[.agg #[.int .u16 fm.op, str fm.name, .bool fm.ty, .bool fm.res, str fm.fixed, str fm.rest, .int .i64 fm.most, .int .u8 fm.part], .int .i64 i] w (fun v w' => v = .int .u8 (restS fm i) ∧ St w NoM [] [] w') := by
 refine Ret.enter (args := [.agg #[.int .u16 fm.op, str fm.name, .bool fm.ty, .bool fm.res, str fm.fixed, str fm.rest, .int .i64 fm.most, .int .u8 fm.part], .int .i64 i]) Tryz.func208 rfl rfl rfl ?_
 have hst := St.init w
 obtain ⟨hop, hmost, hfx, hrs, _, _, hf0, hr0⟩ := hf
 refine SR <| CN <| Op1.box (v := .agg #[.int .u16 _, str _, .bool _, .bool _, str _, str _, .int .i64 _, .int .u8 _]) hst rfl rfl fun w b2 hst => AC rfl <| NSR <| MI rfl <| CN <| Op1.fieldAddr fld244_0 rfl <| CN <| Op1.fieldAddr fld113_4 rfl <| CN <| Op1.load1 (v := str _) ty9 rfl rfl (hst.cellL (.head _) rfl) <| CN <| Op1.lenS (rest := []) ty9 rfl <| CN <| Op1.subN rfl rfl rfl (wrap_i64 (by omega) (by omega)) <| AI rfl <| NL ?_
 refine SQ <| SR <| MI rfl <| CN <| Op1.lss rfl rfl <| MB rfl <| RunL.splitD (d := 13) rfl (fun g1 => ?_) (fun g1 => ?_)
 · skip
   refine OM (t := 13) rfl (congrArg Value.bool (decide_eq_true g1)) rfl <| OM (t := 13) rfl (congrArg Value.bool (decide_eq_true g1)) rfl <| OM (t := 13) rfl (congrArg Value.bool (decide_eq_true g1)) rfl <| OM (t := 13) rfl (congrArg Value.bool (decide_eq_true g1)) rfl <| CN <| Op1.pickT (u := .bool _) (congrArg Value.bool (decide_eq_true g1)) rfl <| MB rfl <| OM (t := 19) rfl (congrArg Value.bool (rfl : true = _)) rfl <| OM (t := 19) rfl (congrArg Value.bool (rfl : true = _)) rfl <| OM (t := 19) rfl (congrArg Value.bool (rfl : true = _)) rfl <| OM (t := 19) rfl (congrArg Value.bool (rfl : true = _)) rfl <| OM (t := 19) rfl (congrArg Value.bool (rfl : true = _)) rfl <| RunL.omitU (t := 24) rfl rfl <| RunL.omitU (t := 24) rfl rfl <| RunL.omitU (t := 24) rfl rfl <| RunL.omitU (t := 24) rfl rfl ?_
   refine RunL.omitU (t := 24) rfl rfl <| RunL.omitU (t := 24) rfl rfl <| RunL.omitU (t := 24) rfl rfl <| RunL.omitU (t := 24) rfl rfl <| RunL.omitU (t := 24) rfl rfl <| RunL.omitU (t := 24) rfl rfl <| OM (t := 19) rfl (congrArg Value.bool (rfl : true = _)) rfl <| CN <| Op1.pickT (u := .bool _) (congrArg Value.bool (rfl : true = _)) rfl <| NL <| run_cond_true (congrArg Value.bool (rfl : true = _)) <| SR <| AC rfl <| NL <| run_ret1 Tryz.func208 rfl (TP (v := .int .u8 _) rfl) ?_
   refine ⟨congrArg (Value.int .u8) (Eq.symm ?_), hst.pure⟩
   unfold restS
   first | exact if_pos (by first | omega | (simp_all <;> omega)) | exact if_neg (by first | omega | (simp_all <;> omega))
 refine TK (t := 13) rfl (congrArg Value.bool (decide_eq_false g1)) <| Op1.fieldAddr fld244_0 rfl <| TK (t := 13) rfl (congrArg Value.bool (decide_eq_false g1)) <| Op1.fieldAddr fld113_5 rfl <| TK (t := 13) rfl (congrArg Value.bool (decide_eq_false g1)) <| Op1.load1 (v := str _) ty9 rfl rfl (hst.cellL (.head _) rfl) <| TK (t := 13) rfl (congrArg Value.bool (decide_eq_false g1)) <| Op1.eqlS rfl rfl <| CN <| Op1.pickF (u := .bool _) (congrArg Value.bool (decide_eq_false g1)) rfl <| MB rfl <| RunL.splitD (d := 19) rfl (fun g2 => ?_) (fun g2 => ?_)
 · skip
   refine OM (t := 19) rfl (congrArg Value.bool (decide_eq_true g2)) rfl <| OM (t := 19) rfl (congrArg Value.bool (decide_eq_true g2)) rfl <| OM (t := 19) rfl (congrArg Value.bool (decide_eq_true g2)) rfl <| OM (t := 19) rfl (congrArg Value.bool (decide_eq_true g2)) rfl <| OM (t := 19) rfl (congrArg Value.bool (decide_eq_true g2)) rfl <| RunL.omitU (t := 24) rfl rfl <| RunL.omitU (t := 24) rfl rfl <| RunL.omitU (t := 24) rfl rfl <| RunL.omitU (t := 24) rfl rfl <| RunL.omitU (t := 24) rfl rfl <| RunL.omitU (t := 24) rfl rfl <| RunL.omitU (t := 24) rfl rfl <| RunL.omitU (t := 24) rfl rfl <| RunL.omitU (t := 24) rfl rfl <| RunL.omitU (t := 24) rfl rfl ?_
   refine OM (t := 19) rfl (congrArg Value.bool (decide_eq_true g2)) rfl <| CN <| Op1.pickT (u := .bool _) (congrArg Value.bool (decide_eq_true g2)) rfl <| NL <| Run.forget [(1, .int .i64 _), (2, .pointer (some ⟨_, _, none⟩)), (36, .bool _)] ⟨rfl, rfl, rfl, trivial⟩ fun f => run_cond_true (congrArg Value.bool (rfl : true = _)) <| SR <| AC rfl <| NL <| run_ret1 Tryz.func208 rfl (TP (v := .int .u8 _) rfl) <| ⟨congrArg (Value.int .u8) (Eq.symm ?_), hst.pure⟩
   unfold restS
   first | exact if_pos (by first | omega | (simp_all <;> omega)) | exact if_neg (by first | omega | (simp_all <;> omega))
 refine TK (t := 19) rfl (congrArg Value.bool (decide_eq_false g2)) <| Op1.fieldAddr fld244_0 rfl <| TK (t := 19) rfl (congrArg Value.bool (decide_eq_false g2)) <| Op1.fieldAddr fld113_6 rfl <| TK (t := 19) rfl (congrArg Value.bool (decide_eq_false g2)) <| Op1.load1 (v := .int .i64 _) ty3 rfl rfl (hst.cellL (.head _) rfl) <| TK (t := 19) rfl (congrArg Value.bool (decide_eq_false g2)) <| Op1.gtr rfl rfl <| TK (t := 19) rfl (congrArg Value.bool (decide_eq_false g2)) <| Op1.move (v := .bool _) rfl <| RunL.splitD (d := 24) rfl (fun g3 => ?_) (fun g3 => ?_)
 · skip
   refine TK (t := 24) rfl (congrArg Value.bool (decide_eq_true g3)) <| Op1.move (v := .int .i64 _) rfl <| TK (t := 24) rfl (congrArg Value.bool (decide_eq_true g3)) <| Op1.fieldAddr fld244_0 rfl <| TK (t := 24) rfl (congrArg Value.bool (decide_eq_true g3)) <| Op1.fieldAddr fld113_6 rfl <| TK (t := 24) rfl (congrArg Value.bool (decide_eq_true g3)) <| Op1.load1 (v := .int .i64 _) ty3 rfl rfl (hst.cellL (.head _) rfl) <| TK (t := 24) rfl (congrArg Value.bool (decide_eq_true g3)) <| Op1.fieldAddr fld244_0 rfl <| TK (t := 24) rfl (congrArg Value.bool (decide_eq_true g3)) <| Op1.fieldAddr fld113_5 rfl <| TK (t := 24) rfl (congrArg Value.bool (decide_eq_true g3)) <| Op1.load1 (v := str _) ty9 rfl rfl (hst.cellL (.head _) rfl) <| TK (t := 24) rfl (congrArg Value.bool (decide_eq_true g3)) (Op1.lenS (rest := []) ty9 rfl ?_)
   first | refine TK (t := 24) rfl (congrArg Value.bool (decide_eq_true g3)) (Op1.mulN rfl rfl rfl (wrap_i64 (by omega) (by omega)) ?_) | refine TK (t := 24) rfl (congrArg Value.bool (decide_eq_true g3)) (Op1.mulB rfl rfl (by omega) (by omega) (by omega) (by omega) (fun hm4 hm5 => ?_))
   refine TK (t := 24) rfl (congrArg Value.bool (decide_eq_true g3)) <| Op1.geq rfl rfl <| TK (t := 19) rfl (congrArg Value.bool (decide_eq_false g2)) <| Op1.pickT (u := .bool _) (congrArg Value.bool (decide_eq_true g3)) rfl <| CN <| Op1.pickF (u := .bool _) (congrArg Value.bool (decide_eq_false g2)) rfl <| NL <| Run.forget [(1, .int .i64 _), (2, .pointer (some ⟨_, _, none⟩)), (36, .bool _)] ⟨rfl, rfl, rfl, trivial⟩ fun f => run_cond_dec rfl (fun g6 => ?_) (fun g6 => ?_)
   · skip
     refine SR <| AC rfl <| NL <| run_ret1 Tryz.func208 rfl (TP (v := .int .u8 _) rfl) <| ⟨congrArg (Value.int .u8) (Eq.symm ?_), hst.pure⟩
     unfold restS
     first | exact if_pos (by first | omega | (simp_all <;> omega)) | exact if_neg (by first | omega | (simp_all <;> omega))
   have hrp : 0 < fm.rest.length := List.length_pos_iff.2 g2
   have hmd := Int.emod_lt_of_pos (i - (fm.fixed.length : Int)) (show (0 : Int) < fm.rest.length by omega)
   have hmn := Int.emod_nonneg (i - (fm.fixed.length : Int)) (show (fm.rest.length : Int) ≠ 0 by omega)
   refine run_skip <| SQ <| RunD.start [] hst (bs := [0, 1, 3, 0, 0, 16, 48, 112, 248, 511, 1023]) (ds := [some 37, some 38, some 39, some 40, some 41, some 42, some 43, some 44, some 45, some 46, some 4]) ⟨by kernel_rfl, by kernel_rfl, by kernel_rfl⟩ (fun tab7 => ?_)
   refine RunD.op (det _) tab7 1 (fun f' L' w' hc => Op1.fieldAddr fld244_0 (hc.old (v := .pointer (some ⟨_, _, none⟩)) rfl rfl rfl) ⟨[], ⟨rfl, rfl⟩, hc.st⟩) <| RunD.op (det _) tab7 2 (fun f' L' w' hc => Op1.fieldAddr fld113_5 (hc.det (j := 0) rfl rfl rfl rfl) ⟨[], ⟨rfl, rfl⟩, hc.st⟩) <| RunD.op (det _) tab7 3 (fun f' L' w' hc => Op1.load1 (v := str _) ty9 rfl (hc.det (j := 1) rfl rfl rfl rfl) (hc.st.cellL (List.mem_append_right _ (.head _)) rfl) ⟨[], ⟨rfl, rfl⟩, hc.st⟩) <| RunD.op (det _) tab7 4 (fun f' L' w' hc => Op1.move (v := .int .i64 _) (hc.old (v := .int .i64 _) rfl rfl rfl) ⟨[], ⟨rfl, rfl⟩, hc.st⟩) <| RunD.op (det _) tab7 5 (fun f' L' w' hc => Op1.fieldAddr fld244_0 (hc.old (v := .pointer (some ⟨_, _, none⟩)) rfl rfl rfl) ⟨[], ⟨rfl, rfl⟩, hc.st⟩) <| RunD.op (det _) tab7 6 (fun f' L' w' hc => Op1.fieldAddr fld113_5 (hc.det (j := 4) rfl rfl rfl rfl) ⟨[], ⟨rfl, rfl⟩, hc.st⟩) <| RunD.op (det _) tab7 7 (fun f' L' w' hc => Op1.load1 (v := str _) ty9 rfl (hc.det (j := 5) rfl rfl rfl rfl) (hc.st.cellL (List.mem_append_right _ (.head _)) rfl) ⟨[], ⟨rfl, rfl⟩, hc.st⟩) <| RunD.op (det _) tab7 8 (fun f' L' w' hc => Op1.lenS (rest := []) ty9 (hc.det (j := 6) rfl rfl rfl rfl) ⟨[], ⟨rfl, rfl⟩, hc.st⟩) ?_
   first | refine RunD.op (det _) tab7 9 (fun f' L' w' hc => Op1.remN (hc.det (j := 3) rfl rfl rfl rfl) (hc.det (j := 7) rfl rfl rfl rfl) (by omega) (by omega) rfl ⟨[], ⟨rfl, rfl⟩, hc.st⟩) ?_ | refine RunD.op (det _) tab7 9 (fun f' L' w' hc => Op1.rem (hc.det (j := 3) rfl rfl rfl rfl) (hc.det (j := 7) rfl rfl rfl rfl) (by omega) ⟨[], ⟨rfl, rfl⟩, hc.st⟩) ?_
   refine RunD.fin followsMixed tab7 hst rfl (fun f8 w R11 hs9 hd10 hr12 hst => ?_)
   obtain ⟨h37_, r0⟩ := hd10 0 37 rfl rfl
   obtain ⟨h38_, r1⟩ := hd10 1 38 rfl rfl
   obtain ⟨h39_, r2⟩ := hd10 2 39 rfl rfl
   obtain ⟨h40_, r3⟩ := hd10 3 40 rfl rfl
   obtain ⟨h41_, r4⟩ := hd10 4 41 rfl rfl
   obtain ⟨h42_, r5⟩ := hd10 5 42 rfl rfl
   obtain ⟨h43_, r6⟩ := hd10 6 43 rfl rfl
   obtain ⟨h44_, r7⟩ := hd10 7 44 rfl rfl
   obtain ⟨h45_, r8⟩ := hd10 8 45 rfl rfl
   simp only [show List.range 9 = [0, 1, 2, 3, 4, 5, 6, 7, 8] from rfl, List.flatMap_cons, List.flatMap_nil, List.map_cons, List.map_nil, r0, r1, r2, r3, r4, r5, r6, r7, r8, List.nil_append, List.append_nil, List.cons_append] at hst
   refine RunL.slots (sl := [(39, str _), (45, .int .i64 _)]) ⟨h39_, h45_, trivial⟩ ?_
   clear hs9 hd10 hr12 tab7
   refine CN <| Op1.indexS ty9 rfl rfl (by omega) (by omega) <| AC rfl <| NL <| run_ret1 Tryz.func208 rfl (TP (v := .int .u8 _) rfl) <| ⟨congrArg (Value.int .u8) (Eq.symm ?_), hst.pure⟩
   unfold restS
   first | exact if_pos (by first | omega | (simp_all <;> omega)) | exact if_neg (by first | omega | (simp_all <;> omega))
 refine OM (t := 24) rfl (congrArg Value.bool (decide_eq_false g3)) rfl <| OM (t := 24) rfl (congrArg Value.bool (decide_eq_false g3)) rfl <| OM (t := 24) rfl (congrArg Value.bool (decide_eq_false g3)) rfl <| OM (t := 24) rfl (congrArg Value.bool (decide_eq_false g3)) rfl <| OM (t := 24) rfl (congrArg Value.bool (decide_eq_false g3)) rfl <| OM (t := 24) rfl (congrArg Value.bool (decide_eq_false g3)) rfl <| OM (t := 24) rfl (congrArg Value.bool (decide_eq_false g3)) rfl <| OM (t := 24) rfl (congrArg Value.bool (decide_eq_false g3)) rfl <| OM (t := 24) rfl (congrArg Value.bool (decide_eq_false g3)) rfl <| OM (t := 24) rfl (congrArg Value.bool (decide_eq_false g3)) rfl <| TK (t := 19) rfl (congrArg Value.bool (decide_eq_false g2)) <| Op1.pickF (u := .bool _) (congrArg Value.bool (decide_eq_false g3)) rfl <| CN <| Op1.pickF (u := .bool _) (congrArg Value.bool (decide_eq_false g2)) rfl <| NL <| Run.forget [(1, .int .i64 _), (2, .pointer (some ⟨_, _, none⟩)), (36, .bool _)] ⟨rfl, rfl, rfl, trivial⟩ (fun f => ?_)
 have hrp : 0 < fm.rest.length := List.length_pos_iff.2 g2
 have hmd := Int.emod_lt_of_pos (i - (fm.fixed.length : Int)) (show (0 : Int) < fm.rest.length by omega)
 have hmn := Int.emod_nonneg (i - (fm.fixed.length : Int)) (show (fm.rest.length : Int) ≠ 0 by omega)
 refine run_cond_false (congrArg Value.bool (rfl : false = _)) <| run_skip <| SQ <| RunD.start [] hst (bs := [0, 1, 3, 0, 0, 16, 48, 112, 248, 511, 1023]) (ds := [some 37, some 38, some 39, some 40, some 41, some 42, some 43, some 44, some 45, some 46, some 4]) ⟨by kernel_rfl, by kernel_rfl, by kernel_rfl⟩ (fun tab13 => ?_)
 refine RunD.op (det _) tab13 1 (fun f' L' w' hc => Op1.fieldAddr fld244_0 (hc.old (v := .pointer (some ⟨_, _, none⟩)) rfl rfl rfl) ⟨[], ⟨rfl, rfl⟩, hc.st⟩) <| RunD.op (det _) tab13 2 (fun f' L' w' hc => Op1.fieldAddr fld113_5 (hc.det (j := 0) rfl rfl rfl rfl) ⟨[], ⟨rfl, rfl⟩, hc.st⟩) <| RunD.op (det _) tab13 3 (fun f' L' w' hc => Op1.load1 (v := str _) ty9 rfl (hc.det (j := 1) rfl rfl rfl rfl) (hc.st.cellL (List.mem_append_right _ (.head _)) rfl) ⟨[], ⟨rfl, rfl⟩, hc.st⟩) <| RunD.op (det _) tab13 4 (fun f' L' w' hc => Op1.move (v := .int .i64 _) (hc.old (v := .int .i64 _) rfl rfl rfl) ⟨[], ⟨rfl, rfl⟩, hc.st⟩) <| RunD.op (det _) tab13 5 (fun f' L' w' hc => Op1.fieldAddr fld244_0 (hc.old (v := .pointer (some ⟨_, _, none⟩)) rfl rfl rfl) ⟨[], ⟨rfl, rfl⟩, hc.st⟩) <| RunD.op (det _) tab13 6 (fun f' L' w' hc => Op1.fieldAddr fld113_5 (hc.det (j := 4) rfl rfl rfl rfl) ⟨[], ⟨rfl, rfl⟩, hc.st⟩) <| RunD.op (det _) tab13 7 (fun f' L' w' hc => Op1.load1 (v := str _) ty9 rfl (hc.det (j := 5) rfl rfl rfl rfl) (hc.st.cellL (List.mem_append_right _ (.head _)) rfl) ⟨[], ⟨rfl, rfl⟩, hc.st⟩) <| RunD.op (det _) tab13 8 (fun f' L' w' hc => Op1.lenS (rest := []) ty9 (hc.det (j := 6) rfl rfl rfl rfl) ⟨[], ⟨rfl, rfl⟩, hc.st⟩) ?_
 first | refine RunD.op (det _) tab13 9 (fun f' L' w' hc => Op1.remN (hc.det (j := 3) rfl rfl rfl rfl) (hc.det (j := 7) rfl rfl rfl rfl) (by omega) (by omega) rfl ⟨[], ⟨rfl, rfl⟩, hc.st⟩) ?_ | refine RunD.op (det _) tab13 9 (fun f' L' w' hc => Op1.rem (hc.det (j := 3) rfl rfl rfl rfl) (hc.det (j := 7) rfl rfl rfl rfl) (by omega) ⟨[], ⟨rfl, rfl⟩, hc.st⟩) ?_
 refine RunD.fin followsMixed tab13 hst rfl (fun f14 w R17 hs15 hd16 hr18 hst => ?_)
 obtain ⟨h37_, r0⟩ := hd16 0 37 rfl rfl
 obtain ⟨h38_, r1⟩ := hd16 1 38 rfl rfl
 obtain ⟨h39_, r2⟩ := hd16 2 39 rfl rfl
 obtain ⟨h40_, r3⟩ := hd16 3 40 rfl rfl
 obtain ⟨h41_, r4⟩ := hd16 4 41 rfl rfl
 obtain ⟨h42_, r5⟩ := hd16 5 42 rfl rfl
 obtain ⟨h43_, r6⟩ := hd16 6 43 rfl rfl
 obtain ⟨h44_, r7⟩ := hd16 7 44 rfl rfl
 obtain ⟨h45_, r8⟩ := hd16 8 45 rfl rfl
 simp only [show List.range 9 = [0, 1, 2, 3, 4, 5, 6, 7, 8] from rfl, List.flatMap_cons, List.flatMap_nil, List.map_cons, List.map_nil, r0, r1, r2, r3, r4, r5, r6, r7, r8, List.nil_append, List.append_nil, List.cons_append] at hst
 refine RunL.slots (sl := [(39, str _), (45, .int .i64 _)]) ⟨h39_, h45_, trivial⟩ ?_
 clear hs15 hd16 hr18 tab13
 refine CN <| Op1.indexS ty9 rfl rfl (by omega) (by omega) <| AC rfl <| NL <| run_ret1 Tryz.func208 rfl (TP (v := .int .u8 _) rfl) <| ⟨congrArg (Value.int .u8) (Eq.symm ?_), hst.pure⟩
 unfold restS
 first | exact if_pos (by first | omega | (simp_all <;> omega)) | exact if_neg (by first | omega | (simp_all <;> omega))
theorem R7gr_letter (fm : FormL) (hf : FOk fm) (i : Int) (h1 : i ≤ 9223372036854775807) (w : World) : Ret Tryz.prog 172 #[.agg #[.int .u16 fm.op, str fm.name, .bool fm.ty, .bool fm.res, str fm.fixed, str fm.rest, .int .i64 fm.most, .int .u8 fm.part], .int .i64 i] w (fun v w' => v = .int .u8 (letterS fm i) ∧ St w NoM [] [] w') := by
 refine Ret.enter (args := [.agg #[.int .u16 fm.op, str fm.name, .bool fm.ty, .bool fm.res, str fm.fixed, str fm.rest, .int .i64 fm.most, .int .u8 fm.part], .int .i64 i]) Tryz.func172 rfl rfl rfl ?_
 have hst := St.init w
 refine SR <| CN <| Op1.box (v := .agg #[.int .u16 _, str _, .bool _, .bool _, str _, str _, .int .i64 _, .int .u8 _]) hst rfl rfl fun w b2 hst => AC rfl <| NL <| SQ <| SR <| MI rfl <| CN <| Op1.lss rfl rfl <| NL <| run_cond_dec rfl (fun g1 => ?_) (fun g1 => ?_)
 · skip
   refine SR <| AC rfl <| NL <| run_ret1 Tryz.func172 rfl (TP (v := .int .u8 _) rfl) <| ⟨congrArg (Value.int .u8) (Eq.symm ?_), hst.pure⟩
   unfold letterS
   exact if_pos (by omega)
 refine run_skip <| SQ <| SR <| CN <| Op1.loadA (vs := [.int .u16 _, str _, .bool _, .bool _, str _, str _, .int .i64 _, .int .u8 _]) ty244 rfl rfl rfl (cells_of_obj (n := 8) (hst.objL (.head _)) _ rfl) <| CN <| Op1.makeFunc <| CN <| Op1.loadA (vs := [.int .u16 _, str _, .bool _, .bool _, str _, str _, .int .i64 _, .int .u8 _]) ty244 rfl rfl rfl (cells_of_obj (n := 8) (hst.objL (.head _)) _ rfl) <| CN <| Op1.makeFunc <| CN (Op1.buildSl (z0 := [.nilFunc, .nilFunc]) hst ty272 ty245 rfl rfl (by kernel_rfl) (.c (v := .func _ _ _) rfl (h := (.c (v := .func _ _ _) rfl (h := .nil)))) fun w b14 hst => ?_)
 refine CN <| Op1.lenSl (rest := []) ty272 rfl <| MI rfl <| NL <| run_block <| run_loop <| SR <| CN <| Op1.lss rfl rfl <| NL <| SQ <| run_cond_true (congrArg Value.bool (decide_eq_true (by decide))) <| run_skip <| SQ <| run_block <| SQ ?_
 refine RG <| CN <| Op1.indexSl ty272 ty245 rfl rfl (by omega) (by omega) <| CN <| Op1.load1 (v := .func _ _ _) ty245 rfl rfl (hst.cellL (.head _) rfl) <| CN <| Op1.assign (v := .func _ _ _) rfl <| NSR <| CN <| Op1.move (v := .func _ _ _) rfl <| MI rfl <| CN (Op1.callV1 (v1 := .int .i64 _) rfl rfl (CallV.funcF ent207 ((R7gr_fixed fm hf i (by omega) h1 _).mono fun v w hp => ?_)))
 obtain ⟨rfl, hp⟩ := hp
 replace hst := hst.keepc hp
 clear hp
 refine AC rfl <| NL <| Run.forget [(1, .int .i64 _), (7, .int .u8 _), (14, .slice _ _ _), (15, .int .i64 _), (16, .int .i64 _)] ⟨rfl, rfl, rfl, rfl, rfl, trivial⟩ fun f => SR <| MC rfl <| CN <| Op1.neq rfl rfl <| NL <| run_cond_dec rfl (fun g2 => ?_) (fun g2 => ?_)
 · skip
   refine SR <| MC rfl <| AC rfl <| NL <| run_ret1 Tryz.func172 rfl (TP (v := .int .u8 _) rfl) ?_
   exact ⟨congrArg (Value.int .u8) (letter_fix hf (by omega) g2).symm, hst.pure⟩
 refine run_skip <| run_inBlock <| RG <| CN <| Op1.addN rfl rfl rfl (wrap_i64 (by omega) (by omega)) <| MI rfl <| NL <| run_inLoop <| SR <| CN <| Op1.lss rfl rfl <| NL <| SQ <| run_cond_true (congrArg Value.bool (decide_eq_true (by decide))) <| run_skip <| SQ ?_
 refine run_block <| SR <| CN <| Op1.indexSl ty272 ty245 rfl rfl (by omega) (by omega) <| CN <| Op1.load1 (v := .func _ _ _) ty245 rfl rfl (hst.cellL (.head _) rfl) <| CN <| Op1.assign (v := .func _ _ _) rfl <| NSR <| CN <| Op1.move (v := .func _ _ _) rfl <| MI rfl <| CN (Op1.callV1 (v1 := .int .i64 _) rfl rfl (CallV.funcF ent208 ((R7gr_rest fm hf i (by omega) h1 _).mono fun v w hp => ?_)))
 obtain ⟨rfl, hp⟩ := hp
 replace hst := hst.keepc hp
 clear hp
 refine AC rfl <| NSR <| MC rfl <| CN <| Op1.neq rfl rfl <| NL <| run_cond_dec rfl (fun g3 => ?_) (fun g3 => ?_)
 · skip
   refine SR <| MC rfl <| AC rfl <| NL <| run_ret1 Tryz.func172 rfl (TP (v := .int .u8 _) rfl) ?_
   rw [letter_rest hf (by omega) (Classical.not_not.1 g2)]
   exact ⟨rfl, hst.pure⟩
 refine run_skip <| run_inBlock <| RG <| CN <| Op1.addN rfl rfl rfl (wrap_i64 (by omega) (by omega)) <| MI rfl <| NL <| run_inLoop <| SR <| CN <| Op1.lss rfl rfl <| NL <| SQ <| run_cond_false (congrArg Value.bool (decide_eq_false (by decide))) <| run_exit (id := 0) rfl <| SQ ?_
 refine RG <| AC rfl <| NL <| run_ret1 Tryz.func172 rfl (TP (v := .int .u8 _) rfl) ?_
 rw [letter_rest hf (by omega) (Classical.not_not.1 g2)]
 exact ⟨congrArg (Value.int .u8) (Classical.not_not.1 g3).symm, hst.pure⟩
theorem R7gr_Letter (op : Int) (h0 : 0 ≤ op) (i : Int) (h1 : i ≤ 9223372036854775807) (w : World) : Ret Tryz.prog 131 #[.int .u16 op, .int .i64 i] w (fun v w' => v = .int .u8 (letterS (refD op) i) ∧ St w NoM [] [] w') := by
 refine Ret.enter (args := [.int .u16 op, .int .i64 i]) Tryz.func131 rfl rfl rfl ?_
 have hst := St.init w
 refine SR <| AC rfl <| NSR <| MH rfl <| CN <| Op1.call1 (v1 := .int .u16 _) ent75 rfl rfl <| Ret.det (R7gr_Of _ (by omega) _) hst fun w hst => CN <| Op1.move (v := .tuple #[.agg #[.int .u16 _, str _, .bool _, .bool _, str _, str _, .int .i64 _, .int .u8 _], .bool _]) rfl <| CN <| Op1.extract (v := .agg #[.int .u16 _, str _, .bool _, .bool _, str _, str _, .int .i64 _, .int .u8 _]) rfl rfl <| CN <| Op1.extract (v := .bool _) rfl rfl <| CN <| Op1.alloc hst ty113 fun w b5 hst => CN (SO (v := .agg #[.int .u16 _, str _, .bool _, .bool _, str _, str _, .int .i64 _, .int .u8 _]) hst ty113 rfl rfl (.here) fun w hst => ?_)
 refine AB rfl <| NSR <| CN <| Op1.loadA (vs := [.int .u16 _, str _, .bool _, .bool _, str _, str _, .int .i64 _, .int .u8 _]) ty113 rfl rfl rfl (cells_of_obj (n := 8) (hst.objL (.head _)) _ rfl) <| CN (Op1.buildStruct ty244 stf244 (.c (v := .agg #[.int .u16 _, str _, .bool _, .bool _, str _, str _, .int .i64 _, .int .u8 _]) rfl (h := .nil)) ?_)
 refine MI rfl <| CN <| Op1.call2 (v1 := .agg #[.int .u16 _, str _, .bool _, .bool _, str _, str _, .int .i64 _, .int .u8 _]) (v2 := .int .i64 _) ent172 rfl rfl rfl <| Ret.det (R7gr_letter (refD op) (refD_fok op) i h1 _) hst fun w hst => AC rfl <| NL <| run_ret1 Tryz.func131 rfl (TP (v := .int .u8 _) rfl) ?_
 exact ⟨rfl, hst.pure⟩
end Go.SK
namespace Go.SK
open Go Go.Proofs
open Go.RowKit
theorem R7gr_Of2 {op : Int} {fm : FormL} {ob : Bool} (h0 : 0 ≤ op) (hfm : refD op = fm) (hob : (refS op).isSome = ob) (w : World) : Ret Tryz.prog 75 #[.int .u16 op] w fun v w' => v = .tuple #[.agg (formC fm).toArray, .bool ob] ∧ St w NoM [] [] w' := by
 subst hfm; subst hob; exact R7gr_Of op h0 w
theorem R7ref_Of2 {op : Int} {fm : FormL} {ob : Bool} (hfm : refD op = fm) (hob : (refS op).isSome = ob) (w : World) : Ret Tryz.prog 90 #[.int .u16 op] w fun v w' => v = .tuple #[.agg (formC fm).toArray, .bool ob] ∧ St w NoM [] [] w' := by
 subst hfm; subst hob; exact R7ref_Of op w
theorem R7gr_Enum2 {c n : Int} {o : Option NameL} (h : namesL.find? (enN c n) = o) (h0 : 0 ≤ c) (h1 : c ≤ 255) (w : World) : Ret Tryz.prog 152 #[.int .u8 c, .int .u32 n] w fun v w' => v = nameV o ∧ St w NoM [] [] w' := by
 subst h; exact R7gr_Enum c n h0 h1 w
theorem R7ref_Letter (op : Int) (h0 : 0 ≤ op) (i : Int) (h1 : i ≤ 9223372036854775807) (w : World) : Ret Tryz.prog 69 #[.int .u16 op, .int .i64 i] w (fun v w' => v = .int .u8 (letterS (refD op) i) ∧ St w NoM [] [] w') := by
 refine Ret.enter (args := [.int .u16 op, .int .i64 i]) Tryz.func69 rfl rfl rfl ?_
 have hst := St.init w
 obtain ⟨fm, hfm⟩ : ∃ x, refD op = x := ⟨_, rfl⟩
 obtain ⟨ob, hob⟩ : ∃ x, (refS op).isSome = x := ⟨_, rfl⟩
 have hf := refD_fok op
 rw [hfm] at hf
 have hz : ob = false → fm = zeroF := fun e => by subst e; rw [← hfm]; exact refD_none hob
 obtain ⟨_, hmost, hfx, hrs, _, _, _, _⟩ := hf
 have hre : fm.rest = [] ↔ fm.rest.length = 0 := List.length_eq_zero_iff.symm
 refine SR <| AC rfl <| NSR <| MH rfl <| CN <| Op1.call1 (v1 := .int .u16 _) ent90 rfl rfl <| Ret.det (R7ref_Of2 hfm hob _) hst fun w hst => CN <| Op1.move (v := .tuple #[.agg #[.int .u16 _, str _, .bool _, .bool _, str _, str _, .int .i64 _, .int .u8 _], .bool _]) rfl <| CN <| Op1.extract (v := .agg #[.int .u16 _, str _, .bool _, .bool _, str _, str _, .int .i64 _, .int .u8 _]) rfl rfl <| CN <| Op1.extract (v := .bool _) rfl rfl <| CN <| Op1.alloc hst ty113 fun w b5 hst => CN (SO (v := .agg #[.int .u16 _, str _, .bool _, .bool _, str _, str _, .int .i64 _, .int .u8 _]) hst ty113 rfl rfl (.here) fun w hst => ?_)
 refine AB rfl <| NL <| SQ <| SR <| MB rfl <| CN <| Op1.not rfl <| MB rfl <| RunL.split (d := 15) rfl (fun g1 => ?_) (fun g1 => ?_)
 · skip
   refine OM (t := 15) rfl (congrArg Value.bool g1) rfl <| OM (t := 15) rfl (congrArg Value.bool g1) rfl <| CN <| Op1.pickT (u := .bool _) (congrArg Value.bool g1) rfl <| NL <| run_cond_true (congrArg Value.bool (rfl : true = _)) <| SR <| AC rfl <| NL <| run_ret1 Tryz.func69 rfl (TP (v := .int .u8 _) rfl) <| ⟨congrArg (Value.int .u8) (Eq.symm ?_), hst.pure⟩
   rw [hfm]
   have hzz : fm = zeroF ∨ i < 0 := .inl (hz (by simpa using g1))
   rcases hzz with rfl | hzz
   · exact letter_zero i
   · unfold letterS; rw [if_pos hzz]
 refine TK (t := 15) rfl (congrArg Value.bool g1) <| Op1.move (v := .int .i64 _) rfl <| TK (t := 15) rfl (congrArg Value.bool g1) <| Op1.lss rfl rfl <| CN <| Op1.pickF (u := .bool _) (congrArg Value.bool g1) rfl <| NL <| run_cond_dec rfl (fun g2 => ?_) (fun g2 => ?_)
 · skip
   refine SR <| AC rfl <| NL <| run_ret1 Tryz.func69 rfl (TP (v := .int .u8 _) rfl) <| ⟨congrArg (Value.int .u8) (Eq.symm ?_), hst.pure⟩
   rw [hfm]
   have hzz : fm = zeroF ∨ i < 0 := .inr (by omega)
   rcases hzz with rfl | hzz
   · exact letter_zero i
   · unfold letterS; rw [if_pos hzz]
 refine run_skip <| SQ <| SR <| MI rfl <| CN <| Op1.fieldAddr fld113_4 rfl <| CN <| Op1.load1 (v := str _) ty9 rfl rfl (hst.cellL (.head _) rfl) <| CN <| Op1.lenS (rest := []) ty9 rfl <| CN <| Op1.lss rfl rfl <| NL <| Run.forget [(1, .int .i64 _), (5, .pointer (some ⟨_, _, none⟩)), (23, .bool _)] ⟨rfl, rfl, rfl, trivial⟩ fun f => run_cond_dec rfl (fun g3 => ?_) (fun g3 => ?_)
 · skip
   refine SR <| CN <| Op1.fieldAddr fld113_4 rfl <| CN <| Op1.load1 (v := str _) ty9 rfl rfl (hst.cellL (.head _) rfl) <| MI rfl <| CN <| Op1.indexS ty9 rfl rfl (by omega) (by omega) <| AC rfl <| NL <| run_ret1 Tryz.func69 rfl (TP (v := .int .u8 _) rfl) <| ⟨congrArg (Value.int .u8) (Eq.symm ?_), hst.pure⟩
   rw [hfm]
   unfold letterS
   rw [if_neg (by omega), if_pos (by omega)]
 refine run_skip <| SQ <| SR <| CN <| Op1.fieldAddr fld113_5 rfl <| CN <| Op1.load1 (v := str _) ty9 rfl rfl (hst.cellL (.head _) rfl) <| CN <| Op1.lenS (rest := []) ty9 rfl <| CN <| Op1.eql rfl rfl <| NL <| run_cond_dec rfl (fun g4 => ?_) (fun g4 => ?_)
 · skip
   refine SR <| AC rfl <| NL <| run_ret1 Tryz.func69 rfl (TP (v := .int .u8 _) rfl) <| ⟨congrArg (Value.int .u8) (Eq.symm ?_), hst.pure⟩
   rw [hfm]
   unfold letterS restS
   rw [if_neg (by omega), if_neg (by omega), if_pos (by rw [hre]; omega)]
 refine run_skip <| SR <| MI rfl <| CN <| Op1.fieldAddr fld113_4 rfl <| CN <| Op1.load1 (v := str _) ty9 rfl rfl (hst.cellL (.head _) rfl) <| CN <| Op1.lenS (rest := []) ty9 rfl <| CN <| Op1.subN rfl rfl rfl (wrap_i64 (by omega) (by omega)) <| AI rfl <| NL <| SQ <| SQ ?_
 have hqb := div_bd (a := i - (fm.fixed.length : Int)) (b := (fm.rest.length : Int)) (by omega) (by omega)
 refine RunD.start [] hst (bs := [0, 1, 3, 7, 15, 15, 47, 111, 255, 15, 527, 2047, 4095]) (ds := [some 37, some 38, some 39, some 40, some 41, some 42, some 43, some 44, some 45, some 46, some 47, some 48, some 49]) ⟨by kernel_rfl, by kernel_rfl, by kernel_rfl⟩ (fun tab5 => ?_)
 refine RunD.op (det _) tab5 1 (fun f' L' w' hc => Op1.fieldAddr fld113_6 (hc.old (v := .pointer (some ⟨_, _, none⟩)) rfl rfl rfl) ⟨[], ⟨rfl, rfl⟩, hc.st⟩) <| RunD.op (det _) tab5 2 (fun f' L' w' hc => Op1.load1 (v := .int .i64 _) ty3 rfl (hc.det (j := 0) rfl rfl rfl rfl) (hc.st.cellL (List.mem_append_right _ (.head _)) rfl) ⟨[], ⟨rfl, rfl⟩, hc.st⟩) <| RunD.op (det _) tab5 3 (fun f' L' w' hc => Op1.gtr (hc.det (j := 1) rfl rfl rfl rfl) rfl ⟨[], ⟨rfl, rfl⟩, hc.st⟩) <| RunD.op (det _) tab5 4 (fun f' L' w' hc => Op1.move (v := .bool _) (hc.det (j := 2) rfl rfl rfl rfl) ⟨[], ⟨rfl, rfl⟩, hc.st⟩) <| RunD.splitD (j := 3) rfl (fun g6 => ?_) (fun g6 => ?_)
 · skip
   refine RunD.take (det _) tab5 5 rfl (fun f' L' w' hc => (hc.det (j := 3) rfl rfl rfl rfl).trans (congrArg Value.bool (decide_eq_true g6))) (fun f' L' w' hc => Op1.move (v := .int .i64 _) (hc.old (v := .int .i64 _) rfl rfl rfl) ⟨[], ⟨rfl, rfl⟩, hc.st⟩) <| RunD.take (det _) tab5 6 rfl (fun f' L' w' hc => (hc.det (j := 3) rfl rfl rfl rfl).trans (congrArg Value.bool (decide_eq_true g6))) (fun f' L' w' hc => Op1.fieldAddr fld113_5 (hc.old (v := .pointer (some ⟨_, _, none⟩)) rfl rfl rfl) ⟨[], ⟨rfl, rfl⟩, hc.st⟩) <| RunD.take (det _) tab5 7 rfl (fun f' L' w' hc => (hc.det (j := 3) rfl rfl rfl rfl).trans (congrArg Value.bool (decide_eq_true g6))) (fun f' L' w' hc => Op1.load1 (v := str _) ty9 rfl (hc.det (j := 5) rfl rfl rfl rfl) (hc.st.cellL (List.mem_append_right _ (.head _)) rfl) ⟨[], ⟨rfl, rfl⟩, hc.st⟩) <| RunD.take (det _) tab5 8 rfl (fun f' L' w' hc => (hc.det (j := 3) rfl rfl rfl rfl).trans (congrArg Value.bool (decide_eq_true g6))) (fun f' L' w' hc => Op1.lenS (rest := []) ty9 (hc.det (j := 6) rfl rfl rfl rfl) ⟨[], ⟨rfl, rfl⟩, hc.st⟩) ?_
   first | refine RunD.take (det _) tab5 9 rfl (fun f' L' w' hc => (hc.det (j := 3) rfl rfl rfl rfl).trans (congrArg Value.bool (decide_eq_true g6))) (fun f' L' w' hc => Op1.quoN (hc.det (j := 4) rfl rfl rfl rfl) (hc.det (j := 7) rfl rfl rfl rfl) (by omega) (by omega) rfl (wrap_i64 (by omega) (by omega)) ⟨[], ⟨rfl, rfl⟩, hc.st⟩) ?_ | refine RunD.take (det _) tab5 9 rfl (fun f' L' w' hc => (hc.det (j := 3) rfl rfl rfl rfl).trans (congrArg Value.bool (decide_eq_true g6))) (fun f' L' w' hc => Op1.quo (hc.det (j := 4) rfl rfl rfl rfl) (hc.det (j := 7) rfl rfl rfl rfl) (by omega) ⟨[], ⟨rfl, rfl⟩, hc.st⟩) ?_
   refine RunD.take (det _) tab5 10 rfl (fun f' L' w' hc => (hc.det (j := 3) rfl rfl rfl rfl).trans (congrArg Value.bool (decide_eq_true g6))) (fun f' L' w' hc => Op1.fieldAddr fld113_6 (hc.old (v := .pointer (some ⟨_, _, none⟩)) rfl rfl rfl) ⟨[], ⟨rfl, rfl⟩, hc.st⟩) <| RunD.take (det _) tab5 11 rfl (fun f' L' w' hc => (hc.det (j := 3) rfl rfl rfl rfl).trans (congrArg Value.bool (decide_eq_true g6))) (fun f' L' w' hc => Op1.load1 (v := .int .i64 _) ty3 rfl (hc.det (j := 9) rfl rfl rfl rfl) (hc.st.cellL (List.mem_append_right _ (.head _)) rfl) ⟨[], ⟨rfl, rfl⟩, hc.st⟩) <| RunD.fin followsMixed tab5 hst rfl (fun f7 w R10 hs8 hd9 hr11 hst => ?_)
   obtain ⟨h37_, r0⟩ := hd9 0 37 rfl rfl
   obtain ⟨h38_, r1⟩ := hd9 1 38 rfl rfl
   obtain ⟨h39_, r2⟩ := hd9 2 39 rfl rfl
   obtain ⟨h40_, r3⟩ := hd9 3 40 rfl rfl
   obtain ⟨h41_, r4⟩ := hd9 4 41 rfl rfl
   obtain ⟨h42_, r5⟩ := hd9 5 42 rfl rfl
   obtain ⟨h43_, r6⟩ := hd9 6 43 rfl rfl
   obtain ⟨h44_, r7⟩ := hd9 7 44 rfl rfl
   obtain ⟨h45_, r8⟩ := hd9 8 45 rfl rfl
   obtain ⟨h46_, r9⟩ := hd9 9 46 rfl rfl
   obtain ⟨h47_, r10⟩ := hd9 10 47 rfl rfl
   simp only [show List.range 11 = [0, 1, 2, 3, 4, 5, 6, 7, 8, 9, 10] from rfl, List.flatMap_cons, List.flatMap_nil, List.map_cons, List.map_nil, r0, r1, r2, r3, r4, r5, r6, r7, r8, r9, r10, List.nil_append, List.append_nil, List.cons_append] at hst
   refine RunL.slots (sl := [(5, .pointer (some ⟨_, _, none⟩)), (7, .int .i64 _), (40, .bool _), (45, .int .i64 _), (47, .int .i64 _)]) ⟨(hs8 5 rfl).trans rfl, (hs8 7 rfl).trans rfl, h40_, h45_, h47_, trivial⟩ ?_
   clear hs8 hd9 hr11 tab5
   refine TK (t := 40) rfl (congrArg Value.bool (decide_eq_true g6)) <| Op1.geq rfl rfl <| CN <| Op1.pickT (u := .bool _) (congrArg Value.bool (decide_eq_true g6)) rfl <| NL <| Run.forget [(5, .pointer (some ⟨_, _, none⟩)), (7, .int .i64 _), (49, .bool _)] ⟨rfl, rfl, rfl, trivial⟩ fun f => run_cond_dec rfl (fun g12 => ?_) (fun g12 => ?_)
   · skip
     refine SR <| AC rfl <| NL <| run_ret1 Tryz.func69 rfl (TP (v := .int .u8 _) rfl) <| ⟨congrArg (Value.int .u8) (Eq.symm ?_), hst.pure⟩
     rw [hfm]
     unfold letterS restS
     rw [if_neg (by omega), if_neg (by omega)]
     have hmd := most_div (k := i - (fm.fixed.length : Int)) (r := (fm.rest.length : Int)) (m := fm.most) (by omega)
     first | rw [if_pos (by rw [hre]; omega)] | rw [if_neg (by rw [hre]; omega)]
   have hmdd := Int.emod_lt_of_pos (i - (fm.fixed.length : Int)) (show (0 : Int) < fm.rest.length by omega)
   have hmnn := Int.emod_nonneg (i - (fm.fixed.length : Int)) (show (fm.rest.length : Int) ≠ 0 by omega)
   refine run_skip <| SQ <| RunD.start [] hst (bs := [0, 1, 0, 0, 8, 24, 60, 127, 255]) (ds := [some 50, some 51, some 52, some 53, some 54, some 55, some 56, some 57, some 4]) ⟨by kernel_rfl, by kernel_rfl, by kernel_rfl⟩ (fun tab13 => ?_)
   refine RunD.op (det _) tab13 1 (fun f' L' w' hc => Op1.fieldAddr fld113_5 (hc.old (v := .pointer (some ⟨_, _, none⟩)) rfl rfl rfl) ⟨[], ⟨rfl, rfl⟩, hc.st⟩) <| RunD.op (det _) tab13 2 (fun f' L' w' hc => Op1.load1 (v := str _) ty9 rfl (hc.det (j := 0) rfl rfl rfl rfl) (hc.st.cellL (List.mem_append_right _ (.head _)) rfl) ⟨[], ⟨rfl, rfl⟩, hc.st⟩) <| RunD.op (det _) tab13 3 (fun f' L' w' hc => Op1.move (v := .int .i64 _) (hc.old (v := .int .i64 _) rfl rfl rfl) ⟨[], ⟨rfl, rfl⟩, hc.st⟩) <| RunD.op (det _) tab13 4 (fun f' L' w' hc => Op1.fieldAddr fld113_5 (hc.old (v := .pointer (some ⟨_, _, none⟩)) rfl rfl rfl) ⟨[], ⟨rfl, rfl⟩, hc.st⟩) <| RunD.op (det _) tab13 5 (fun f' L' w' hc => Op1.load1 (v := str _) ty9 rfl (hc.det (j := 3) rfl rfl rfl rfl) (hc.st.cellL (List.mem_append_right _ (.head _)) rfl) ⟨[], ⟨rfl, rfl⟩, hc.st⟩) <| RunD.op (det _) tab13 6 (fun f' L' w' hc => Op1.lenS (rest := []) ty9 (hc.det (j := 4) rfl rfl rfl rfl) ⟨[], ⟨rfl, rfl⟩, hc.st⟩) ?_
   first | refine RunD.op (det _) tab13 7 (fun f' L' w' hc => Op1.remN (hc.det (j := 2) rfl rfl rfl rfl) (hc.det (j := 5) rfl rfl rfl rfl) (by omega) (by omega) rfl ⟨[], ⟨rfl, rfl⟩, hc.st⟩) ?_ | refine RunD.op (det _) tab13 7 (fun f' L' w' hc => Op1.rem (hc.det (j := 2) rfl rfl rfl rfl) (hc.det (j := 5) rfl rfl rfl rfl) (by omega) ⟨[], ⟨rfl, rfl⟩, hc.st⟩) ?_
   refine RunD.fin followsMixed tab13 hst rfl (fun f14 w R17 hs15 hd16 hr18 hst => ?_)
   obtain ⟨h50_, r0⟩ := hd16 0 50 rfl rfl
   obtain ⟨h51_, r1⟩ := hd16 1 51 rfl rfl
   obtain ⟨h52_, r2⟩ := hd16 2 52 rfl rfl
   obtain ⟨h53_, r3⟩ := hd16 3 53 rfl rfl
   obtain ⟨h54_, r4⟩ := hd16 4 54 rfl rfl
   obtain ⟨h55_, r5⟩ := hd16 5 55 rfl rfl
   obtain ⟨h56_, r6⟩ := hd16 6 56 rfl rfl
   simp only [show List.range 7 = [0, 1, 2, 3, 4, 5, 6] from rfl, List.flatMap_cons, List.flatMap_nil, List.map_cons, List.map_nil, r0, r1, r2, r3, r4, r5, r6, List.nil_append, List.append_nil, List.cons_append] at hst
   refine RunL.slots (sl := [(51, str _), (56, .int .i64 _)]) ⟨h51_, h56_, trivial⟩ ?_
   clear hs15 hd16 hr18 tab13
   refine CN <| Op1.indexS ty9 rfl rfl (by omega) (by omega) <| AC rfl <| NL <| run_ret1 Tryz.func69 rfl (TP (v := .int .u8 _) rfl) <| ⟨congrArg (Value.int .u8) (Eq.symm ?_), hst.pure⟩
   rw [hfm]
   unfold letterS restS
   rw [if_neg (by omega), if_neg (by omega)]
   have hmd := most_div (k := i - (fm.fixed.length : Int)) (r := (fm.rest.length : Int)) (m := fm.most) (by omega)
   first | rw [if_pos (by rw [hre]; omega)] | rw [if_neg (by rw [hre]; omega)]
 refine RunD.omit tab5 5 rfl rfl (fun f' L' w' hc => (hc.det (j := 3) rfl rfl rfl rfl).trans (congrArg Value.bool (decide_eq_false g6))) <| RunD.omit tab5 6 rfl rfl (fun f' L' w' hc => (hc.det (j := 3) rfl rfl rfl rfl).trans (congrArg Value.bool (decide_eq_false g6))) <| RunD.omit tab5 7 rfl rfl (fun f' L' w' hc => (hc.det (j := 3) rfl rfl rfl rfl).trans (congrArg Value.bool (decide_eq_false g6))) <| RunD.omit tab5 8 rfl rfl (fun f' L' w' hc => (hc.det (j := 3) rfl rfl rfl rfl).trans (congrArg Value.bool (decide_eq_false g6))) <| RunD.omit tab5 9 rfl rfl (fun f' L' w' hc => (hc.det (j := 3) rfl rfl rfl rfl).trans (congrArg Value.bool (decide_eq_false g6))) <| RunD.omit tab5 10 rfl rfl (fun f' L' w' hc => (hc.det (j := 3) rfl rfl rfl rfl).trans (congrArg Value.bool (decide_eq_false g6))) <| RunD.omit tab5 11 rfl rfl (fun f' L' w' hc => (hc.det (j := 3) rfl rfl rfl rfl).trans (congrArg Value.bool (decide_eq_false g6))) <| RunD.fin followsMixed tab5 hst rfl (fun f19 w R22 hs20 hd21 hr23 hst => ?_)
 obtain ⟨h37_, r0⟩ := hd21 0 37 rfl rfl
 obtain ⟨h38_, r1⟩ := hd21 1 38 rfl rfl
 obtain ⟨h39_, r2⟩ := hd21 2 39 rfl rfl
 obtain ⟨h40_, r3⟩ := hd21 3 40 rfl rfl
 obtain ⟨h41_, r4⟩ := hd21 4 41 rfl rfl
 obtain ⟨h42_, r5⟩ := hd21 5 42 rfl rfl
 obtain ⟨h43_, r6⟩ := hd21 6 43 rfl rfl
 obtain ⟨h44_, r7⟩ := hd21 7 44 rfl rfl
 obtain ⟨h45_, r8⟩ := hd21 8 45 rfl rfl
 obtain ⟨h46_, r9⟩ := hd21 9 46 rfl rfl
 obtain ⟨h47_, r10⟩ := hd21 10 47 rfl rfl
 simp only [show List.range 11 = [0, 1, 2, 3, 4, 5, 6, 7, 8, 9, 10] from rfl, List.flatMap_cons, List.flatMap_nil, List.map_cons, List.map_nil, r0, r1, r2, r3, r4, r5, r6, r7, r8, r9, r10, List.nil_append, List.append_nil, List.cons_append] at hst
 refine RunL.slots (sl := [(5, .pointer (some ⟨_, _, none⟩)), (7, .int .i64 _), (40, .bool _), (45, _), (47, _)]) ⟨(hs20 5 rfl).trans rfl, (hs20 7 rfl).trans rfl, h40_, h45_, h47_, trivial⟩ ?_
 clear hs20 hd21 hr23 tab5
 refine OM (t := 40) rfl (congrArg Value.bool (decide_eq_false g6)) rfl <| CN <| Op1.pickF (u := .bool _) (congrArg Value.bool (decide_eq_false g6)) rfl <| NL ?_
 have hmdd := Int.emod_lt_of_pos (i - (fm.fixed.length : Int)) (show (0 : Int) < fm.rest.length by omega)
 have hmnn := Int.emod_nonneg (i - (fm.fixed.length : Int)) (show (fm.rest.length : Int) ≠ 0 by omega)
 refine run_cond_false (congrArg Value.bool (rfl : false = _)) <| run_skip <| SQ <| RunD.start [] hst (bs := [0, 1, 0, 0, 8, 24, 60, 127, 255]) (ds := [some 50, some 51, some 52, some 53, some 54, some 55, some 56, some 57, some 4]) ⟨by kernel_rfl, by kernel_rfl, by kernel_rfl⟩ (fun tab24 => ?_)
 refine RunD.op (det _) tab24 1 (fun f' L' w' hc => Op1.fieldAddr fld113_5 (hc.old (v := .pointer (some ⟨_, _, none⟩)) rfl rfl rfl) ⟨[], ⟨rfl, rfl⟩, hc.st⟩) <| RunD.op (det _) tab24 2 (fun f' L' w' hc => Op1.load1 (v := str _) ty9 rfl (hc.det (j := 0) rfl rfl rfl rfl) (hc.st.cellL (List.mem_append_right _ (.head _)) rfl) ⟨[], ⟨rfl, rfl⟩, hc.st⟩) <| RunD.op (det _) tab24 3 (fun f' L' w' hc => Op1.move (v := .int .i64 _) (hc.old (v := .int .i64 _) rfl rfl rfl) ⟨[], ⟨rfl, rfl⟩, hc.st⟩) <| RunD.op (det _) tab24 4 (fun f' L' w' hc => Op1.fieldAddr fld113_5 (hc.old (v := .pointer (some ⟨_, _, none⟩)) rfl rfl rfl) ⟨[], ⟨rfl, rfl⟩, hc.st⟩) <| RunD.op (det _) tab24 5 (fun f' L' w' hc => Op1.load1 (v := str _) ty9 rfl (hc.det (j := 3) rfl rfl rfl rfl) (hc.st.cellL (List.mem_append_right _ (.head _)) rfl) ⟨[], ⟨rfl, rfl⟩, hc.st⟩) <| RunD.op (det _) tab24 6 (fun f' L' w' hc => Op1.lenS (rest := []) ty9 (hc.det (j := 4) rfl rfl rfl rfl) ⟨[], ⟨rfl, rfl⟩, hc.st⟩) ?_
 first | refine RunD.op (det _) tab24 7 (fun f' L' w' hc => Op1.remN (hc.det (j := 2) rfl rfl rfl rfl) (hc.det (j := 5) rfl rfl rfl rfl) (by omega) (by omega) rfl ⟨[], ⟨rfl, rfl⟩, hc.st⟩) ?_ | refine RunD.op (det _) tab24 7 (fun f' L' w' hc => Op1.rem (hc.det (j := 2) rfl rfl rfl rfl) (hc.det (j := 5) rfl rfl rfl rfl) (by omega) ⟨[], ⟨rfl, rfl⟩, hc.st⟩) ?_
 refine RunD.fin followsMixed tab24 hst rfl (fun f25 w R28 hs26 hd27 hr29 hst => ?_)
 obtain ⟨h50_, r0⟩ := hd27 0 50 rfl rfl
 obtain ⟨h51_, r1⟩ := hd27 1 51 rfl rfl
 obtain ⟨h52_, r2⟩ := hd27 2 52 rfl rfl
 obtain ⟨h53_, r3⟩ := hd27 3 53 rfl rfl
 obtain ⟨h54_, r4⟩ := hd27 4 54 rfl rfl
 obtain ⟨h55_, r5⟩ := hd27 5 55 rfl rfl
 obtain ⟨h56_, r6⟩ := hd27 6 56 rfl rfl
 simp only [show List.range 7 = [0, 1, 2, 3, 4, 5, 6] from rfl, List.flatMap_cons, List.flatMap_nil, List.map_cons, List.map_nil, r0, r1, r2, r3, r4, r5, r6, List.nil_append, List.append_nil, List.cons_append] at hst
 refine RunL.slots (sl := [(51, str _), (56, .int .i64 _)]) ⟨h51_, h56_, trivial⟩ ?_
 clear hs26 hd27 hr29 tab24
 refine CN <| Op1.indexS ty9 rfl rfl (by omega) (by omega) <| AC rfl <| NL <| run_ret1 Tryz.func69 rfl (TP (v := .int .u8 _) rfl) <| ⟨congrArg (Value.int .u8) (Eq.symm ?_), hst.pure⟩
 rw [hfm]
 unfold letterS restS
 rw [if_neg (by omega), if_neg (by omega)]
 have hmd := most_div (k := i - (fm.fixed.length : Int)) (r := (fm.rest.length : Int)) (m := fm.most) (by omega)
 first | rw [if_pos (by rw [hre]; omega)] | rw [if_neg (by rw [hre]; omega)]
end Go.SK
namespace Go.SK
open Go Go.Proofs
theorem ent138 : Enters Tryz.prog 138 := ⟨Tryz.f138, _, Tryz.func138, by kernel_rfl, rfl⟩
theorem ent69 : Enters Tryz.prog 69 := ⟨Tryz.f69, _, Tryz.func69, by kernel_rfl, rfl⟩
theorem ent124 : Enters Tryz.prog 124 := ⟨Tryz.f124, _, Tryz.func124, by kernel_rfl, rfl⟩
end Go.SK
