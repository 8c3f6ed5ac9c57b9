/-
  Walks of functions, and of the laws over them.
-/
import Derived.Test.YtheckaonphmmiaaSkGrP
import Derived.Test.YtheckaonphmmiaaSkR2GrAF
set_option linter.unusedVariables false
set_option linter.unusedSimpArgs false
namespace Go.SK
open Go Go.Proofs
open Go.RowKit
theorem R2gr_first (op : Int) (w : World) : Ret Try.prog 38 #[.int .u16 op] w (fun v w' => v = str (look firstT op) ∧ St w NoM [] [] w') := by
  refine Ret.enter (args := [.int .u16 op]) Try.func38 rfl rfl rfl ?_
  have hst := St.init w
  refine run_seq ?_
  refine run_region ?_
  refine RunL.cons (Op1.assign (v := str _) rfl ?_)
  refine RunL.nil ?_
  refine run_seq ?_
  refine run_seq ?_
  refine run_region ?_
  refine RunL.cons (Op1.move (v := .int .u16 _) rfl ?_)
  refine RunL.nil ?_
  refine run_block ?_
  refine run_seq ?_
  refine run_region ?_
  refine RunL.cons (Op1.eql rfl rfl ?_)
  refine RunL.cons (Op1.assign (v := .bool _) rfl ?_)
  refine RunL.nil ?_
  refine run_cond_dec rfl (fun g1 => ?_) (fun g1 => ?_)
  · skip
    refine run_seq ?_
    refine run_region ?_
    refine RunL.cons (Op1.assign (v := str _) rfl ?_)
    refine RunL.nil ?_
    refine run_ret1 Try.func38 rfl (RV.tmp (v := str _) rfl) ?_
    subst g1
    exact ⟨congrArg str (by decide +kernel), hst.pure⟩
  refine run_seq ?_
  refine run_region ?_
  refine RunL.cons (Op1.eql rfl rfl ?_)
  refine RunL.cons (Op1.assign (v := .bool _) rfl ?_)
  refine RunL.nil ?_
  refine run_cond_dec rfl (fun g2 => ?_) (fun g2 => ?_)
  · skip
    refine run_seq ?_
    refine run_region ?_
    refine RunL.cons (Op1.assign (v := str _) rfl ?_)
    refine RunL.nil ?_
    refine run_ret1 Try.func38 rfl (RV.tmp (v := str _) rfl) ?_
    subst g2
    exact ⟨congrArg str (by decide +kernel), hst.pure⟩
  refine run_seq ?_
  refine run_region ?_
  refine RunL.cons (Op1.eql rfl rfl ?_)
  refine RunL.cons (Op1.assign (v := .bool _) rfl ?_)
  refine RunL.nil ?_
  refine run_cond_dec rfl (fun g3 => ?_) (fun g3 => ?_)
  · skip
    refine run_seq ?_
    refine run_region ?_
    refine RunL.cons (Op1.assign (v := str _) rfl ?_)
    refine RunL.nil ?_
    refine run_ret1 Try.func38 rfl (RV.tmp (v := str _) rfl) ?_
    subst g3
    exact ⟨congrArg str (by decide +kernel), hst.pure⟩
  refine run_seq ?_
  refine run_region ?_
  refine RunL.cons (Op1.eql rfl rfl ?_)
  refine RunL.cons (Op1.assign (v := .bool _) rfl ?_)
  refine RunL.nil ?_
  refine run_cond_dec rfl (fun g4 => ?_) (fun g4 => ?_)
  · skip
    refine run_seq ?_
    refine run_region ?_
    refine RunL.cons (Op1.assign (v := str _) rfl ?_)
    refine RunL.nil ?_
    refine run_ret1 Try.func38 rfl (RV.tmp (v := str _) rfl) ?_
    subst g4
    exact ⟨congrArg str (by decide +kernel), hst.pure⟩
  refine run_seq ?_
  refine run_region ?_
  refine RunL.cons (Op1.eql rfl rfl ?_)
  refine RunL.cons (Op1.assign (v := .bool _) rfl ?_)
  refine RunL.nil ?_
  refine run_cond_dec rfl (fun g5 => ?_) (fun g5 => ?_)
  · skip
    refine run_seq ?_
    refine run_region ?_
    refine RunL.cons (Op1.assign (v := str _) rfl ?_)
    refine RunL.nil ?_
    refine run_ret1 Try.func38 rfl (RV.tmp (v := str _) rfl) ?_
    subst g5
    exact ⟨congrArg str (by decide +kernel), hst.pure⟩
  refine run_seq ?_
  refine run_region ?_
  refine RunL.cons (Op1.eql rfl rfl ?_)
  refine RunL.cons (Op1.assign (v := .bool _) rfl ?_)
  refine RunL.nil ?_
  refine run_cond_dec rfl (fun g6 => ?_) (fun g6 => ?_)
  · skip
    refine run_seq ?_
    refine run_region ?_
    refine RunL.cons (Op1.assign (v := str _) rfl ?_)
    refine RunL.nil ?_
    refine run_ret1 Try.func38 rfl (RV.tmp (v := str _) rfl) ?_
    subst g6
    exact ⟨congrArg str (by decide +kernel), hst.pure⟩
  refine run_seq ?_
  refine run_region ?_
  refine RunL.cons (Op1.eql rfl rfl ?_)
  refine RunL.cons (Op1.assign (v := .bool _) rfl ?_)
  refine RunL.nil ?_
  refine run_cond_dec rfl (fun g7 => ?_) (fun g7 => ?_)
  · skip
    refine run_seq ?_
    refine run_region ?_
    refine RunL.cons (Op1.assign (v := str _) rfl ?_)
    refine RunL.nil ?_
    refine run_ret1 Try.func38 rfl (RV.tmp (v := str _) rfl) ?_
    subst g7
    exact ⟨congrArg str (by decide +kernel), hst.pure⟩
  refine run_seq ?_
  refine run_region ?_
  refine RunL.cons (Op1.eql rfl rfl ?_)
  refine RunL.cons (Op1.assign (v := .bool _) rfl ?_)
  refine RunL.nil ?_
  refine run_cond_dec rfl (fun g8 => ?_) (fun g8 => ?_)
  · skip
    refine run_seq ?_
    refine run_region ?_
    refine RunL.cons (Op1.assign (v := str _) rfl ?_)
    refine RunL.nil ?_
    refine run_ret1 Try.func38 rfl (RV.tmp (v := str _) rfl) ?_
    subst g8
    exact ⟨congrArg str (by decide +kernel), hst.pure⟩
  refine run_seq ?_
  refine run_region ?_
  refine RunL.cons (Op1.eql rfl rfl ?_)
  refine RunL.cons (Op1.assign (v := .bool _) rfl ?_)
  refine RunL.nil ?_
  refine Run.forget [(3, .int .u16 _), (20, .bool _)] ⟨rfl, rfl, trivial⟩ (fun f => ?_)
  refine run_cond_dec rfl (fun g9 => ?_) (fun g9 => ?_)
  · skip
    refine run_seq ?_
    refine run_region ?_
    refine RunL.cons (Op1.assign (v := str _) rfl ?_)
    refine RunL.nil ?_
    refine run_ret1 Try.func38 rfl (RV.tmp (v := str _) rfl) ?_
    subst g9
    exact ⟨congrArg str (by decide +kernel), hst.pure⟩
  refine run_seq ?_
  refine run_region ?_
  refine RunL.cons (Op1.eql rfl rfl ?_)
  refine RunL.cons (Op1.assign (v := .bool _) rfl ?_)
  refine RunL.nil ?_
  refine run_cond_dec rfl (fun g10 => ?_) (fun g10 => ?_)
  · skip
    refine run_seq ?_
    refine run_region ?_
    refine RunL.cons (Op1.assign (v := str _) rfl ?_)
    refine RunL.nil ?_
    refine run_ret1 Try.func38 rfl (RV.tmp (v := str _) rfl) ?_
    subst g10
    exact ⟨congrArg str (by decide +kernel), hst.pure⟩
  refine run_seq ?_
  refine run_region ?_
  refine RunL.cons (Op1.eql rfl rfl ?_)
  refine RunL.cons (Op1.assign (v := .bool _) rfl ?_)
  refine RunL.nil ?_
  refine run_cond_dec rfl (fun g11 => ?_) (fun g11 => ?_)
  · skip
    refine run_seq ?_
    refine run_region ?_
    refine RunL.cons (Op1.assign (v := str _) rfl ?_)
    refine RunL.nil ?_
    refine run_ret1 Try.func38 rfl (RV.tmp (v := str _) rfl) ?_
    subst g11
    exact ⟨congrArg str (by decide +kernel), hst.pure⟩
  refine run_seq ?_
  refine run_region ?_
  refine RunL.cons (Op1.eql rfl rfl ?_)
  refine RunL.cons (Op1.assign (v := .bool _) rfl ?_)
  refine RunL.nil ?_
  refine run_cond_dec rfl (fun g12 => ?_) (fun g12 => ?_)
  · skip
    refine run_seq ?_
    refine run_region ?_
    refine RunL.cons (Op1.assign (v := str _) rfl ?_)
    refine RunL.nil ?_
    refine run_ret1 Try.func38 rfl (RV.tmp (v := str _) rfl) ?_
    subst g12
    exact ⟨congrArg str (by decide +kernel), hst.pure⟩
  refine run_seq ?_
  refine run_region ?_
  refine RunL.cons (Op1.eql rfl rfl ?_)
  refine RunL.cons (Op1.assign (v := .bool _) rfl ?_)
  refine RunL.nil ?_
  refine run_cond_dec rfl (fun g13 => ?_) (fun g13 => ?_)
  · skip
    refine run_seq ?_
    refine run_region ?_
    refine RunL.cons (Op1.assign (v := str _) rfl ?_)
    refine RunL.nil ?_
    refine run_ret1 Try.func38 rfl (RV.tmp (v := str _) rfl) ?_
    subst g13
    exact ⟨congrArg str (by decide +kernel), hst.pure⟩
  refine run_seq ?_
  refine run_region ?_
  refine RunL.cons (Op1.eql rfl rfl ?_)
  refine RunL.cons (Op1.assign (v := .bool _) rfl ?_)
  refine RunL.nil ?_
  refine run_cond_dec rfl (fun g14 => ?_) (fun g14 => ?_)
  · skip
    refine run_seq ?_
    refine run_region ?_
    refine RunL.cons (Op1.assign (v := str _) rfl ?_)
    refine RunL.nil ?_
    refine run_ret1 Try.func38 rfl (RV.tmp (v := str _) rfl) ?_
    subst g14
    exact ⟨congrArg str (by decide +kernel), hst.pure⟩
  refine run_seq ?_
  refine run_region ?_
  refine RunL.cons (Op1.eql rfl rfl ?_)
  refine RunL.cons (Op1.assign (v := .bool _) rfl ?_)
  refine RunL.nil ?_
  refine run_cond_dec rfl (fun g15 => ?_) (fun g15 => ?_)
  · skip
    refine run_seq ?_
    refine run_region ?_
    refine RunL.cons (Op1.assign (v := str _) rfl ?_)
    refine RunL.nil ?_
    refine run_ret1 Try.func38 rfl (RV.tmp (v := str _) rfl) ?_
    subst g15
    exact ⟨congrArg str (by decide +kernel), hst.pure⟩
  refine run_seq ?_
  refine run_region ?_
  refine RunL.cons (Op1.eql rfl rfl ?_)
  refine RunL.cons (Op1.assign (v := .bool _) rfl ?_)
  refine RunL.nil ?_
  refine run_cond_dec rfl (fun g16 => ?_) (fun g16 => ?_)
  · skip
    refine run_seq ?_
    refine run_region ?_
    refine RunL.cons (Op1.assign (v := str _) rfl ?_)
    refine RunL.nil ?_
    refine run_ret1 Try.func38 rfl (RV.tmp (v := str _) rfl) ?_
    subst g16
    exact ⟨congrArg str (by decide +kernel), hst.pure⟩
  refine run_seq ?_
  refine run_region ?_
  refine RunL.cons (Op1.eql rfl rfl ?_)
  refine RunL.cons (Op1.assign (v := .bool _) rfl ?_)
  refine RunL.nil ?_
  refine run_cond_dec rfl (fun g17 => ?_) (fun g17 => ?_)
  · skip
    refine run_seq ?_
    refine run_region ?_
    refine RunL.cons (Op1.assign (v := str _) rfl ?_)
    refine RunL.nil ?_
    refine run_ret1 Try.func38 rfl (RV.tmp (v := str _) rfl) ?_
    subst g17
    exact ⟨congrArg str (by decide +kernel), hst.pure⟩
  refine run_seq ?_
  refine run_region ?_
  refine RunL.cons (Op1.eql rfl rfl ?_)
  refine RunL.cons (Op1.assign (v := .bool _) rfl ?_)
  refine RunL.nil ?_
  refine run_cond_dec rfl (fun g18 => ?_) (fun g18 => ?_)
  · skip
    refine run_seq ?_
    refine run_region ?_
    refine RunL.cons (Op1.assign (v := str _) rfl ?_)
    refine RunL.nil ?_
    refine run_ret1 Try.func38 rfl (RV.tmp (v := str _) rfl) ?_
    subst g18
    exact ⟨congrArg str (by decide +kernel), hst.pure⟩
  refine run_seq ?_
  refine run_region ?_
  refine RunL.cons (Op1.eql rfl rfl ?_)
  refine RunL.cons (Op1.assign (v := .bool _) rfl ?_)
  refine RunL.nil ?_
  refine Run.forget [(3, .int .u16 _), (40, .bool _)] ⟨rfl, rfl, trivial⟩ (fun f => ?_)
  refine run_cond_dec rfl (fun g19 => ?_) (fun g19 => ?_)
  · skip
    refine run_seq ?_
    refine run_region ?_
    refine RunL.cons (Op1.assign (v := str _) rfl ?_)
    refine RunL.nil ?_
    refine run_ret1 Try.func38 rfl (RV.tmp (v := str _) rfl) ?_
    subst g19
    exact ⟨congrArg str (by decide +kernel), hst.pure⟩
  refine run_seq ?_
  refine run_region ?_
  refine RunL.cons (Op1.eql rfl rfl ?_)
  refine RunL.cons (Op1.assign (v := .bool _) rfl ?_)
  refine RunL.nil ?_
  refine run_cond_dec rfl (fun g20 => ?_) (fun g20 => ?_)
  · skip
    refine run_seq ?_
    refine run_region ?_
    refine RunL.cons (Op1.assign (v := str _) rfl ?_)
    refine RunL.nil ?_
    refine run_ret1 Try.func38 rfl (RV.tmp (v := str _) rfl) ?_
    subst g20
    exact ⟨congrArg str (by decide +kernel), hst.pure⟩
  refine run_seq ?_
  refine run_region ?_
  refine RunL.cons (Op1.eql rfl rfl ?_)
  refine RunL.cons (Op1.assign (v := .bool _) rfl ?_)
  refine RunL.nil ?_
  refine run_cond_dec rfl (fun g21 => ?_) (fun g21 => ?_)
  · skip
    refine run_seq ?_
    refine run_region ?_
    refine RunL.cons (Op1.assign (v := str _) rfl ?_)
    refine RunL.nil ?_
    refine run_ret1 Try.func38 rfl (RV.tmp (v := str _) rfl) ?_
    subst g21
    exact ⟨congrArg str (by decide +kernel), hst.pure⟩
  refine run_seq ?_
  refine run_region ?_
  refine RunL.cons (Op1.eql rfl rfl ?_)
  refine RunL.cons (Op1.assign (v := .bool _) rfl ?_)
  refine RunL.nil ?_
  refine run_cond_dec rfl (fun g22 => ?_) (fun g22 => ?_)
  · skip
    refine run_seq ?_
    refine run_region ?_
    refine RunL.cons (Op1.assign (v := str _) rfl ?_)
    refine RunL.nil ?_
    refine run_ret1 Try.func38 rfl (RV.tmp (v := str _) rfl) ?_
    subst g22
    exact ⟨congrArg str (by decide +kernel), hst.pure⟩
  refine run_seq ?_
  refine run_region ?_
  refine RunL.cons (Op1.eql rfl rfl ?_)
  refine RunL.cons (Op1.assign (v := .bool _) rfl ?_)
  refine RunL.nil ?_
  refine run_cond_dec rfl (fun g23 => ?_) (fun g23 => ?_)
  · skip
    refine run_seq ?_
    refine run_region ?_
    refine RunL.cons (Op1.assign (v := str _) rfl ?_)
    refine RunL.nil ?_
    refine run_ret1 Try.func38 rfl (RV.tmp (v := str _) rfl) ?_
    subst g23
    exact ⟨congrArg str (by decide +kernel), hst.pure⟩
  refine run_seq ?_
  refine run_region ?_
  refine RunL.cons (Op1.eql rfl rfl ?_)
  refine RunL.cons (Op1.assign (v := .bool _) rfl ?_)
  refine RunL.nil ?_
  refine run_cond_dec rfl (fun g24 => ?_) (fun g24 => ?_)
  · skip
    refine run_seq ?_
    refine run_region ?_
    refine RunL.cons (Op1.assign (v := str _) rfl ?_)
    refine RunL.nil ?_
    refine run_ret1 Try.func38 rfl (RV.tmp (v := str _) rfl) ?_
    subst g24
    exact ⟨congrArg str (by decide +kernel), hst.pure⟩
  refine run_seq ?_
  refine run_region ?_
  refine RunL.cons (Op1.eql rfl rfl ?_)
  refine RunL.cons (Op1.assign (v := .bool _) rfl ?_)
  refine RunL.nil ?_
  refine run_cond_dec rfl (fun g25 => ?_) (fun g25 => ?_)
  · skip
    refine run_seq ?_
    refine run_region ?_
    refine RunL.cons (Op1.assign (v := str _) rfl ?_)
    refine RunL.nil ?_
    refine run_ret1 Try.func38 rfl (RV.tmp (v := str _) rfl) ?_
    subst g25
    exact ⟨congrArg str (by decide +kernel), hst.pure⟩
  refine run_seq ?_
  refine run_region ?_
  refine RunL.cons (Op1.eql rfl rfl ?_)
  refine RunL.cons (Op1.assign (v := .bool _) rfl ?_)
  refine RunL.nil ?_
  refine run_cond_dec rfl (fun g26 => ?_) (fun g26 => ?_)
  · skip
    refine run_seq ?_
    refine run_region ?_
    refine RunL.cons (Op1.assign (v := str _) rfl ?_)
    refine RunL.nil ?_
    refine run_ret1 Try.func38 rfl (RV.tmp (v := str _) rfl) ?_
    subst g26
    exact ⟨congrArg str (by decide +kernel), hst.pure⟩
  refine run_seq ?_
  refine run_region ?_
  refine RunL.cons (Op1.eql rfl rfl ?_)
  refine RunL.cons (Op1.assign (v := .bool _) rfl ?_)
  refine RunL.nil ?_
  refine run_cond_dec rfl (fun g27 => ?_) (fun g27 => ?_)
  · skip
    refine run_seq ?_
    refine run_region ?_
    refine RunL.cons (Op1.assign (v := str _) rfl ?_)
    refine RunL.nil ?_
    refine run_ret1 Try.func38 rfl (RV.tmp (v := str _) rfl) ?_
    subst g27
    exact ⟨congrArg str (by decide +kernel), hst.pure⟩
  refine run_seq ?_
  refine run_region ?_
  refine RunL.cons (Op1.eql rfl rfl ?_)
  refine RunL.cons (Op1.assign (v := .bool _) rfl ?_)
  refine RunL.nil ?_
  refine run_cond_dec rfl (fun g28 => ?_) (fun g28 => ?_)
  · skip
    refine run_seq ?_
    refine run_region ?_
    refine RunL.cons (Op1.assign (v := str _) rfl ?_)
    refine RunL.nil ?_
    refine run_ret1 Try.func38 rfl (RV.tmp (v := str _) rfl) ?_
    subst g28
    exact ⟨congrArg str (by decide +kernel), hst.pure⟩
  refine run_seq ?_
  refine run_region ?_
  refine RunL.cons (Op1.eql rfl rfl ?_)
  refine RunL.cons (Op1.assign (v := .bool _) rfl ?_)
  refine RunL.nil ?_
  refine Run.forget [(3, .int .u16 _), (60, .bool _)] ⟨rfl, rfl, trivial⟩ (fun f => ?_)
  refine run_cond_dec rfl (fun g29 => ?_) (fun g29 => ?_)
  · skip
    refine run_seq ?_
    refine run_region ?_
    refine RunL.cons (Op1.assign (v := str _) rfl ?_)
    refine RunL.nil ?_
    refine run_ret1 Try.func38 rfl (RV.tmp (v := str _) rfl) ?_
    subst g29
    exact ⟨congrArg str (by decide +kernel), hst.pure⟩
  refine run_seq ?_
  refine run_region ?_
  refine RunL.cons (Op1.eql rfl rfl ?_)
  refine RunL.cons (Op1.assign (v := .bool _) rfl ?_)
  refine RunL.nil ?_
  refine run_cond_dec rfl (fun g30 => ?_) (fun g30 => ?_)
  · skip
    refine run_seq ?_
    refine run_region ?_
    refine RunL.cons (Op1.assign (v := str _) rfl ?_)
    refine RunL.nil ?_
    refine run_ret1 Try.func38 rfl (RV.tmp (v := str _) rfl) ?_
    subst g30
    exact ⟨congrArg str (by decide +kernel), hst.pure⟩
  refine run_seq ?_
  refine run_region ?_
  refine RunL.cons (Op1.eql rfl rfl ?_)
  refine RunL.cons (Op1.assign (v := .bool _) rfl ?_)
  refine RunL.nil ?_
  refine run_cond_dec rfl (fun g31 => ?_) (fun g31 => ?_)
  · skip
    refine run_seq ?_
    refine run_region ?_
    refine RunL.cons (Op1.assign (v := str _) rfl ?_)
    refine RunL.nil ?_
    refine run_ret1 Try.func38 rfl (RV.tmp (v := str _) rfl) ?_
    subst g31
    exact ⟨congrArg str (by decide +kernel), hst.pure⟩
  refine run_skip ?_
  refine run_inBlock ?_
  refine run_seq ?_
  refine run_region ?_
  refine RunL.cons (Op1.assign (v := str _) rfl ?_)
  refine RunL.nil ?_
  refine run_ret1 Try.func38 rfl (RV.tmp (v := str _) rfl) ?_
  exact ⟨congrArg str (look_none (by simp only [firstT, List.forall_mem_cons]; exact ⟨g1, g2, g3, g4, g5, g6, g7, g8, g9, g10, g11, g12, g13, g14, g15, g16, g17, g18, g19, g20, g21, g22, g23, g24, g25, g26, g27, g28, g29, g30, g31, fun _ h => absurd h List.not_mem_nil⟩)).symm, hst.pure⟩

theorem R2gr_second (op : Int) (w : World) : Ret Try.prog 39 #[.int .u16 op] w (fun v w' => v = str (look secondT op) ∧ St w NoM [] [] w') := by
  refine Ret.enter (args := [.int .u16 op]) Try.func39 rfl rfl rfl ?_
  have hst := St.init w
  refine run_seq ?_
  refine run_region ?_
  refine RunL.cons (Op1.assign (v := str _) rfl ?_)
  refine RunL.nil ?_
  refine run_seq ?_
  refine run_seq ?_
  refine run_region ?_
  refine RunL.cons (Op1.move (v := .int .u16 _) rfl ?_)
  refine RunL.nil ?_
  refine run_block ?_
  refine run_seq ?_
  refine run_region ?_
  refine RunL.cons (Op1.eql rfl rfl ?_)
  refine RunL.cons (Op1.assign (v := .bool _) rfl ?_)
  refine RunL.nil ?_
  refine run_cond_dec rfl (fun g1 => ?_) (fun g1 => ?_)
  · skip
    refine run_seq ?_
    refine run_region ?_
    refine RunL.cons (Op1.assign (v := str _) rfl ?_)
    refine RunL.nil ?_
    refine run_ret1 Try.func39 rfl (RV.tmp (v := str _) rfl) ?_
    subst g1
    exact ⟨congrArg str (by decide +kernel), hst.pure⟩
  refine run_seq ?_
  refine run_region ?_
  refine RunL.cons (Op1.eql rfl rfl ?_)
  refine RunL.cons (Op1.assign (v := .bool _) rfl ?_)
  refine RunL.nil ?_
  refine run_cond_dec rfl (fun g2 => ?_) (fun g2 => ?_)
  · skip
    refine run_seq ?_
    refine run_region ?_
    refine RunL.cons (Op1.assign (v := str _) rfl ?_)
    refine RunL.nil ?_
    refine run_ret1 Try.func39 rfl (RV.tmp (v := str _) rfl) ?_
    subst g2
    exact ⟨congrArg str (by decide +kernel), hst.pure⟩
  refine run_seq ?_
  refine run_region ?_
  refine RunL.cons (Op1.eql rfl rfl ?_)
  refine RunL.cons (Op1.assign (v := .bool _) rfl ?_)
  refine RunL.nil ?_
  refine run_cond_dec rfl (fun g3 => ?_) (fun g3 => ?_)
  · skip
    refine run_seq ?_
    refine run_region ?_
    refine RunL.cons (Op1.assign (v := str _) rfl ?_)
    refine RunL.nil ?_
    refine run_ret1 Try.func39 rfl (RV.tmp (v := str _) rfl) ?_
    subst g3
    exact ⟨congrArg str (by decide +kernel), hst.pure⟩
  refine run_seq ?_
  refine run_region ?_
  refine RunL.cons (Op1.eql rfl rfl ?_)
  refine RunL.cons (Op1.assign (v := .bool _) rfl ?_)
  refine RunL.nil ?_
  refine run_cond_dec rfl (fun g4 => ?_) (fun g4 => ?_)
  · skip
    refine run_seq ?_
    refine run_region ?_
    refine RunL.cons (Op1.assign (v := str _) rfl ?_)
    refine RunL.nil ?_
    refine run_ret1 Try.func39 rfl (RV.tmp (v := str _) rfl) ?_
    subst g4
    exact ⟨congrArg str (by decide +kernel), hst.pure⟩
  refine run_seq ?_
  refine run_region ?_
  refine RunL.cons (Op1.eql rfl rfl ?_)
  refine RunL.cons (Op1.assign (v := .bool _) rfl ?_)
  refine RunL.nil ?_
  refine run_cond_dec rfl (fun g5 => ?_) (fun g5 => ?_)
  · skip
    refine run_seq ?_
    refine run_region ?_
    refine RunL.cons (Op1.assign (v := str _) rfl ?_)
    refine RunL.nil ?_
    refine run_ret1 Try.func39 rfl (RV.tmp (v := str _) rfl) ?_
    subst g5
    exact ⟨congrArg str (by decide +kernel), hst.pure⟩
  refine run_seq ?_
  refine run_region ?_
  refine RunL.cons (Op1.eql rfl rfl ?_)
  refine RunL.cons (Op1.assign (v := .bool _) rfl ?_)
  refine RunL.nil ?_
  refine run_cond_dec rfl (fun g6 => ?_) (fun g6 => ?_)
  · skip
    refine run_seq ?_
    refine run_region ?_
    refine RunL.cons (Op1.assign (v := str _) rfl ?_)
    refine RunL.nil ?_
    refine run_ret1 Try.func39 rfl (RV.tmp (v := str _) rfl) ?_
    subst g6
    exact ⟨congrArg str (by decide +kernel), hst.pure⟩
  refine run_seq ?_
  refine run_region ?_
  refine RunL.cons (Op1.eql rfl rfl ?_)
  refine RunL.cons (Op1.assign (v := .bool _) rfl ?_)
  refine RunL.nil ?_
  refine run_cond_dec rfl (fun g7 => ?_) (fun g7 => ?_)
  · skip
    refine run_seq ?_
    refine run_region ?_
    refine RunL.cons (Op1.assign (v := str _) rfl ?_)
    refine RunL.nil ?_
    refine run_ret1 Try.func39 rfl (RV.tmp (v := str _) rfl) ?_
    subst g7
    exact ⟨congrArg str (by decide +kernel), hst.pure⟩
  refine run_seq ?_
  refine run_region ?_
  refine RunL.cons (Op1.eql rfl rfl ?_)
  refine RunL.cons (Op1.assign (v := .bool _) rfl ?_)
  refine RunL.nil ?_
  refine run_cond_dec rfl (fun g8 => ?_) (fun g8 => ?_)
  · skip
    refine run_seq ?_
    refine run_region ?_
    refine RunL.cons (Op1.assign (v := str _) rfl ?_)
    refine RunL.nil ?_
    refine run_ret1 Try.func39 rfl (RV.tmp (v := str _) rfl) ?_
    subst g8
    exact ⟨congrArg str (by decide +kernel), hst.pure⟩
  refine run_seq ?_
  refine run_region ?_
  refine RunL.cons (Op1.eql rfl rfl ?_)
  refine RunL.cons (Op1.assign (v := .bool _) rfl ?_)
  refine RunL.nil ?_
  refine Run.forget [(3, .int .u16 _), (20, .bool _)] ⟨rfl, rfl, trivial⟩ (fun f => ?_)
  refine run_cond_dec rfl (fun g9 => ?_) (fun g9 => ?_)
  · skip
    refine run_seq ?_
    refine run_region ?_
    refine RunL.cons (Op1.assign (v := str _) rfl ?_)
    refine RunL.nil ?_
    refine run_ret1 Try.func39 rfl (RV.tmp (v := str _) rfl) ?_
    subst g9
    exact ⟨congrArg str (by decide +kernel), hst.pure⟩
  refine run_seq ?_
  refine run_region ?_
  refine RunL.cons (Op1.eql rfl rfl ?_)
  refine RunL.cons (Op1.assign (v := .bool _) rfl ?_)
  refine RunL.nil ?_
  refine run_cond_dec rfl (fun g10 => ?_) (fun g10 => ?_)
  · skip
    refine run_seq ?_
    refine run_region ?_
    refine RunL.cons (Op1.assign (v := str _) rfl ?_)
    refine RunL.nil ?_
    refine run_ret1 Try.func39 rfl (RV.tmp (v := str _) rfl) ?_
    subst g10
    exact ⟨congrArg str (by decide +kernel), hst.pure⟩
  refine run_seq ?_
  refine run_region ?_
  refine RunL.cons (Op1.eql rfl rfl ?_)
  refine RunL.cons (Op1.assign (v := .bool _) rfl ?_)
  refine RunL.nil ?_
  refine run_cond_dec rfl (fun g11 => ?_) (fun g11 => ?_)
  · skip
    refine run_seq ?_
    refine run_region ?_
    refine RunL.cons (Op1.assign (v := str _) rfl ?_)
    refine RunL.nil ?_
    refine run_ret1 Try.func39 rfl (RV.tmp (v := str _) rfl) ?_
    subst g11
    exact ⟨congrArg str (by decide +kernel), hst.pure⟩
  refine run_seq ?_
  refine run_region ?_
  refine RunL.cons (Op1.eql rfl rfl ?_)
  refine RunL.cons (Op1.assign (v := .bool _) rfl ?_)
  refine RunL.nil ?_
  refine run_cond_dec rfl (fun g12 => ?_) (fun g12 => ?_)
  · skip
    refine run_seq ?_
    refine run_region ?_
    refine RunL.cons (Op1.assign (v := str _) rfl ?_)
    refine RunL.nil ?_
    refine run_ret1 Try.func39 rfl (RV.tmp (v := str _) rfl) ?_
    subst g12
    exact ⟨congrArg str (by decide +kernel), hst.pure⟩
  refine run_seq ?_
  refine run_region ?_
  refine RunL.cons (Op1.eql rfl rfl ?_)
  refine RunL.cons (Op1.assign (v := .bool _) rfl ?_)
  refine RunL.nil ?_
  refine run_cond_dec rfl (fun g13 => ?_) (fun g13 => ?_)
  · skip
    refine run_seq ?_
    refine run_region ?_
    refine RunL.cons (Op1.assign (v := str _) rfl ?_)
    refine RunL.nil ?_
    refine run_ret1 Try.func39 rfl (RV.tmp (v := str _) rfl) ?_
    subst g13
    exact ⟨congrArg str (by decide +kernel), hst.pure⟩
  refine run_seq ?_
  refine run_region ?_
  refine RunL.cons (Op1.eql rfl rfl ?_)
  refine RunL.cons (Op1.assign (v := .bool _) rfl ?_)
  refine RunL.nil ?_
  refine run_cond_dec rfl (fun g14 => ?_) (fun g14 => ?_)
  · skip
    refine run_seq ?_
    refine run_region ?_
    refine RunL.cons (Op1.assign (v := str _) rfl ?_)
    refine RunL.nil ?_
    refine run_ret1 Try.func39 rfl (RV.tmp (v := str _) rfl) ?_
    subst g14
    exact ⟨congrArg str (by decide +kernel), hst.pure⟩
  refine run_seq ?_
  refine run_region ?_
  refine RunL.cons (Op1.eql rfl rfl ?_)
  refine RunL.cons (Op1.assign (v := .bool _) rfl ?_)
  refine RunL.nil ?_
  refine run_cond_dec rfl (fun g15 => ?_) (fun g15 => ?_)
  · skip
    refine run_seq ?_
    refine run_region ?_
    refine RunL.cons (Op1.assign (v := str _) rfl ?_)
    refine RunL.nil ?_
    refine run_ret1 Try.func39 rfl (RV.tmp (v := str _) rfl) ?_
    subst g15
    exact ⟨congrArg str (by decide +kernel), hst.pure⟩
  refine run_seq ?_
  refine run_region ?_
  refine RunL.cons (Op1.eql rfl rfl ?_)
  refine RunL.cons (Op1.assign (v := .bool _) rfl ?_)
  refine RunL.nil ?_
  refine run_cond_dec rfl (fun g16 => ?_) (fun g16 => ?_)
  · skip
    refine run_seq ?_
    refine run_region ?_
    refine RunL.cons (Op1.assign (v := str _) rfl ?_)
    refine RunL.nil ?_
    refine run_ret1 Try.func39 rfl (RV.tmp (v := str _) rfl) ?_
    subst g16
    exact ⟨congrArg str (by decide +kernel), hst.pure⟩
  refine run_seq ?_
  refine run_region ?_
  refine RunL.cons (Op1.eql rfl rfl ?_)
  refine RunL.cons (Op1.assign (v := .bool _) rfl ?_)
  refine RunL.nil ?_
  refine run_cond_dec rfl (fun g17 => ?_) (fun g17 => ?_)
  · skip
    refine run_seq ?_
    refine run_region ?_
    refine RunL.cons (Op1.assign (v := str _) rfl ?_)
    refine RunL.nil ?_
    refine run_ret1 Try.func39 rfl (RV.tmp (v := str _) rfl) ?_
    subst g17
    exact ⟨congrArg str (by decide +kernel), hst.pure⟩
  refine run_seq ?_
  refine run_region ?_
  refine RunL.cons (Op1.eql rfl rfl ?_)
  refine RunL.cons (Op1.assign (v := .bool _) rfl ?_)
  refine RunL.nil ?_
  refine run_cond_dec rfl (fun g18 => ?_) (fun g18 => ?_)
  · skip
    refine run_seq ?_
    refine run_region ?_
    refine RunL.cons (Op1.assign (v := str _) rfl ?_)
    refine RunL.nil ?_
    refine run_ret1 Try.func39 rfl (RV.tmp (v := str _) rfl) ?_
    subst g18
    exact ⟨congrArg str (by decide +kernel), hst.pure⟩
  refine run_seq ?_
  refine run_region ?_
  refine RunL.cons (Op1.eql rfl rfl ?_)
  refine RunL.cons (Op1.assign (v := .bool _) rfl ?_)
  refine RunL.nil ?_
  refine Run.forget [(3, .int .u16 _), (40, .bool _)] ⟨rfl, rfl, trivial⟩ (fun f => ?_)
  refine run_cond_dec rfl (fun g19 => ?_) (fun g19 => ?_)
  · skip
    refine run_seq ?_
    refine run_region ?_
    refine RunL.cons (Op1.assign (v := str _) rfl ?_)
    refine RunL.nil ?_
    refine run_ret1 Try.func39 rfl (RV.tmp (v := str _) rfl) ?_
    subst g19
    exact ⟨congrArg str (by decide +kernel), hst.pure⟩
  refine run_seq ?_
  refine run_region ?_
  refine RunL.cons (Op1.eql rfl rfl ?_)
  refine RunL.cons (Op1.assign (v := .bool _) rfl ?_)
  refine RunL.nil ?_
  refine run_cond_dec rfl (fun g20 => ?_) (fun g20 => ?_)
  · skip
    refine run_seq ?_
    refine run_region ?_
    refine RunL.cons (Op1.assign (v := str _) rfl ?_)
    refine RunL.nil ?_
    refine run_ret1 Try.func39 rfl (RV.tmp (v := str _) rfl) ?_
    subst g20
    exact ⟨congrArg str (by decide +kernel), hst.pure⟩
  refine run_seq ?_
  refine run_region ?_
  refine RunL.cons (Op1.eql rfl rfl ?_)
  refine RunL.cons (Op1.assign (v := .bool _) rfl ?_)
  refine RunL.nil ?_
  refine run_cond_dec rfl (fun g21 => ?_) (fun g21 => ?_)
  · skip
    refine run_seq ?_
    refine run_region ?_
    refine RunL.cons (Op1.assign (v := str _) rfl ?_)
    refine RunL.nil ?_
    refine run_ret1 Try.func39 rfl (RV.tmp (v := str _) rfl) ?_
    subst g21
    exact ⟨congrArg str (by decide +kernel), hst.pure⟩
  refine run_seq ?_
  refine run_region ?_
  refine RunL.cons (Op1.eql rfl rfl ?_)
  refine RunL.cons (Op1.assign (v := .bool _) rfl ?_)
  refine RunL.nil ?_
  refine run_cond_dec rfl (fun g22 => ?_) (fun g22 => ?_)
  · skip
    refine run_seq ?_
    refine run_region ?_
    refine RunL.cons (Op1.assign (v := str _) rfl ?_)
    refine RunL.nil ?_
    refine run_ret1 Try.func39 rfl (RV.tmp (v := str _) rfl) ?_
    subst g22
    exact ⟨congrArg str (by decide +kernel), hst.pure⟩
  refine run_seq ?_
  refine run_region ?_
  refine RunL.cons (Op1.eql rfl rfl ?_)
  refine RunL.cons (Op1.assign (v := .bool _) rfl ?_)
  refine RunL.nil ?_
  refine run_cond_dec rfl (fun g23 => ?_) (fun g23 => ?_)
  · skip
    refine run_seq ?_
    refine run_region ?_
    refine RunL.cons (Op1.assign (v := str _) rfl ?_)
    refine RunL.nil ?_
    refine run_ret1 Try.func39 rfl (RV.tmp (v := str _) rfl) ?_
    subst g23
    exact ⟨congrArg str (by decide +kernel), hst.pure⟩
  refine run_seq ?_
  refine run_region ?_
  refine RunL.cons (Op1.eql rfl rfl ?_)
  refine RunL.cons (Op1.assign (v := .bool _) rfl ?_)
  refine RunL.nil ?_
  refine run_cond_dec rfl (fun g24 => ?_) (fun g24 => ?_)
  · skip
    refine run_seq ?_
    refine run_region ?_
    refine RunL.cons (Op1.assign (v := str _) rfl ?_)
    refine RunL.nil ?_
    refine run_ret1 Try.func39 rfl (RV.tmp (v := str _) rfl) ?_
    subst g24
    exact ⟨congrArg str (by decide +kernel), hst.pure⟩
  refine run_seq ?_
  refine run_region ?_
  refine RunL.cons (Op1.eql rfl rfl ?_)
  refine RunL.cons (Op1.assign (v := .bool _) rfl ?_)
  refine RunL.nil ?_
  refine run_cond_dec rfl (fun g25 => ?_) (fun g25 => ?_)
  · skip
    refine run_seq ?_
    refine run_region ?_
    refine RunL.cons (Op1.assign (v := str _) rfl ?_)
    refine RunL.nil ?_
    refine run_ret1 Try.func39 rfl (RV.tmp (v := str _) rfl) ?_
    subst g25
    exact ⟨congrArg str (by decide +kernel), hst.pure⟩
  refine run_seq ?_
  refine run_region ?_
  refine RunL.cons (Op1.eql rfl rfl ?_)
  refine RunL.cons (Op1.assign (v := .bool _) rfl ?_)
  refine RunL.nil ?_
  refine run_cond_dec rfl (fun g26 => ?_) (fun g26 => ?_)
  · skip
    refine run_seq ?_
    refine run_region ?_
    refine RunL.cons (Op1.assign (v := str _) rfl ?_)
    refine RunL.nil ?_
    refine run_ret1 Try.func39 rfl (RV.tmp (v := str _) rfl) ?_
    subst g26
    exact ⟨congrArg str (by decide +kernel), hst.pure⟩
  refine run_seq ?_
  refine run_region ?_
  refine RunL.cons (Op1.eql rfl rfl ?_)
  refine RunL.cons (Op1.assign (v := .bool _) rfl ?_)
  refine RunL.nil ?_
  refine run_cond_dec rfl (fun g27 => ?_) (fun g27 => ?_)
  · skip
    refine run_seq ?_
    refine run_region ?_
    refine RunL.cons (Op1.assign (v := str _) rfl ?_)
    refine RunL.nil ?_
    refine run_ret1 Try.func39 rfl (RV.tmp (v := str _) rfl) ?_
    subst g27
    exact ⟨congrArg str (by decide +kernel), hst.pure⟩
  refine run_seq ?_
  refine run_region ?_
  refine RunL.cons (Op1.eql rfl rfl ?_)
  refine RunL.cons (Op1.assign (v := .bool _) rfl ?_)
  refine RunL.nil ?_
  refine run_cond_dec rfl (fun g28 => ?_) (fun g28 => ?_)
  · skip
    refine run_seq ?_
    refine run_region ?_
    refine RunL.cons (Op1.assign (v := str _) rfl ?_)
    refine RunL.nil ?_
    refine run_ret1 Try.func39 rfl (RV.tmp (v := str _) rfl) ?_
    subst g28
    exact ⟨congrArg str (by decide +kernel), hst.pure⟩
  refine run_seq ?_
  refine run_region ?_
  refine RunL.cons (Op1.eql rfl rfl ?_)
  refine RunL.cons (Op1.assign (v := .bool _) rfl ?_)
  refine RunL.nil ?_
  refine Run.forget [(3, .int .u16 _), (60, .bool _)] ⟨rfl, rfl, trivial⟩ (fun f => ?_)
  refine run_cond_dec rfl (fun g29 => ?_) (fun g29 => ?_)
  · skip
    refine run_seq ?_
    refine run_region ?_
    refine RunL.cons (Op1.assign (v := str _) rfl ?_)
    refine RunL.nil ?_
    refine run_ret1 Try.func39 rfl (RV.tmp (v := str _) rfl) ?_
    subst g29
    exact ⟨congrArg str (by decide +kernel), hst.pure⟩
  refine run_seq ?_
  refine run_region ?_
  refine RunL.cons (Op1.eql rfl rfl ?_)
  refine RunL.cons (Op1.assign (v := .bool _) rfl ?_)
  refine RunL.nil ?_
  refine run_cond_dec rfl (fun g30 => ?_) (fun g30 => ?_)
  · skip
    refine run_seq ?_
    refine run_region ?_
    refine RunL.cons (Op1.assign (v := str _) rfl ?_)
    refine RunL.nil ?_
    refine run_ret1 Try.func39 rfl (RV.tmp (v := str _) rfl) ?_
    subst g30
    exact ⟨congrArg str (by decide +kernel), hst.pure⟩
  refine run_seq ?_
  refine run_region ?_
  refine RunL.cons (Op1.eql rfl rfl ?_)
  refine RunL.cons (Op1.assign (v := .bool _) rfl ?_)
  refine RunL.nil ?_
  refine run_cond_dec rfl (fun g31 => ?_) (fun g31 => ?_)
  · skip
    refine run_seq ?_
    refine run_region ?_
    refine RunL.cons (Op1.assign (v := str _) rfl ?_)
    refine RunL.nil ?_
    refine run_ret1 Try.func39 rfl (RV.tmp (v := str _) rfl) ?_
    subst g31
    exact ⟨congrArg str (by decide +kernel), hst.pure⟩
  refine run_skip ?_
  refine run_inBlock ?_
  refine run_seq ?_
  refine run_region ?_
  refine RunL.cons (Op1.assign (v := str _) rfl ?_)
  refine RunL.nil ?_
  refine run_ret1 Try.func39 rfl (RV.tmp (v := str _) rfl) ?_
  exact ⟨congrArg str (look_none (by simp only [secondT, List.forall_mem_cons]; exact ⟨g1, g2, g3, g4, g5, g6, g7, g8, g9, g10, g11, g12, g13, g14, g15, g16, g17, g18, g19, g20, g21, g22, g23, g24, g25, g26, g27, g28, g29, g30, g31, fun _ h => absurd h List.not_mem_nil⟩)).symm, hst.pure⟩

theorem R2gr_third (op : Int) (w : World) : Ret Try.prog 40 #[.int .u16 op] w (fun v w' => v = str (look thirdT op) ∧ St w NoM [] [] w') := by
  refine Ret.enter (args := [.int .u16 op]) Try.func40 rfl rfl rfl ?_
  have hst := St.init w
  refine run_seq ?_
  refine run_region ?_
  refine RunL.cons (Op1.assign (v := str _) rfl ?_)
  refine RunL.nil ?_
  refine run_seq ?_
  refine run_seq ?_
  refine run_region ?_
  refine RunL.cons (Op1.move (v := .int .u16 _) rfl ?_)
  refine RunL.nil ?_
  refine run_block ?_
  refine run_seq ?_
  refine run_region ?_
  refine RunL.cons (Op1.eql rfl rfl ?_)
  refine RunL.cons (Op1.assign (v := .bool _) rfl ?_)
  refine RunL.nil ?_
  refine run_cond_dec rfl (fun g1 => ?_) (fun g1 => ?_)
  · skip
    refine run_seq ?_
    refine run_region ?_
    refine RunL.cons (Op1.assign (v := str _) rfl ?_)
    refine RunL.nil ?_
    refine run_ret1 Try.func40 rfl (RV.tmp (v := str _) rfl) ?_
    subst g1
    exact ⟨congrArg str (by decide +kernel), hst.pure⟩
  refine run_seq ?_
  refine run_region ?_
  refine RunL.cons (Op1.eql rfl rfl ?_)
  refine RunL.cons (Op1.assign (v := .bool _) rfl ?_)
  refine RunL.nil ?_
  refine run_cond_dec rfl (fun g2 => ?_) (fun g2 => ?_)
  · skip
    refine run_seq ?_
    refine run_region ?_
    refine RunL.cons (Op1.assign (v := str _) rfl ?_)
    refine RunL.nil ?_
    refine run_ret1 Try.func40 rfl (RV.tmp (v := str _) rfl) ?_
    subst g2
    exact ⟨congrArg str (by decide +kernel), hst.pure⟩
  refine run_seq ?_
  refine run_region ?_
  refine RunL.cons (Op1.eql rfl rfl ?_)
  refine RunL.cons (Op1.assign (v := .bool _) rfl ?_)
  refine RunL.nil ?_
  refine run_cond_dec rfl (fun g3 => ?_) (fun g3 => ?_)
  · skip
    refine run_seq ?_
    refine run_region ?_
    refine RunL.cons (Op1.assign (v := str _) rfl ?_)
    refine RunL.nil ?_
    refine run_ret1 Try.func40 rfl (RV.tmp (v := str _) rfl) ?_
    subst g3
    exact ⟨congrArg str (by decide +kernel), hst.pure⟩
  refine run_seq ?_
  refine run_region ?_
  refine RunL.cons (Op1.eql rfl rfl ?_)
  refine RunL.cons (Op1.assign (v := .bool _) rfl ?_)
  refine RunL.nil ?_
  refine run_cond_dec rfl (fun g4 => ?_) (fun g4 => ?_)
  · skip
    refine run_seq ?_
    refine run_region ?_
    refine RunL.cons (Op1.assign (v := str _) rfl ?_)
    refine RunL.nil ?_
    refine run_ret1 Try.func40 rfl (RV.tmp (v := str _) rfl) ?_
    subst g4
    exact ⟨congrArg str (by decide +kernel), hst.pure⟩
  refine run_seq ?_
  refine run_region ?_
  refine RunL.cons (Op1.eql rfl rfl ?_)
  refine RunL.cons (Op1.assign (v := .bool _) rfl ?_)
  refine RunL.nil ?_
  refine run_cond_dec rfl (fun g5 => ?_) (fun g5 => ?_)
  · skip
    refine run_seq ?_
    refine run_region ?_
    refine RunL.cons (Op1.assign (v := str _) rfl ?_)
    refine RunL.nil ?_
    refine run_ret1 Try.func40 rfl (RV.tmp (v := str _) rfl) ?_
    subst g5
    exact ⟨congrArg str (by decide +kernel), hst.pure⟩
  refine run_seq ?_
  refine run_region ?_
  refine RunL.cons (Op1.eql rfl rfl ?_)
  refine RunL.cons (Op1.assign (v := .bool _) rfl ?_)
  refine RunL.nil ?_
  refine run_cond_dec rfl (fun g6 => ?_) (fun g6 => ?_)
  · skip
    refine run_seq ?_
    refine run_region ?_
    refine RunL.cons (Op1.assign (v := str _) rfl ?_)
    refine RunL.nil ?_
    refine run_ret1 Try.func40 rfl (RV.tmp (v := str _) rfl) ?_
    subst g6
    exact ⟨congrArg str (by decide +kernel), hst.pure⟩
  refine run_seq ?_
  refine run_region ?_
  refine RunL.cons (Op1.eql rfl rfl ?_)
  refine RunL.cons (Op1.assign (v := .bool _) rfl ?_)
  refine RunL.nil ?_
  refine run_cond_dec rfl (fun g7 => ?_) (fun g7 => ?_)
  · skip
    refine run_seq ?_
    refine run_region ?_
    refine RunL.cons (Op1.assign (v := str _) rfl ?_)
    refine RunL.nil ?_
    refine run_ret1 Try.func40 rfl (RV.tmp (v := str _) rfl) ?_
    subst g7
    exact ⟨congrArg str (by decide +kernel), hst.pure⟩
  refine run_seq ?_
  refine run_region ?_
  refine RunL.cons (Op1.eql rfl rfl ?_)
  refine RunL.cons (Op1.assign (v := .bool _) rfl ?_)
  refine RunL.nil ?_
  refine run_cond_dec rfl (fun g8 => ?_) (fun g8 => ?_)
  · skip
    refine run_seq ?_
    refine run_region ?_
    refine RunL.cons (Op1.assign (v := str _) rfl ?_)
    refine RunL.nil ?_
    refine run_ret1 Try.func40 rfl (RV.tmp (v := str _) rfl) ?_
    subst g8
    exact ⟨congrArg str (by decide +kernel), hst.pure⟩
  refine run_seq ?_
  refine run_region ?_
  refine RunL.cons (Op1.eql rfl rfl ?_)
  refine RunL.cons (Op1.assign (v := .bool _) rfl ?_)
  refine RunL.nil ?_
  refine Run.forget [(3, .int .u16 _), (20, .bool _)] ⟨rfl, rfl, trivial⟩ (fun f => ?_)
  refine run_cond_dec rfl (fun g9 => ?_) (fun g9 => ?_)
  · skip
    refine run_seq ?_
    refine run_region ?_
    refine RunL.cons (Op1.assign (v := str _) rfl ?_)
    refine RunL.nil ?_
    refine run_ret1 Try.func40 rfl (RV.tmp (v := str _) rfl) ?_
    subst g9
    exact ⟨congrArg str (by decide +kernel), hst.pure⟩
  refine run_seq ?_
  refine run_region ?_
  refine RunL.cons (Op1.eql rfl rfl ?_)
  refine RunL.cons (Op1.assign (v := .bool _) rfl ?_)
  refine RunL.nil ?_
  refine run_cond_dec rfl (fun g10 => ?_) (fun g10 => ?_)
  · skip
    refine run_seq ?_
    refine run_region ?_
    refine RunL.cons (Op1.assign (v := str _) rfl ?_)
    refine RunL.nil ?_
    refine run_ret1 Try.func40 rfl (RV.tmp (v := str _) rfl) ?_
    subst g10
    exact ⟨congrArg str (by decide +kernel), hst.pure⟩
  refine run_seq ?_
  refine run_region ?_
  refine RunL.cons (Op1.eql rfl rfl ?_)
  refine RunL.cons (Op1.assign (v := .bool _) rfl ?_)
  refine RunL.nil ?_
  refine run_cond_dec rfl (fun g11 => ?_) (fun g11 => ?_)
  · skip
    refine run_seq ?_
    refine run_region ?_
    refine RunL.cons (Op1.assign (v := str _) rfl ?_)
    refine RunL.nil ?_
    refine run_ret1 Try.func40 rfl (RV.tmp (v := str _) rfl) ?_
    subst g11
    exact ⟨congrArg str (by decide +kernel), hst.pure⟩
  refine run_seq ?_
  refine run_region ?_
  refine RunL.cons (Op1.eql rfl rfl ?_)
  refine RunL.cons (Op1.assign (v := .bool _) rfl ?_)
  refine RunL.nil ?_
  refine run_cond_dec rfl (fun g12 => ?_) (fun g12 => ?_)
  · skip
    refine run_seq ?_
    refine run_region ?_
    refine RunL.cons (Op1.assign (v := str _) rfl ?_)
    refine RunL.nil ?_
    refine run_ret1 Try.func40 rfl (RV.tmp (v := str _) rfl) ?_
    subst g12
    exact ⟨congrArg str (by decide +kernel), hst.pure⟩
  refine run_seq ?_
  refine run_region ?_
  refine RunL.cons (Op1.eql rfl rfl ?_)
  refine RunL.cons (Op1.assign (v := .bool _) rfl ?_)
  refine RunL.nil ?_
  refine run_cond_dec rfl (fun g13 => ?_) (fun g13 => ?_)
  · skip
    refine run_seq ?_
    refine run_region ?_
    refine RunL.cons (Op1.assign (v := str _) rfl ?_)
    refine RunL.nil ?_
    refine run_ret1 Try.func40 rfl (RV.tmp (v := str _) rfl) ?_
    subst g13
    exact ⟨congrArg str (by decide +kernel), hst.pure⟩
  refine run_seq ?_
  refine run_region ?_
  refine RunL.cons (Op1.eql rfl rfl ?_)
  refine RunL.cons (Op1.assign (v := .bool _) rfl ?_)
  refine RunL.nil ?_
  refine run_cond_dec rfl (fun g14 => ?_) (fun g14 => ?_)
  · skip
    refine run_seq ?_
    refine run_region ?_
    refine RunL.cons (Op1.assign (v := str _) rfl ?_)
    refine RunL.nil ?_
    refine run_ret1 Try.func40 rfl (RV.tmp (v := str _) rfl) ?_
    subst g14
    exact ⟨congrArg str (by decide +kernel), hst.pure⟩
  refine run_seq ?_
  refine run_region ?_
  refine RunL.cons (Op1.eql rfl rfl ?_)
  refine RunL.cons (Op1.assign (v := .bool _) rfl ?_)
  refine RunL.nil ?_
  refine run_cond_dec rfl (fun g15 => ?_) (fun g15 => ?_)
  · skip
    refine run_seq ?_
    refine run_region ?_
    refine RunL.cons (Op1.assign (v := str _) rfl ?_)
    refine RunL.nil ?_
    refine run_ret1 Try.func40 rfl (RV.tmp (v := str _) rfl) ?_
    subst g15
    exact ⟨congrArg str (by decide +kernel), hst.pure⟩
  refine run_seq ?_
  refine run_region ?_
  refine RunL.cons (Op1.eql rfl rfl ?_)
  refine RunL.cons (Op1.assign (v := .bool _) rfl ?_)
  refine RunL.nil ?_
  refine run_cond_dec rfl (fun g16 => ?_) (fun g16 => ?_)
  · skip
    refine run_seq ?_
    refine run_region ?_
    refine RunL.cons (Op1.assign (v := str _) rfl ?_)
    refine RunL.nil ?_
    refine run_ret1 Try.func40 rfl (RV.tmp (v := str _) rfl) ?_
    subst g16
    exact ⟨congrArg str (by decide +kernel), hst.pure⟩
  refine run_seq ?_
  refine run_region ?_
  refine RunL.cons (Op1.eql rfl rfl ?_)
  refine RunL.cons (Op1.assign (v := .bool _) rfl ?_)
  refine RunL.nil ?_
  refine run_cond_dec rfl (fun g17 => ?_) (fun g17 => ?_)
  · skip
    refine run_seq ?_
    refine run_region ?_
    refine RunL.cons (Op1.assign (v := str _) rfl ?_)
    refine RunL.nil ?_
    refine run_ret1 Try.func40 rfl (RV.tmp (v := str _) rfl) ?_
    subst g17
    exact ⟨congrArg str (by decide +kernel), hst.pure⟩
  refine run_seq ?_
  refine run_region ?_
  refine RunL.cons (Op1.eql rfl rfl ?_)
  refine RunL.cons (Op1.assign (v := .bool _) rfl ?_)
  refine RunL.nil ?_
  refine run_cond_dec rfl (fun g18 => ?_) (fun g18 => ?_)
  · skip
    refine run_seq ?_
    refine run_region ?_
    refine RunL.cons (Op1.assign (v := str _) rfl ?_)
    refine RunL.nil ?_
    refine run_ret1 Try.func40 rfl (RV.tmp (v := str _) rfl) ?_
    subst g18
    exact ⟨congrArg str (by decide +kernel), hst.pure⟩
  refine run_seq ?_
  refine run_region ?_
  refine RunL.cons (Op1.eql rfl rfl ?_)
  refine RunL.cons (Op1.assign (v := .bool _) rfl ?_)
  refine RunL.nil ?_
  refine Run.forget [(3, .int .u16 _), (40, .bool _)] ⟨rfl, rfl, trivial⟩ (fun f => ?_)
  refine run_cond_dec rfl (fun g19 => ?_) (fun g19 => ?_)
  · skip
    refine run_seq ?_
    refine run_region ?_
    refine RunL.cons (Op1.assign (v := str _) rfl ?_)
    refine RunL.nil ?_
    refine run_ret1 Try.func40 rfl (RV.tmp (v := str _) rfl) ?_
    subst g19
    exact ⟨congrArg str (by decide +kernel), hst.pure⟩
  refine run_seq ?_
  refine run_region ?_
  refine RunL.cons (Op1.eql rfl rfl ?_)
  refine RunL.cons (Op1.assign (v := .bool _) rfl ?_)
  refine RunL.nil ?_
  refine run_cond_dec rfl (fun g20 => ?_) (fun g20 => ?_)
  · skip
    refine run_seq ?_
    refine run_region ?_
    refine RunL.cons (Op1.assign (v := str _) rfl ?_)
    refine RunL.nil ?_
    refine run_ret1 Try.func40 rfl (RV.tmp (v := str _) rfl) ?_
    subst g20
    exact ⟨congrArg str (by decide +kernel), hst.pure⟩
  refine run_seq ?_
  refine run_region ?_
  refine RunL.cons (Op1.eql rfl rfl ?_)
  refine RunL.cons (Op1.assign (v := .bool _) rfl ?_)
  refine RunL.nil ?_
  refine run_cond_dec rfl (fun g21 => ?_) (fun g21 => ?_)
  · skip
    refine run_seq ?_
    refine run_region ?_
    refine RunL.cons (Op1.assign (v := str _) rfl ?_)
    refine RunL.nil ?_
    refine run_ret1 Try.func40 rfl (RV.tmp (v := str _) rfl) ?_
    subst g21
    exact ⟨congrArg str (by decide +kernel), hst.pure⟩
  refine run_seq ?_
  refine run_region ?_
  refine RunL.cons (Op1.eql rfl rfl ?_)
  refine RunL.cons (Op1.assign (v := .bool _) rfl ?_)
  refine RunL.nil ?_
  refine run_cond_dec rfl (fun g22 => ?_) (fun g22 => ?_)
  · skip
    refine run_seq ?_
    refine run_region ?_
    refine RunL.cons (Op1.assign (v := str _) rfl ?_)
    refine RunL.nil ?_
    refine run_ret1 Try.func40 rfl (RV.tmp (v := str _) rfl) ?_
    subst g22
    exact ⟨congrArg str (by decide +kernel), hst.pure⟩
  refine run_seq ?_
  refine run_region ?_
  refine RunL.cons (Op1.eql rfl rfl ?_)
  refine RunL.cons (Op1.assign (v := .bool _) rfl ?_)
  refine RunL.nil ?_
  refine run_cond_dec rfl (fun g23 => ?_) (fun g23 => ?_)
  · skip
    refine run_seq ?_
    refine run_region ?_
    refine RunL.cons (Op1.assign (v := str _) rfl ?_)
    refine RunL.nil ?_
    refine run_ret1 Try.func40 rfl (RV.tmp (v := str _) rfl) ?_
    subst g23
    exact ⟨congrArg str (by decide +kernel), hst.pure⟩
  refine run_seq ?_
  refine run_region ?_
  refine RunL.cons (Op1.eql rfl rfl ?_)
  refine RunL.cons (Op1.assign (v := .bool _) rfl ?_)
  refine RunL.nil ?_
  refine run_cond_dec rfl (fun g24 => ?_) (fun g24 => ?_)
  · skip
    refine run_seq ?_
    refine run_region ?_
    refine RunL.cons (Op1.assign (v := str _) rfl ?_)
    refine RunL.nil ?_
    refine run_ret1 Try.func40 rfl (RV.tmp (v := str _) rfl) ?_
    subst g24
    exact ⟨congrArg str (by decide +kernel), hst.pure⟩
  refine run_seq ?_
  refine run_region ?_
  refine RunL.cons (Op1.eql rfl rfl ?_)
  refine RunL.cons (Op1.assign (v := .bool _) rfl ?_)
  refine RunL.nil ?_
  refine run_cond_dec rfl (fun g25 => ?_) (fun g25 => ?_)
  · skip
    refine run_seq ?_
    refine run_region ?_
    refine RunL.cons (Op1.assign (v := str _) rfl ?_)
    refine RunL.nil ?_
    refine run_ret1 Try.func40 rfl (RV.tmp (v := str _) rfl) ?_
    subst g25
    exact ⟨congrArg str (by decide +kernel), hst.pure⟩
  refine run_seq ?_
  refine run_region ?_
  refine RunL.cons (Op1.eql rfl rfl ?_)
  refine RunL.cons (Op1.assign (v := .bool _) rfl ?_)
  refine RunL.nil ?_
  refine run_cond_dec rfl (fun g26 => ?_) (fun g26 => ?_)
  · skip
    refine run_seq ?_
    refine run_region ?_
    refine RunL.cons (Op1.assign (v := str _) rfl ?_)
    refine RunL.nil ?_
    refine run_ret1 Try.func40 rfl (RV.tmp (v := str _) rfl) ?_
    subst g26
    exact ⟨congrArg str (by decide +kernel), hst.pure⟩
  refine run_seq ?_
  refine run_region ?_
  refine RunL.cons (Op1.eql rfl rfl ?_)
  refine RunL.cons (Op1.assign (v := .bool _) rfl ?_)
  refine RunL.nil ?_
  refine run_cond_dec rfl (fun g27 => ?_) (fun g27 => ?_)
  · skip
    refine run_seq ?_
    refine run_region ?_
    refine RunL.cons (Op1.assign (v := str _) rfl ?_)
    refine RunL.nil ?_
    refine run_ret1 Try.func40 rfl (RV.tmp (v := str _) rfl) ?_
    subst g27
    exact ⟨congrArg str (by decide +kernel), hst.pure⟩
  refine run_seq ?_
  refine run_region ?_
  refine RunL.cons (Op1.eql rfl rfl ?_)
  refine RunL.cons (Op1.assign (v := .bool _) rfl ?_)
  refine RunL.nil ?_
  refine run_cond_dec rfl (fun g28 => ?_) (fun g28 => ?_)
  · skip
    refine run_seq ?_
    refine run_region ?_
    refine RunL.cons (Op1.assign (v := str _) rfl ?_)
    refine RunL.nil ?_
    refine run_ret1 Try.func40 rfl (RV.tmp (v := str _) rfl) ?_
    subst g28
    exact ⟨congrArg str (by decide +kernel), hst.pure⟩
  refine run_seq ?_
  refine run_region ?_
  refine RunL.cons (Op1.eql rfl rfl ?_)
  refine RunL.cons (Op1.assign (v := .bool _) rfl ?_)
  refine RunL.nil ?_
  refine Run.forget [(3, .int .u16 _), (60, .bool _)] ⟨rfl, rfl, trivial⟩ (fun f => ?_)
  refine run_cond_dec rfl (fun g29 => ?_) (fun g29 => ?_)
  · skip
    refine run_seq ?_
    refine run_region ?_
    refine RunL.cons (Op1.assign (v := str _) rfl ?_)
    refine RunL.nil ?_
    refine run_ret1 Try.func40 rfl (RV.tmp (v := str _) rfl) ?_
    subst g29
    exact ⟨congrArg str (by decide +kernel), hst.pure⟩
  refine run_seq ?_
  refine run_region ?_
  refine RunL.cons (Op1.eql rfl rfl ?_)
  refine RunL.cons (Op1.assign (v := .bool _) rfl ?_)
  refine RunL.nil ?_
  refine run_cond_dec rfl (fun g30 => ?_) (fun g30 => ?_)
  · skip
    refine run_seq ?_
    refine run_region ?_
    refine RunL.cons (Op1.assign (v := str _) rfl ?_)
    refine RunL.nil ?_
    refine run_ret1 Try.func40 rfl (RV.tmp (v := str _) rfl) ?_
    subst g30
    exact ⟨congrArg str (by decide +kernel), hst.pure⟩
  refine run_seq ?_
  refine run_region ?_
  refine RunL.cons (Op1.eql rfl rfl ?_)
  refine RunL.cons (Op1.assign (v := .bool _) rfl ?_)
  refine RunL.nil ?_
  refine run_cond_dec rfl (fun g31 => ?_) (fun g31 => ?_)
  · skip
    refine run_seq ?_
    refine run_region ?_
    refine RunL.cons (Op1.assign (v := str _) rfl ?_)
    refine RunL.nil ?_
    refine run_ret1 Try.func40 rfl (RV.tmp (v := str _) rfl) ?_
    subst g31
    exact ⟨congrArg str (by decide +kernel), hst.pure⟩
  refine run_skip ?_
  refine run_inBlock ?_
  refine run_seq ?_
  refine run_region ?_
  refine RunL.cons (Op1.assign (v := str _) rfl ?_)
  refine RunL.nil ?_
  refine run_ret1 Try.func40 rfl (RV.tmp (v := str _) rfl) ?_
  exact ⟨congrArg str (look_none (by simp only [thirdT, List.forall_mem_cons]; exact ⟨g1, g2, g3, g4, g5, g6, g7, g8, g9, g10, g11, g12, g13, g14, g15, g16, g17, g18, g19, g20, g21, g22, g23, g24, g25, g26, g27, g28, g29, g30, g31, fun _ h => absurd h List.not_mem_nil⟩)).symm, hst.pure⟩

theorem R2gr_row (op : Int) (w : World) : Ret Try.prog 34 #[.int .u16 op] w (fun v w' => v = str (rowS op) ∧ St w NoM [] [] w') := by
  refine Ret.enter (args := [.int .u16 op]) Try.func34 rfl rfl rfl ?_
  have hst := St.init w
  refine run_seq ?_
  refine run_region ?_
  refine RunL.cons (Op1.assign (v := str _) rfl ?_)
  refine RunL.nil ?_
  refine run_seq ?_
  refine run_block ?_
  refine run_seq ?_
  refine run_region ?_
  refine RunL.cons (Op1.move (v := .int .u16 _) rfl ?_)
  refine RunL.cons (Op1.leq rfl rfl ?_)
  refine RunL.cons (Op1.assign (v := .bool _) rfl ?_)
  refine RunL.nil ?_
  refine run_cond_dec rfl (fun g1 => ?_) (fun g1 => ?_)
  · skip
    refine run_seq ?_
    refine run_region ?_
    refine RunL.cons (Op1.move (v := .int .u16 _) rfl ?_)
    refine RunL.cons (Op1.call1 (v1 := .int .u16 _) ent38 rfl rfl ((R2gr_first _ _).mono fun v w hp => ?_))
    obtain ⟨rfl, hp⟩ := hp
    replace hst := hst.keepc hp
    clear hp
    refine RunL.cons (Op1.assign (v := str _) rfl ?_)
    refine RunL.nil ?_
    refine run_ret1 Try.func34 rfl (RV.tmp (v := str _) rfl) ?_
    refine ⟨congrArg str ?_, hst.pure⟩
    unfold rowS
    rw [if_pos g1]
  refine run_seq ?_
  refine run_region ?_
  refine RunL.cons (Op1.move (v := .int .u16 _) rfl ?_)
  refine RunL.cons (Op1.leq rfl rfl ?_)
  refine RunL.cons (Op1.assign (v := .bool _) rfl ?_)
  refine RunL.nil ?_
  refine run_cond_dec rfl (fun g2 => ?_) (fun g2 => ?_)
  · skip
    refine run_seq ?_
    refine run_region ?_
    refine RunL.cons (Op1.move (v := .int .u16 _) rfl ?_)
    refine RunL.cons (Op1.call1 (v1 := .int .u16 _) ent39 rfl rfl ((R2gr_second _ _).mono fun v w hp => ?_))
    obtain ⟨rfl, hp⟩ := hp
    replace hst := hst.keepc hp
    clear hp
    refine RunL.cons (Op1.assign (v := str _) rfl ?_)
    refine RunL.nil ?_
    refine run_ret1 Try.func34 rfl (RV.tmp (v := str _) rfl) ?_
    refine ⟨congrArg str ?_, hst.pure⟩
    unfold rowS
    rw [if_neg g1, if_pos g2]
  refine run_skip ?_
  refine run_inBlock ?_
  refine run_seq ?_
  refine run_region ?_
  refine RunL.cons (Op1.move (v := .int .u16 _) rfl ?_)
  refine RunL.cons (Op1.call1 (v1 := .int .u16 _) ent40 rfl rfl ((R2gr_third _ _).mono fun v w hp => ?_))
  obtain ⟨rfl, hp⟩ := hp
  replace hst := hst.keepc hp
  clear hp
  refine RunL.cons (Op1.assign (v := str _) rfl ?_)
  refine RunL.nil ?_
  refine run_ret1 Try.func34 rfl (RV.tmp (v := str _) rfl) ?_
  refine ⟨congrArg str ?_, hst.pure⟩
  unfold rowS
  rw [if_neg g1, if_neg g2]

theorem R2gr_names (c : Int) (w : World) : Ret Try.prog 31 #[.int .u8 c] w (fun v w' => v = str (look namesT c) ∧ St w NoM [] [] w') := by
  refine Ret.enter (args := [.int .u8 c]) Try.func31 rfl rfl rfl ?_
  have hst := St.init w
  refine run_seq ?_
  refine run_region ?_
  refine RunL.cons (Op1.assign (v := str _) rfl ?_)
  refine RunL.nil ?_
  refine run_seq ?_
  refine run_seq ?_
  refine run_region ?_
  refine RunL.cons (Op1.move (v := .int .u8 _) rfl ?_)
  refine RunL.nil ?_
  refine run_block ?_
  refine run_seq ?_
  refine run_region ?_
  refine RunL.cons (Op1.eql rfl rfl ?_)
  refine RunL.cons (Op1.assign (v := .bool _) rfl ?_)
  refine RunL.nil ?_
  refine run_cond_dec rfl (fun g1 => ?_) (fun g1 => ?_)
  · skip
    refine run_seq ?_
    refine run_region ?_
    refine RunL.cons (Op1.assign (v := str _) rfl ?_)
    refine RunL.nil ?_
    refine run_ret1 Try.func31 rfl (RV.tmp (v := str _) rfl) ?_
    subst g1
    exact ⟨congrArg str (by decide +kernel), hst.pure⟩
  refine run_seq ?_
  refine run_region ?_
  refine RunL.cons (Op1.eql rfl rfl ?_)
  refine RunL.cons (Op1.assign (v := .bool _) rfl ?_)
  refine RunL.nil ?_
  refine run_cond_dec rfl (fun g2 => ?_) (fun g2 => ?_)
  · skip
    refine run_seq ?_
    refine run_region ?_
    refine RunL.cons (Op1.assign (v := str _) rfl ?_)
    refine RunL.nil ?_
    refine run_ret1 Try.func31 rfl (RV.tmp (v := str _) rfl) ?_
    subst g2
    exact ⟨congrArg str (by decide +kernel), hst.pure⟩
  refine run_seq ?_
  refine run_region ?_
  refine RunL.cons (Op1.eql rfl rfl ?_)
  refine RunL.cons (Op1.assign (v := .bool _) rfl ?_)
  refine RunL.nil ?_
  refine run_cond_dec rfl (fun g3 => ?_) (fun g3 => ?_)
  · skip
    refine run_seq ?_
    refine run_region ?_
    refine RunL.cons (Op1.assign (v := str _) rfl ?_)
    refine RunL.nil ?_
    refine run_ret1 Try.func31 rfl (RV.tmp (v := str _) rfl) ?_
    subst g3
    exact ⟨congrArg str (by decide +kernel), hst.pure⟩
  refine run_seq ?_
  refine run_region ?_
  refine RunL.cons (Op1.eql rfl rfl ?_)
  refine RunL.cons (Op1.assign (v := .bool _) rfl ?_)
  refine RunL.nil ?_
  refine run_cond_dec rfl (fun g4 => ?_) (fun g4 => ?_)
  · skip
    refine run_seq ?_
    refine run_region ?_
    refine RunL.cons (Op1.assign (v := str _) rfl ?_)
    refine RunL.nil ?_
    refine run_ret1 Try.func31 rfl (RV.tmp (v := str _) rfl) ?_
    subst g4
    exact ⟨congrArg str (by decide +kernel), hst.pure⟩
  refine run_seq ?_
  refine run_region ?_
  refine RunL.cons (Op1.eql rfl rfl ?_)
  refine RunL.cons (Op1.assign (v := .bool _) rfl ?_)
  refine RunL.nil ?_
  refine run_cond_dec rfl (fun g5 => ?_) (fun g5 => ?_)
  · skip
    refine run_seq ?_
    refine run_region ?_
    refine RunL.cons (Op1.assign (v := str _) rfl ?_)
    refine RunL.nil ?_
    refine run_ret1 Try.func31 rfl (RV.tmp (v := str _) rfl) ?_
    subst g5
    exact ⟨congrArg str (by decide +kernel), hst.pure⟩
  refine run_seq ?_
  refine run_region ?_
  refine RunL.cons (Op1.eql rfl rfl ?_)
  refine RunL.cons (Op1.assign (v := .bool _) rfl ?_)
  refine RunL.nil ?_
  refine run_cond_dec rfl (fun g6 => ?_) (fun g6 => ?_)
  · skip
    refine run_seq ?_
    refine run_region ?_
    refine RunL.cons (Op1.assign (v := str _) rfl ?_)
    refine RunL.nil ?_
    refine run_ret1 Try.func31 rfl (RV.tmp (v := str _) rfl) ?_
    subst g6
    exact ⟨congrArg str (by decide +kernel), hst.pure⟩
  refine run_seq ?_
  refine run_region ?_
  refine RunL.cons (Op1.eql rfl rfl ?_)
  refine RunL.cons (Op1.assign (v := .bool _) rfl ?_)
  refine RunL.nil ?_
  refine run_cond_dec rfl (fun g7 => ?_) (fun g7 => ?_)
  · skip
    refine run_seq ?_
    refine run_region ?_
    refine RunL.cons (Op1.assign (v := str _) rfl ?_)
    refine RunL.nil ?_
    refine run_ret1 Try.func31 rfl (RV.tmp (v := str _) rfl) ?_
    subst g7
    exact ⟨congrArg str (by decide +kernel), hst.pure⟩
  refine run_seq ?_
  refine run_region ?_
  refine RunL.cons (Op1.eql rfl rfl ?_)
  refine RunL.cons (Op1.assign (v := .bool _) rfl ?_)
  refine RunL.nil ?_
  refine run_cond_dec rfl (fun g8 => ?_) (fun g8 => ?_)
  · skip
    refine run_seq ?_
    refine run_region ?_
    refine RunL.cons (Op1.assign (v := str _) rfl ?_)
    refine RunL.nil ?_
    refine run_ret1 Try.func31 rfl (RV.tmp (v := str _) rfl) ?_
    subst g8
    exact ⟨congrArg str (by decide +kernel), hst.pure⟩
  refine run_seq ?_
  refine run_region ?_
  refine RunL.cons (Op1.eql rfl rfl ?_)
  refine RunL.cons (Op1.assign (v := .bool _) rfl ?_)
  refine RunL.nil ?_
  refine Run.forget [(3, .int .u8 _), (20, .bool _)] ⟨rfl, rfl, trivial⟩ (fun f => ?_)
  refine run_cond_dec rfl (fun g9 => ?_) (fun g9 => ?_)
  · skip
    refine run_seq ?_
    refine run_region ?_
    refine RunL.cons (Op1.assign (v := str _) rfl ?_)
    refine RunL.nil ?_
    refine run_ret1 Try.func31 rfl (RV.tmp (v := str _) rfl) ?_
    subst g9
    exact ⟨congrArg str (by decide +kernel), hst.pure⟩
  refine run_seq ?_
  refine run_region ?_
  refine RunL.cons (Op1.eql rfl rfl ?_)
  refine RunL.cons (Op1.assign (v := .bool _) rfl ?_)
  refine RunL.nil ?_
  refine run_cond_dec rfl (fun g10 => ?_) (fun g10 => ?_)
  · skip
    refine run_seq ?_
    refine run_region ?_
    refine RunL.cons (Op1.assign (v := str _) rfl ?_)
    refine RunL.nil ?_
    refine run_ret1 Try.func31 rfl (RV.tmp (v := str _) rfl) ?_
    subst g10
    exact ⟨congrArg str (by decide +kernel), hst.pure⟩
  refine run_seq ?_
  refine run_region ?_
  refine RunL.cons (Op1.eql rfl rfl ?_)
  refine RunL.cons (Op1.assign (v := .bool _) rfl ?_)
  refine RunL.nil ?_
  refine run_cond_dec rfl (fun g11 => ?_) (fun g11 => ?_)
  · skip
    refine run_seq ?_
    refine run_region ?_
    refine RunL.cons (Op1.assign (v := str _) rfl ?_)
    refine RunL.nil ?_
    refine run_ret1 Try.func31 rfl (RV.tmp (v := str _) rfl) ?_
    subst g11
    exact ⟨congrArg str (by decide +kernel), hst.pure⟩
  refine run_skip ?_
  refine run_inBlock ?_
  refine run_seq ?_
  refine run_region ?_
  refine RunL.cons (Op1.assign (v := str _) rfl ?_)
  refine RunL.nil ?_
  refine run_ret1 Try.func31 rfl (RV.tmp (v := str _) rfl) ?_
  exact ⟨congrArg str (look_none (by simp only [namesT, List.forall_mem_cons]; exact ⟨g1, g2, g3, g4, g5, g6, g7, g8, g9, g10, g11, fun _ h => absurd h List.not_mem_nil⟩)).symm, hst.pure⟩

theorem R2flds_get {l : List Byts} {n : Nat} {a : Int} (ha : a = n) (hn : n < l.length) : (l.map str)[0 + a.toNat * 1]? = some (str (l.getD n [])) := by
  subst ha; simp [List.getD, hn]
theorem R2flds_set {l : List Byts} {n : Nat} {c : UInt8} (hn : n < l.length) : setSeg (l.map str) (0 + (n : Int).toNat * 1) [str (l.getD n [] ++ [UInt8.ofNat ((c.toNat : Int)).toNat])] = (l.modify n (· ++ [c])).map str := by
  simp only [setSeg, Int.toNat_natCast, Nat.mul_one, Nat.zero_add, UInt8.ofNat_toNat]
  apply List.ext_getElem
  · simp
  · intro j h1 h2
    simp only [List.length_map, List.length_modify] at h2
    by_cases hj : n = j
    · subst hj; simp [List.getElem_modify, List.getD, hn]
    · simp [List.getElem_modify, hj, List.getElem_set_ne hj]
theorem R2six {l : List Byts} (h : l.length = 6) : ∃ f0 f1 f2 f3 f4 f5, l = [f0, f1, f2, f3, f4, f5] := by
  match l, h with
  | [f0, f1, f2, f3, f4, f5], _ => exact ⟨f0, f1, f2, f3, f4, f5, rfl⟩
theorem R2gr_fields (s f0 f1 f2 f3 f4 f5 : Byts) (hok : rowOk s = true) (hf : fieldsS s = [f0, f1, f2, f3, f4, f5]) (w : World) : Ret Try.prog 35 #[str s] w (fun v w' => v = .agg #[str f0, str f1, str f2, str f3, str f4, str f5] ∧ St w NoM [] [] w') := by
  refine Ret.enter (args := [str s]) Try.func35 rfl rfl rfl ?_
  have hst := St.init w
  obtain ⟨hasc, h5, hlen, _, _⟩ := rowOk_spec hok
  refine run_seq ?_
  refine run_region ?_
  refine RunL.cons (Op1.alloc hst ty64 fun w b2 hst => ?_)
  refine RunL.nil ?_
  refine run_seq ?_
  refine run_region ?_
  refine RunL.cons (Op1.alloc hst ty64 fun w b3 hst => ?_)
  refine RunL.nil ?_
  refine run_seq ?_
  refine run_region ?_
  refine RunL.cons (Op1.assign (v := .int .i64 _) rfl ?_)
  refine RunL.nil ?_
  refine run_seq ?_
  refine run_seq ?_
  refine run_region ?_
  refine RunL.cons (Op1.move (v := str _) rfl ?_)
  refine RunL.cons (Op1.rangeS hst ty9 rfl fun w it8 hst => ?_)
  refine RunL.nil ?_
  refine run_block ?_
  refine run_loop ?_
  refine Run.indW [(2, .pointer (some ⟨_, _, none⟩)), (3, .pointer (some ⟨_, _, none⟩)), (8, .pointer (some ⟨_, 0, none⟩))] ⟨rfl, rfl, rfl, trivial⟩ (fun (i : Nat) => [(4, .int .i64 ((fieldsF (s.take i)).1 : Int))]) (fun (i : Nat) => [Res.iter it8 s i, Res.row b3 64 ((fieldsF (s.take i)).2.map str)]) (fun (i : Nat) => i ≤ s.length) (fun (i : Nat) => s.length - i) (0) hst (Nat.zero_le _) ⟨rfl, trivial⟩ ?_
  intro i f w hst hJ ih1
  refine run_seq ?_
  refine run_region ?_
  rcases Nat.lt_or_ge i s.length with g2 | g2
  · skip
    have hc := hasc _ (List.getElem_mem g2)
    have hstep := fieldsF_step g2
    have hat : (fieldsF (s.take (i + 1))).1 ≤ 5 := Nat.le_trans fieldsF_at h5
    have hat0 : (fieldsF (s.take i)).1 ≤ 5 := Nat.le_trans fieldsF_at h5
    have hsh : ((fieldsF (s.take i)).2.getD (fieldsF (s.take i)).1 []).length ≤ i := getD_short (fieldsF_short s i hJ)
    refine RunL.cons (Op1.nextS hst rfl (.here) (List.getElem?_eq_getElem g2) (hc) fun w hst => ?_)
    refine RunL.cons (Op1.extract (v := .bool _) rfl rfl ?_)
    refine RunL.nil ?_
    refine run_seq ?_
    refine run_cond_true (congrArg Value.bool (rfl : true = _)) ?_
    refine run_skip ?_
    refine run_block ?_
    refine run_seq ?_
    refine run_region ?_
    refine RunL.cons (Op1.extract (v := .int .i32 _) rfl rfl ?_)
    refine RunL.cons (Op1.assign (v := .int .i32 _) rfl ?_)
    refine RunL.nil ?_
    refine run_seq ?_
    refine run_region ?_
    refine RunL.cons (Op1.move (v := .int .i32 _) rfl ?_)
    refine RunL.cons (Op1.eql rfl rfl ?_)
    refine RunL.nil ?_
    refine run_cond_dec rfl (fun g3 => ?_) (fun g3 => ?_)
    · skip
      refine run_region ?_
      refine RunL.cons (Op1.move (v := .int .i64 _) rfl ?_)
      refine RunL.cons (Op1.addN rfl rfl rfl (wrap_i64 (by omega) (by omega)) ?_)
      refine RunL.cons (Op1.assign (v := .int .i64 _) rfl ?_)
      refine RunL.nil ?_
      refine run_inBlock ?_
      refine run_inLoop ?_
      have hsp : fieldsF (s.take (i + 1)) = ((fieldsF (s.take i)).1 + 1, (fieldsF (s.take i)).2) := by rw [hstep]; unfold stepF; rw [if_pos (UInt8.toNat_inj.1 (by have : (32 : UInt8).toNat = 32 := rfl; omega))]
      exact ih1 (i + 1) _ w (by omega) (by (try dsimp only); rw [hsp]; exact hst) (by omega) ⟨rfl, rfl, rfl, trivial⟩ ⟨(congrArg (Value.int .i64) (by rw [hsp]; rfl)), trivial⟩
    refine run_region ?_
    refine RunL.cons (Op1.move (v := .int .i64 _) rfl ?_)
    refine RunL.cons (Op1.indexArr ty64 ty9 rfl rfl (by omega) (by omega) ?_)
    refine RunL.cons (Op1.load1 (v := str _) ty9 rfl rfl (hst.cellL (.tail _ (.head _)) (R2flds_get rfl (by rw [fieldsF_len]; omega))) ?_)
    refine RunL.cons (Op1.move (v := .int .i32 _) rfl ?_)
    refine RunL.cons (Op1.runeStr ty21 ty9 rfl (by omega) (by omega) ?_)
    refine RunL.cons (Op1.addS rfl rfl (by first | omega | (simp only [List.length_cons, List.length_nil, List.length_append]; omega) | (simp; omega)) ?_)
    refine RunL.cons (Op1.indexArr ty64 ty9 rfl rfl (by omega) (by omega) ?_)
    refine RunL.cons (Op1.storeAt (v := str _) hst ty9 rfl rfl rfl rfl rfl (.there (.here)) (by simp only [List.length_map, fieldsF_len, List.length_cons, List.length_nil]; omega) fun w hst => ?_)
    refine RunL.nil ?_
    refine run_inBlock ?_
    refine run_inLoop ?_
    have hsp : fieldsF (s.take (i + 1)) = ((fieldsF (s.take i)).1, (fieldsF (s.take i)).2.modify (fieldsF (s.take i)).1 (· ++ [s[i]])) := by rw [hstep]; unfold stepF; rw [if_neg (fun he => g3 (by rw [he]; rfl))]
    exact ih1 (i + 1) _ w (by omega) (by (try dsimp only); rw [hsp]; dsimp only; rw [← R2flds_set (by rw [fieldsF_len]; omega)]; exact hst) (by omega) ⟨rfl, rfl, rfl, trivial⟩ ⟨(congrArg (Value.int .i64) (by rw [hsp])), trivial⟩
  obtain rfl : i = s.length := by omega
  rw [List.take_length, show (fieldsF s).2 = [f0, f1, f2, f3, f4, f5] from hf] at hst
  dsimp only [List.map] at hst
  refine RunL.cons (Op1.nextE hst rfl (.head _) g2 ?_)
  refine RunL.cons (Op1.extract (v := .bool _) rfl rfl ?_)
  refine RunL.nil ?_
  refine run_seq ?_
  refine run_cond_false (congrArg Value.bool (rfl : false = _)) ?_
  refine run_exit (id := 0) rfl ?_
  refine run_seq ?_
  refine run_region ?_
  refine RunL.cons (Op1.loadA (vs := [str _, str _, str _, str _, str _, str _]) ty64 rfl rfl rfl (cells_of_obj (n := 6) (hst.objL (.tail _ (.head _))) _ rfl) ?_)
  refine RunL.cons (Op1.store (v := .agg #[str _, str _, str _, str _, str _, str _]) hst ty64 rfl rfl rfl rfl rfl (.there (.there (.here))) (by repeat (first | exact Put.nil | apply Put.put | apply Put.skip)) fun w hst => ?_)
  refine RunL.nil ?_
  refine run_ret1 Try.func35 rfl (RV.cellA (vs := [str _, str _, str _, str _, str _, str _]) rfl ty64 rfl rfl (cells_of_obj (n := 6) (hst.objL (.tail _ (.tail _ (.head _)))) _ rfl)) ?_
  exact ⟨rfl, hst.pure⟩

end Go.SK
