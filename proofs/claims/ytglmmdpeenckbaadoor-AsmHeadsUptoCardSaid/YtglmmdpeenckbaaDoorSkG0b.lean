/-
  Steps of functions, plain law, and walks of functions: what the laws rest on.
-/
import Derived.Test.YtglmmdpeenckbaaDoorSkG0a
set_option linter.unusedVariables false
set_option linter.unusedSimpArgs false
set_option linter.unusedSectionVars false
namespace Go.SK
open Go Go.Proofs
open Go.RowKit
theorem R6lx_Letter (c : UInt8) (w : World) : Ret Tryd.prog 45 #[.int .u8 (c.toNat : Int)] w (fun v w' => v = .bool (letB c) ∧ St w NoM [] [] w') := by
 refine Ret.enter (args := [.int .u8 (c.toNat : Int)]) Tryd.func45 rfl rfl rfl ?_
 have hst := St.init w
 refine SR <| AB rfl <| NSR <| MC rfl <| CN <| Op1.geq rfl rfl <| MB rfl <| RunL.splitD (d := 5) rfl (fun g1 => ?_) (fun g1 => ?_)
 · skip
   refine TK (t := 5) rfl (congrArg Value.bool (decide_eq_true g1)) <| Op1.move (v := .int .u8 _) rfl <| TK (t := 5) rfl (congrArg Value.bool (decide_eq_true g1)) <| Op1.leq rfl rfl <| CN <| Op1.pickT (u := .bool _) (congrArg Value.bool (decide_eq_true g1)) rfl <| MB rfl <| RunL.splitD (d := 9) rfl (fun g2 => ?_) (fun g2 => ?_)
   · skip
     refine OM (t := 9) rfl (congrArg Value.bool (decide_eq_true g2)) rfl <| OM (t := 9) rfl (congrArg Value.bool (decide_eq_true g2)) rfl <| OM (t := 9) rfl (congrArg Value.bool (decide_eq_true g2)) rfl <| RunL.omitU (t := 12) rfl rfl <| RunL.omitU (t := 12) rfl rfl <| OM (t := 9) rfl (congrArg Value.bool (decide_eq_true g2)) rfl <| CN <| Op1.pickT (u := .bool _) (congrArg Value.bool (decide_eq_true g2)) rfl <| MB rfl <| OM (t := 17) rfl (congrArg Value.bool (rfl : true = _)) rfl <| OM (t := 17) rfl (congrArg Value.bool (rfl : true = _)) rfl <| CN <| Op1.pickT (u := .bool _) (congrArg Value.bool (rfl : true = _)) rfl <| AB rfl <| NL <| run_ret1 Tryd.func45 rfl (TP (v := .bool _) rfl) <| ⟨congrArg Value.bool ?_, hst.pure⟩
     unfold letB
     first | (rw [decide_eq_decide]; omega) | exact (decide_eq_false (by omega)).symm | exact (decide_eq_true (by omega)).symm
   refine TK (t := 9) rfl (congrArg Value.bool (decide_eq_false g2)) <| Op1.move (v := .int .u8 _) rfl <| TK (t := 9) rfl (congrArg Value.bool (decide_eq_false g2)) <| Op1.geq rfl rfl <| TK (t := 9) rfl (congrArg Value.bool (decide_eq_false g2)) <| Op1.move (v := .bool _) rfl <| RunL.splitD (d := 12) rfl (fun g3 => ?_) (fun g3 => ?_)
   · skip
     refine TK (t := 12) rfl (congrArg Value.bool (decide_eq_true g3)) <| Op1.move (v := .int .u8 _) rfl <| TK (t := 12) rfl (congrArg Value.bool (decide_eq_true g3)) <| Op1.leq rfl rfl <| TK (t := 9) rfl (congrArg Value.bool (decide_eq_false g2)) <| Op1.pickT (u := .bool _) (congrArg Value.bool (decide_eq_true g3)) rfl <| CN <| Op1.pickF (u := .bool _) (congrArg Value.bool (decide_eq_false g2)) rfl <| MB rfl <| RunL.splitD (d := 17) rfl (fun g4 => ?_) (fun g4 => ?_)
     · skip
       refine OM (t := 17) rfl (congrArg Value.bool (decide_eq_true g4)) rfl <| OM (t := 17) rfl (congrArg Value.bool (decide_eq_true g4)) rfl <| CN <| Op1.pickT (u := .bool _) (congrArg Value.bool (decide_eq_true g4)) rfl <| AB rfl <| NL <| run_ret1 Tryd.func45 rfl (TP (v := .bool _) rfl) <| ⟨congrArg Value.bool ?_, hst.pure⟩
       unfold letB
       first | (rw [decide_eq_decide]; omega) | exact (decide_eq_false (by omega)).symm | exact (decide_eq_true (by omega)).symm
     refine TK (t := 17) rfl (congrArg Value.bool (decide_eq_false g4)) <| Op1.move (v := .int .u8 _) rfl <| TK (t := 17) rfl (congrArg Value.bool (decide_eq_false g4)) <| Op1.eql rfl rfl <| CN <| Op1.pickF (u := .bool _) (congrArg Value.bool (decide_eq_false g4)) rfl <| AB rfl <| NL <| run_ret1 Tryd.func45 rfl (TP (v := .bool _) rfl) <| ⟨congrArg Value.bool ?_, hst.pure⟩
     unfold letB
     first | (rw [decide_eq_decide]; omega) | exact (decide_eq_false (by omega)).symm | exact (decide_eq_true (by omega)).symm
   refine OM (t := 12) rfl (congrArg Value.bool (decide_eq_false g3)) rfl <| OM (t := 12) rfl (congrArg Value.bool (decide_eq_false g3)) rfl <| TK (t := 9) rfl (congrArg Value.bool (decide_eq_false g2)) <| Op1.pickF (u := .bool _) (congrArg Value.bool (decide_eq_false g3)) rfl <| CN <| Op1.pickF (u := .bool _) (congrArg Value.bool (decide_eq_false g2)) rfl <| MB rfl <| TK (t := 17) rfl (congrArg Value.bool (rfl : false = _)) <| Op1.move (v := .int .u8 _) rfl <| TK (t := 17) rfl (congrArg Value.bool (rfl : false = _)) <| Op1.eql rfl rfl <| CN <| Op1.pickF (u := .bool _) (congrArg Value.bool (rfl : false = _)) rfl <| AB rfl <| NL <| run_ret1 Tryd.func45 rfl (TP (v := .bool _) rfl) <| ⟨congrArg Value.bool ?_, hst.pure⟩
   unfold letB
   first | (rw [decide_eq_decide]; omega) | exact (decide_eq_false (by omega)).symm | exact (decide_eq_true (by omega)).symm
 refine OM (t := 5) rfl (congrArg Value.bool (decide_eq_false g1)) rfl <| OM (t := 5) rfl (congrArg Value.bool (decide_eq_false g1)) rfl <| CN <| Op1.pickF (u := .bool _) (congrArg Value.bool (decide_eq_false g1)) rfl <| MB rfl <| TK (t := 9) rfl (congrArg Value.bool (rfl : false = _)) <| Op1.move (v := .int .u8 _) rfl <| TK (t := 9) rfl (congrArg Value.bool (rfl : false = _)) <| Op1.geq rfl rfl <| TK (t := 9) rfl (congrArg Value.bool (rfl : false = _)) <| Op1.move (v := .bool _) rfl <| RunL.splitD (d := 12) rfl (fun g5 => ?_) (fun g5 => ?_)
 · skip
   refine TK (t := 12) rfl (congrArg Value.bool (decide_eq_true g5)) <| Op1.move (v := .int .u8 _) rfl <| TK (t := 12) rfl (congrArg Value.bool (decide_eq_true g5)) <| Op1.leq rfl rfl <| TK (t := 9) rfl (congrArg Value.bool (rfl : false = _)) <| Op1.pickT (u := .bool _) (congrArg Value.bool (decide_eq_true g5)) rfl <| CN <| Op1.pickF (u := .bool _) (congrArg Value.bool (rfl : false = _)) rfl <| MB rfl <| RunL.splitD (d := 17) rfl (fun g6 => ?_) (fun g6 => ?_)
   · skip
     refine OM (t := 17) rfl (congrArg Value.bool (decide_eq_true g6)) rfl <| OM (t := 17) rfl (congrArg Value.bool (decide_eq_true g6)) rfl <| CN <| Op1.pickT (u := .bool _) (congrArg Value.bool (decide_eq_true g6)) rfl <| AB rfl <| NL <| run_ret1 Tryd.func45 rfl (TP (v := .bool _) rfl) <| ⟨congrArg Value.bool ?_, hst.pure⟩
     unfold letB
     first | (rw [decide_eq_decide]; omega) | exact (decide_eq_false (by omega)).symm | exact (decide_eq_true (by omega)).symm
   refine TK (t := 17) rfl (congrArg Value.bool (decide_eq_false g6)) <| Op1.move (v := .int .u8 _) rfl <| TK (t := 17) rfl (congrArg Value.bool (decide_eq_false g6)) <| Op1.eql rfl rfl <| CN <| Op1.pickF (u := .bool _) (congrArg Value.bool (decide_eq_false g6)) rfl <| AB rfl <| NL <| run_ret1 Tryd.func45 rfl (TP (v := .bool _) rfl) <| ⟨congrArg Value.bool ?_, hst.pure⟩
   unfold letB
   first | (rw [decide_eq_decide]; omega) | exact (decide_eq_false (by omega)).symm | exact (decide_eq_true (by omega)).symm
 refine OM (t := 12) rfl (congrArg Value.bool (decide_eq_false g5)) rfl <| OM (t := 12) rfl (congrArg Value.bool (decide_eq_false g5)) rfl <| TK (t := 9) rfl (congrArg Value.bool (rfl : false = _)) <| Op1.pickF (u := .bool _) (congrArg Value.bool (decide_eq_false g5)) rfl <| CN <| Op1.pickF (u := .bool _) (congrArg Value.bool (rfl : false = _)) rfl <| MB rfl <| TK (t := 17) rfl (congrArg Value.bool (rfl : false = _)) <| Op1.move (v := .int .u8 _) rfl <| TK (t := 17) rfl (congrArg Value.bool (rfl : false = _)) <| Op1.eql rfl rfl <| CN <| Op1.pickF (u := .bool _) (congrArg Value.bool (rfl : false = _)) rfl <| AB rfl <| NL <| run_ret1 Tryd.func45 rfl (TP (v := .bool _) rfl) <| ⟨congrArg Value.bool ?_, hst.pure⟩
 unfold letB
 first | (rw [decide_eq_decide]; omega) | exact (decide_eq_false (by omega)).symm | exact (decide_eq_true (by omega)).symm
theorem R6lx_Digit (c : UInt8) (w : World) : Ret Tryd.prog 47 #[.int .u8 (c.toNat : Int)] w (fun v w' => v = .bool (digB c) ∧ St w NoM [] [] w') := by
 refine Ret.enter (args := [.int .u8 (c.toNat : Int)]) Tryd.func47 rfl rfl rfl ?_
 have hst := St.init w
 refine SR <| AB rfl <| NSR <| MC rfl <| CN <| Op1.geq rfl rfl <| MB rfl <| RunL.splitD (d := 5) rfl (fun g1 => ?_) (fun g1 => ?_)
 · skip
   refine TK (t := 5) rfl (congrArg Value.bool (decide_eq_true g1)) <| Op1.move (v := .int .u8 _) rfl <| TK (t := 5) rfl (congrArg Value.bool (decide_eq_true g1)) <| Op1.leq rfl rfl <| CN <| Op1.pickT (u := .bool _) (congrArg Value.bool (decide_eq_true g1)) rfl <| AB rfl <| NL <| run_ret1 Tryd.func47 rfl (TP (v := .bool _) rfl) <| ⟨congrArg Value.bool ?_, hst.pure⟩
   unfold digB
   first | (rw [decide_eq_decide]; omega) | exact (decide_eq_false (by omega)).symm | exact (decide_eq_true (by omega)).symm
 refine OM (t := 5) rfl (congrArg Value.bool (decide_eq_false g1)) rfl <| OM (t := 5) rfl (congrArg Value.bool (decide_eq_false g1)) rfl <| CN <| Op1.pickF (u := .bool _) (congrArg Value.bool (decide_eq_false g1)) rfl <| AB rfl <| NL <| run_ret1 Tryd.func47 rfl (TP (v := .bool _) rfl) <| ⟨congrArg Value.bool ?_, hst.pure⟩
 unfold digB
 first | (rw [decide_eq_decide]; omega) | exact (decide_eq_false (by omega)).symm | exact (decide_eq_true (by omega)).symm
theorem R6lx_Blank (c : UInt8) (w : World) : Ret Tryd.prog 25 #[.int .u8 (c.toNat : Int)] w (fun v w' => v = .bool (blankB c) ∧ St w NoM [] [] w') := by
 refine Ret.enter (args := [.int .u8 (c.toNat : Int)]) Tryd.func25 rfl rfl rfl ?_
 have hst := St.init w
 refine SR <| AB rfl <| NSR <| MC rfl <| CN <| Op1.eql rfl rfl <| MB rfl <| RunL.splitD (d := 5) rfl (fun g1 => ?_) (fun g1 => ?_)
 · skip
   refine OM (t := 5) rfl (congrArg Value.bool (decide_eq_true g1)) rfl <| OM (t := 5) rfl (congrArg Value.bool (decide_eq_true g1)) rfl <| CN <| Op1.pickT (u := .bool _) (congrArg Value.bool (decide_eq_true g1)) rfl <| MB rfl <| OM (t := 9) rfl (congrArg Value.bool (rfl : true = _)) rfl <| OM (t := 9) rfl (congrArg Value.bool (rfl : true = _)) rfl <| CN <| Op1.pickT (u := .bool _) (congrArg Value.bool (rfl : true = _)) rfl <| AB rfl <| NL <| run_ret1 Tryd.func25 rfl (TP (v := .bool _) rfl) <| ⟨congrArg Value.bool ?_, hst.pure⟩
   unfold blankB
   first | (rw [decide_eq_decide]; omega) | exact (decide_eq_false (by omega)).symm | exact (decide_eq_true (by omega)).symm
 refine TK (t := 5) rfl (congrArg Value.bool (decide_eq_false g1)) <| Op1.move (v := .int .u8 _) rfl <| TK (t := 5) rfl (congrArg Value.bool (decide_eq_false g1)) <| Op1.eql rfl rfl <| CN <| Op1.pickF (u := .bool _) (congrArg Value.bool (decide_eq_false g1)) rfl <| MB rfl <| RunL.splitD (d := 9) rfl (fun g2 => ?_) (fun g2 => ?_)
 · skip
   refine OM (t := 9) rfl (congrArg Value.bool (decide_eq_true g2)) rfl <| OM (t := 9) rfl (congrArg Value.bool (decide_eq_true g2)) rfl <| CN <| Op1.pickT (u := .bool _) (congrArg Value.bool (decide_eq_true g2)) rfl <| AB rfl <| NL <| run_ret1 Tryd.func25 rfl (TP (v := .bool _) rfl) <| ⟨congrArg Value.bool ?_, hst.pure⟩
   unfold blankB
   first | (rw [decide_eq_decide]; omega) | exact (decide_eq_false (by omega)).symm | exact (decide_eq_true (by omega)).symm
 refine TK (t := 9) rfl (congrArg Value.bool (decide_eq_false g2)) <| Op1.move (v := .int .u8 _) rfl <| TK (t := 9) rfl (congrArg Value.bool (decide_eq_false g2)) <| Op1.eql rfl rfl <| CN <| Op1.pickF (u := .bool _) (congrArg Value.bool (decide_eq_false g2)) rfl <| AB rfl <| NL <| run_ret1 Tryd.func25 rfl (TP (v := .bool _) rfl) <| ⟨congrArg Value.bool ?_, hst.pure⟩
 unfold blankB
 first | (rw [decide_eq_decide]; omega) | exact (decide_eq_false (by omega)).symm | exact (decide_eq_true (by omega)).symm
theorem R6lx_Hex (c : UInt8) (w : World) : Ret Tryd.prog 28 #[.int .u8 (c.toNat : Int)] w (fun v w' => v = .bool (hexB c) ∧ St w NoM [] [] w') := by
 refine Ret.enter (args := [.int .u8 (c.toNat : Int)]) Tryd.func28 rfl rfl rfl ?_
 have hst := St.init w
 refine SR <| AB rfl <| NSR <| MC rfl <| CN <| Op1.call1 (v1 := .int .u8 _) ent47 rfl rfl <| Ret.det (R6lx_Digit _ _) hst fun w hst => MB rfl <| RunL.split (d := 5) rfl (fun g1 => ?_) (fun g1 => ?_)
 · skip
   have hdb := dig_bd g1
   refine OM (t := 5) rfl (congrArg Value.bool g1) rfl <| OM (t := 5) rfl (congrArg Value.bool g1) rfl <| OM (t := 5) rfl (congrArg Value.bool g1) rfl <| RunL.omitU (t := 8) rfl rfl <| RunL.omitU (t := 8) rfl rfl <| OM (t := 5) rfl (congrArg Value.bool g1) rfl <| CN <| Op1.pickT (u := .bool _) (congrArg Value.bool g1) rfl <| MB rfl <| OM (t := 13) rfl (congrArg Value.bool (rfl : true = _)) rfl <| OM (t := 13) rfl (congrArg Value.bool (rfl : true = _)) rfl <| OM (t := 13) rfl (congrArg Value.bool (rfl : true = _)) rfl <| RunL.omitU (t := 16) rfl rfl <| RunL.omitU (t := 16) rfl rfl <| OM (t := 13) rfl (congrArg Value.bool (rfl : true = _)) rfl <| CN (Op1.pickT (u := .bool _) (congrArg Value.bool (rfl : true = _)) rfl ?_)
   refine AB rfl <| NL <| run_ret1 Tryd.func28 rfl (TP (v := .bool _) rfl) <| ⟨congrArg Value.bool ?_, hst.pure⟩
   unfold hexB
   first | (rw [decide_eq_decide]; omega) | exact (decide_eq_false (by omega)).symm | exact (decide_eq_true (by omega)).symm
 have hdb : ¬ (48 ≤ c.toNat ∧ c.toNat ≤ 57) := of_decide_eq_false (p := 48 ≤ c.toNat ∧ c.toNat ≤ 57) g1
 refine TK (t := 5) rfl (congrArg Value.bool g1) <| Op1.move (v := .int .u8 _) rfl <| TK (t := 5) rfl (congrArg Value.bool g1) <| Op1.geq rfl rfl <| TK (t := 5) rfl (congrArg Value.bool g1) <| Op1.move (v := .bool _) rfl <| RunL.splitD (d := 8) rfl (fun g2 => ?_) (fun g2 => ?_)
 · skip
   refine TK (t := 8) rfl (congrArg Value.bool (decide_eq_true g2)) <| Op1.move (v := .int .u8 _) rfl <| TK (t := 8) rfl (congrArg Value.bool (decide_eq_true g2)) <| Op1.leq rfl rfl <| TK (t := 5) rfl (congrArg Value.bool g1) <| Op1.pickT (u := .bool _) (congrArg Value.bool (decide_eq_true g2)) rfl <| CN <| Op1.pickF (u := .bool _) (congrArg Value.bool g1) rfl <| MB rfl <| RunL.splitD (d := 13) rfl (fun g3 => ?_) (fun g3 => ?_)
   · skip
     refine OM (t := 13) rfl (congrArg Value.bool (decide_eq_true g3)) rfl <| OM (t := 13) rfl (congrArg Value.bool (decide_eq_true g3)) rfl <| OM (t := 13) rfl (congrArg Value.bool (decide_eq_true g3)) rfl <| RunL.omitU (t := 16) rfl rfl <| RunL.omitU (t := 16) rfl rfl <| OM (t := 13) rfl (congrArg Value.bool (decide_eq_true g3)) rfl <| CN <| Op1.pickT (u := .bool _) (congrArg Value.bool (decide_eq_true g3)) rfl <| AB rfl <| NL <| run_ret1 Tryd.func28 rfl (TP (v := .bool _) rfl) <| ⟨congrArg Value.bool ?_, hst.pure⟩
     unfold hexB
     first | (rw [decide_eq_decide]; omega) | exact (decide_eq_false (by omega)).symm | exact (decide_eq_true (by omega)).symm
   refine TK (t := 13) rfl (congrArg Value.bool (decide_eq_false g3)) <| Op1.move (v := .int .u8 _) rfl <| TK (t := 13) rfl (congrArg Value.bool (decide_eq_false g3)) <| Op1.geq rfl rfl <| TK (t := 13) rfl (congrArg Value.bool (decide_eq_false g3)) <| Op1.move (v := .bool _) rfl <| RunL.splitD (d := 16) rfl (fun g4 => ?_) (fun g4 => ?_)
   · skip
     refine TK (t := 16) rfl (congrArg Value.bool (decide_eq_true g4)) <| Op1.move (v := .int .u8 _) rfl <| TK (t := 16) rfl (congrArg Value.bool (decide_eq_true g4)) <| Op1.leq rfl rfl <| TK (t := 13) rfl (congrArg Value.bool (decide_eq_false g3)) <| Op1.pickT (u := .bool _) (congrArg Value.bool (decide_eq_true g4)) rfl <| CN <| Op1.pickF (u := .bool _) (congrArg Value.bool (decide_eq_false g3)) rfl <| AB rfl <| NL <| run_ret1 Tryd.func28 rfl (TP (v := .bool _) rfl) <| ⟨congrArg Value.bool ?_, hst.pure⟩
     unfold hexB
     first | (rw [decide_eq_decide]; omega) | exact (decide_eq_false (by omega)).symm | exact (decide_eq_true (by omega)).symm
   refine OM (t := 16) rfl (congrArg Value.bool (decide_eq_false g4)) rfl <| OM (t := 16) rfl (congrArg Value.bool (decide_eq_false g4)) rfl <| TK (t := 13) rfl (congrArg Value.bool (decide_eq_false g3)) <| Op1.pickF (u := .bool _) (congrArg Value.bool (decide_eq_false g4)) rfl <| CN <| Op1.pickF (u := .bool _) (congrArg Value.bool (decide_eq_false g3)) rfl <| AB rfl <| NL <| run_ret1 Tryd.func28 rfl (TP (v := .bool _) rfl) <| ⟨congrArg Value.bool ?_, hst.pure⟩
   unfold hexB
   first | (rw [decide_eq_decide]; omega) | exact (decide_eq_false (by omega)).symm | exact (decide_eq_true (by omega)).symm
 refine OM (t := 8) rfl (congrArg Value.bool (decide_eq_false g2)) rfl <| OM (t := 8) rfl (congrArg Value.bool (decide_eq_false g2)) rfl <| TK (t := 5) rfl (congrArg Value.bool g1) <| Op1.pickF (u := .bool _) (congrArg Value.bool (decide_eq_false g2)) rfl <| CN <| Op1.pickF (u := .bool _) (congrArg Value.bool g1) rfl <| MB rfl <| TK (t := 13) rfl (congrArg Value.bool (rfl : false = _)) <| Op1.move (v := .int .u8 _) rfl <| TK (t := 13) rfl (congrArg Value.bool (rfl : false = _)) <| Op1.geq rfl rfl <| TK (t := 13) rfl (congrArg Value.bool (rfl : false = _)) <| Op1.move (v := .bool _) rfl <| RunL.splitD (d := 16) rfl (fun g5 => ?_) (fun g5 => ?_)
 · skip
   refine TK (t := 16) rfl (congrArg Value.bool (decide_eq_true g5)) <| Op1.move (v := .int .u8 _) rfl <| TK (t := 16) rfl (congrArg Value.bool (decide_eq_true g5)) <| Op1.leq rfl rfl <| TK (t := 13) rfl (congrArg Value.bool (rfl : false = _)) <| Op1.pickT (u := .bool _) (congrArg Value.bool (decide_eq_true g5)) rfl <| CN <| Op1.pickF (u := .bool _) (congrArg Value.bool (rfl : false = _)) rfl <| AB rfl <| NL <| run_ret1 Tryd.func28 rfl (TP (v := .bool _) rfl) <| ⟨congrArg Value.bool ?_, hst.pure⟩
   unfold hexB
   first | (rw [decide_eq_decide]; omega) | exact (decide_eq_false (by omega)).symm | exact (decide_eq_true (by omega)).symm
 refine OM (t := 16) rfl (congrArg Value.bool (decide_eq_false g5)) rfl <| OM (t := 16) rfl (congrArg Value.bool (decide_eq_false g5)) rfl <| TK (t := 13) rfl (congrArg Value.bool (rfl : false = _)) <| Op1.pickF (u := .bool _) (congrArg Value.bool (decide_eq_false g5)) rfl <| CN <| Op1.pickF (u := .bool _) (congrArg Value.bool (rfl : false = _)) rfl <| AB rfl <| NL <| run_ret1 Tryd.func28 rfl (TP (v := .bool _) rfl) <| ⟨congrArg Value.bool ?_, hst.pure⟩
 unfold hexB
 first | (rw [decide_eq_decide]; omega) | exact (decide_eq_false (by omega)).symm | exact (decide_eq_true (by omega)).symm
theorem R6lx_Worth (c : UInt8) (hh : hexB c = true) (w : World) : Ret Tryd.prog 29 #[.int .u8 (c.toNat : Int)] w (fun v w' => v = .int .u64 (worF c : Int) ∧ St w NoM [] [] w') := by
 refine Ret.enter (args := [.int .u8 (c.toNat : Int)]) Tryd.func29 rfl rfl rfl ?_
 have hst := St.init w
 have hhb := (hex_bd hh).1
 refine SR <| CN <| Op1.assign (v := .int .u64 _) rfl <| NL <| SQ <| SR <| MC rfl <| CN <| Op1.call1 (v1 := .int .u8 _) ent47 rfl rfl <| Ret.det (R6lx_Digit _ _) hst fun w hst => NL <| run_cond_split rfl (fun g1 => ?_) (fun g1 => ?_)
 · skip
   have hdb := dig_bd g1
   refine SR <| MC rfl <| CN (Op1.subN rfl rfl rfl (wrap_u8 (by omega) (by omega)) ?_)
   first | refine CN (Op1.convN ty5 ty76 rfl (wrap_u64 (by omega) (by omega)) ?_) | refine CN (Op1.conv ty5 ty76 rfl ?_)
   refine CN <| Op1.assign (v := .int .u64 _) rfl <| NL <| run_ret1 Tryd.func29 rfl (TP (v := .int .u64 _) rfl) <| ⟨congrArg (Value.int .u64) ?_, hst.pure⟩
   unfold worF
   split
   · omega
   · split <;> omega
 have hdb : ¬ (48 ≤ c.toNat ∧ c.toNat ≤ 57) := of_decide_eq_false (p := 48 ≤ c.toNat ∧ c.toNat ≤ 57) g1
 refine run_skip <| SQ <| SR <| MC rfl <| CN <| Op1.geq rfl rfl <| NL <| run_cond_dec rfl (fun g2 => ?_) (fun g2 => ?_)
 · skip
   refine SR <| MC rfl <| CN (Op1.subN rfl rfl rfl (wrap_u8 (by omega) (by omega)) ?_)
   first | refine CN (Op1.convN ty5 ty76 rfl (wrap_u64 (by omega) (by omega)) ?_) | refine CN (Op1.conv ty5 ty76 rfl ?_)
   refine CN <| Op1.addN rfl rfl rfl (wrap_u64 (by omega) (by omega)) <| CN <| Op1.assign (v := .int .u64 _) rfl <| NL <| run_ret1 Tryd.func29 rfl (TP (v := .int .u64 _) rfl) <| ⟨congrArg (Value.int .u64) ?_, hst.pure⟩
   unfold worF
   split
   · omega
   · split <;> omega
 refine run_skip <| SR <| MC rfl <| CN (Op1.subN rfl rfl rfl (wrap_u8 (by omega) (by omega)) ?_)
 first | refine CN (Op1.convN ty5 ty76 rfl (wrap_u64 (by omega) (by omega)) ?_) | refine CN (Op1.conv ty5 ty76 rfl ?_)
 refine CN <| Op1.addN rfl rfl rfl (wrap_u64 (by omega) (by omega)) <| CN <| Op1.assign (v := .int .u64 _) rfl <| NL <| run_ret1 Tryd.func29 rfl (TP (v := .int .u64 _) rfl) <| ⟨congrArg (Value.int .u64) ?_, hst.pure⟩
 unfold worF
 split
 · omega
 · split <;> omega
theorem R6lx_kindOf (c : UInt8) (w : World) : Ret Tryd.prog 49 #[.int .u8 (c.toNat : Int)] w (fun v w' => v = .int .i64 (kindF c) ∧ St w NoM [] [] w') := by
 refine Ret.enter (args := [.int .u8 (c.toNat : Int)]) Tryd.func49 rfl rfl rfl ?_
 have hst := St.init w
 refine SR <| AI rfl <| NL <| SQ <| run_block <| SQ <| SR <| MC rfl <| CN <| Op1.eql rfl rfl <| AB rfl <| NL <| run_cond_dec rfl (fun g1 => ?_) (fun g1 => ?_)
 · skip
   refine run_skip <| run_cond_true (congrArg Value.bool (decide_eq_true g1)) <| SR <| AI rfl <| NL <| run_ret1 Tryd.func49 rfl (TP (v := .int .i64 _) rfl) <| ⟨congrArg (Value.int .i64) ?_, hst.pure⟩
   first | exact (kind1 (by omega)).symm | exact (kind2 (by omega) (by omega)).symm | exact (kind3 (by omega)).symm | exact (kind0 (by omega) (by omega) (by omega)).symm
 refine SR <| MC rfl <| CN <| Op1.eql rfl rfl <| AB rfl <| NL <| run_cond_dec rfl (fun g2 => ?_) (fun g2 => ?_)
 · skip
   refine run_skip <| run_cond_true (congrArg Value.bool (decide_eq_true g2)) <| SR <| AI rfl <| NL <| run_ret1 Tryd.func49 rfl (TP (v := .int .i64 _) rfl) <| ⟨congrArg (Value.int .i64) ?_, hst.pure⟩
   first | exact (kind1 (by omega)).symm | exact (kind2 (by omega) (by omega)).symm | exact (kind3 (by omega)).symm | exact (kind0 (by omega) (by omega) (by omega)).symm
 refine RG <| MC rfl <| CN <| Op1.eql rfl rfl <| AB rfl <| NL <| run_cond_dec rfl (fun g3 => ?_) (fun g3 => ?_)
 · skip
   refine SR <| AI rfl <| NL <| run_ret1 Tryd.func49 rfl (TP (v := .int .i64 _) rfl) <| ⟨congrArg (Value.int .i64) ?_, hst.pure⟩
   first | exact (kind1 (by omega)).symm | exact (kind2 (by omega) (by omega)).symm | exact (kind3 (by omega)).symm | exact (kind0 (by omega) (by omega) (by omega)).symm
 refine SQ <| SR <| MC rfl <| CN <| Op1.geq rfl rfl <| MB rfl <| RunL.splitD (d := 13) rfl (fun g4 => ?_) (fun g4 => ?_)
 · skip
   refine TK (t := 13) rfl (congrArg Value.bool (decide_eq_true g4)) <| Op1.move (v := .int .u8 _) rfl <| TK (t := 13) rfl (congrArg Value.bool (decide_eq_true g4)) <| Op1.leq rfl rfl <| CN <| Op1.pickT (u := .bool _) (congrArg Value.bool (decide_eq_true g4)) rfl <| AB rfl <| NL <| run_cond_dec rfl (fun g5 => ?_) (fun g5 => ?_)
   · skip
     refine run_skip <| run_cond_true (congrArg Value.bool (decide_eq_true g5)) <| SR <| AI rfl <| NL <| run_ret1 Tryd.func49 rfl (TP (v := .int .i64 _) rfl) <| ⟨congrArg (Value.int .i64) ?_, hst.pure⟩
     first | exact (kind1 (by omega)).symm | exact (kind2 (by omega) (by omega)).symm | exact (kind3 (by omega)).symm | exact (kind0 (by omega) (by omega) (by omega)).symm
   refine SR <| MC rfl <| CN <| Op1.geq rfl rfl <| MB rfl <| RunL.splitD (d := 19) rfl (fun g6 => ?_) (fun g6 => ?_)
   · skip
     refine TK (t := 19) rfl (congrArg Value.bool (decide_eq_true g6)) <| Op1.move (v := .int .u8 _) rfl <| TK (t := 19) rfl (congrArg Value.bool (decide_eq_true g6)) <| Op1.leq rfl rfl <| CN <| Op1.pickT (u := .bool _) (congrArg Value.bool (decide_eq_true g6)) rfl <| AB rfl <| NL <| Run.forget [(0, .int .u8 _), (10, .bool _)] ⟨rfl, rfl, trivial⟩ fun f => run_cond_dec rfl (fun g7 => ?_) (fun g7 => ?_)
     · skip
       refine run_skip <| run_cond_true (congrArg Value.bool (decide_eq_true g7)) <| SR <| AI rfl <| NL <| run_ret1 Tryd.func49 rfl (TP (v := .int .i64 _) rfl) <| ⟨congrArg (Value.int .i64) ?_, hst.pure⟩
       first | exact (kind1 (by omega)).symm | exact (kind2 (by omega) (by omega)).symm | exact (kind3 (by omega)).symm | exact (kind0 (by omega) (by omega) (by omega)).symm
     refine RG <| MC rfl <| CN <| Op1.eql rfl rfl <| AB rfl <| NL <| run_cond_dec rfl (fun g8 => ?_) (fun g8 => ?_)
     · skip
       refine SR <| AI rfl <| NL <| run_ret1 Tryd.func49 rfl (TP (v := .int .i64 _) rfl) <| ⟨congrArg (Value.int .i64) ?_, hst.pure⟩
       first | exact (kind1 (by omega)).symm | exact (kind2 (by omega) (by omega)).symm | exact (kind3 (by omega)).symm | exact (kind0 (by omega) (by omega) (by omega)).symm
     refine SR <| MC rfl <| CN <| Op1.geq rfl rfl <| MB rfl <| RunL.splitD (d := 28) rfl (fun g9 => ?_) (fun g9 => ?_)
     · skip
       refine TK (t := 28) rfl (congrArg Value.bool (decide_eq_true g9)) <| Op1.move (v := .int .u8 _) rfl <| TK (t := 28) rfl (congrArg Value.bool (decide_eq_true g9)) <| Op1.leq rfl rfl <| CN <| Op1.pickT (u := .bool _) (congrArg Value.bool (decide_eq_true g9)) rfl <| AB rfl <| NL <| run_cond_dec rfl (fun g10 => ?_) (fun g10 => ?_)
       · skip
         refine SR <| AI rfl <| NL <| run_ret1 Tryd.func49 rfl (TP (v := .int .i64 _) rfl) <| ⟨congrArg (Value.int .i64) ?_, hst.pure⟩
         first | exact (kind1 (by omega)).symm | exact (kind2 (by omega) (by omega)).symm | exact (kind3 (by omega)).symm | exact (kind0 (by omega) (by omega) (by omega)).symm
       refine run_skip <| run_inBlock <| SR <| AI rfl <| NL <| run_ret1 Tryd.func49 rfl (TP (v := .int .i64 _) rfl) <| ⟨congrArg (Value.int .i64) ?_, hst.pure⟩
       first | exact (kind1 (by omega)).symm | exact (kind2 (by omega) (by omega)).symm | exact (kind3 (by omega)).symm | exact (kind0 (by omega) (by omega) (by omega)).symm
     refine OM (t := 28) rfl (congrArg Value.bool (decide_eq_false g9)) rfl <| OM (t := 28) rfl (congrArg Value.bool (decide_eq_false g9)) rfl <| CN <| Op1.pickF (u := .bool _) (congrArg Value.bool (decide_eq_false g9)) rfl <| AB rfl <| NL <| run_cond_false (congrArg Value.bool (rfl : false = _)) <| run_skip <| run_inBlock <| SR <| AI rfl <| NL <| run_ret1 Tryd.func49 rfl (TP (v := .int .i64 _) rfl) <| ⟨congrArg (Value.int .i64) ?_, hst.pure⟩
     first | exact (kind1 (by omega)).symm | exact (kind2 (by omega) (by omega)).symm | exact (kind3 (by omega)).symm | exact (kind0 (by omega) (by omega) (by omega)).symm
   refine OM (t := 19) rfl (congrArg Value.bool (decide_eq_false g6)) rfl <| OM (t := 19) rfl (congrArg Value.bool (decide_eq_false g6)) rfl <| CN <| Op1.pickF (u := .bool _) (congrArg Value.bool (decide_eq_false g6)) rfl <| AB rfl <| NL <| Run.forget [(0, .int .u8 _), (10, .bool _)] ⟨rfl, rfl, trivial⟩ fun f => run_cond_false (congrArg Value.bool (rfl : false = _)) <| RG <| MC rfl <| CN <| Op1.eql rfl rfl <| AB rfl <| NL <| run_cond_dec rfl (fun g11 => ?_) (fun g11 => ?_)
   · skip
     refine SR <| AI rfl <| NL <| run_ret1 Tryd.func49 rfl (TP (v := .int .i64 _) rfl) <| ⟨congrArg (Value.int .i64) ?_, hst.pure⟩
     first | exact (kind1 (by omega)).symm | exact (kind2 (by omega) (by omega)).symm | exact (kind3 (by omega)).symm | exact (kind0 (by omega) (by omega) (by omega)).symm
   refine SR <| MC rfl <| CN <| Op1.geq rfl rfl <| MB rfl <| RunL.splitD (d := 28) rfl (fun g12 => ?_) (fun g12 => ?_)
   · skip
     refine TK (t := 28) rfl (congrArg Value.bool (decide_eq_true g12)) <| Op1.move (v := .int .u8 _) rfl <| TK (t := 28) rfl (congrArg Value.bool (decide_eq_true g12)) <| Op1.leq rfl rfl <| CN <| Op1.pickT (u := .bool _) (congrArg Value.bool (decide_eq_true g12)) rfl <| AB rfl <| NL <| run_cond_dec rfl (fun g13 => ?_) (fun g13 => ?_)
     · skip
       refine SR <| AI rfl <| NL <| run_ret1 Tryd.func49 rfl (TP (v := .int .i64 _) rfl) <| ⟨congrArg (Value.int .i64) ?_, hst.pure⟩
       first | exact (kind1 (by omega)).symm | exact (kind2 (by omega) (by omega)).symm | exact (kind3 (by omega)).symm | exact (kind0 (by omega) (by omega) (by omega)).symm
     refine run_skip <| run_inBlock <| SR <| AI rfl <| NL <| run_ret1 Tryd.func49 rfl (TP (v := .int .i64 _) rfl) <| ⟨congrArg (Value.int .i64) ?_, hst.pure⟩
     first | exact (kind1 (by omega)).symm | exact (kind2 (by omega) (by omega)).symm | exact (kind3 (by omega)).symm | exact (kind0 (by omega) (by omega) (by omega)).symm
   refine OM (t := 28) rfl (congrArg Value.bool (decide_eq_false g12)) rfl <| OM (t := 28) rfl (congrArg Value.bool (decide_eq_false g12)) rfl <| CN <| Op1.pickF (u := .bool _) (congrArg Value.bool (decide_eq_false g12)) rfl <| AB rfl <| NL <| run_cond_false (congrArg Value.bool (rfl : false = _)) <| run_skip <| run_inBlock <| SR <| AI rfl <| NL <| run_ret1 Tryd.func49 rfl (TP (v := .int .i64 _) rfl) <| ⟨congrArg (Value.int .i64) ?_, hst.pure⟩
   first | exact (kind1 (by omega)).symm | exact (kind2 (by omega) (by omega)).symm | exact (kind3 (by omega)).symm | exact (kind0 (by omega) (by omega) (by omega)).symm
 refine OM (t := 13) rfl (congrArg Value.bool (decide_eq_false g4)) rfl <| OM (t := 13) rfl (congrArg Value.bool (decide_eq_false g4)) rfl <| CN <| Op1.pickF (u := .bool _) (congrArg Value.bool (decide_eq_false g4)) rfl <| AB rfl <| NL <| run_cond_false (congrArg Value.bool (rfl : false = _)) <| SR <| MC rfl <| CN <| Op1.geq rfl rfl <| MB rfl <| RunL.splitD (d := 19) rfl (fun g14 => ?_) (fun g14 => ?_)
 · skip
   refine TK (t := 19) rfl (congrArg Value.bool (decide_eq_true g14)) <| Op1.move (v := .int .u8 _) rfl <| TK (t := 19) rfl (congrArg Value.bool (decide_eq_true g14)) <| Op1.leq rfl rfl <| CN <| Op1.pickT (u := .bool _) (congrArg Value.bool (decide_eq_true g14)) rfl <| AB rfl <| NL <| Run.forget [(0, .int .u8 _), (10, .bool _)] ⟨rfl, rfl, trivial⟩ fun f => run_cond_dec rfl (fun g15 => ?_) (fun g15 => ?_)
   · skip
     refine run_skip <| run_cond_true (congrArg Value.bool (decide_eq_true g15)) <| SR <| AI rfl <| NL <| run_ret1 Tryd.func49 rfl (TP (v := .int .i64 _) rfl) <| ⟨congrArg (Value.int .i64) ?_, hst.pure⟩
     first | exact (kind1 (by omega)).symm | exact (kind2 (by omega) (by omega)).symm | exact (kind3 (by omega)).symm | exact (kind0 (by omega) (by omega) (by omega)).symm
   refine RG <| MC rfl <| CN <| Op1.eql rfl rfl <| AB rfl <| NL <| run_cond_dec rfl (fun g16 => ?_) (fun g16 => ?_)
   · skip
     refine SR <| AI rfl <| NL <| run_ret1 Tryd.func49 rfl (TP (v := .int .i64 _) rfl) <| ⟨congrArg (Value.int .i64) ?_, hst.pure⟩
     first | exact (kind1 (by omega)).symm | exact (kind2 (by omega) (by omega)).symm | exact (kind3 (by omega)).symm | exact (kind0 (by omega) (by omega) (by omega)).symm
   refine SR <| MC rfl <| CN <| Op1.geq rfl rfl <| MB rfl <| RunL.splitD (d := 28) rfl (fun g17 => ?_) (fun g17 => ?_)
   · skip
     refine TK (t := 28) rfl (congrArg Value.bool (decide_eq_true g17)) <| Op1.move (v := .int .u8 _) rfl <| TK (t := 28) rfl (congrArg Value.bool (decide_eq_true g17)) <| Op1.leq rfl rfl <| CN <| Op1.pickT (u := .bool _) (congrArg Value.bool (decide_eq_true g17)) rfl <| AB rfl <| NL <| run_cond_dec rfl (fun g18 => ?_) (fun g18 => ?_)
     · skip
       refine SR <| AI rfl <| NL <| run_ret1 Tryd.func49 rfl (TP (v := .int .i64 _) rfl) <| ⟨congrArg (Value.int .i64) ?_, hst.pure⟩
       first | exact (kind1 (by omega)).symm | exact (kind2 (by omega) (by omega)).symm | exact (kind3 (by omega)).symm | exact (kind0 (by omega) (by omega) (by omega)).symm
     refine run_skip <| run_inBlock <| SR <| AI rfl <| NL <| run_ret1 Tryd.func49 rfl (TP (v := .int .i64 _) rfl) <| ⟨congrArg (Value.int .i64) ?_, hst.pure⟩
     first | exact (kind1 (by omega)).symm | exact (kind2 (by omega) (by omega)).symm | exact (kind3 (by omega)).symm | exact (kind0 (by omega) (by omega) (by omega)).symm
   refine OM (t := 28) rfl (congrArg Value.bool (decide_eq_false g17)) rfl <| OM (t := 28) rfl (congrArg Value.bool (decide_eq_false g17)) rfl <| CN <| Op1.pickF (u := .bool _) (congrArg Value.bool (decide_eq_false g17)) rfl <| AB rfl <| NL <| run_cond_false (congrArg Value.bool (rfl : false = _)) <| run_skip <| run_inBlock <| SR <| AI rfl <| NL <| run_ret1 Tryd.func49 rfl (TP (v := .int .i64 _) rfl) <| ⟨congrArg (Value.int .i64) ?_, hst.pure⟩
   first | exact (kind1 (by omega)).symm | exact (kind2 (by omega) (by omega)).symm | exact (kind3 (by omega)).symm | exact (kind0 (by omega) (by omega) (by omega)).symm
 refine OM (t := 19) rfl (congrArg Value.bool (decide_eq_false g14)) rfl <| OM (t := 19) rfl (congrArg Value.bool (decide_eq_false g14)) rfl <| CN <| Op1.pickF (u := .bool _) (congrArg Value.bool (decide_eq_false g14)) rfl <| AB rfl <| NL <| Run.forget [(0, .int .u8 _), (10, .bool _)] ⟨rfl, rfl, trivial⟩ fun f => run_cond_false (congrArg Value.bool (rfl : false = _)) <| RG <| MC rfl <| CN <| Op1.eql rfl rfl <| AB rfl <| NL <| run_cond_dec rfl (fun g19 => ?_) (fun g19 => ?_)
 · skip
   refine SR <| AI rfl <| NL <| run_ret1 Tryd.func49 rfl (TP (v := .int .i64 _) rfl) <| ⟨congrArg (Value.int .i64) ?_, hst.pure⟩
   first | exact (kind1 (by omega)).symm | exact (kind2 (by omega) (by omega)).symm | exact (kind3 (by omega)).symm | exact (kind0 (by omega) (by omega) (by omega)).symm
 refine SR <| MC rfl <| CN <| Op1.geq rfl rfl <| MB rfl <| RunL.splitD (d := 28) rfl (fun g20 => ?_) (fun g20 => ?_)
 · skip
   refine TK (t := 28) rfl (congrArg Value.bool (decide_eq_true g20)) <| Op1.move (v := .int .u8 _) rfl <| TK (t := 28) rfl (congrArg Value.bool (decide_eq_true g20)) <| Op1.leq rfl rfl <| CN <| Op1.pickT (u := .bool _) (congrArg Value.bool (decide_eq_true g20)) rfl <| AB rfl <| NL <| run_cond_dec rfl (fun g21 => ?_) (fun g21 => ?_)
   · skip
     refine SR <| AI rfl <| NL <| run_ret1 Tryd.func49 rfl (TP (v := .int .i64 _) rfl) <| ⟨congrArg (Value.int .i64) ?_, hst.pure⟩
     first | exact (kind1 (by omega)).symm | exact (kind2 (by omega) (by omega)).symm | exact (kind3 (by omega)).symm | exact (kind0 (by omega) (by omega) (by omega)).symm
   refine run_skip <| run_inBlock <| SR <| AI rfl <| NL <| run_ret1 Tryd.func49 rfl (TP (v := .int .i64 _) rfl) <| ⟨congrArg (Value.int .i64) ?_, hst.pure⟩
   first | exact (kind1 (by omega)).symm | exact (kind2 (by omega) (by omega)).symm | exact (kind3 (by omega)).symm | exact (kind0 (by omega) (by omega) (by omega)).symm
 refine OM (t := 28) rfl (congrArg Value.bool (decide_eq_false g20)) rfl <| OM (t := 28) rfl (congrArg Value.bool (decide_eq_false g20)) rfl <| CN <| Op1.pickF (u := .bool _) (congrArg Value.bool (decide_eq_false g20)) rfl <| AB rfl <| NL <| run_cond_false (congrArg Value.bool (rfl : false = _)) <| run_skip <| run_inBlock <| SR <| AI rfl <| NL <| run_ret1 Tryd.func49 rfl (TP (v := .int .i64 _) rfl) <| ⟨congrArg (Value.int .i64) ?_, hst.pure⟩
 first | exact (kind1 (by omega)).symm | exact (kind2 (by omega) (by omega)).symm | exact (kind3 (by omega)).symm | exact (kind0 (by omega) (by omega) (by omega)).symm
end Go.SK
namespace Go.SK
open Go Go.Proofs
theorem ty9 : TyF Tryd.prog 9 .string 1 16 [str []] := TyF.of (by kernel_rfl) (by kernel_rfl)
theorem ent49 : Enters Tryd.prog 49 := ⟨Tryd.f49, _, Tryd.func49, by kernel_rfl, rfl⟩
theorem ent45 : Enters Tryd.prog 45 := ⟨Tryd.f45, _, Tryd.func45, by kernel_rfl, rfl⟩
end Go.SK
namespace Go.SK
open Go Go.Proofs
open Go.RowKit
theorem R6lx_run (s : Tx) (w : World) (hl : s.length ≤ 140737488355328) : Ret Tryd.prog 64 #[str s] w (fun v w' => v = str (runF s) ∧ St w NoM [] [] w') := by
 refine Ret.enter (args := [str s]) Tryd.func64 rfl rfl rfl ?_
 have hst := St.init w
 refine SR <| AS rfl <| NSR <| AI rfl <| NL <| SQ <| run_block <| run_loop <| Run.indW [(0, str _)] ⟨rfl, trivial⟩ (fun (qq : Nat) => [(3, .int .i64 (qq : Int))]) (fun (qq : Nat) => []) (fun (qq : Nat) => qq ≤ s.length ∧ (runF s).length = qq + (runF (s.drop qq)).length) (fun (qq : Nat) => s.length - qq) (0) hst ⟨Nat.zero_le _, (Nat.zero_add _).symm⟩ ⟨rfl, trivial⟩ ?_
 intro i f w hst hJ ih1
 replace hst : St _ _ ([] ++ []) _ _ := hst
 replace hJ : i ≤ s.length ∧ (runF s).length = i + (runF (s.drop i)).length := hJ
 refine Run.slots (sl := [(3, .int .i64 (i : Int))]) ⟨rfl, trivial⟩ ?_
 have hidx : kindF (s.getD ((i : Int).toNat) 0) = kindF (s.getD i 0) := rfl
 refine SQ <| SR <| MI rfl <| MS rfl <| CN <| Op1.lenS (rest := []) ty9 rfl <| CN <| Op1.lss rfl rfl <| MB rfl <| RunL.splitD (d := 8) rfl (fun g2 => ?_) (fun g2 => ?_)
 · skip
   refine TK (t := 8) rfl (congrArg Value.bool (decide_eq_true g2)) <| Op1.move (v := str _) rfl <| TK (t := 8) rfl (congrArg Value.bool (decide_eq_true g2)) <| Op1.move (v := .int .i64 _) rfl <| TK (t := 8) rfl (congrArg Value.bool (decide_eq_true g2)) <| Op1.indexS ty9 rfl rfl (by omega) (by omega) <| TK (t := 8) rfl (congrArg Value.bool (decide_eq_true g2)) (Op1.call1 (v1 := .int .u8 _) ent49 rfl rfl ((R6lx_kindOf _ _).mono fun v w hp => ?_))
   obtain ⟨rfl, hp⟩ := hp
   replace hst := hst.keepc hp
   clear hp
   refine TK (t := 8) rfl (congrArg Value.bool (decide_eq_true g2)) <| Op1.geq rfl rfl <| CN <| Op1.pickT (u := .bool _) (congrArg Value.bool (decide_eq_true g2)) rfl <| NL <| run_cond_dec rfl (fun g3 => ?_) (fun g3 => ?_)
   · skip
     refine run_skip <| run_block <| RG <| MI rfl <| CN <| Op1.addN rfl rfl rfl (wrap_i64 (by omega) (by omega)) <| AI rfl <| NL <| run_inBlock <| run_inLoop ?_
     have hs1 := run_step (s := s) (i := i) (by omega) ((kind_run (s.getD i 0)).1 (by omega))
     exact ih1 (i + 1) _ w (by omega) hst (⟨by omega, by omega⟩) ⟨rfl, trivial⟩ ⟨(congrArg (Value.int .i64) (by omega)), trivial⟩
   refine run_exit (id := 0) rfl <| SR <| MS rfl <| MI rfl <| CN <| Op1.sliceTo ty9 rfl rfl (by omega) (by omega) <| AS rfl <| NL <| run_ret1 Tryd.func64 rfl (TP (v := str _) rfl) ?_
   have hz : (runF (s.drop i)).length = 0 := run_stop (by omega) (fun hr => by have := (kind_run (s.getD i 0)).2 hr; omega)
   refine ⟨congrArg str ?_, hst.pure⟩
   exact runF_take s (by omega)
 refine OM (t := 8) rfl (congrArg Value.bool (decide_eq_false g2)) rfl <| OM (t := 8) rfl (congrArg Value.bool (decide_eq_false g2)) rfl <| OM (t := 8) rfl (congrArg Value.bool (decide_eq_false g2)) rfl <| OM (t := 8) rfl (congrArg Value.bool (decide_eq_false g2)) rfl <| OM (t := 8) rfl (congrArg Value.bool (decide_eq_false g2)) rfl <| CN <| Op1.pickF (u := .bool _) (congrArg Value.bool (decide_eq_false g2)) rfl <| NL <| run_cond_false (congrArg Value.bool (rfl : false = _)) <| run_exit (id := 0) rfl <| SR <| MS rfl <| MI rfl <| CN <| Op1.sliceTo ty9 rfl rfl (by omega) (by omega) <| AS rfl ?_
 refine NL <| run_ret1 Tryd.func64 rfl (TP (v := str _) rfl) ?_
 have hz : (runF (s.drop i)).length = 0 := run_end (by omega)
 refine ⟨congrArg str ?_, hst.pure⟩
 exact runF_take s (by omega)
theorem R6lx_Run (s : Tx) (x : Int) (a : Nat) (hx : x = a) (ha : a ≤ s.length) (w : World) (hl : s.length ≤ 140737488355328) : Ret Tryd.prog 46 #[str s, .int .i64 x] w (fun v w' => v = str (runF (s.drop a)) ∧ St w NoM [] [] w') := by
 refine Ret.enter (args := [str s, .int .i64 x]) Tryd.func46 rfl rfl rfl ?_
 have hst := St.init w
 subst hx
 refine SR <| AS rfl <| NSR <| MI rfl <| AI rfl <| NL <| SQ <| run_block <| run_loop <| Run.indW [(0, str _), (1, .int .i64 _)] ⟨rfl, rfl, trivial⟩ (fun (qq : Nat) => [(5, .int .i64 (qq : Int))]) (fun (qq : Nat) => []) (fun (qq : Nat) => a ≤ qq ∧ qq ≤ s.length ∧ (runF (s.drop a)).length + a = qq + (runF (s.drop qq)).length) (fun (qq : Nat) => s.length - qq) (a) hst ⟨Nat.le_refl _, ha, Nat.add_comm _ _⟩ ⟨rfl, trivial⟩ ?_
 intro i f w hst hJ ih1
 replace hst : St _ _ ([] ++ []) _ _ := hst
 replace hJ : a ≤ i ∧ i ≤ s.length ∧ (runF (s.drop a)).length + a = i + (runF (s.drop i)).length := hJ
 refine Run.slots (sl := [(5, .int .i64 (i : Int))]) ⟨rfl, trivial⟩ ?_
 have hidx : (s.getD ((i : Int).toNat) 0).toNat = (s.getD i 0).toNat := rfl
 refine SQ <| SR <| MI rfl <| MS rfl <| CN <| Op1.lenS (rest := []) ty9 rfl <| CN <| Op1.lss rfl rfl <| MB rfl <| RunL.splitD (d := 11) rfl (fun g2 => ?_) (fun g2 => ?_)
 · skip
   refine TK (t := 11) rfl (congrArg Value.bool (decide_eq_true g2)) <| Op1.move (v := str _) rfl <| TK (t := 11) rfl (congrArg Value.bool (decide_eq_true g2)) <| Op1.move (v := .int .i64 _) rfl <| TK (t := 11) rfl (congrArg Value.bool (decide_eq_true g2)) <| Op1.indexS ty9 rfl rfl (by omega) (by omega) <| TK (t := 11) rfl (congrArg Value.bool (decide_eq_true g2)) (Op1.call1 (v1 := .int .u8 _) ent45 rfl rfl ((R6lx_Letter _ _).mono fun v w hp => ?_))
   obtain ⟨rfl, hp⟩ := hp
   replace hst := hst.keepc hp
   clear hp
   refine TK (t := 11) rfl (congrArg Value.bool (decide_eq_true g2)) <| Op1.move (v := .bool _) rfl <| RunL.split (d := 16) rfl (fun g3 => ?_) (fun g3 => ?_)
   · skip
     refine OM (t := 16) rfl (congrArg Value.bool g3) rfl <| OM (t := 16) rfl (congrArg Value.bool g3) rfl <| OM (t := 16) rfl (congrArg Value.bool g3) rfl <| OM (t := 16) rfl (congrArg Value.bool g3) rfl <| TK (t := 11) rfl (congrArg Value.bool (decide_eq_true g2)) <| Op1.pickT (u := .bool _) (congrArg Value.bool g3) rfl <| CN <| Op1.pickT (u := .bool _) (congrArg Value.bool (decide_eq_true g2)) rfl <| NL <| run_cond_true (congrArg Value.bool (rfl : true = _)) <| run_skip <| run_block <| RG <| MI rfl <| CN <| Op1.addN rfl rfl rfl (wrap_i64 (by omega) (by omega)) <| AI rfl <| NL ?_
     refine run_inBlock <| run_inLoop ?_
     have hs1 := run_step (s := s) (i := i) (by omega) (run_l g3)
     exact ih1 (i + 1) _ w (by omega) hst (⟨by omega, by omega, by omega⟩) ⟨rfl, rfl, trivial⟩ ⟨(congrArg (Value.int .i64) (by omega)), trivial⟩
   refine TK (t := 16) rfl (congrArg Value.bool g3) <| Op1.move (v := str _) rfl <| TK (t := 16) rfl (congrArg Value.bool g3) <| Op1.move (v := .int .i64 _) rfl <| TK (t := 16) rfl (congrArg Value.bool g3) <| Op1.indexS ty9 rfl rfl (by omega) (by omega) <| TK (t := 16) rfl (congrArg Value.bool g3) (Op1.call1 (v1 := .int .u8 _) ent47 rfl rfl ((R6lx_Digit _ _).mono fun v w hp => ?_))
   obtain ⟨rfl, hp⟩ := hp
   replace hst := hst.keepc hp
   clear hp
   refine TK (t := 11) rfl (congrArg Value.bool (decide_eq_true g2)) <| Op1.pickF (u := .bool _) (congrArg Value.bool g3) rfl <| CN <| Op1.pickT (u := .bool _) (congrArg Value.bool (decide_eq_true g2)) rfl <| NL <| run_cond_split rfl (fun g4 => ?_) (fun g4 => ?_)
   · skip
     refine run_skip <| run_block <| RG <| MI rfl <| CN <| Op1.addN rfl rfl rfl (wrap_i64 (by omega) (by omega)) <| AI rfl <| NL <| run_inBlock <| run_inLoop ?_
     have hs1 := run_step (s := s) (i := i) (by omega) (run_d g4)
     exact ih1 (i + 1) _ w (by omega) hst (⟨by omega, by omega, by omega⟩) ⟨rfl, rfl, trivial⟩ ⟨(congrArg (Value.int .i64) (by omega)), trivial⟩
   refine run_exit (id := 0) rfl <| SR <| MS rfl <| MI rfl <| MI rfl <| CN <| Op1.sliceMid ty9 rfl rfl rfl (by omega) (by omega) (by omega) <| AS rfl <| NL <| run_ret1 Tryd.func46 rfl (TP (v := str _) rfl) ?_
   have hz : (runF (s.drop i)).length = 0 := run_stop (by omega) (run_no g3 g4)
   refine ⟨congrArg str ?_, hst.pure⟩
   exact runF_take (s.drop a) (by omega)
 refine OM (t := 11) rfl (congrArg Value.bool (decide_eq_false g2)) rfl <| OM (t := 11) rfl (congrArg Value.bool (decide_eq_false g2)) rfl <| OM (t := 11) rfl (congrArg Value.bool (decide_eq_false g2)) rfl <| OM (t := 11) rfl (congrArg Value.bool (decide_eq_false g2)) rfl <| OM (t := 11) rfl (congrArg Value.bool (decide_eq_false g2)) rfl <| RunL.omitU (t := 16) rfl rfl <| RunL.omitU (t := 16) rfl rfl <| RunL.omitU (t := 16) rfl rfl <| RunL.omitU (t := 16) rfl rfl <| OM (t := 11) rfl (congrArg Value.bool (decide_eq_false g2)) rfl <| CN <| Op1.pickF (u := .bool _) (congrArg Value.bool (decide_eq_false g2)) rfl <| NL <| run_cond_false (congrArg Value.bool (rfl : false = _)) <| run_exit (id := 0) rfl <| SQ ?_
 refine RG <| MS rfl <| MI rfl <| MI rfl <| CN <| Op1.sliceMid ty9 rfl rfl rfl (by omega) (by omega) (by omega) <| AS rfl <| NL <| run_ret1 Tryd.func46 rfl (TP (v := str _) rfl) ?_
 have hz : (runF (s.drop i)).length = 0 := run_end (by omega)
 refine ⟨congrArg str ?_, hst.pure⟩
 exact runF_take (s.drop a) (by omega)
theorem R6lx_Plain (s : Tx) (w : World) (hl : s.length ≤ 140737488355328) : Ret Tryd.prog 27 #[str s] w (fun v w' => v = .tuple #[.int .u64 (plR s : Int), .bool (plainF s).isSome] ∧ St w NoM [] [] w') := by
 refine Ret.enter (args := [str s]) Tryd.func27 rfl rfl rfl ?_
 have hst := St.init w
 have hidx0 : (s.getD ((0 : Int).toNat) 0).toNat = (s.getD 0 0).toNat := rfl
 refine SR <| CN <| Op1.assign (v := .int .u64 _) rfl <| AB rfl <| NL <| SQ <| SR <| MS rfl <| CN <| Op1.lenS (rest := []) ty9 rfl <| CN <| Op1.eql rfl rfl <| MB rfl <| RunL.splitD (d := 9) rfl (fun g1 => ?_) (fun g1 => ?_)
 · skip
   refine OM (t := 9) rfl (congrArg Value.bool (decide_eq_true g1)) rfl <| OM (t := 9) rfl (congrArg Value.bool (decide_eq_true g1)) rfl <| OM (t := 9) rfl (congrArg Value.bool (decide_eq_true g1)) rfl <| CN <| Op1.pickT (u := .bool _) (congrArg Value.bool (decide_eq_true g1)) rfl <| MB rfl <| OM (t := 14) rfl (congrArg Value.bool (rfl : true = _)) rfl <| OM (t := 14) rfl (congrArg Value.bool (rfl : true = _)) rfl <| OM (t := 14) rfl (congrArg Value.bool (rfl : true = _)) rfl <| OM (t := 14) rfl (congrArg Value.bool (rfl : true = _)) rfl <| RunL.omitU (t := 18) rfl rfl <| RunL.omitU (t := 18) rfl rfl <| RunL.omitU (t := 18) rfl rfl <| OM (t := 14) rfl (congrArg Value.bool (rfl : true = _)) rfl <| CN <| Op1.pickT (u := .bool _) (congrArg Value.bool (rfl : true = _)) rfl <| NL ?_
   have hbad : badP s := by unfold badP; omega
   refine run_cond_true (congrArg Value.bool (rfl : true = _)) <| SR <| CN <| Op1.assign (v := .int .u64 _) rfl <| AB rfl <| NL <| run_ret2 Tryd.func27 rfl (TP (v := .int .u64 _) rfl) (TP (v := .bool _) rfl) ?_
   rw [(plR_bad hbad).1, (plR_bad hbad).2]
   exact ⟨rfl, hst.pure⟩
 refine TK (t := 9) rfl (congrArg Value.bool (decide_eq_false g1)) <| Op1.move (v := str _) rfl <| TK (t := 9) rfl (congrArg Value.bool (decide_eq_false g1)) <| Op1.lenS (rest := []) ty9 rfl <| TK (t := 9) rfl (congrArg Value.bool (decide_eq_false g1)) <| Op1.gtr rfl rfl <| CN <| Op1.pickF (u := .bool _) (congrArg Value.bool (decide_eq_false g1)) rfl <| MB rfl <| RunL.splitD (d := 14) rfl (fun g2 => ?_) (fun g2 => ?_)
 · skip
   refine OM (t := 14) rfl (congrArg Value.bool (decide_eq_true g2)) rfl <| OM (t := 14) rfl (congrArg Value.bool (decide_eq_true g2)) rfl <| OM (t := 14) rfl (congrArg Value.bool (decide_eq_true g2)) rfl <| OM (t := 14) rfl (congrArg Value.bool (decide_eq_true g2)) rfl <| RunL.omitU (t := 18) rfl rfl <| RunL.omitU (t := 18) rfl rfl <| RunL.omitU (t := 18) rfl rfl <| OM (t := 14) rfl (congrArg Value.bool (decide_eq_true g2)) rfl <| CN <| Op1.pickT (u := .bool _) (congrArg Value.bool (decide_eq_true g2)) rfl <| NL ?_
   have hbad : badP s := by unfold badP; omega
   refine run_cond_true (congrArg Value.bool (rfl : true = _)) <| SR <| CN <| Op1.assign (v := .int .u64 _) rfl <| AB rfl <| NL <| run_ret2 Tryd.func27 rfl (TP (v := .int .u64 _) rfl) (TP (v := .bool _) rfl) ?_
   rw [(plR_bad hbad).1, (plR_bad hbad).2]
   exact ⟨rfl, hst.pure⟩
 refine TK (t := 14) rfl (congrArg Value.bool (decide_eq_false g2)) <| Op1.move (v := str _) rfl <| TK (t := 14) rfl (congrArg Value.bool (decide_eq_false g2)) <| Op1.lenS (rest := []) ty9 rfl <| TK (t := 14) rfl (congrArg Value.bool (decide_eq_false g2)) <| Op1.gtr rfl rfl <| TK (t := 14) rfl (congrArg Value.bool (decide_eq_false g2)) <| Op1.move (v := .bool _) rfl <| RunL.splitD (d := 18) rfl (fun g3 => ?_) (fun g3 => ?_)
 · skip
   refine TK (t := 18) rfl (congrArg Value.bool (decide_eq_true g3)) <| Op1.move (v := str _) rfl <| TK (t := 18) rfl (congrArg Value.bool (decide_eq_true g3)) <| Op1.indexS ty9 rfl rfl (by omega) (by omega) <| TK (t := 18) rfl (congrArg Value.bool (decide_eq_true g3)) <| Op1.eql rfl rfl <| TK (t := 14) rfl (congrArg Value.bool (decide_eq_false g2)) <| Op1.pickT (u := .bool _) (congrArg Value.bool (decide_eq_true g3)) rfl <| CN <| Op1.pickF (u := .bool _) (congrArg Value.bool (decide_eq_false g2)) rfl <| NL <| Run.forget [(0, str _), (23, .bool _)] ⟨rfl, rfl, trivial⟩ fun f => run_cond_dec rfl (fun g4 => ?_) (fun g4 => ?_)
   · skip
     have hbad : badP s := by unfold badP; omega
     refine SR <| CN <| Op1.assign (v := .int .u64 _) rfl <| AB rfl <| NL <| run_ret2 Tryd.func27 rfl (TP (v := .int .u64 _) rfl) (TP (v := .bool _) rfl) ?_
     rw [(plR_bad hbad).1, (plR_bad hbad).2]
     exact ⟨rfl, hst.pure⟩
   have hgood : ¬ badP s := by unfold badP; omega
   refine run_skip <| SR <| CN <| Op1.assign (v := .int .u64 _) rfl <| NL <| SQ <| SR <| AI rfl <| NL <| run_block <| run_loop <| Run.indW [(0, str _)] ⟨rfl, trivial⟩ (fun (qq : Nat × Nat) => [(4, .int .u64 (qq.2 : Int)), (5, .int .i64 (qq.1 : Int))]) (fun (qq : Nat × Nat) => []) (fun (qq : Nat × Nat) => qq.1 ≤ s.length ∧ qq.2 < 10 ^ qq.1 ∧ digsF s 0 = digsF (s.drop qq.1) qq.2) (fun (qq : Nat × Nat) => s.length - qq.1) ((0, 0)) hst ⟨Nat.zero_le _, by decide, rfl⟩ ⟨rfl, rfl, trivial⟩ ?_
   intro ⟨i, n⟩ f w hst hJ ih5
   replace hst : St _ _ ([] ++ []) _ _ := hst
   replace hJ : i ≤ s.length ∧ n < 10 ^ i ∧ digsF s 0 = digsF (s.drop i) n := hJ
   refine Run.slots (sl := [(4, .int .u64 (n : Int)), (5, .int .i64 (i : Int))]) ⟨rfl, rfl, trivial⟩ ?_
   have hidx : (s.getD ((i : Int).toNat) 0).toNat = (s.getD i 0).toNat := rfl
   have hlen : s.length ≤ 10 := by unfold badP at hgood; omega
   refine SQ <| SR <| MI rfl <| MS rfl <| CN <| Op1.lenS (rest := []) ty9 rfl <| CN <| Op1.lss rfl rfl <| NL <| run_cond_dec rfl (fun g6 => ?_) (fun g6 => ?_)
   · skip
     have hp10 := pow10_le (i := i) (by omega)
     refine run_skip <| SQ <| run_block <| SQ <| SR <| MS rfl <| MI rfl <| CN <| Op1.indexS ty9 rfl rfl (by omega) (by omega) <| CN <| Op1.call1 (v1 := .int .u8 _) ent47 rfl rfl <| Ret.det (R6lx_Digit _ _) hst fun w hst => CN <| Op1.not rfl <| NL <| run_cond_split rfl (fun g7 => ?_) (fun g7 => ?_)
     · skip
       have hnd : ¬ digB (s.getD i 0) = true := not_t g7
       refine SR <| CN <| Op1.assign (v := .int .u64 _) rfl <| AB rfl <| NL <| run_ret2 Tryd.func27 rfl (TP (v := .int .u64 _) rfl) (TP (v := .bool _) rfl) ?_
       have hno : digsF s 0 = none := hJ.2.2.trans (digs_stop (by omega) hnd)
       rw [(plR_none hgood hno).1, (plR_none hgood hno).2]
       exact ⟨rfl, hst.pure⟩
     have hyd : digB (s.getD i 0) = true := not_f g7
     have hdb := dig_bd hyd
     refine run_skip <| RG <| CN <| Op1.move (v := .int .u64 _) rfl <| CN <| Op1.mulN rfl rfl rfl (wrap_u64 (by omega) (by omega)) <| MS rfl <| MI rfl <| CN <| Op1.indexS ty9 rfl rfl (by omega) (by omega) <| CN (Op1.subN rfl rfl rfl (wrap_u8 (by omega) (by omega)) ?_)
     first | refine CN (Op1.convN ty5 ty76 rfl (wrap_u64 (by omega) (by omega)) ?_) | refine CN (Op1.conv ty5 ty76 rfl ?_)
     refine CN <| Op1.addN rfl rfl rfl (wrap_u64 (by omega) (by omega)) <| CN <| Op1.assign (v := .int .u64 _) rfl <| NL <| run_inBlock <| RG <| MI rfl <| CN <| Op1.addN rfl rfl rfl (wrap_i64 (by omega) (by omega)) <| AI rfl <| NL <| run_inLoop ?_
     exact ih5 ((i + 1, 10 * n + ((s.getD i 0).toNat - 48))) _ w (by (try dsimp only); omega) hst (⟨by (try dsimp only); omega, by (try dsimp only); exact pow10_step hJ.2.1 (by omega), by (try dsimp only); rw [hJ.2.2, digs_step (by omega) hyd]⟩) ⟨rfl, trivial⟩ ⟨(congrArg (Value.int .u64) (by (try dsimp only); omega)), (congrArg (Value.int .i64) (by (try dsimp only); omega)), trivial⟩
   refine run_exit (id := 0) rfl <| SR <| CN <| Op1.move (v := .int .u64 _) rfl <| CN <| Op1.move (v := .int .u64 _) rfl <| CN <| Op1.lss rfl rfl <| CN <| Op1.assign (v := .int .u64 _) rfl <| AB rfl <| NL <| run_ret2 Tryd.func27 rfl (TP (v := .int .u64 _) rfl) (TP (v := .bool _) rfl) ?_
   have hsm : digsF s 0 = some n := hJ.2.2.trans (digs_end (by omega))
   rw [(plR_some hgood hsm).1, (plR_some hgood hsm).2]
   refine ⟨congrArg (fun b => Value.tuple #[.int .u64 (n : Int), .bool b]) ?_, hst.pure⟩
   rw [decide_eq_decide]; omega
 refine OM (t := 18) rfl (congrArg Value.bool (decide_eq_false g3)) rfl <| OM (t := 18) rfl (congrArg Value.bool (decide_eq_false g3)) rfl <| OM (t := 18) rfl (congrArg Value.bool (decide_eq_false g3)) rfl <| TK (t := 14) rfl (congrArg Value.bool (decide_eq_false g2)) <| Op1.pickF (u := .bool _) (congrArg Value.bool (decide_eq_false g3)) rfl <| CN <| Op1.pickF (u := .bool _) (congrArg Value.bool (decide_eq_false g2)) rfl <| NL ?_
 have hgood : ¬ badP s := by unfold badP; omega
 refine run_cond_false (congrArg Value.bool (rfl : false = _)) <| run_skip <| SR <| CN <| Op1.assign (v := .int .u64 _) rfl <| NL <| SQ <| SR <| AI rfl <| NL <| run_block <| Run.forget [(0, str _), (4, .int .u64 _), (5, .int .i64 _)] ⟨rfl, rfl, rfl, trivial⟩ fun f => run_loop <| Run.indW [(0, str _)] ⟨rfl, trivial⟩ (fun (qq : Nat × Nat) => [(4, .int .u64 (qq.2 : Int)), (5, .int .i64 (qq.1 : Int))]) (fun (qq : Nat × Nat) => []) (fun (qq : Nat × Nat) => qq.1 ≤ s.length ∧ qq.2 < 10 ^ qq.1 ∧ digsF s 0 = digsF (s.drop qq.1) qq.2) (fun (qq : Nat × Nat) => s.length - qq.1) ((0, 0)) hst ⟨Nat.zero_le _, by decide, rfl⟩ ⟨rfl, rfl, trivial⟩ ?_
 intro ⟨i, n⟩ f w hst hJ ih8
 replace hst : St _ _ ([] ++ []) _ _ := hst
 replace hJ : i ≤ s.length ∧ n < 10 ^ i ∧ digsF s 0 = digsF (s.drop i) n := hJ
 refine Run.slots (sl := [(4, .int .u64 (n : Int)), (5, .int .i64 (i : Int))]) ⟨rfl, rfl, trivial⟩ ?_
 have hidx : (s.getD ((i : Int).toNat) 0).toNat = (s.getD i 0).toNat := rfl
 have hlen : s.length ≤ 10 := by unfold badP at hgood; omega
 refine SQ <| SR <| MI rfl <| MS rfl <| CN <| Op1.lenS (rest := []) ty9 rfl <| CN <| Op1.lss rfl rfl <| NL <| run_cond_dec rfl (fun g9 => ?_) (fun g9 => ?_)
 · skip
   have hp10 := pow10_le (i := i) (by omega)
   refine run_skip <| SQ <| run_block <| SQ <| SR <| MS rfl <| MI rfl <| CN <| Op1.indexS ty9 rfl rfl (by omega) (by omega) <| CN <| Op1.call1 (v1 := .int .u8 _) ent47 rfl rfl <| Ret.det (R6lx_Digit _ _) hst fun w hst => CN <| Op1.not rfl <| NL <| run_cond_split rfl (fun g10 => ?_) (fun g10 => ?_)
   · skip
     have hnd : ¬ digB (s.getD i 0) = true := not_t g10
     refine SR <| CN <| Op1.assign (v := .int .u64 _) rfl <| AB rfl <| NL <| run_ret2 Tryd.func27 rfl (TP (v := .int .u64 _) rfl) (TP (v := .bool _) rfl) ?_
     have hno : digsF s 0 = none := hJ.2.2.trans (digs_stop (by omega) hnd)
     rw [(plR_none hgood hno).1, (plR_none hgood hno).2]
     exact ⟨rfl, hst.pure⟩
   have hyd : digB (s.getD i 0) = true := not_f g10
   have hdb := dig_bd hyd
   refine run_skip <| RG <| CN <| Op1.move (v := .int .u64 _) rfl <| CN <| Op1.mulN rfl rfl rfl (wrap_u64 (by omega) (by omega)) <| MS rfl <| MI rfl <| CN <| Op1.indexS ty9 rfl rfl (by omega) (by omega) <| CN (Op1.subN rfl rfl rfl (wrap_u8 (by omega) (by omega)) ?_)
   first | refine CN (Op1.convN ty5 ty76 rfl (wrap_u64 (by omega) (by omega)) ?_) | refine CN (Op1.conv ty5 ty76 rfl ?_)
   refine CN <| Op1.addN rfl rfl rfl (wrap_u64 (by omega) (by omega)) <| CN <| Op1.assign (v := .int .u64 _) rfl <| NL <| run_inBlock <| RG <| MI rfl <| CN <| Op1.addN rfl rfl rfl (wrap_i64 (by omega) (by omega)) <| AI rfl <| NL <| run_inLoop ?_
   exact ih8 ((i + 1, 10 * n + ((s.getD i 0).toNat - 48))) _ w (by (try dsimp only); omega) hst (⟨by (try dsimp only); omega, by (try dsimp only); exact pow10_step hJ.2.1 (by omega), by (try dsimp only); rw [hJ.2.2, digs_step (by omega) hyd]⟩) ⟨rfl, trivial⟩ ⟨(congrArg (Value.int .u64) (by (try dsimp only); omega)), (congrArg (Value.int .i64) (by (try dsimp only); omega)), trivial⟩
 refine run_exit (id := 0) rfl <| SR <| CN <| Op1.move (v := .int .u64 _) rfl <| CN <| Op1.move (v := .int .u64 _) rfl <| CN <| Op1.lss rfl rfl <| CN <| Op1.assign (v := .int .u64 _) rfl <| AB rfl <| NL <| run_ret2 Tryd.func27 rfl (TP (v := .int .u64 _) rfl) (TP (v := .bool _) rfl) ?_
 have hsm : digsF s 0 = some n := hJ.2.2.trans (digs_end (by omega))
 rw [(plR_some hgood hsm).1, (plR_some hgood hsm).2]
 refine ⟨congrArg (fun b => Value.tuple #[.int .u64 (n : Int), .bool b]) ?_, hst.pure⟩
 rw [decide_eq_decide]; omega
end Go.SK
namespace Go.SK
open Go Go.Proofs
theorem ent27 : Enters Tryd.prog 27 := ⟨Tryd.f27, _, Tryd.func27, by kernel_rfl, rfl⟩
theorem ty22 : TyF Tryd.prog 22 (.int .u32) 1 4 [.int .u32 0] := TyF.of (by kernel_rfl) (by kernel_rfl)
theorem ent28 : Enters Tryd.prog 28 := ⟨Tryd.f28, _, Tryd.func28, by kernel_rfl, rfl⟩
theorem ent29 : Enters Tryd.prog 29 := ⟨Tryd.f29, _, Tryd.func29, by kernel_rfl, rfl⟩
theorem followsMixed : Tryd.prog.follows .mixedOrders = true := by kernel_rfl
end Go.SK
namespace Go.SK
open Go Go.Proofs
open Go.RowKit
theorem R6lx_Number (s : Tx) (w : World) (hl : s.length ≤ 140737488355328) : Ret Tryd.prog 13 #[str s] w (fun v w' => v = .tuple #[.int .u32 (numLx s).1, .int .i64 (numLx s).2] ∧ St w NoM [] [] w') := by
 refine Ret.enter (args := [str s]) Tryd.func13 rfl rfl rfl ?_
 have hst := St.init w
 have hidx0 : (s.getD ((0 : Int).toNat) 0).toNat = (s.getD 0 0).toNat := rfl
 have hidx1 : (s.getD ((1 : Int).toNat) 0).toNat = (s.getD 1 0).toNat := rfl
 refine SR <| AU rfl <| AI rfl <| NSR <| MS rfl <| CN <| Op1.call1 (v1 := str _) ent27 rfl rfl <| Ret.det (R6lx_Plain _ _ (by first | omega | (simp only [List.length_drop]; omega))) hst fun w hst => CN <| Op1.move (v := .tuple #[.int .u64 _, .bool _]) rfl <| CN <| Op1.extract (v := .int .u64 _) rfl rfl <| CN <| Op1.extract (v := .bool _) rfl rfl <| CN <| Op1.assign (v := .int .u64 _) rfl <| AB rfl <| NL ?_
 refine SQ <| SR <| MB rfl <| NL <| run_cond_split rfl (fun g1 => ?_) (fun g1 => ?_)
 · skip
   obtain ⟨n0, hn0⟩ := isSome_ex g1
   have hpr := plR_of hn0
   refine SR <| CN (Op1.move (v := .int .u64 _) rfl ?_)
   first | refine CN (Op1.convN ty76 ty22 rfl (wrap_u32 (by omega) (by omega)) ?_) | refine CN (Op1.conv ty76 ty22 rfl ?_)
   refine AU rfl <| AI rfl <| NL <| run_ret2 Tryd.func13 rfl (TP (v := .int .u32 _) rfl) (TP (v := .int .i64 _) rfl) ?_
   rw [numF_plain hn0, hpr.1]
   exact ⟨rfl, hst.pure⟩
 have hpn := isSome_no g1
 refine run_skip <| SQ <| SR <| MS rfl <| CN <| Op1.lenS (rest := []) ty9 rfl <| CN <| Op1.gtr rfl rfl <| MB rfl <| RunL.splitD (d := 18) rfl (fun g2 => ?_) (fun g2 => ?_)
 · skip
   refine TK (t := 18) rfl (congrArg Value.bool (decide_eq_true g2)) <| Op1.move (v := str _) rfl <| TK (t := 18) rfl (congrArg Value.bool (decide_eq_true g2)) <| Op1.indexS ty9 rfl rfl (by omega) (by omega) <| TK (t := 18) rfl (congrArg Value.bool (decide_eq_true g2)) <| Op1.eql rfl rfl <| CN <| Op1.pickT (u := .bool _) (congrArg Value.bool (decide_eq_true g2)) rfl <| NL <| run_cond_dec rfl (fun g3 => ?_) (fun g3 => ?_)
   · skip
     refine SR <| MS rfl <| CN <| Op1.sliceFrom ty9 rfl rfl (by omega) (by omega) <| CN <| Op1.call1 (v1 := str _) ent27 rfl rfl <| Ret.det (R6lx_Plain _ _ (by first | omega | (simp only [List.length_drop]; omega))) hst fun w hst => CN <| Op1.move (v := .tuple #[.int .u64 _, .bool _]) rfl <| CN <| Op1.extract (v := .int .u64 _) rfl rfl <| CN <| Op1.extract (v := .bool _) rfl rfl <| CN <| Op1.assign (v := .int .u64 _) rfl <| AB rfl <| NL <| Run.forget [(4, .int .u64 _), (5, .bool _)] ⟨rfl, rfl, trivial⟩ fun f => SQ <| SQ <| RG ?_
     refine MB rfl <| MB rfl <| RunL.split (d := 30) rfl (fun g4 => ?_) (fun g4 => ?_)
     · skip
       obtain ⟨m, hm0⟩ := isSome_ex g4
       have hm : plainF (s.drop 1) = some m := hm0
       have hpm := plR_of hm0
       have hpz : plR (s.drop ((1 : Int).toNat)) = m := hpm.1
       refine TK (t := 30) rfl (congrArg Value.bool g4) <| Op1.move (v := .int .u64 _) rfl <| TK (t := 30) rfl (congrArg Value.bool g4) <| Op1.geq rfl rfl <| CN <| Op1.pickT (u := .bool _) (congrArg Value.bool g4) rfl <| MB rfl <| RunL.splitD (d := 34) rfl (fun g5 => ?_) (fun g5 => ?_)
       · skip
         refine TK (t := 34) rfl (congrArg Value.bool (decide_eq_true g5)) <| Op1.move (v := .int .u64 _) rfl <| TK (t := 34) rfl (congrArg Value.bool (decide_eq_true g5)) <| Op1.leq rfl rfl <| CN <| Op1.pickT (u := .bool _) (congrArg Value.bool (decide_eq_true g5)) rfl <| NL <| run_cond_dec rfl (fun g6 => ?_) (fun g6 => ?_)
         · skip
           refine SR <| CN <| Op1.move (v := .int .u64 _) rfl <| CN (Op1.subN rfl rfl rfl (wrap_u64 (by omega) (by omega)) ?_)
           first | refine CN (Op1.convN ty76 ty22 rfl (wrap_u32 (by omega) (by omega)) ?_) | refine CN (Op1.conv ty76 ty22 rfl ?_)
           refine AU rfl <| AI rfl <| NL <| run_ret2 Tryd.func13 rfl (TP (v := .int .u32 _) rfl) (TP (v := .int .i64 _) rfl) ?_
           rw [numF_minus hpn (by omega) hm (by omega), show plR (s.drop ((1 : Int).toNat)) = m from hpm.1]
           exact ⟨rfl, hst.pure⟩
         refine run_skip <| SR <| AU rfl <| AI rfl <| NL <| run_ret2 Tryd.func13 rfl (TP (v := .int .u32 _) rfl) (TP (v := .int .i64 _) rfl) ?_
         rw [numF_minusBad hpn (by omega) (fun n hn => by rw [hm] at hn; cases hn; omega)]
         exact ⟨rfl, hst.pure⟩
       refine OM (t := 34) rfl (congrArg Value.bool (decide_eq_false g5)) rfl <| OM (t := 34) rfl (congrArg Value.bool (decide_eq_false g5)) rfl <| CN <| Op1.pickF (u := .bool _) (congrArg Value.bool (decide_eq_false g5)) rfl <| NL <| run_cond_false (congrArg Value.bool (rfl : false = _)) <| run_skip <| SR <| AU rfl <| AI rfl <| NL <| run_ret2 Tryd.func13 rfl (TP (v := .int .u32 _) rfl) (TP (v := .int .i64 _) rfl) ?_
       rw [numF_minusBad hpn (by omega) (fun n hn => by rw [hm] at hn; cases hn; omega)]
       exact ⟨rfl, hst.pure⟩
     have hmn : plainF (s.drop 1) = none := isSome_no g4
     refine OM (t := 30) rfl (congrArg Value.bool g4) rfl <| OM (t := 30) rfl (congrArg Value.bool g4) rfl <| CN <| Op1.pickF (u := .bool _) (congrArg Value.bool g4) rfl <| MB rfl <| OM (t := 34) rfl (congrArg Value.bool (rfl : false = _)) rfl <| OM (t := 34) rfl (congrArg Value.bool (rfl : false = _)) rfl <| CN <| Op1.pickF (u := .bool _) (congrArg Value.bool (rfl : false = _)) rfl <| NL <| run_cond_false (congrArg Value.bool (rfl : false = _)) <| run_skip <| SR <| AU rfl <| AI rfl <| NL ?_
     refine run_ret2 Tryd.func13 rfl (TP (v := .int .u32 _) rfl) (TP (v := .int .i64 _) rfl) ?_
     rw [numF_minusBad hpn (by omega) (fun n hn => by rw [hmn] at hn; cases hn)]
     exact ⟨rfl, hst.pure⟩
   refine run_skip <| SQ <| SR <| MS rfl <| CN <| Op1.lenS (rest := []) ty9 rfl <| CN <| Op1.lss rfl rfl <| MB rfl <| RunL.splitD (d := 44) rfl (fun g7 => ?_) (fun g7 => ?_)
   · skip
     refine OM (t := 44) rfl (congrArg Value.bool (decide_eq_true g7)) rfl <| OM (t := 44) rfl (congrArg Value.bool (decide_eq_true g7)) rfl <| OM (t := 44) rfl (congrArg Value.bool (decide_eq_true g7)) rfl <| CN <| Op1.pickT (u := .bool _) (congrArg Value.bool (decide_eq_true g7)) rfl <| MB rfl <| OM (t := 49) rfl (congrArg Value.bool (rfl : true = _)) rfl <| OM (t := 49) rfl (congrArg Value.bool (rfl : true = _)) rfl <| OM (t := 49) rfl (congrArg Value.bool (rfl : true = _)) rfl <| CN <| Op1.pickT (u := .bool _) (congrArg Value.bool (rfl : true = _)) rfl <| MB rfl <| OM (t := 54) rfl (congrArg Value.bool (rfl : true = _)) rfl <| OM (t := 54) rfl (congrArg Value.bool (rfl : true = _)) rfl <| OM (t := 54) rfl (congrArg Value.bool (rfl : true = _)) rfl <| CN <| Op1.pickT (u := .bool _) (congrArg Value.bool (rfl : true = _)) rfl <| NL ?_
     refine Run.forget [(0, str _), (58, .bool _)] ⟨rfl, rfl, trivial⟩ fun f => run_cond_true (congrArg Value.bool (rfl : true = _)) <| SR <| AU rfl <| AI rfl <| NL <| run_ret2 Tryd.func13 rfl (TP (v := .int .u32 _) rfl) (TP (v := .int .i64 _) rfl) ?_
     rw [numF_bad hpn (by omega) (by omega)]
     exact ⟨rfl, hst.pure⟩
   refine TK (t := 44) rfl (congrArg Value.bool (decide_eq_false g7)) <| Op1.move (v := str _) rfl <| TK (t := 44) rfl (congrArg Value.bool (decide_eq_false g7)) <| Op1.lenS (rest := []) ty9 rfl <| TK (t := 44) rfl (congrArg Value.bool (decide_eq_false g7)) <| Op1.gtr rfl rfl <| CN <| Op1.pickF (u := .bool _) (congrArg Value.bool (decide_eq_false g7)) rfl <| MB rfl <| RunL.splitD (d := 49) rfl (fun g8 => ?_) (fun g8 => ?_)
   · skip
     refine OM (t := 49) rfl (congrArg Value.bool (decide_eq_true g8)) rfl <| OM (t := 49) rfl (congrArg Value.bool (decide_eq_true g8)) rfl <| OM (t := 49) rfl (congrArg Value.bool (decide_eq_true g8)) rfl <| CN <| Op1.pickT (u := .bool _) (congrArg Value.bool (decide_eq_true g8)) rfl <| MB rfl <| OM (t := 54) rfl (congrArg Value.bool (rfl : true = _)) rfl <| OM (t := 54) rfl (congrArg Value.bool (rfl : true = _)) rfl <| OM (t := 54) rfl (congrArg Value.bool (rfl : true = _)) rfl <| CN <| Op1.pickT (u := .bool _) (congrArg Value.bool (rfl : true = _)) rfl <| NL <| Run.forget [(0, str _), (58, .bool _)] ⟨rfl, rfl, trivial⟩ fun f => run_cond_true (congrArg Value.bool (rfl : true = _)) <| SR <| AU rfl ?_
     refine AI rfl <| NL <| run_ret2 Tryd.func13 rfl (TP (v := .int .u32 _) rfl) (TP (v := .int .i64 _) rfl) ?_
     rw [numF_bad hpn (by omega) (by omega)]
     exact ⟨rfl, hst.pure⟩
   refine TK (t := 49) rfl (congrArg Value.bool (decide_eq_false g8)) <| Op1.move (v := str _) rfl <| TK (t := 49) rfl (congrArg Value.bool (decide_eq_false g8)) <| Op1.indexS ty9 rfl rfl (by omega) (by omega) <| TK (t := 49) rfl (congrArg Value.bool (decide_eq_false g8)) <| Op1.neq rfl rfl <| CN <| Op1.pickF (u := .bool _) (congrArg Value.bool (decide_eq_false g8)) rfl <| MB rfl <| RunL.splitD (d := 54) rfl (fun g9 => ?_) (fun g9 => ?_)
   · skip
     refine OM (t := 54) rfl (congrArg Value.bool (decide_eq_true g9)) rfl <| OM (t := 54) rfl (congrArg Value.bool (decide_eq_true g9)) rfl <| OM (t := 54) rfl (congrArg Value.bool (decide_eq_true g9)) rfl <| CN <| Op1.pickT (u := .bool _) (congrArg Value.bool (decide_eq_true g9)) rfl <| NL <| Run.forget [(0, str _), (58, .bool _)] ⟨rfl, rfl, trivial⟩ fun f => run_cond_true (congrArg Value.bool (rfl : true = _)) <| SR <| AU rfl <| AI rfl <| NL <| run_ret2 Tryd.func13 rfl (TP (v := .int .u32 _) rfl) (TP (v := .int .i64 _) rfl) ?_
     rw [numF_bad hpn (by omega) (by omega)]
     exact ⟨rfl, hst.pure⟩
   refine TK (t := 54) rfl (congrArg Value.bool (decide_eq_false g9)) <| Op1.move (v := str _) rfl <| TK (t := 54) rfl (congrArg Value.bool (decide_eq_false g9)) <| Op1.indexS ty9 rfl rfl (by omega) (by omega) <| TK (t := 54) rfl (congrArg Value.bool (decide_eq_false g9)) <| Op1.neq rfl rfl <| CN <| Op1.pickF (u := .bool _) (congrArg Value.bool (decide_eq_false g9)) rfl <| NL <| Run.forget [(0, str _), (58, .bool _)] ⟨rfl, rfl, trivial⟩ fun f => run_cond_dec rfl (fun g10 => ?_) (fun g10 => ?_)
   · skip
     refine SR <| AU rfl <| AI rfl <| NL <| run_ret2 Tryd.func13 rfl (TP (v := .int .u32 _) rfl) (TP (v := .int .i64 _) rfl) ?_
     rw [numF_bad hpn (by omega) (by omega)]
     exact ⟨rfl, hst.pure⟩
   refine run_skip <| SR <| CN <| Op1.assign (v := .int .u64 _) rfl <| NL <| SQ <| SR <| AI rfl <| NL <| run_block <| run_loop <| Run.indW [(0, str _)] ⟨rfl, trivial⟩ (fun (qq : Nat × Nat) => [(4, .int .u64 (qq.2 : Int)), (6, .int .i64 ((qq.1 + 2 : Nat) : Int))]) (fun (qq : Nat × Nat) => []) (fun (qq : Nat × Nat) => qq.1 + 2 ≤ s.length ∧ qq.2 < 16 ^ qq.1 ∧ hexsF (s.drop 2) 0 = hexsF (s.drop (qq.1 + 2)) qq.2) (fun (qq : Nat × Nat) => s.length - qq.1) ((0, 0)) hst ⟨by (try dsimp only); omega, by decide, rfl⟩ ⟨rfl, rfl, trivial⟩ ?_
   intro ⟨k, n⟩ f w hst hJ ih11
   replace hst : St _ _ ([] ++ []) _ _ := hst
   replace hJ : k + 2 ≤ s.length ∧ n < 16 ^ k ∧ hexsF (s.drop 2) 0 = hexsF (s.drop (k + 2)) n := hJ
   refine Run.slots (sl := [(4, .int .u64 (n : Int)), (6, .int .i64 ((k + 2 : Nat) : Int))]) ⟨rfl, rfl, trivial⟩ ?_
   have hidx : (s.getD ((((k + 2 : Nat) : Int)).toNat) 0).toNat = (s.getD (k + 2) 0).toNat := rfl
   have hidw : worF (s.getD ((((k + 2 : Nat) : Int)).toNat) 0) = worF (s.getD (k + 2) 0) := rfl
   refine SQ <| SR <| MI rfl <| MS rfl <| CN <| Op1.lenS (rest := []) ty9 rfl <| CN <| Op1.lss rfl rfl <| NL <| run_cond_dec rfl (fun g12 => ?_) (fun g12 => ?_)
   · skip
     have hp16 := pow16_le (i := k) (by omega)
     refine run_skip <| SQ <| run_block <| SQ <| SR <| MS rfl <| MI rfl <| CN <| Op1.indexS ty9 rfl rfl (by omega) (by omega) <| CN <| Op1.call1 (v1 := .int .u8 _) ent28 rfl rfl <| Ret.det (R6lx_Hex _ _) hst fun w hst => CN <| Op1.not rfl <| NL <| run_cond_split rfl (fun g13 => ?_) (fun g13 => ?_)
     · skip
       have hnd : ¬ hexB (s.getD (k + 2) 0) = true := not_t g13
       refine SR <| AU rfl <| AI rfl <| NL <| run_ret2 Tryd.func13 rfl (TP (v := .int .u32 _) rfl) (TP (v := .int .i64 _) rfl) ?_
       rw [numF_hexBad hpn (by omega) (by omega) (hJ.2.2.trans (hexs_stop (by omega) hnd))]
       exact ⟨rfl, hst.pure⟩
     have hyd : hexB (s.getD (k + 2) 0) = true := not_f g13
     have hdb := (hex_bd hyd).2
     refine run_skip <| RG <| CN <| Op1.move (v := .int .u64 _) rfl <| CN <| Op1.mulN rfl rfl rfl (wrap_u64 (by omega) (by omega)) <| MS rfl <| MI rfl <| CN <| Op1.indexS ty9 rfl rfl (by omega) (by omega) <| CN <| Op1.call1 (v1 := .int .u8 _) ent29 rfl rfl <| Ret.det (R6lx_Worth _ hyd _) hst fun w hst => CN <| Op1.addN rfl rfl rfl (wrap_u64 (by omega) (by omega)) <| CN <| Op1.assign (v := .int .u64 _) rfl <| NL <| run_inBlock <| RG <| MI rfl <| CN (Op1.addN rfl rfl rfl (wrap_i64 (by omega) (by omega)) ?_)
     refine AI rfl <| NL <| run_inLoop ?_
     exact ih11 ((k + 1, 16 * n + worF (s.getD (k + 2) 0))) _ w (by (try dsimp only); omega) hst (⟨by (try dsimp only); omega, by (try dsimp only); exact pow16_step hJ.2.1 (by omega), by (try dsimp only); rw [hJ.2.2, hexs_step (by omega) hyd]⟩) ⟨rfl, trivial⟩ ⟨(congrArg (Value.int .u64) (by (try dsimp only); omega)), (congrArg (Value.int .i64) (by (try dsimp only); omega)), trivial⟩
   have hp16 := pow16_le8 (i := k) (by omega)
   refine run_exit (id := 0) rfl <| SR <| CN (Op1.move (v := .int .u64 _) rfl ?_)
   first | refine CN (Op1.convN ty76 ty22 rfl (wrap_u32 (by omega) (by omega)) ?_) | refine CN (Op1.conv ty76 ty22 rfl ?_)
   refine AU rfl <| AI rfl <| NL <| run_ret2 Tryd.func13 rfl (TP (v := .int .u32 _) rfl) (TP (v := .int .i64 _) rfl) ?_
   rw [numF_hex hpn (by omega) (by omega) (hJ.2.2.trans (hexs_end (by omega)))]
   exact ⟨rfl, hst.pure⟩
 refine OM (t := 18) rfl (congrArg Value.bool (decide_eq_false g2)) rfl <| OM (t := 18) rfl (congrArg Value.bool (decide_eq_false g2)) rfl <| OM (t := 18) rfl (congrArg Value.bool (decide_eq_false g2)) rfl <| CN <| Op1.pickF (u := .bool _) (congrArg Value.bool (decide_eq_false g2)) rfl <| NL <| run_cond_false (congrArg Value.bool (rfl : false = _)) <| run_skip <| SQ <| SR <| MS rfl <| CN <| Op1.lenS (rest := []) ty9 rfl <| CN <| Op1.lss rfl rfl <| MB rfl <| RunL.splitD (d := 44) rfl (fun g14 => ?_) (fun g14 => ?_)
 · skip
   refine OM (t := 44) rfl (congrArg Value.bool (decide_eq_true g14)) rfl <| OM (t := 44) rfl (congrArg Value.bool (decide_eq_true g14)) rfl <| OM (t := 44) rfl (congrArg Value.bool (decide_eq_true g14)) rfl <| CN <| Op1.pickT (u := .bool _) (congrArg Value.bool (decide_eq_true g14)) rfl <| MB rfl <| OM (t := 49) rfl (congrArg Value.bool (rfl : true = _)) rfl <| OM (t := 49) rfl (congrArg Value.bool (rfl : true = _)) rfl <| OM (t := 49) rfl (congrArg Value.bool (rfl : true = _)) rfl <| CN <| Op1.pickT (u := .bool _) (congrArg Value.bool (rfl : true = _)) rfl <| MB rfl <| OM (t := 54) rfl (congrArg Value.bool (rfl : true = _)) rfl <| OM (t := 54) rfl (congrArg Value.bool (rfl : true = _)) rfl <| OM (t := 54) rfl (congrArg Value.bool (rfl : true = _)) rfl <| CN <| Op1.pickT (u := .bool _) (congrArg Value.bool (rfl : true = _)) rfl <| NL ?_
   refine Run.forget [(0, str _), (58, .bool _)] ⟨rfl, rfl, trivial⟩ fun f => run_cond_true (congrArg Value.bool (rfl : true = _)) <| SR <| AU rfl <| AI rfl <| NL <| run_ret2 Tryd.func13 rfl (TP (v := .int .u32 _) rfl) (TP (v := .int .i64 _) rfl) ?_
   rw [numF_bad hpn (by omega) (by omega)]
   exact ⟨rfl, hst.pure⟩
 refine TK (t := 44) rfl (congrArg Value.bool (decide_eq_false g14)) <| Op1.move (v := str _) rfl <| TK (t := 44) rfl (congrArg Value.bool (decide_eq_false g14)) <| Op1.lenS (rest := []) ty9 rfl <| TK (t := 44) rfl (congrArg Value.bool (decide_eq_false g14)) <| Op1.gtr rfl rfl <| CN <| Op1.pickF (u := .bool _) (congrArg Value.bool (decide_eq_false g14)) rfl <| MB rfl <| RunL.splitD (d := 49) rfl (fun g15 => ?_) (fun g15 => ?_)
 · skip
   refine OM (t := 49) rfl (congrArg Value.bool (decide_eq_true g15)) rfl <| OM (t := 49) rfl (congrArg Value.bool (decide_eq_true g15)) rfl <| OM (t := 49) rfl (congrArg Value.bool (decide_eq_true g15)) rfl <| CN <| Op1.pickT (u := .bool _) (congrArg Value.bool (decide_eq_true g15)) rfl <| MB rfl <| OM (t := 54) rfl (congrArg Value.bool (rfl : true = _)) rfl <| OM (t := 54) rfl (congrArg Value.bool (rfl : true = _)) rfl <| OM (t := 54) rfl (congrArg Value.bool (rfl : true = _)) rfl <| CN <| Op1.pickT (u := .bool _) (congrArg Value.bool (rfl : true = _)) rfl <| NL <| Run.forget [(0, str _), (58, .bool _)] ⟨rfl, rfl, trivial⟩ fun f => run_cond_true (congrArg Value.bool (rfl : true = _)) <| SR <| AU rfl ?_
   refine AI rfl <| NL <| run_ret2 Tryd.func13 rfl (TP (v := .int .u32 _) rfl) (TP (v := .int .i64 _) rfl) ?_
   rw [numF_bad hpn (by omega) (by omega)]
   exact ⟨rfl, hst.pure⟩
 refine TK (t := 49) rfl (congrArg Value.bool (decide_eq_false g15)) <| Op1.move (v := str _) rfl <| TK (t := 49) rfl (congrArg Value.bool (decide_eq_false g15)) <| Op1.indexS ty9 rfl rfl (by omega) (by omega) <| TK (t := 49) rfl (congrArg Value.bool (decide_eq_false g15)) <| Op1.neq rfl rfl <| CN <| Op1.pickF (u := .bool _) (congrArg Value.bool (decide_eq_false g15)) rfl <| MB rfl <| RunL.splitD (d := 54) rfl (fun g16 => ?_) (fun g16 => ?_)
 · skip
   refine OM (t := 54) rfl (congrArg Value.bool (decide_eq_true g16)) rfl <| OM (t := 54) rfl (congrArg Value.bool (decide_eq_true g16)) rfl <| OM (t := 54) rfl (congrArg Value.bool (decide_eq_true g16)) rfl <| CN <| Op1.pickT (u := .bool _) (congrArg Value.bool (decide_eq_true g16)) rfl <| NL <| Run.forget [(0, str _), (58, .bool _)] ⟨rfl, rfl, trivial⟩ fun f => run_cond_true (congrArg Value.bool (rfl : true = _)) <| SR <| AU rfl <| AI rfl <| NL <| run_ret2 Tryd.func13 rfl (TP (v := .int .u32 _) rfl) (TP (v := .int .i64 _) rfl) ?_
   rw [numF_bad hpn (by omega) (by omega)]
   exact ⟨rfl, hst.pure⟩
 refine TK (t := 54) rfl (congrArg Value.bool (decide_eq_false g16)) <| Op1.move (v := str _) rfl <| TK (t := 54) rfl (congrArg Value.bool (decide_eq_false g16)) <| Op1.indexS ty9 rfl rfl (by omega) (by omega) <| TK (t := 54) rfl (congrArg Value.bool (decide_eq_false g16)) <| Op1.neq rfl rfl <| CN <| Op1.pickF (u := .bool _) (congrArg Value.bool (decide_eq_false g16)) rfl <| NL <| Run.forget [(0, str _), (58, .bool _)] ⟨rfl, rfl, trivial⟩ fun f => run_cond_dec rfl (fun g17 => ?_) (fun g17 => ?_)
 · skip
   refine SR <| AU rfl <| AI rfl <| NL <| run_ret2 Tryd.func13 rfl (TP (v := .int .u32 _) rfl) (TP (v := .int .i64 _) rfl) ?_
   rw [numF_bad hpn (by omega) (by omega)]
   exact ⟨rfl, hst.pure⟩
 refine run_skip <| SR <| CN <| Op1.assign (v := .int .u64 _) rfl <| NL <| SQ <| SR <| AI rfl <| NL <| run_block <| run_loop <| Run.indW [(0, str _)] ⟨rfl, trivial⟩ (fun (qq : Nat × Nat) => [(4, .int .u64 (qq.2 : Int)), (6, .int .i64 ((qq.1 + 2 : Nat) : Int))]) (fun (qq : Nat × Nat) => []) (fun (qq : Nat × Nat) => qq.1 + 2 ≤ s.length ∧ qq.2 < 16 ^ qq.1 ∧ hexsF (s.drop 2) 0 = hexsF (s.drop (qq.1 + 2)) qq.2) (fun (qq : Nat × Nat) => s.length - qq.1) ((0, 0)) hst ⟨by (try dsimp only); omega, by decide, rfl⟩ ⟨rfl, rfl, trivial⟩ ?_
 intro ⟨k, n⟩ f w hst hJ ih18
 replace hst : St _ _ ([] ++ []) _ _ := hst
 replace hJ : k + 2 ≤ s.length ∧ n < 16 ^ k ∧ hexsF (s.drop 2) 0 = hexsF (s.drop (k + 2)) n := hJ
 refine Run.slots (sl := [(4, .int .u64 (n : Int)), (6, .int .i64 ((k + 2 : Nat) : Int))]) ⟨rfl, rfl, trivial⟩ ?_
 have hidx : (s.getD ((((k + 2 : Nat) : Int)).toNat) 0).toNat = (s.getD (k + 2) 0).toNat := rfl
 have hidw : worF (s.getD ((((k + 2 : Nat) : Int)).toNat) 0) = worF (s.getD (k + 2) 0) := rfl
 refine SQ <| SR <| MI rfl <| MS rfl <| CN <| Op1.lenS (rest := []) ty9 rfl <| CN <| Op1.lss rfl rfl <| NL <| run_cond_dec rfl (fun g19 => ?_) (fun g19 => ?_)
 · skip
   have hp16 := pow16_le (i := k) (by omega)
   refine run_skip <| SQ <| run_block <| SQ <| SR <| MS rfl <| MI rfl <| CN <| Op1.indexS ty9 rfl rfl (by omega) (by omega) <| CN <| Op1.call1 (v1 := .int .u8 _) ent28 rfl rfl <| Ret.det (R6lx_Hex _ _) hst fun w hst => CN <| Op1.not rfl <| NL <| run_cond_split rfl (fun g20 => ?_) (fun g20 => ?_)
   · skip
     have hnd : ¬ hexB (s.getD (k + 2) 0) = true := not_t g20
     refine SR <| AU rfl <| AI rfl <| NL <| run_ret2 Tryd.func13 rfl (TP (v := .int .u32 _) rfl) (TP (v := .int .i64 _) rfl) ?_
     rw [numF_hexBad hpn (by omega) (by omega) (hJ.2.2.trans (hexs_stop (by omega) hnd))]
     exact ⟨rfl, hst.pure⟩
   have hyd : hexB (s.getD (k + 2) 0) = true := not_f g20
   have hdb := (hex_bd hyd).2
   refine run_skip <| RG <| CN <| Op1.move (v := .int .u64 _) rfl <| CN <| Op1.mulN rfl rfl rfl (wrap_u64 (by omega) (by omega)) <| MS rfl <| MI rfl <| CN <| Op1.indexS ty9 rfl rfl (by omega) (by omega) <| CN <| Op1.call1 (v1 := .int .u8 _) ent29 rfl rfl <| Ret.det (R6lx_Worth _ hyd _) hst fun w hst => CN <| Op1.addN rfl rfl rfl (wrap_u64 (by omega) (by omega)) <| CN <| Op1.assign (v := .int .u64 _) rfl <| NL <| run_inBlock <| RG <| MI rfl <| CN (Op1.addN rfl rfl rfl (wrap_i64 (by omega) (by omega)) ?_)
   refine AI rfl <| NL <| run_inLoop ?_
   exact ih18 ((k + 1, 16 * n + worF (s.getD (k + 2) 0))) _ w (by (try dsimp only); omega) hst (⟨by (try dsimp only); omega, by (try dsimp only); exact pow16_step hJ.2.1 (by omega), by (try dsimp only); rw [hJ.2.2, hexs_step (by omega) hyd]⟩) ⟨rfl, trivial⟩ ⟨(congrArg (Value.int .u64) (by (try dsimp only); omega)), (congrArg (Value.int .i64) (by (try dsimp only); omega)), trivial⟩
 have hp16 := pow16_le8 (i := k) (by omega)
 refine run_exit (id := 0) rfl <| SR <| CN (Op1.move (v := .int .u64 _) rfl ?_)
 first | refine CN (Op1.convN ty76 ty22 rfl (wrap_u32 (by omega) (by omega)) ?_) | refine CN (Op1.conv ty76 ty22 rfl ?_)
 refine AU rfl <| AI rfl <| NL <| run_ret2 Tryd.func13 rfl (TP (v := .int .u32 _) rfl) (TP (v := .int .i64 _) rfl) ?_
 rw [numF_hex hpn (by omega) (by omega) (hJ.2.2.trans (hexs_end (by omega)))]
 exact ⟨rfl, hst.pure⟩
theorem R6lx_Part (s : Tx) (x : Int) (a : Nat) (hx : x = a) (ha : a < s.length) (w : World) (hl : s.length ≤ 140737488355328) : Ret Tryd.prog 62 #[str s, .int .i64 x] w (fun v w' => v = partV (partF (s.drop a)) ∧ St w NoM [] [] w') := by
 refine Ret.enter (args := [str s, .int .i64 x]) Tryd.func62 rfl rfl rfl ?_
 have hst := St.init w
 subst hx
 have hidx1 : (s.getD (((a : Int) + 1).toNat) 0).toNat = (s.getD (a + 1) 0).toNat := rfl
 have hidx2 : (s.getD (((a : Int) + 2).toNat) 0).toNat = (s.getD (a + 2) 0).toNat := rfl
 have hidx3 : (s.getD (((a : Int) + 3).toNat) 0).toNat = (s.getD (a + 3) 0).toNat := rfl
 have hidx : (s.getD ((a : Int).toNat) 0).toNat = (s.getD a 0).toNat := rfl
 refine SR <| AC rfl <| AI rfl <| NSR <| MS rfl <| MI rfl <| CN <| Op1.indexS ty9 rfl rfl (by omega) (by omega) <| AC rfl <| NL <| SQ <| SQ <| RG ?_
 refine MC rfl <| CN <| Op1.lss rfl rfl <| MB rfl <| RunL.splitD (d := 12) rfl (fun g1 => ?_) (fun g1 => ?_)
 · skip
   refine OM (t := 12) rfl (congrArg Value.bool (decide_eq_true g1)) rfl <| OM (t := 12) rfl (congrArg Value.bool (decide_eq_true g1)) rfl <| CN <| Op1.pickT (u := .bool _) (congrArg Value.bool (decide_eq_true g1)) rfl <| MB rfl <| OM (t := 16) rfl (congrArg Value.bool (rfl : true = _)) rfl <| OM (t := 16) rfl (congrArg Value.bool (rfl : true = _)) rfl <| CN <| Op1.pickT (u := .bool _) (congrArg Value.bool (rfl : true = _)) rfl <| NL <| run_cond_true (congrArg Value.bool (rfl : true = _)) <| SR <| AC rfl <| AI rfl <| NL <| run_ret2 Tryd.func62 rfl (TP (v := .int .u8 _) rfl) (TP (v := .int .i64 _) rfl) ?_
   rw [part_no1 ha (by omega)]
   exact ⟨rfl, hst.pure⟩
 refine TK (t := 12) rfl (congrArg Value.bool (decide_eq_false g1)) <| Op1.move (v := .int .u8 _) rfl <| TK (t := 12) rfl (congrArg Value.bool (decide_eq_false g1)) <| Op1.gtr rfl rfl <| CN <| Op1.pickF (u := .bool _) (congrArg Value.bool (decide_eq_false g1)) rfl <| MB rfl <| RunL.splitD (d := 16) rfl (fun g2 => ?_) (fun g2 => ?_)
 · skip
   refine OM (t := 16) rfl (congrArg Value.bool (decide_eq_true g2)) rfl <| OM (t := 16) rfl (congrArg Value.bool (decide_eq_true g2)) rfl <| CN <| Op1.pickT (u := .bool _) (congrArg Value.bool (decide_eq_true g2)) rfl <| NL <| run_cond_true (congrArg Value.bool (rfl : true = _)) <| SR <| AC rfl <| AI rfl <| NL <| run_ret2 Tryd.func62 rfl (TP (v := .int .u8 _) rfl) (TP (v := .int .i64 _) rfl) ?_
   rw [part_no1 ha (by omega)]
   exact ⟨rfl, hst.pure⟩
 refine TK (t := 16) rfl (congrArg Value.bool (decide_eq_false g2)) <| Op1.move (v := .int .u8 _) rfl <| TK (t := 16) rfl (congrArg Value.bool (decide_eq_false g2)) <| Op1.eql rfl rfl <| CN <| Op1.pickF (u := .bool _) (congrArg Value.bool (decide_eq_false g2)) rfl <| NL <| run_cond_dec rfl (fun g3 => ?_) (fun g3 => ?_)
 · skip
   refine SR <| AC rfl <| AI rfl <| NL <| run_ret2 Tryd.func62 rfl (TP (v := .int .u8 _) rfl) (TP (v := .int .i64 _) rfl) ?_
   rw [part_no1 ha (by omega)]
   exact ⟨rfl, hst.pure⟩
 refine run_skip <| SQ <| SR <| MC rfl <| CN <| Op1.neq rfl rfl <| NL <| run_cond_dec rfl (fun g4 => ?_) (fun g4 => ?_)
 · skip
   refine SR <| MC rfl <| AC rfl <| AI rfl <| NL <| run_ret2 Tryd.func62 rfl (TP (v := .int .u8 _) rfl) (TP (v := .int .i64 _) rfl) ?_
   rw [part_one ha (by omega) (by omega)]
   exact ⟨rfl, hst.pure⟩
 refine run_skip <| SQ <| SR <| MI rfl <| CN <| Op1.addN rfl rfl rfl (wrap_i64 (by omega) (by omega)) <| MS rfl <| CN <| Op1.lenS (rest := []) ty9 rfl <| CN <| Op1.lss rfl rfl <| MB rfl <| RunL.splitD (d := 28) rfl (fun g5 => ?_) (fun g5 => ?_)
 · skip
   refine TK (t := 28) rfl (congrArg Value.bool (decide_eq_true g5)) <| Op1.move (v := str _) rfl <| TK (t := 28) rfl (congrArg Value.bool (decide_eq_true g5)) <| Op1.move (v := .int .i64 _) rfl <| TK (t := 28) rfl (congrArg Value.bool (decide_eq_true g5)) <| Op1.addN rfl rfl rfl (wrap_i64 (by omega) (by omega)) <| TK (t := 28) rfl (congrArg Value.bool (decide_eq_true g5)) <| Op1.indexS ty9 rfl rfl (by omega) (by omega) <| TK (t := 28) rfl (congrArg Value.bool (decide_eq_true g5)) <| Op1.eql rfl rfl <| TK (t := 28) rfl (congrArg Value.bool (decide_eq_true g5)) <| Op1.move (v := .bool _) rfl <| RunL.splitD (d := 34) rfl (fun g6 => ?_) (fun g6 => ?_)
   · skip
     refine OM (t := 34) rfl (congrArg Value.bool (decide_eq_true g6)) rfl <| OM (t := 34) rfl (congrArg Value.bool (decide_eq_true g6)) rfl <| OM (t := 34) rfl (congrArg Value.bool (decide_eq_true g6)) rfl <| OM (t := 34) rfl (congrArg Value.bool (decide_eq_true g6)) rfl <| OM (t := 34) rfl (congrArg Value.bool (decide_eq_true g6)) rfl <| TK (t := 28) rfl (congrArg Value.bool (decide_eq_true g5)) <| Op1.pickT (u := .bool _) (congrArg Value.bool (decide_eq_true g6)) rfl <| CN <| Op1.pickT (u := .bool _) (congrArg Value.bool (decide_eq_true g5)) rfl <| NL <| Run.forget [(0, str _), (1, .int .i64 _), (41, .bool _)] ⟨rfl, rfl, rfl, trivial⟩ fun f => run_cond_true (congrArg Value.bool (rfl : true = _)) <| SR <| MS rfl <| MI rfl <| CN (Op1.addN rfl rfl rfl (wrap_i64 (by omega) (by omega)) ?_)
     refine CN <| Op1.indexS ty9 rfl rfl (by omega) (by omega) <| AC rfl <| AI rfl <| NL <| run_ret2 Tryd.func62 rfl (TP (v := .int .u8 _) rfl) (TP (v := .int .i64 _) rfl) ?_
     rw [part_two ha (by omega) (by omega) (by omega)]
     exact ⟨rfl, hst.pure⟩
   refine TK (t := 34) rfl (congrArg Value.bool (decide_eq_false g6)) <| Op1.move (v := str _) rfl <| TK (t := 34) rfl (congrArg Value.bool (decide_eq_false g6)) <| Op1.move (v := .int .i64 _) rfl <| TK (t := 34) rfl (congrArg Value.bool (decide_eq_false g6)) <| Op1.addN rfl rfl rfl (wrap_i64 (by omega) (by omega)) <| TK (t := 34) rfl (congrArg Value.bool (decide_eq_false g6)) <| Op1.indexS ty9 rfl rfl (by omega) (by omega) <| TK (t := 34) rfl (congrArg Value.bool (decide_eq_false g6)) <| Op1.eql rfl rfl <| TK (t := 28) rfl (congrArg Value.bool (decide_eq_true g5)) <| Op1.pickF (u := .bool _) (congrArg Value.bool (decide_eq_false g6)) rfl <| CN <| Op1.pickT (u := .bool _) (congrArg Value.bool (decide_eq_true g5)) rfl <| NL <| Run.forget [(0, str _), (1, .int .i64 _), (41, .bool _)] ⟨rfl, rfl, rfl, trivial⟩ fun f => run_cond_dec rfl (fun g7 => ?_) (fun g7 => ?_)
   · skip
     refine SR <| MS rfl <| MI rfl <| CN <| Op1.addN rfl rfl rfl (wrap_i64 (by omega) (by omega)) <| CN <| Op1.indexS ty9 rfl rfl (by omega) (by omega) <| AC rfl <| AI rfl <| NL <| run_ret2 Tryd.func62 rfl (TP (v := .int .u8 _) rfl) (TP (v := .int .i64 _) rfl) ?_
     rw [part_two ha (by omega) (by omega) (by omega)]
     exact ⟨rfl, hst.pure⟩
   refine run_skip <| SQ <| SR <| MI rfl <| CN <| Op1.addN rfl rfl rfl (wrap_i64 (by omega) (by omega)) <| MS rfl <| CN <| Op1.lenS (rest := []) ty9 rfl <| CN <| Op1.lss rfl rfl <| MB rfl <| RunL.splitD (d := 51) rfl (fun g8 => ?_) (fun g8 => ?_)
   · skip
     refine TK (t := 51) rfl (congrArg Value.bool (decide_eq_true g8)) <| Op1.move (v := str _) rfl <| TK (t := 51) rfl (congrArg Value.bool (decide_eq_true g8)) <| Op1.move (v := .int .i64 _) rfl <| TK (t := 51) rfl (congrArg Value.bool (decide_eq_true g8)) <| Op1.addN rfl rfl rfl (wrap_i64 (by omega) (by omega)) <| TK (t := 51) rfl (congrArg Value.bool (decide_eq_true g8)) <| Op1.indexS ty9 rfl rfl (by omega) (by omega) <| TK (t := 51) rfl (congrArg Value.bool (decide_eq_true g8)) <| Op1.eql rfl rfl <| CN <| Op1.pickT (u := .bool _) (congrArg Value.bool (decide_eq_true g8)) rfl <| MB rfl <| RunL.splitD (d := 58) rfl (fun g9 => ?_) (fun g9 => ?_)
     · skip
       refine TK (t := 58) rfl (congrArg Value.bool (decide_eq_true g9)) <| Op1.move (v := str _) rfl <| TK (t := 58) rfl (congrArg Value.bool (decide_eq_true g9)) <| Op1.move (v := .int .i64 _) rfl <| TK (t := 58) rfl (congrArg Value.bool (decide_eq_true g9)) <| Op1.addN rfl rfl rfl (wrap_i64 (by omega) (by omega)) <| TK (t := 58) rfl (congrArg Value.bool (decide_eq_true g9)) <| Op1.indexS ty9 rfl rfl (by omega) (by omega) <| TK (t := 58) rfl (congrArg Value.bool (decide_eq_true g9)) (Op1.call1 (v1 := .int .u8 _) ent28 rfl rfl ((R6lx_Hex _ _).mono fun v w hp => ?_))
       obtain ⟨rfl, hp⟩ := hp
       replace hst := hst.keepc hp
       clear hp
       refine CN <| Op1.pickT (u := .bool _) (congrArg Value.bool (decide_eq_true g9)) rfl <| MB rfl <| RunL.split (d := 65) rfl (fun g10 => ?_) (fun g10 => ?_)
       · skip
         refine TK (t := 65) rfl (congrArg Value.bool g10) <| Op1.move (v := str _) rfl <| TK (t := 65) rfl (congrArg Value.bool g10) <| Op1.move (v := .int .i64 _) rfl <| TK (t := 65) rfl (congrArg Value.bool g10) <| Op1.addN rfl rfl rfl (wrap_i64 (by omega) (by omega)) <| TK (t := 65) rfl (congrArg Value.bool g10) <| Op1.indexS ty9 rfl rfl (by omega) (by omega) <| TK (t := 65) rfl (congrArg Value.bool g10) (Op1.call1 (v1 := .int .u8 _) ent28 rfl rfl ((R6lx_Hex _ _).mono fun v w hp => ?_))
         obtain ⟨rfl, hp⟩ := hp
         replace hst := hst.keepc hp
         clear hp
         refine CN <| Op1.pickT (u := .bool _) (congrArg Value.bool g10) rfl <| NL <| Run.forget [(0, str _), (1, .int .i64 _), (71, .bool _)] ⟨rfl, rfl, rfl, trivial⟩ fun f => run_cond_split rfl (fun g11 => ?_) (fun g11 => ?_)
         · skip
           have hw2 := (hex_bd g10).2
           have hw3 := (hex_bd g11).2
           refine SQ <| RunD.start [] hst (bs := [0, 0, 2, 7, 15, 31, 0, 0, 128, 448, 991, 2047, 4095, 8191, 16383]) (ds := [some 72, some 73, some 74, some 75, some 76, some 77, some 78, some 79, some 80, some 81, some 82, some 83, some 84, some 4, some 5]) ⟨by kernel_rfl, by kernel_rfl, by kernel_rfl⟩ (fun tab12 => ?_)
           refine RunD.op (det _) tab12 1 (fun f' L' w' hc => Op1.move (v := str _) (hc.old (v := str _) rfl rfl rfl) ⟨[], ⟨rfl, rfl⟩, hc.st⟩) <| RunD.op (det _) tab12 2 (fun f' L' w' hc => Op1.move (v := .int .i64 _) (hc.old (v := .int .i64 _) rfl rfl rfl) ⟨[], ⟨rfl, rfl⟩, hc.st⟩) <| RunD.op (det _) tab12 3 (fun f' L' w' hc => Op1.addN (hc.det (j := 1) rfl rfl rfl rfl) rfl rfl (wrap_i64 (by omega) (by omega)) ⟨[], ⟨rfl, rfl⟩, hc.st⟩) <| RunD.op (det _) tab12 4 (fun f' L' w' hc => Op1.indexS ty9 (hc.det (j := 0) rfl rfl rfl rfl) (hc.det (j := 2) rfl rfl rfl rfl) (by omega) (by omega) ⟨[], ⟨rfl, rfl⟩, hc.st⟩) <| RunD.op (det _) tab12 5 (fun f' L' w' hc => Op1.call1 (v1 := .int .u8 _) ent29 rfl (hc.det (j := 3) rfl rfl rfl rfl) ((R6lx_Worth _ g10 _).mono fun v w hp => ⟨[], ⟨hp.1, rfl⟩, hc.st.keepc hp.2⟩)) <| RunD.op (det _) tab12 6 (fun f' L' w' hc => Op1.mulN rfl (hc.det (j := 4) rfl rfl rfl rfl) rfl (wrap_u64 (by omega) (by omega)) ⟨[], ⟨rfl, rfl⟩, hc.st⟩) <| RunD.op (det _) tab12 7 (fun f' L' w' hc => Op1.move (v := str _) (hc.old (v := str _) rfl rfl rfl) ⟨[], ⟨rfl, rfl⟩, hc.st⟩) <| RunD.op (det _) tab12 8 (fun f' L' w' hc => Op1.move (v := .int .i64 _) (hc.old (v := .int .i64 _) rfl rfl rfl) ⟨[], ⟨rfl, rfl⟩, hc.st⟩) <| RunD.op (det _) tab12 9 (fun f' L' w' hc => Op1.addN (hc.det (j := 7) rfl rfl rfl rfl) rfl rfl (wrap_i64 (by omega) (by omega)) ⟨[], ⟨rfl, rfl⟩, hc.st⟩) <| RunD.op (det _) tab12 10 (fun f' L' w' hc => Op1.indexS ty9 (hc.det (j := 6) rfl rfl rfl rfl) (hc.det (j := 8) rfl rfl rfl rfl) (by omega) (by omega) ⟨[], ⟨rfl, rfl⟩, hc.st⟩) <| RunD.op (det _) tab12 11 (fun f' L' w' hc => Op1.call1 (v1 := .int .u8 _) ent29 rfl (hc.det (j := 9) rfl rfl rfl rfl) ((R6lx_Worth _ g11 _).mono fun v w hp => ⟨[], ⟨hp.1, rfl⟩, hc.st.keepc hp.2⟩)) <| RunD.fin followsMixed tab12 hst rfl (fun f13 w R16 hs14 hd15 hr17 hst => ?_)
           obtain ⟨h72_, r0⟩ := hd15 0 72 rfl rfl
           obtain ⟨h73_, r1⟩ := hd15 1 73 rfl rfl
           obtain ⟨h74_, r2⟩ := hd15 2 74 rfl rfl
           obtain ⟨h75_, r3⟩ := hd15 3 75 rfl rfl
           obtain ⟨h76_, r4⟩ := hd15 4 76 rfl rfl
           obtain ⟨h77_, r5⟩ := hd15 5 77 rfl rfl
           obtain ⟨h78_, r6⟩ := hd15 6 78 rfl rfl
           obtain ⟨h79_, r7⟩ := hd15 7 79 rfl rfl
           obtain ⟨h80_, r8⟩ := hd15 8 80 rfl rfl
           obtain ⟨h81_, r9⟩ := hd15 9 81 rfl rfl
           obtain ⟨h82_, r10⟩ := hd15 10 82 rfl rfl
           simp only [show List.range 11 = [0, 1, 2, 3, 4, 5, 6, 7, 8, 9, 10] from rfl, List.flatMap_cons, List.flatMap_nil, List.map_cons, List.map_nil, r0, r1, r2, r3, r4, r5, r6, r7, r8, r9, r10, List.nil_append, List.append_nil, List.cons_append] at hst
           refine RunL.slots (sl := [(77, .int .u64 _), (82, .int .u64 _)]) ⟨h77_, h82_, trivial⟩ ?_
           clear hs14 hd15 hr17 tab12
           refine CN (Op1.addN rfl rfl rfl (wrap_u64 (by omega) (by omega)) ?_)
           first | refine CN (Op1.convN ty76 ty5 rfl (wrap_u8 (by omega) (by omega)) ?_) | refine CN (Op1.conv ty76 ty5 rfl ?_)
           refine AC rfl <| AI rfl <| NL <| run_ret2 Tryd.func62 rfl (TP (v := .int .u8 _) rfl) (TP (v := .int .i64 _) rfl) ?_
           rw [part_four ha (by omega) (by omega) (by omega) g10 g11]
           unfold partV; dsimp only [Option.getD]
           have hb4 : ((UInt8.ofNat (16 * worF (s.getD (a + 2) 0) + worF (s.getD (a + 3) 0))).toNat : Int) = 16 * (worF (s.getD (a + 2) 0) : Int) + (worF (s.getD (a + 3) 0) : Int) := hex_byte hw2 hw3
           rw [hb4]
           exact ⟨rfl, hst.pure⟩
         refine run_skip <| SR <| AC rfl <| AI rfl <| NL <| run_ret2 Tryd.func62 rfl (TP (v := .int .u8 _) rfl) (TP (v := .int .i64 _) rfl) ?_
         have hq4 : ¬ (a + 3 < s.length ∧ (s.getD (a + 1) 0).toNat = 120 ∧ hexB (s.getD (a + 2) 0) = true ∧ hexB (s.getD (a + 3) 0) = true) := by intro ⟨q1, q2, q3, q4⟩; first | omega | exact absurd (q4.symm.trans g11) (by decide)
         rw [part_no2 ha (by omega) (by omega) hq4]
         exact ⟨rfl, hst.pure⟩
       refine OM (t := 65) rfl (congrArg Value.bool g10) rfl <| OM (t := 65) rfl (congrArg Value.bool g10) rfl <| OM (t := 65) rfl (congrArg Value.bool g10) rfl <| OM (t := 65) rfl (congrArg Value.bool g10) rfl <| OM (t := 65) rfl (congrArg Value.bool g10) rfl <| CN <| Op1.pickF (u := .bool _) (congrArg Value.bool g10) rfl <| NL <| Run.forget [(0, str _), (1, .int .i64 _), (71, .bool _)] ⟨rfl, rfl, rfl, trivial⟩ fun f => run_cond_false (congrArg Value.bool (rfl : false = _)) <| run_skip <| SR <| AC rfl <| AI rfl <| NL ?_
       refine run_ret2 Tryd.func62 rfl (TP (v := .int .u8 _) rfl) (TP (v := .int .i64 _) rfl) ?_
       have hq4 : ¬ (a + 3 < s.length ∧ (s.getD (a + 1) 0).toNat = 120 ∧ hexB (s.getD (a + 2) 0) = true ∧ hexB (s.getD (a + 3) 0) = true) := by intro ⟨q1, q2, q3, q4⟩; first | omega | exact absurd (q3.symm.trans g10) (by decide)
       rw [part_no2 ha (by omega) (by omega) hq4]
       exact ⟨rfl, hst.pure⟩
     refine OM (t := 58) rfl (congrArg Value.bool (decide_eq_false g9)) rfl <| OM (t := 58) rfl (congrArg Value.bool (decide_eq_false g9)) rfl <| OM (t := 58) rfl (congrArg Value.bool (decide_eq_false g9)) rfl <| OM (t := 58) rfl (congrArg Value.bool (decide_eq_false g9)) rfl <| OM (t := 58) rfl (congrArg Value.bool (decide_eq_false g9)) rfl <| CN <| Op1.pickF (u := .bool _) (congrArg Value.bool (decide_eq_false g9)) rfl <| MB rfl <| OM (t := 65) rfl (congrArg Value.bool (rfl : false = _)) rfl <| OM (t := 65) rfl (congrArg Value.bool (rfl : false = _)) rfl <| OM (t := 65) rfl (congrArg Value.bool (rfl : false = _)) rfl <| OM (t := 65) rfl (congrArg Value.bool (rfl : false = _)) rfl <| OM (t := 65) rfl (congrArg Value.bool (rfl : false = _)) rfl <| CN <| Op1.pickF (u := .bool _) (congrArg Value.bool (rfl : false = _)) rfl <| NL <| run_cond_false (congrArg Value.bool (rfl : false = _)) ?_
     refine run_skip <| SR <| AC rfl <| AI rfl <| NL <| run_ret2 Tryd.func62 rfl (TP (v := .int .u8 _) rfl) (TP (v := .int .i64 _) rfl) ?_
     have hq4 : ¬ (a + 3 < s.length ∧ (s.getD (a + 1) 0).toNat = 120 ∧ hexB (s.getD (a + 2) 0) = true ∧ hexB (s.getD (a + 3) 0) = true) := by intro ⟨q1, q2, q3, q4⟩; first | omega
     rw [part_no2 ha (by omega) (by omega) hq4]
     exact ⟨rfl, hst.pure⟩
   refine OM (t := 51) rfl (congrArg Value.bool (decide_eq_false g8)) rfl <| OM (t := 51) rfl (congrArg Value.bool (decide_eq_false g8)) rfl <| OM (t := 51) rfl (congrArg Value.bool (decide_eq_false g8)) rfl <| OM (t := 51) rfl (congrArg Value.bool (decide_eq_false g8)) rfl <| OM (t := 51) rfl (congrArg Value.bool (decide_eq_false g8)) rfl <| CN <| Op1.pickF (u := .bool _) (congrArg Value.bool (decide_eq_false g8)) rfl <| MB rfl <| OM (t := 58) rfl (congrArg Value.bool (rfl : false = _)) rfl <| OM (t := 58) rfl (congrArg Value.bool (rfl : false = _)) rfl <| OM (t := 58) rfl (congrArg Value.bool (rfl : false = _)) rfl <| OM (t := 58) rfl (congrArg Value.bool (rfl : false = _)) rfl <| OM (t := 58) rfl (congrArg Value.bool (rfl : false = _)) rfl <| CN <| Op1.pickF (u := .bool _) (congrArg Value.bool (rfl : false = _)) rfl <| MB rfl <| OM (t := 65) rfl (congrArg Value.bool (rfl : false = _)) rfl ?_
   refine OM (t := 65) rfl (congrArg Value.bool (rfl : false = _)) rfl <| OM (t := 65) rfl (congrArg Value.bool (rfl : false = _)) rfl <| OM (t := 65) rfl (congrArg Value.bool (rfl : false = _)) rfl <| OM (t := 65) rfl (congrArg Value.bool (rfl : false = _)) rfl <| CN <| Op1.pickF (u := .bool _) (congrArg Value.bool (rfl : false = _)) rfl <| NL <| run_cond_false (congrArg Value.bool (rfl : false = _)) <| run_skip <| SR <| AC rfl <| AI rfl <| NL <| run_ret2 Tryd.func62 rfl (TP (v := .int .u8 _) rfl) (TP (v := .int .i64 _) rfl) ?_
   have hq4 : ¬ (a + 3 < s.length ∧ (s.getD (a + 1) 0).toNat = 120 ∧ hexB (s.getD (a + 2) 0) = true ∧ hexB (s.getD (a + 3) 0) = true) := by intro ⟨q1, q2, q3, q4⟩; first | omega
   rw [part_no2 ha (by omega) (by omega) hq4]
   exact ⟨rfl, hst.pure⟩
 refine OM (t := 28) rfl (congrArg Value.bool (decide_eq_false g5)) rfl <| OM (t := 28) rfl (congrArg Value.bool (decide_eq_false g5)) rfl <| OM (t := 28) rfl (congrArg Value.bool (decide_eq_false g5)) rfl <| OM (t := 28) rfl (congrArg Value.bool (decide_eq_false g5)) rfl <| OM (t := 28) rfl (congrArg Value.bool (decide_eq_false g5)) rfl <| OM (t := 28) rfl (congrArg Value.bool (decide_eq_false g5)) rfl <| RunL.omitU (t := 34) rfl rfl <| RunL.omitU (t := 34) rfl rfl <| RunL.omitU (t := 34) rfl rfl <| RunL.omitU (t := 34) rfl rfl <| RunL.omitU (t := 34) rfl rfl <| OM (t := 28) rfl (congrArg Value.bool (decide_eq_false g5)) rfl <| CN <| Op1.pickF (u := .bool _) (congrArg Value.bool (decide_eq_false g5)) rfl <| NL <| Run.forget [(0, str _), (1, .int .i64 _), (41, .bool _)] ⟨rfl, rfl, rfl, trivial⟩ (fun f => ?_)
 refine run_cond_false (congrArg Value.bool (rfl : false = _)) <| run_skip <| SQ <| SR <| MI rfl <| CN <| Op1.addN rfl rfl rfl (wrap_i64 (by omega) (by omega)) <| MS rfl <| CN <| Op1.lenS (rest := []) ty9 rfl <| CN <| Op1.lss rfl rfl <| MB rfl <| RunL.splitD (d := 51) rfl (fun g18 => ?_) (fun g18 => ?_)
 · skip
   refine TK (t := 51) rfl (congrArg Value.bool (decide_eq_true g18)) <| Op1.move (v := str _) rfl <| TK (t := 51) rfl (congrArg Value.bool (decide_eq_true g18)) <| Op1.move (v := .int .i64 _) rfl <| TK (t := 51) rfl (congrArg Value.bool (decide_eq_true g18)) <| Op1.addN rfl rfl rfl (wrap_i64 (by omega) (by omega)) <| TK (t := 51) rfl (congrArg Value.bool (decide_eq_true g18)) <| Op1.indexS ty9 rfl rfl (by omega) (by omega) <| TK (t := 51) rfl (congrArg Value.bool (decide_eq_true g18)) <| Op1.eql rfl rfl <| CN <| Op1.pickT (u := .bool _) (congrArg Value.bool (decide_eq_true g18)) rfl <| MB rfl <| RunL.splitD (d := 58) rfl (fun g19 => ?_) (fun g19 => ?_)
   · skip
     refine TK (t := 58) rfl (congrArg Value.bool (decide_eq_true g19)) <| Op1.move (v := str _) rfl <| TK (t := 58) rfl (congrArg Value.bool (decide_eq_true g19)) <| Op1.move (v := .int .i64 _) rfl <| TK (t := 58) rfl (congrArg Value.bool (decide_eq_true g19)) <| Op1.addN rfl rfl rfl (wrap_i64 (by omega) (by omega)) <| TK (t := 58) rfl (congrArg Value.bool (decide_eq_true g19)) <| Op1.indexS ty9 rfl rfl (by omega) (by omega) <| TK (t := 58) rfl (congrArg Value.bool (decide_eq_true g19)) (Op1.call1 (v1 := .int .u8 _) ent28 rfl rfl ((R6lx_Hex _ _).mono fun v w hp => ?_))
     obtain ⟨rfl, hp⟩ := hp
     replace hst := hst.keepc hp
     clear hp
     refine CN <| Op1.pickT (u := .bool _) (congrArg Value.bool (decide_eq_true g19)) rfl <| MB rfl <| RunL.split (d := 65) rfl (fun g20 => ?_) (fun g20 => ?_)
     · skip
       refine TK (t := 65) rfl (congrArg Value.bool g20) <| Op1.move (v := str _) rfl <| TK (t := 65) rfl (congrArg Value.bool g20) <| Op1.move (v := .int .i64 _) rfl <| TK (t := 65) rfl (congrArg Value.bool g20) <| Op1.addN rfl rfl rfl (wrap_i64 (by omega) (by omega)) <| TK (t := 65) rfl (congrArg Value.bool g20) <| Op1.indexS ty9 rfl rfl (by omega) (by omega) <| TK (t := 65) rfl (congrArg Value.bool g20) (Op1.call1 (v1 := .int .u8 _) ent28 rfl rfl ((R6lx_Hex _ _).mono fun v w hp => ?_))
       obtain ⟨rfl, hp⟩ := hp
       replace hst := hst.keepc hp
       clear hp
       refine CN <| Op1.pickT (u := .bool _) (congrArg Value.bool g20) rfl <| NL <| Run.forget [(0, str _), (1, .int .i64 _), (71, .bool _)] ⟨rfl, rfl, rfl, trivial⟩ fun f => run_cond_split rfl (fun g21 => ?_) (fun g21 => ?_)
       · skip
         have hw2 := (hex_bd g20).2
         have hw3 := (hex_bd g21).2
         refine SQ <| RunD.start [] hst (bs := [0, 0, 2, 7, 15, 31, 0, 0, 128, 448, 991, 2047, 4095, 8191, 16383]) (ds := [some 72, some 73, some 74, some 75, some 76, some 77, some 78, some 79, some 80, some 81, some 82, some 83, some 84, some 4, some 5]) ⟨by kernel_rfl, by kernel_rfl, by kernel_rfl⟩ (fun tab22 => ?_)
         refine RunD.op (det _) tab22 1 (fun f' L' w' hc => Op1.move (v := str _) (hc.old (v := str _) rfl rfl rfl) ⟨[], ⟨rfl, rfl⟩, hc.st⟩) <| RunD.op (det _) tab22 2 (fun f' L' w' hc => Op1.move (v := .int .i64 _) (hc.old (v := .int .i64 _) rfl rfl rfl) ⟨[], ⟨rfl, rfl⟩, hc.st⟩) <| RunD.op (det _) tab22 3 (fun f' L' w' hc => Op1.addN (hc.det (j := 1) rfl rfl rfl rfl) rfl rfl (wrap_i64 (by omega) (by omega)) ⟨[], ⟨rfl, rfl⟩, hc.st⟩) <| RunD.op (det _) tab22 4 (fun f' L' w' hc => Op1.indexS ty9 (hc.det (j := 0) rfl rfl rfl rfl) (hc.det (j := 2) rfl rfl rfl rfl) (by omega) (by omega) ⟨[], ⟨rfl, rfl⟩, hc.st⟩) <| RunD.op (det _) tab22 5 (fun f' L' w' hc => Op1.call1 (v1 := .int .u8 _) ent29 rfl (hc.det (j := 3) rfl rfl rfl rfl) ((R6lx_Worth _ g20 _).mono fun v w hp => ⟨[], ⟨hp.1, rfl⟩, hc.st.keepc hp.2⟩)) <| RunD.op (det _) tab22 6 (fun f' L' w' hc => Op1.mulN rfl (hc.det (j := 4) rfl rfl rfl rfl) rfl (wrap_u64 (by omega) (by omega)) ⟨[], ⟨rfl, rfl⟩, hc.st⟩) <| RunD.op (det _) tab22 7 (fun f' L' w' hc => Op1.move (v := str _) (hc.old (v := str _) rfl rfl rfl) ⟨[], ⟨rfl, rfl⟩, hc.st⟩) <| RunD.op (det _) tab22 8 (fun f' L' w' hc => Op1.move (v := .int .i64 _) (hc.old (v := .int .i64 _) rfl rfl rfl) ⟨[], ⟨rfl, rfl⟩, hc.st⟩) <| RunD.op (det _) tab22 9 (fun f' L' w' hc => Op1.addN (hc.det (j := 7) rfl rfl rfl rfl) rfl rfl (wrap_i64 (by omega) (by omega)) ⟨[], ⟨rfl, rfl⟩, hc.st⟩) <| RunD.op (det _) tab22 10 (fun f' L' w' hc => Op1.indexS ty9 (hc.det (j := 6) rfl rfl rfl rfl) (hc.det (j := 8) rfl rfl rfl rfl) (by omega) (by omega) ⟨[], ⟨rfl, rfl⟩, hc.st⟩) <| RunD.op (det _) tab22 11 (fun f' L' w' hc => Op1.call1 (v1 := .int .u8 _) ent29 rfl (hc.det (j := 9) rfl rfl rfl rfl) ((R6lx_Worth _ g21 _).mono fun v w hp => ⟨[], ⟨hp.1, rfl⟩, hc.st.keepc hp.2⟩)) <| RunD.fin followsMixed tab22 hst rfl (fun f23 w R26 hs24 hd25 hr27 hst => ?_)
         obtain ⟨h72_, r0⟩ := hd25 0 72 rfl rfl
         obtain ⟨h73_, r1⟩ := hd25 1 73 rfl rfl
         obtain ⟨h74_, r2⟩ := hd25 2 74 rfl rfl
         obtain ⟨h75_, r3⟩ := hd25 3 75 rfl rfl
         obtain ⟨h76_, r4⟩ := hd25 4 76 rfl rfl
         obtain ⟨h77_, r5⟩ := hd25 5 77 rfl rfl
         obtain ⟨h78_, r6⟩ := hd25 6 78 rfl rfl
         obtain ⟨h79_, r7⟩ := hd25 7 79 rfl rfl
         obtain ⟨h80_, r8⟩ := hd25 8 80 rfl rfl
         obtain ⟨h81_, r9⟩ := hd25 9 81 rfl rfl
         obtain ⟨h82_, r10⟩ := hd25 10 82 rfl rfl
         simp only [show List.range 11 = [0, 1, 2, 3, 4, 5, 6, 7, 8, 9, 10] from rfl, List.flatMap_cons, List.flatMap_nil, List.map_cons, List.map_nil, r0, r1, r2, r3, r4, r5, r6, r7, r8, r9, r10, List.nil_append, List.append_nil, List.cons_append] at hst
         refine RunL.slots (sl := [(77, .int .u64 _), (82, .int .u64 _)]) ⟨h77_, h82_, trivial⟩ ?_
         clear hs24 hd25 hr27 tab22
         refine CN (Op1.addN rfl rfl rfl (wrap_u64 (by omega) (by omega)) ?_)
         first | refine CN (Op1.convN ty76 ty5 rfl (wrap_u8 (by omega) (by omega)) ?_) | refine CN (Op1.conv ty76 ty5 rfl ?_)
         refine AC rfl <| AI rfl <| NL <| run_ret2 Tryd.func62 rfl (TP (v := .int .u8 _) rfl) (TP (v := .int .i64 _) rfl) ?_
         rw [part_four ha (by omega) (by omega) (by omega) g20 g21]
         unfold partV; dsimp only [Option.getD]
         have hb4 : ((UInt8.ofNat (16 * worF (s.getD (a + 2) 0) + worF (s.getD (a + 3) 0))).toNat : Int) = 16 * (worF (s.getD (a + 2) 0) : Int) + (worF (s.getD (a + 3) 0) : Int) := hex_byte hw2 hw3
         rw [hb4]
         exact ⟨rfl, hst.pure⟩
       refine run_skip <| SR <| AC rfl <| AI rfl <| NL <| run_ret2 Tryd.func62 rfl (TP (v := .int .u8 _) rfl) (TP (v := .int .i64 _) rfl) ?_
       have hq4 : ¬ (a + 3 < s.length ∧ (s.getD (a + 1) 0).toNat = 120 ∧ hexB (s.getD (a + 2) 0) = true ∧ hexB (s.getD (a + 3) 0) = true) := by intro ⟨q1, q2, q3, q4⟩; first | omega | exact absurd (q4.symm.trans g21) (by decide)
       rw [part_no2 ha (by omega) (by omega) hq4]
       exact ⟨rfl, hst.pure⟩
     refine OM (t := 65) rfl (congrArg Value.bool g20) rfl <| OM (t := 65) rfl (congrArg Value.bool g20) rfl <| OM (t := 65) rfl (congrArg Value.bool g20) rfl <| OM (t := 65) rfl (congrArg Value.bool g20) rfl <| OM (t := 65) rfl (congrArg Value.bool g20) rfl <| CN <| Op1.pickF (u := .bool _) (congrArg Value.bool g20) rfl <| NL <| Run.forget [(0, str _), (1, .int .i64 _), (71, .bool _)] ⟨rfl, rfl, rfl, trivial⟩ fun f => run_cond_false (congrArg Value.bool (rfl : false = _)) <| run_skip <| SR <| AC rfl <| AI rfl <| NL ?_
     refine run_ret2 Tryd.func62 rfl (TP (v := .int .u8 _) rfl) (TP (v := .int .i64 _) rfl) ?_
     have hq4 : ¬ (a + 3 < s.length ∧ (s.getD (a + 1) 0).toNat = 120 ∧ hexB (s.getD (a + 2) 0) = true ∧ hexB (s.getD (a + 3) 0) = true) := by intro ⟨q1, q2, q3, q4⟩; first | omega | exact absurd (q3.symm.trans g20) (by decide)
     rw [part_no2 ha (by omega) (by omega) hq4]
     exact ⟨rfl, hst.pure⟩
   refine OM (t := 58) rfl (congrArg Value.bool (decide_eq_false g19)) rfl <| OM (t := 58) rfl (congrArg Value.bool (decide_eq_false g19)) rfl <| OM (t := 58) rfl (congrArg Value.bool (decide_eq_false g19)) rfl <| OM (t := 58) rfl (congrArg Value.bool (decide_eq_false g19)) rfl <| OM (t := 58) rfl (congrArg Value.bool (decide_eq_false g19)) rfl <| CN <| Op1.pickF (u := .bool _) (congrArg Value.bool (decide_eq_false g19)) rfl <| MB rfl <| OM (t := 65) rfl (congrArg Value.bool (rfl : false = _)) rfl <| OM (t := 65) rfl (congrArg Value.bool (rfl : false = _)) rfl <| OM (t := 65) rfl (congrArg Value.bool (rfl : false = _)) rfl <| OM (t := 65) rfl (congrArg Value.bool (rfl : false = _)) rfl <| OM (t := 65) rfl (congrArg Value.bool (rfl : false = _)) rfl <| CN <| Op1.pickF (u := .bool _) (congrArg Value.bool (rfl : false = _)) rfl <| NL <| run_cond_false (congrArg Value.bool (rfl : false = _)) ?_
   refine run_skip <| SR <| AC rfl <| AI rfl <| NL <| run_ret2 Tryd.func62 rfl (TP (v := .int .u8 _) rfl) (TP (v := .int .i64 _) rfl) ?_
   have hq4 : ¬ (a + 3 < s.length ∧ (s.getD (a + 1) 0).toNat = 120 ∧ hexB (s.getD (a + 2) 0) = true ∧ hexB (s.getD (a + 3) 0) = true) := by intro ⟨q1, q2, q3, q4⟩; first | omega
   rw [part_no2 ha (by omega) (by omega) hq4]
   exact ⟨rfl, hst.pure⟩
 refine OM (t := 51) rfl (congrArg Value.bool (decide_eq_false g18)) rfl <| OM (t := 51) rfl (congrArg Value.bool (decide_eq_false g18)) rfl <| OM (t := 51) rfl (congrArg Value.bool (decide_eq_false g18)) rfl <| OM (t := 51) rfl (congrArg Value.bool (decide_eq_false g18)) rfl <| OM (t := 51) rfl (congrArg Value.bool (decide_eq_false g18)) rfl <| CN <| Op1.pickF (u := .bool _) (congrArg Value.bool (decide_eq_false g18)) rfl <| MB rfl <| OM (t := 58) rfl (congrArg Value.bool (rfl : false = _)) rfl <| OM (t := 58) rfl (congrArg Value.bool (rfl : false = _)) rfl <| OM (t := 58) rfl (congrArg Value.bool (rfl : false = _)) rfl <| OM (t := 58) rfl (congrArg Value.bool (rfl : false = _)) rfl <| OM (t := 58) rfl (congrArg Value.bool (rfl : false = _)) rfl <| CN <| Op1.pickF (u := .bool _) (congrArg Value.bool (rfl : false = _)) rfl <| MB rfl <| OM (t := 65) rfl (congrArg Value.bool (rfl : false = _)) rfl ?_
 refine OM (t := 65) rfl (congrArg Value.bool (rfl : false = _)) rfl <| OM (t := 65) rfl (congrArg Value.bool (rfl : false = _)) rfl <| OM (t := 65) rfl (congrArg Value.bool (rfl : false = _)) rfl <| OM (t := 65) rfl (congrArg Value.bool (rfl : false = _)) rfl <| CN <| Op1.pickF (u := .bool _) (congrArg Value.bool (rfl : false = _)) rfl <| NL <| run_cond_false (congrArg Value.bool (rfl : false = _)) <| run_skip <| SR <| AC rfl <| AI rfl <| NL <| run_ret2 Tryd.func62 rfl (TP (v := .int .u8 _) rfl) (TP (v := .int .i64 _) rfl) ?_
 have hq4 : ¬ (a + 3 < s.length ∧ (s.getD (a + 1) 0).toNat = 120 ∧ hexB (s.getD (a + 2) 0) = true ∧ hexB (s.getD (a + 3) 0) = true) := by intro ⟨q1, q2, q3, q4⟩; first | omega
 rw [part_no2 ha (by omega) (by omega) hq4]
 exact ⟨rfl, hst.pure⟩
end Go.SK
namespace Go.SK
open Go Go.Proofs
open Go.RowKit
open Go.Shelf
def LxG : Res where
 foot := fun b => b = 1 ∨ b = 2 ∨ b = 0
 holds := fun w => (∃ tp p T fz, w.heap[1]? = some (.cells #[.iface tp p] T fz)) ∧ (∃ tp p T fz, w.heap[2]? = some (.cells #[.iface tp p] T fz)) ∧ ∃ T fz, w.heap[0]? = some (.cells (Lib.pow10Tab.map fun z => Value.int .u64 z).toArray T fz)
 stable := fun w w' h hh => by rw [h _ (.inl rfl), h _ (.inr (.inl rfl)), h _ (.inr (.inr rfl))]; exact hh
 inb := fun w hh b hb => by
   obtain ⟨⟨_, _, _, _, h0⟩, ⟨_, _, _, _, h1⟩, ⟨_, _, h3⟩⟩ := hh
   rcases hb with rfl | rfl | rfl
   · exact (Array.getElem?_eq_some_iff.1 h0).1
   · exact (Array.getElem?_eq_some_iff.1 h1).1
   · exact (Array.getElem?_eq_some_iff.1 h3).1
theorem var_of {P : Program} {n : String} {k : Nat} {w : World} {cs : Array Value} {T : TypeId} {fz : Nat × Nat} (hn : P.globalNamed n = some k) (h : w.heap[k]? = some (.cells cs T fz)) : w.var? P n = some cs := by
 simp [World.var?, hn, h]
theorem cell_of {w : World} {k : Nat} {v : Value} {T : TypeId} {fz : Nat × Nat} (h : w.heap[k]? = some (.cells #[v] T fz)) : w.cell? ⟨k, 0, none⟩ = some v := by
 simp [World.cell?, h]
theorem lx_PU10 (s : Tx) (w : World) (hG : LxG.holds w) (hl : s.length ≤ 140737488355328) : Ret Tryd.prog 67 #[str s, .int .i64 10, .int .i64 32] w (fun v w' => (((puO s).isSome = true ∧ v = .tuple #[.int .u64 (puV s : Int), .nilIface]) ∨ ((puO s).isSome = false ∧ ∃ N, v = .tuple #[.int .u64 (puV s : Int), .iface 182 (.pointer (some ⟨N, 0, none⟩))])) ∧ St w NoM [] [] w') := by
 obtain ⟨⟨tp0, p0, _, _, h0⟩, ⟨tp1, p1, _, _, h1⟩, _⟩ := hG
 unfold puO puV
 cases h : Lib.parseUintB 32 s
 · rename_i u
   refine Calls.mono (Any.strconv_ParseUint_10_at32_ok lx_laysPu14 ⟨s.toArray⟩ (by rw [str_size]; omega) u h w) ?_
   rintro e w' ⟨he, hw⟩
   refine ⟨_, he, .inl ⟨rfl, rfl⟩, ?_⟩
   rcases hw with rfl | rfl
   · exact St.init _
   · exact St.ofBelow (Lib.bytesWorld_below _ _ _)
 · refine Calls.mono (Any.strconv_ParseUint_10_at32_syntax_var lx_laysPu14 ⟨s.toArray⟩ (by rw [str_size]; omega) h tp0 p0 w (var_of (by kernel_rfl) h0)) ?_
   rintro e w' ⟨N, he, _, _, hw⟩
   exact ⟨_, he, .inr ⟨rfl, N, rfl⟩, St.ofBelow hw⟩
 · refine Calls.mono (Any.strconv_ParseUint_10_at32_range_var lx_laysPu14 ⟨s.toArray⟩ (by rw [str_size]; omega) h tp1 p1 w (var_of (by kernel_rfl) h1)) ?_
   rintro e w' ⟨N, he, _, _, hw⟩
   exact ⟨_, he, .inr ⟨rfl, N, rfl⟩, St.ofBelow hw⟩
theorem lx_CP (s p : Tx) (w : World) : Ret Tryd.prog 66 #[str s, str p] w (fun v w' => v = .tuple #[str (Lib.trimPrefix s p), .bool (Lib.hasPrefix s p)] ∧ St w NoM [] [] w') :=
 Ret.ofEq (Any.strings_CutPrefix lx_lays103 ⟨s.toArray⟩ ⟨p.toArray⟩ w)
theorem lx_CPc (s p : Tx) (w : World) : Ret Tryd.prog 66 #[str s, str p] w (fun v w' => (s.take p.length = p ∧ v = .tuple #[str (s.drop p.length), .bool true] ∧ St w NoM [] [] w') ∨ (s.take p.length ≠ p ∧ v = .tuple #[str s, .bool false] ∧ St w NoM [] [] w')) :=
 (lx_CP s p w).mono fun v w' ⟨hv, hst⟩ => by
   cases h : Lib.hasPrefix s p
   · exact .inr ⟨(trim_no h).2, by rw [hv, (trim_no h).1, h], hst⟩
   · exact .inl ⟨(trim_yes h).2, by rw [hv, (trim_yes h).1, h], hst⟩
theorem lx_IB (s : Tx) (c : Int) (w : World) : Ret Tryd.prog 68 #[str s, .int .u8 c] w (fun v w' => v = .int .i64 (Lib.indexByte s c.toNat.toUInt8) ∧ St w NoM [] [] w') :=
 Ret.ofEq (Any.strings_IndexByte lx_lays137 ⟨s.toArray⟩ c w)
theorem lx_small (i : Nat) (h : i < 100) (w : World) : Ret Tryd.prog 76 #[.int .i64 (i : Int)] w (fun v w' => v = str (Lib.decDigits i) ∧ St w NoM [] [] w') :=
 Ret.ofEq (Any.internal_strconv_small lx_lays283 i h w)
theorem lx_numDigits (u : Nat) (w : World) (hG : LxG.holds w) (h1 : 1 ≤ u) (h2 : u < 18446744073709551616) : Ret Tryd.prog 77 #[.int .u64 (u : Int)] w (fun v w' => v = .int .i64 (Lib.nDigits u : Int) ∧ St w NoM [] [] w') := by
 obtain ⟨_, _, _, _, h3⟩ := hG
 exact Ret.ofEq (Any.internal_strconv_numDigits lx_laysM284 u h1 h2 w (var_of (by kernel_rfl) h3))
theorem lx_lower (c : Int) (w : World) : Ret Tryd.prog 108 #[.int .u8 c] w (fun v w' => v = .int .u8 (bits .or .u8 c 32) ∧ St w NoM [] [] w') :=
 Ret.ofEq (Any.internal_strconv_lower lx_lays321 c w)
theorem lx_TE (f0 s : Tx) (w : World) (hG : LxG.holds w) (hl : s.length ≤ 140737488355328) : Ret Tryd.prog 88 #[str f0, str s, .int .i64 16, .int .i64 32, .iface 181 (.int .i64 2)] w (fun v w' => (∃ N, v = .iface 182 (.pointer (some ⟨N, 0, none⟩))) ∧ St w NoM [] [] w') := by
 obtain ⟨⟨tp0, p0, _, _, h0⟩, _, _⟩ := hG
 refine Calls.mono (Any.strconv_toError_syntax lx_laysC245 ⟨f0.toArray⟩ ⟨s.toArray⟩ 16 32 (.iface tp0 p0) w (by rw [str_size]; omega) (cell_of h0) (.inr ⟨_, _, rfl⟩)) ?_
 rintro e w' ⟨N, he, _, _, hw⟩
 exact ⟨_, he, ⟨N, rfl⟩, St.ofBelow hw⟩
end Go.SK
namespace Go.SK
open Go Go.Proofs Go.RowKit Go.ChangeShapes Go.WideShapes Go.ChangeAt
open Go.Proofs.YtglmmdpeenckbaaDoor
theorem var_inv {P : Program} {n : String} {k : Nat} {w : World} {cs : Array Value} (hn : P.globalNamed n = some k) (h : w.var? P n = some cs) : ∃ T fz, w.heap[k]? = some (.cells cs T fz) := by
 unfold World.var? at h
 rw [hn, Option.bind_some] at h
 split at h
 · cases h; rename_i T fz he; exact ⟨_, _, he⟩
 · cases h
theorem lxG_of {W : World} (h : laidMet Tryd.prog Rows.asmHeadsRow.laid W) : LxG.holds W := by
 have h3 := Lib.tabIs_of_head (k := .u64) (zs := Lib.pow10Tab) (g := 0) (t := 172) (e := 76) (n := 20) (by kernel_rfl) (by kernel_rfl) Tryd.underlying172 Tryd.underlying76 (by kernel_rfl) (by kernel_rfl) (show laidMet Tryd.prog ((_, Lib.tabData .u64 Lib.pow10Tab) :: _) W from h.tail.tail)
 obtain ⟨a1, s1, hv1, _⟩ := laid_sentinel (g := 2) (ti := 92) (tp := 195) (te := 197) (ts := 9) h.tail.tail.tail (by kernel_rfl) (by kernel_rfl) Tryd.underlying92 (fun u hu => typeName_ptr_named (nm := "errors.errorString") (by kernel_rfl) (by kernel_rfl) (by decide) u (hu.trans (congrArg some (by decide)))) Tryd.underlying195 Tryd.underlying197 rfl rfl Tryd.underlying9 (by kernel_rfl) (by kernel_rfl)
 obtain ⟨a0, s0, hv0, _⟩ := laid_sentinel (g := 1) (ti := 92) (tp := 195) (te := 197) (ts := 9) h.tail.tail.tail.tail (by kernel_rfl) (by kernel_rfl) Tryd.underlying92 (fun u hu => typeName_ptr_named (nm := "errors.errorString") (by kernel_rfl) (by kernel_rfl) (by decide) u (hu.trans (congrArg some (by decide)))) Tryd.underlying195 Tryd.underlying197 rfl rfl Tryd.underlying9 (by kernel_rfl) (by kernel_rfl)
 obtain ⟨T1, f1, hh1⟩ := var_inv (by kernel_rfl) hv1
 obtain ⟨T0, f0, hh0⟩ := var_inv (by kernel_rfl) hv0
 obtain ⟨T3, f3, hh3⟩ := var_inv (by kernel_rfl) h3
 exact ⟨⟨_, _, _, _, hh0⟩, ⟨_, _, _, _, hh1⟩, ⟨_, _, hh3⟩⟩
theorem lx_door (os : Os) (args : Array Value) : laidMet Tryd.prog Rows.asmHeadsRow.laid ((World.doorLaid Tryd.prog 400 os).forCall (fun _ _ => 0) ⟨#[], args, []⟩).memory :=
 laidMet_of_run' 8 (by kernel_rfl) (by kernel_rfl)
theorem lx_own : ownKnob Tryd.prog.godebug = none := by kernel_rfl
theorem lx_out : laidOutB Tryd.prog = true := by kernel_rfl
end Go.SK
namespace Go.SK
open Go Go.RowKit Go.ChangeShapes Go.WideShapes Go.ChangeAt
theorem open_str {H : Type} {enc : TypeId × Value → H} {P : Program} {w : World} {base : Nat} {sp : Nat → Bool} {held : Bool} {r : Reach} {b0 : Nat} {t : TypeId} {v : Value} {d : DataW H} {ps : List MemPlace} (ht : P.underlying t = some .string) (hval : Value.okWide P w r b0 t v) (hd : DataW.Trod enc P w base sp held t v d ps) :
   ∃ l : List UInt8, v = str l ∧ d = .lit (.string l) ∧ l.length ≤ 9223372036854775807 := by
 obtain ⟨s, rfl, rfl, _, hs⟩ := Go.ChangeMaps.open_string ht hval hd
 refine ⟨s.data.toList, str_of s, rfl, ?_⟩
 have h3 : s.size = s.data.toList.length := by cases s; rfl
 have : maxLen = 9223372036854775807 := by simp [maxLen]
 omega
end Go.SK
namespace Go.SK
theorem part_pos {s : Tx} {c : UInt8} {k : Nat} (e : partF s = some (c, k)) : 1 ≤ k ∧ k ≤ s.length := by
  cases s with
  | nil => cases e
  | cons a r => have := part_len (s := a :: r) (a := 0) (by simp) e; omega
theorem quoN_fuel : ∀ (n m : Nat) (s : Tx), s.length ≤ n → s.length ≤ m → quoN n s = quoN m s
  | 0, 0, s, _, _ => rfl
  | 0, m + 1, s, h, _ => by
    obtain rfl := List.length_eq_zero_iff.1 (Nat.le_zero.1 h); rfl
  | n + 1, 0, s, _, h => by
    obtain rfl := List.length_eq_zero_iff.1 (Nat.le_zero.1 h); rfl
  | n + 1, m + 1, s, h1, h2 => by
    rw [quoN, quoN]
    split
    · rfl
    · split
      · rfl
      · cases hp : partF s with
        | none => rfl
        | some q =>
          have := part_pos (c := q.1) (k := q.2) hp
          dsimp only
          rw [quoN_fuel n m (s.drop q.2) (by rw [List.length_drop]; omega) (by rw [List.length_drop]; omega)]
def quoA (s : Tx) (a : Nat) : Option (Tx × Nat) := quoN (s.length - a) (s.drop a)
theorem quo_end {s : Tx} {a : Nat} (h : s.length ≤ a) : quoA s a = none := by
  unfold quoA; rw [List.drop_eq_nil_of_le h, show s.length - a = 0 by omega]; rfl
theorem quo_unf {s : Tx} {a : Nat} (h : a < s.length) : quoA s a = if (s.getD a 0).toNat = 34 then some ([], 1) else match partF (s.drop a) with
    | none => none
    | some (c, k) => (quoN (s.length - a - 1) ((s.drop a).drop k)).map fun q => (c :: q.1, k + q.2) := by
  unfold quoA
  rw [show s.length - a = (s.length - a - 1) + 1 by omega, quoN, if_neg (by rw [List.length_drop]; omega)]
  have e : (s.drop a).getD 0 0 = s.getD a 0 := by rw [getD_drop]; rfl
  rw [e]; rfl
theorem quo_mark {s : Tx} {a : Nat} (h : a < s.length) (h1 : (s.getD a 0).toNat = 34) : quoA s a = some ([], 1) := by
  rw [quo_unf h, if_pos h1]
theorem quo_none {s : Tx} {a : Nat} (h : a < s.length) (h1 : ¬ (s.getD a 0).toNat = 34) (h2 : partF (s.drop a) = none) : quoA s a = none := by
  rw [quo_unf h, if_neg h1, h2]
theorem quo_step {s : Tx} {a k : Nat} {c : UInt8} (h : a < s.length) (h1 : ¬ (s.getD a 0).toNat = 34) (h2 : partF (s.drop a) = some (c, k)) : quoA s a = (quoA s (a + k)).map fun q => (c :: q.1, k + q.2) := by
  rw [quo_unf h, if_neg h1, h2]
  dsimp only
  unfold quoA
  have hk := part_len h h2
  rw [List.drop_drop, quoN_fuel (s.length - a - 1) (s.length - (a + k)) _ (by rw [List.length_drop]; omega) (by rw [List.length_drop]; omega)]
def quoI (s : Tx) (a i : Nat) (b : Tx) : Prop := a ≤ i ∧ i ≤ s.length ∧ b.length + a ≤ i ∧ quoA s a = (quoA s i).map fun q => (b ++ q.1, (i - a) + q.2)
theorem quoI_start {s : Tx} {a : Nat} (h : a ≤ s.length) : quoI s a a [] := by
  refine ⟨Nat.le_refl _, h, by simp, ?_⟩
  cases quoA s a with
  | none => rfl
  | some q => simp
theorem quoI_mark {s : Tx} {a i : Nat} {b : Tx} (h : quoI s a i b) (hi : i < s.length) (h1 : (s.getD i 0).toNat = 34) : quoA s a = some (b, i - a + 1) := by
  rw [h.2.2.2, quo_mark hi h1]; simp
theorem quoI_none {s : Tx} {a i : Nat} {b : Tx} (h : quoI s a i b) (hn : quoA s i = none) : quoA s a = none := by
  rw [h.2.2.2, hn]; rfl
theorem quoI_step {s : Tx} {a i k : Nat} {b : Tx} {c : UInt8} (h : quoI s a i b) (hi : i < s.length) (h1 : ¬ (s.getD i 0).toNat = 34) (h2 : partF (s.drop i) = some (c, k)) : quoI s a (i + k) (b ++ [c]) := by
  have hk := part_len hi h2
  refine ⟨by have := h.1; omega, hk.2, by rw [List.length_append, List.length_singleton]; have := h.2.2.1; omega, ?_⟩
  rw [h.2.2.2, quo_step hi h1 h2]
  cases quoA s (i + k) with
  | none => rfl
  | some q =>
    simp only [Option.map_some, List.append_assoc, List.singleton_append]
    congr 2
    have := h.1; omega
def quoP (o : Option (Tx × Nat)) : Tx × Nat := match o with
  | some (t, m) => (t, m + 1)
  | none => ([], 0)
theorem quoP_none {o : Option (Tx × Nat)} : (quoP o).2 = 0 ↔ o = none := by
  cases o with
  | none => exact ⟨fun _ => rfl, fun _ => rfl⟩
  | some q => exact ⟨fun h => absurd h (Nat.succ_ne_zero _), fun h => by cases h⟩
theorem get_none {α : Type} {o : Option (α × Nat)} {d : α} (hpos : ∀ c k, o = some (c, k) → 1 ≤ k) (h : (o.getD (d, 0)).2 = 0) : o = none := by
  cases o with
  | none => rfl
  | some q => have := hpos q.1 q.2 rfl; simp at h; omega
theorem get_some {α : Type} {o : Option (α × Nat)} {d : α} (h : ¬ (o.getD (d, 0)).2 = 0) : o = some ((o.getD (d, 0)).1, (o.getD (d, 0)).2) := by
  cases o with
  | none => exact absurd rfl h
  | some q => rfl
theorem esc_pos {r : Tx} {c : UInt8} {k : Nat} (h : escF r = some (c, k)) : 1 ≤ k := by
  unfold escF at h
  cases hp : partF (92 :: r) with
  | none => rw [hp] at h; cases h
  | some q =>
    have : 2 ≤ q.2 := by
      have hpp : partF ((92 :: r).drop 0) = some q := hp
      rw [part_drop (by simp)] at hpp
      unfold partA at hpp
      have e92 : ((92 :: r).getD 0 0).toNat = 92 := rfl
      rw [if_neg (by omega), if_neg (by omega)] at hpp
      split at hpp
      · cases hpp; show 2 ≤ 2; omega
      · split at hpp
        · cases hpp; show 2 ≤ 4; omega
        · cases hpp
    rw [hp] at h; cases h
    show 1 ≤ q.2 - 1; omega
theorem partV_byte {x : Int} {k : Nat} (h : 0 ≤ x ∧ x ≤ 255) : Value.tuple #[.int .u8 x, .int .i64 (k : Int)] = partV (some (UInt8.ofNat x.toNat, k)) := by
  have : ((UInt8.ofNat x.toNat).toNat : Int) = x := by rw [UInt8.toNat_ofNat']; omega
  unfold partV; dsimp only [Option.getD]; rw [this]
theorem part_plain {s : Tx} {a : Nat} (h : a < s.length) (h1 : ¬ ((s.getD a 0).toNat < 32 ∨ 126 < (s.getD a 0).toNat)) (h2 : (s.getD a 0).toNat ≠ 34) (h3 : (s.getD a 0).toNat ≠ 92) : partF (s.drop a) = some (s.getD a 0, 1) := part_one h (by omega) h3
theorem part_escS {s : Tx} {a : Nat} (h : a < s.length) (hc : (s.getD a 0).toNat = 92) (hn : ¬ ((escF (s.drop (a + 1))).getD (0, 0)).2 = 0) : partF (s.drop a) = some (((escF (s.drop (a + 1))).getD (0, 0)).1, ((escF (s.drop (a + 1))).getD (0, 0)).2 + 1) := by
  rw [part_esc h hc]
  have := get_some hn
  rw [this]; rfl
theorem part_escN {s : Tx} {a : Nat} (h : a < s.length) (hc : (s.getD a 0).toNat = 92) (hn : ((escF (s.drop (a + 1))).getD (0, 0)).2 = 0) : partF (s.drop a) = none := by
  rw [part_esc h hc, get_none (fun c k => esc_pos) hn]; rfl
theorem quo_len : ∀ (n : Nat) (s t : Tx) (m : Nat), quoN n s = some (t, m) → 1 ≤ m ∧ m ≤ s.length ∧ t.length + 1 ≤ m
  | 0, s, t, m, h => by cases h
  | n + 1, s, t, m, h => by
    rw [quoN] at h
    split at h
    · cases h
    · rename_i h0
      split at h
      · cases h; simp; omega
      · cases hp : partF s with
        | none => rw [hp] at h; cases h
        | some q =>
          rw [hp] at h; dsimp only at h
          have hk := part_pos (c := q.1) (k := q.2) hp
          cases hr : quoN n (s.drop q.2) with
          | none => rw [hr] at h; cases h
          | some r =>
            rw [hr] at h; cases h
            have := quo_len n _ r.1 r.2 hr
            rw [List.length_drop] at this
            simp only [List.length_cons]; omega
end Go.SK
namespace Go.SK
theorem f_no {b : Bool} (h : b = false) : ¬ b = true := by rw [h]; decide
theorem drop_get0 (s : Tx) (a : Nat) : (s.drop a).getD 0 0 = s.getD a 0 := by rw [getD_drop]; rfl
theorem drop1 (s : Tx) (a : Nat) : (s.drop a).drop 1 = s.drop (a + 1) := List.drop_drop
theorem let_ne {c : UInt8} {n : Nat} (h : letB c = true) (hn : n < 65) : c.toNat ≠ n := by
  unfold letB at h; simp only [decide_eq_true_eq] at h; omega
section
variable {s : Tx} {a : Nat}
theorem tok_word (h : letB (s.getD a 0) = true) : tokF (s.drop a) = .ok (1, runF (s.drop a), (runF (s.drop a)).length) := by
  unfold tokF; dsimp only; rw [drop_get0, if_pos h]
theorem tok_id (h : (s.getD a 0).toNat = 37) : tokF (s.drop a) = if (plainF (runF (s.drop (a + 1)))).isSome = true then .ok (2, runF (s.drop (a + 1)), (runF (s.drop (a + 1))).length + 1) else .error 62 := by
  unfold tokF; dsimp only; rw [drop_get0, drop1, if_neg (fun q => let_ne q (n := 37) (by omega) h), if_pos h]
theorem tok_num (h : digB (s.getD a 0) = true ∨ (s.getD a 0).toNat = 45) : tokF (s.drop a) = if (numLx ((s.drop a).take (1 + (runF (s.drop (a + 1))).length))).2 = 0 then .ok (3, (s.drop a).take (1 + (runF (s.drop (a + 1))).length), ((s.drop a).take (1 + (runF (s.drop (a + 1))).length)).length) else .error 62 := by
  have hl : ¬ letB (s.getD a 0) = true := fun q => by
    rcases h with h | h
    · rw [dig_let h] at q; cases q
    · exact let_ne q (n := 45) (by omega) h
  have h37 : ¬ (s.getD a 0).toNat = 37 := by
    rcases h with h | h
    · have := dig_bd h; omega
    · omega
  unfold tokF; dsimp only; rw [drop_get0, drop1, if_neg hl, if_neg h37, if_pos h]
theorem quoA_eq (s : Tx) (a : Nat) : quoN ((s.drop a).drop 1).length ((s.drop a).drop 1) = quoA s (a + 1) := by
  unfold quoA; rw [drop1, List.length_drop]
theorem tok_str (h : (s.getD a 0).toNat = 34) : tokF (s.drop a) = match quoA s (a + 1) with
    | none => .error 61
    | some (t, n) => .ok (4, t, n + 1) := by
  have hd : ¬ (digB (s.getD a 0) = true ∨ (s.getD a 0).toNat = 45) := fun q => by
    rcases q with q | q
    · have := dig_bd q; omega
    · omega
  unfold tokF; dsimp only; rw [drop_get0, if_neg (fun q => let_ne q (n := 34) (by omega) h), if_neg (by omega), if_neg hd, if_pos h, quoA_eq]; rfl
theorem tok_eq (h : (s.getD a 0).toNat = 61) : tokF (s.drop a) = .ok (5, [61], 1) := by
  have hd : ¬ (digB (s.getD a 0) = true ∨ (s.getD a 0).toNat = 45) := fun q => by
    rcases q with q | q
    · have := dig_bd q; omega
    · omega
  unfold tokF; dsimp only; rw [drop_get0, if_neg (fun q => let_ne q (n := 61) (by omega) h), if_neg (by omega), if_neg hd, if_neg (by omega), if_pos h]
theorem tok_bad (h1 : ¬ letB (s.getD a 0) = true) (h2 : ¬ (s.getD a 0).toNat = 37) (h3 : ¬ digB (s.getD a 0) = true) (h4 : ¬ (s.getD a 0).toNat = 45) (h5 : ¬ (s.getD a 0).toNat = 34) (h6 : ¬ (s.getD a 0).toNat = 61) : tokF (s.drop a) = .error 60 := by
  unfold tokF; dsimp only; rw [drop_get0, if_neg h1, if_neg h2, if_neg (fun q => q.elim h3 h4), if_neg h5, if_neg h6]
theorem tok_idOk (h : (s.getD a 0).toNat = 37) (hp : (plainF (runF (s.drop (a + 1)))).isSome = true) : tokF (s.drop a) = .ok (2, runF (s.drop (a + 1)), (runF (s.drop (a + 1))).length + 1) := by rw [tok_id h, if_pos hp]
theorem tok_idNo (h : (s.getD a 0).toNat = 37) (hp : ¬ (plainF (runF (s.drop (a + 1)))).isSome = true) : tokF (s.drop a) = .error 62 := by rw [tok_id h, if_neg hp]
theorem tok_numOk {t : Tx} (h : digB (s.getD a 0) = true ∨ (s.getD a 0).toNat = 45) (ht : (s.drop a).take (1 + (runF (s.drop (a + 1))).length) = t) (hp : (numLx t).2 = 0) : tokF (s.drop a) = .ok (3, t, t.length) := by rw [tok_num h, ht, if_pos hp]
theorem tok_numNo {t : Tx} (h : digB (s.getD a 0) = true ∨ (s.getD a 0).toNat = 45) (ht : (s.drop a).take (1 + (runF (s.drop (a + 1))).length) = t) (hp : ¬ (numLx t).2 = 0) : tokF (s.drop a) = .error 62 := by rw [tok_num h, ht, if_neg hp]
theorem tok_strNo (h : (s.getD a 0).toNat = 34) (hq : (quoP (quoA s (a + 1))).2 = 0) : tokF (s.drop a) = .error 61 := by rw [tok_str h, quoP_none.1 hq]
theorem tok_strOk (h : (s.getD a 0).toNat = 34) (hq : ¬ (quoP (quoA s (a + 1))).2 = 0) : tokF (s.drop a) = .ok (4, (quoP (quoA s (a + 1))).1, (quoP (quoA s (a + 1))).2) := by
  rw [tok_str h]
  cases e : quoA s (a + 1) with
  | none => rw [e] at hq; exact absurd rfl hq
  | some q => rfl
end
theorem numF_err (s : Tx) : (numLx s).2 = 0 ∨ (numLx s).2 = 62 := by
  unfold numLx
  split
  · exact .inl rfl
  · split
    · split
      · split
        · exact .inl rfl
        · exact .inr rfl
      · exact .inr rfl
    · split
      · exact .inr rfl
      · split
        · exact .inl rfl
        · exact .inr rfl
theorem tokF_len {s t : Tx} {kd : Int} {m : Nat} (h0 : 0 < s.length) (h : tokF s = .ok (kd, t, m)) : 1 ≤ m ∧ m ≤ s.length ∧ t.length ≤ m ∧ 1 ≤ kd ∧ kd ≤ 5 := by
  have hs : s.drop 0 = s := rfl
  have h1 : s.drop (0 + 1) = s.drop 1 := rfl
  have hr := runF_le (s.drop 1)
  rw [List.length_drop] at hr
  by_cases hl : letB (s.getD 0 0) = true
  · have e := tok_word (a := 0) hl
    rw [hs, h] at e; cases e
    have := run_step (s := s) (i := 0) h0 (run_l hl)
    rw [hs] at this
    exact ⟨by omega, runF_le s, Nat.le_refl _, by omega, by omega⟩
  by_cases h37 : (s.getD 0 0).toNat = 37
  · have e := tok_id (a := 0) h37
    rw [hs, h, h1] at e; split at e
    · cases e; exact ⟨by omega, by omega, by omega, by omega, by omega⟩
    · cases e
  by_cases hd : digB (s.getD 0 0) = true ∨ (s.getD 0 0).toNat = 45
  · have e := tok_num (a := 0) hd
    rw [hs, h, h1] at e; split at e
    · cases e
      rw [List.length_take]
      exact ⟨by omega, by omega, by omega, by omega, by omega⟩
    · cases e
  by_cases h34 : (s.getD 0 0).toNat = 34
  · have e := tok_str (a := 0) h34
    rw [hs, h] at e
    cases hq : quoA s (0 + 1) with
    | none => rw [hq] at e; cases e
    | some q =>
      rw [hq] at e; cases e
      have hq2 := quo_len _ _ q.1 q.2 hq
      rw [List.length_drop] at hq2
      exact ⟨by omega, by omega, by omega, by omega, by omega⟩
  by_cases h61 : (s.getD 0 0).toNat = 61
  · have e := tok_eq (a := 0) h61
    rw [hs, h] at e; cases e
    exact ⟨by omega, by omega, by simp, by omega, by omega⟩
  · have e := tok_bad (a := 0) hl h37 (fun q => hd (.inl q)) (fun q => hd (.inr q)) h34 h61
    rw [hs, h] at e; cases e
theorem tokF_err {s : Tx} {e : Int} (h : tokF s = .error e) : e = 60 ∨ e = 61 ∨ e = 62 := by
  unfold tokF at h; dsimp only at h
  split at h
  · cases h
  split at h
  · split at h
    · cases h
    · cases h; omega
  split at h
  · split at h
    · cases h
    · cases h; omega
  split at h
  · split at h
    · cases h; omega
    · cases h
  split at h
  · cases h
  · cases h; omega
theorem toksN_fuel : ∀ (n m : Nat) (s : Tx) (k : Nat), s.length ≤ n → s.length ≤ m → toksN n s k = toksN m s k
  | 0, 0, s, _, _, _ => rfl
  | 0, m + 1, s, k, h, _ => by
    obtain rfl := List.length_eq_zero_iff.1 (Nat.le_zero.1 h); rfl
  | n + 1, 0, s, k, _, h => by
    obtain rfl := List.length_eq_zero_iff.1 (Nat.le_zero.1 h); rfl
  | n + 1, m + 1, s, k, h1, h2 => by
    rw [toksN, toksN]
    split
    · rfl
    · rename_i h0
      have h0' : 0 < s.length := by rcases Nat.eq_zero_or_pos s.length with h | h; exact absurd (.inl h) h0; exact h
      split
      · exact toksN_fuel n m _ _ (by rw [List.length_drop]; omega) (by rw [List.length_drop]; omega)
      · cases hp : tokF s with
        | error e => rfl
        | ok q =>
          have := tokF_len (kd := q.1) (t := q.2.1) (m := q.2.2) h0' hp
          dsimp only
          rw [toksN_fuel n m (s.drop q.2.2) _ (by rw [List.length_drop]; omega) (by rw [List.length_drop]; omega)]
def toksG (s : Tx) (i : Nat) : List TokL × (Int × Int) := toksN (s.length - i) (s.drop i) i
theorem toks_end {s : Tx} {i : Nat} (h : s.length ≤ i ∨ (s.getD i 0).toNat = 59) : toksG s i = ([], (0, 0)) := by
  unfold toksG
  rcases Nat.lt_or_ge i s.length with hi | hi
  · rw [show s.length - i = (s.length - i - 1) + 1 by omega, toksN, if_pos (.inr (by rw [drop_get0]; rcases h with h | h; omega; exact h))]
  · rw [List.drop_eq_nil_of_le hi, show s.length - i = 0 by omega]; rfl
theorem toks_unf {s : Tx} {i : Nat} (hi : i < s.length) (h1 : ¬ (s.getD i 0).toNat = 59) : toksG s i = if blankB (s.getD i 0) = true then toksN (s.length - i - 1) (s.drop (i + 1)) (i + 1) else match tokF (s.drop i) with
    | .error e => ([], (e, (i : Int)))
    | .ok (kd, t, m) =>
        let r := toksN (s.length - i - 1) ((s.drop i).drop m) (i + m)
        if r.2.1 = 0 then (⟨kd, t, (i : Int)⟩ :: r.1, (0, 0)) else ([], r.2) := by
  unfold toksG
  rw [show s.length - i = (s.length - i - 1) + 1 by omega, toksN, if_neg (by rw [drop_get0, List.length_drop]; omega), drop_get0, drop1]; rfl
theorem toks_blank {s : Tx} {i : Nat} (hi : i < s.length) (h1 : ¬ (s.getD i 0).toNat = 59) (h2 : blankB (s.getD i 0) = true) : toksG s i = toksG s (i + 1) := by
  rw [toks_unf hi h1, if_pos h2]; unfold toksG; rw [show s.length - i - 1 = s.length - (i + 1) by omega]
theorem toks_err {s : Tx} {i : Nat} {e : Int} (hi : i < s.length) (h1 : ¬ (s.getD i 0).toNat = 59) (h2 : ¬ blankB (s.getD i 0) = true) (h : tokF (s.drop i) = .error e) : toksG s i = ([], (e, (i : Int))) := by
  rw [toks_unf hi h1, if_neg h2, h]
theorem toks_ok {s t : Tx} {i m : Nat} {kd : Int} (hi : i < s.length) (h1 : ¬ (s.getD i 0).toNat = 59) (h2 : ¬ blankB (s.getD i 0) = true) (h : tokF (s.drop i) = .ok (kd, t, m)) : toksG s i = if (toksG s (i + m)).2.1 = 0 then (⟨kd, t, (i : Int)⟩ :: (toksG s (i + m)).1, (0, 0)) else ([], (toksG s (i + m)).2) := by
  rw [toks_unf hi h1, if_neg h2, h]
  have hm := tokF_len (by rw [List.length_drop]; omega) h
  rw [List.length_drop] at hm
  dsimp only
  unfold toksG
  rw [List.drop_drop, toksN_fuel (s.length - i - 1) (s.length - (i + m)) _ _ (by rw [List.length_drop]; omega) (by rw [List.length_drop]; omega)]
theorem toksF_eq (s : Tx) : toksF s = toksG s 0 := rfl
def joinT (l : List TokL) (r : List TokL × (Int × Int)) : List TokL × (Int × Int) := if r.2.1 = 0 then (l ++ r.1, (0, 0)) else ([], r.2)
def toksI (s : Tx) (i : Nat) (l : List TokL) : Prop := i ≤ s.length ∧ l.length ≤ i ∧ toksF s = joinT l (toksG s i)
theorem toksN_zero : ∀ (n : Nat) (s : Tx) (k : Nat), (toksN n s k).2.1 = 0 → (toksN n s k).2 = (0, 0)
  | 0, s, k, _ => rfl
  | n + 1, s, k, h => by
    rw [toksN] at h ⊢
    split
    · rfl
    · rename_i h0
      rw [if_neg h0] at h
      split
      · rename_i hb; rw [if_pos hb] at h; exact toksN_zero n _ _ h
      · rename_i hb
        rw [if_neg hb] at h
        cases hp : tokF s with
        | error e =>
          rw [hp] at h; dsimp only at h
          have := tokF_err hp; omega
        | ok q =>
          rw [hp] at h
          dsimp only at h ⊢
          split
          · rfl
          · rename_i h3
            rw [if_neg h3] at h
            exact absurd h h3
theorem toksI_start (s : Tx) : toksI s 0 [] := by
  refine ⟨Nat.zero_le _, Nat.le_refl _, ?_⟩
  unfold joinT; rw [← toksF_eq]
  split
  · rename_i h; have := toksN_zero _ _ _ h; exact Prod.ext rfl this
  · rename_i h
    have : (toksF s).1 = [] := by
      have hz : ∀ (n : Nat) (s : Tx) (k : Nat), ¬ (toksN n s k).2.1 = 0 → (toksN n s k).1 = [] := fun n => by
        induction n with
        | zero => intro s k h; exact absurd rfl h
        | succ n ih =>
          intro s k h
          rw [toksN] at h ⊢
          split
          · rfl
          · rename_i h0; rw [if_neg h0] at h
            split
            · rename_i hb; rw [if_pos hb] at h; exact ih _ _ h
            · rename_i hb; rw [if_neg hb] at h
              cases hp : tokF s with
              | error e => rfl
              | ok q =>
                rw [hp] at h; dsimp only at h ⊢
                split
                · rename_i h3; rw [if_pos h3] at h; exact absurd rfl h
                · rfl
      exact hz _ _ _ h
    exact Prod.ext this rfl
theorem toksI_blank {s : Tx} {i : Nat} {l : List TokL} (h : toksI s i l) (hi : i < s.length) (h1 : ¬ (s.getD i 0).toNat = 59) (h2 : blankB (s.getD i 0) = true) : toksI s (i + 1) l :=
  ⟨hi, by have := h.2.1; omega, by rw [h.2.2, toks_blank hi h1 h2]⟩
theorem toksI_end {s : Tx} {i : Nat} {l : List TokL} (h : toksI s i l) (h1 : s.length ≤ i ∨ (s.getD i 0).toNat = 59) : toksF s = (l, (0, 0)) := by
  rw [h.2.2, toks_end h1]; unfold joinT; rw [if_pos rfl, List.append_nil]
theorem toksI_err {s : Tx} {i : Nat} {l : List TokL} {e : Int} (h : toksI s i l) (hi : i < s.length) (h1 : ¬ (s.getD i 0).toNat = 59) (h2 : ¬ blankB (s.getD i 0) = true) (h3 : tokF (s.drop i) = .error e) : toksF s = ([], (e, (i : Int))) := by
  have he := tokF_err h3
  rw [h.2.2, toks_err hi h1 h2 h3]; unfold joinT; rw [if_neg (by dsimp only; omega)]
theorem toksI_ok {s t : Tx} {i m : Nat} {kd : Int} {l : List TokL} (h : toksI s i l) (hi : i < s.length) (h1 : ¬ (s.getD i 0).toNat = 59) (h2 : ¬ blankB (s.getD i 0) = true) (h3 : tokF (s.drop i) = .ok (kd, t, m)) : toksI s (i + m) (l ++ [⟨kd, t, (i : Int)⟩]) := by
  have hm := tokF_len (by rw [List.length_drop]; omega) h3
  rw [List.length_drop] at hm
  refine ⟨by omega, by rw [List.length_append, List.length_singleton]; have := h.2.1; omega, ?_⟩
  rw [h.2.2, toks_ok hi h1 h2 h3]
  unfold joinT
  by_cases hz : (toksG s (i + m)).2.1 = 0
  · rw [if_pos hz, if_pos rfl, if_pos hz, List.append_assoc]; rfl
  · rw [if_neg hz, if_neg hz, if_neg hz]
def tokC (t : TokL) : List Value := [.int .u8 t.kind, str t.text, .int .i64 t.at_]
theorem tokC_len (t : TokL) : (tokC t).length = 3 := rfl
def tok0 : TokL := ⟨0, [], 0⟩
end Go.SK
namespace Go.SK
def wsz : List TokL → Nat
  | [] => 0
  | t :: r => 4 * t.text.length + 3 + wsz r
theorem drop_tok {l : List TokL} {i : Nat} (h : i < l.length) : l.drop i = l.getD i tok0 :: l.drop (i + 1) := by
  rw [List.drop_eq_getElem_cons h]; simp [List.getD, h]
theorem wsz_get {l : List TokL} {i : Nat} (h : i < l.length) : 4 * (l.getD i tok0).text.length + 3 + wsz (l.drop (i + 1)) = wsz (l.drop i) := by
  rw [drop_tok h, wsz]
end Go.SK
namespace Go.SK
theorem toks_sz : ∀ (n : Nat) (s : Tx) (k : Nat), s.length ≤ n → wsz (toksN n s k).1 ≤ 7 * s.length ∧ (toksN n s k).1.length ≤ s.length
  | 0, s, k, _ => ⟨Nat.zero_le _, Nat.zero_le _⟩
  | n + 1, s, k, hn => by
    rw [toksN]
    split
    · exact ⟨Nat.zero_le _, Nat.zero_le _⟩
    · rename_i h0
      have h0' : 0 < s.length := by rcases Nat.eq_zero_or_pos s.length with h | h; exact absurd (.inl h) h0; exact h
      split
      · have := toks_sz n (s.drop 1) (k + 1) (by rw [List.length_drop]; omega)
        rw [List.length_drop] at this; omega
      · cases hp : tokF s with
        | error e => exact ⟨Nat.zero_le _, Nat.zero_le _⟩
        | ok q =>
          obtain ⟨kd, t, m⟩ := q
          dsimp only
          have hm := tokF_len (kd := kd) (t := t) (m := m) h0' hp
          have := toks_sz n (s.drop m) (k + m) (by rw [List.length_drop]; omega)
          rw [List.length_drop] at this
          split
          · rw [wsz, List.length_cons]; dsimp only; omega
          · exact ⟨Nat.zero_le _, Nat.zero_le _⟩
end Go.SK
namespace Go.SK
theorem toksF_len (s : Tx) : (toksF s).1.length ≤ s.length := (toks_sz _ s 0 (Nat.le_refl _)).2
theorem toksF_wsz (s : Tx) : wsz (toksF s).1 ≤ 7 * s.length := (toks_sz _ s 0 (Nat.le_refl _)).1
end Go.SK
namespace Go.SK
theorem wsz_mem {l : List TokL} {i : Nat} (h : i < l.length) : 4 * (l.getD i tok0).text.length + 3 ≤ wsz l := by
  induction l generalizing i with
  | nil => simp at h
  | cons t r ih =>
    cases i with
    | zero => show 4 * t.text.length + 3 ≤ _; rw [wsz]; omega
    | succ i =>
      have := ih (i := i) (by simpa using h)
      show 4 * (r.getD i tok0).text.length + 3 ≤ _
      rw [wsz]; omega
end Go.SK
namespace Go.SK
def cutA (r : Tx) : Tx := r.takeWhile fun c => decide (c.toNat ≠ 10)
def cutB (r : Tx) : Tx := r.drop ((cutA r).length + 1)
def lnN : Nat → Tx → List Tx
  | 0, _ => []
  | n + 1, r => if r.length = 0 then [] else cutA r :: lnN n (cutB r)
def lnF (r : Tx) : List Tx := lnN r.length r
end Go.SK
namespace Go.SK
def modW : Tx := [109, 111, 100, 117, 108, 101]
def headL (n : Int) (l : List TokL) : (Int × Int) × (Int × Int) :=
  if l.length = 0 then ((0, 0), (72, n))
  else if (l.getD 0 tok0).kind ≠ 1 ∨ (l.getD 0 tok0).text ≠ modW then ((0, 0), (70, (l.getD 0 tok0).at_))
  else if l.length = 1 then ((0, 0), (72, n))
  else if (l.getD 1 tok0).kind ≠ 3 then ((0, 0), (70, (l.getD 1 tok0).at_))
  else if (numLx (l.getD 1 tok0).text).2 ≠ 0 then ((0, 0), ((numLx (l.getD 1 tok0).text).2, (l.getD 1 tok0).at_))
  else if l.length = 2 then ((0, 0), (72, n))
  else if (l.getD 2 tok0).kind ≠ 3 then ((0, 0), (70, (l.getD 2 tok0).at_))
  else if (numLx (l.getD 2 tok0).text).2 ≠ 0 then ((0, 0), ((numLx (l.getD 2 tok0).text).2, (l.getD 2 tok0).at_))
  else if (numLx (l.getD 2 tok0).text).1 < 1 ∨ 65536 < (numLx (l.getD 2 tok0).text).1 then ((0, 0), (24, (l.getD 2 tok0).at_))
  else if 3 < l.length then ((0, 0), (70, (l.getD 3 tok0).at_))
  else (((numLx (l.getD 1 tok0).text).1, (numLx (l.getD 2 tok0).text).1), (0, 0))
def headF (s : Tx) : (Int × Int) × (Int × Int) := if (toksF s).2.1 ≠ 0 then ((0, 0), (toksF s).2) else headL s.length (toksF s).1
section
variable {n : Int} {l : List TokL}
theorem head0 (h : l.length = 0) : headL n l = ((0, 0), (72, n)) := by unfold headL; rw [if_pos h]
theorem head1 (h0 : ¬ l.length = 0) (h : (l.getD 0 tok0).kind ≠ 1 ∨ (l.getD 0 tok0).text ≠ modW) : headL n l = ((0, 0), (70, (l.getD 0 tok0).at_)) := by unfold headL; rw [if_neg h0, if_pos h]
theorem head2 (hk : (l.getD 0 tok0).kind = 1) (ht : (l.getD 0 tok0).text = modW) (h : l.length = 1) : headL n l = ((0, 0), (72, n)) := by unfold headL; rw [if_neg (by omega), if_neg (by rintro (q | q) <;> contradiction), if_pos h]
theorem head3 (hk : (l.getD 0 tok0).kind = 1) (ht : (l.getD 0 tok0).text = modW) (h0 : 1 < l.length) : headL n l =
    if (l.getD 1 tok0).kind ≠ 3 then ((0, 0), (70, (l.getD 1 tok0).at_))
    else if (numLx (l.getD 1 tok0).text).2 ≠ 0 then ((0, 0), ((numLx (l.getD 1 tok0).text).2, (l.getD 1 tok0).at_))
    else if l.length = 2 then ((0, 0), (72, n))
    else if (l.getD 2 tok0).kind ≠ 3 then ((0, 0), (70, (l.getD 2 tok0).at_))
    else if (numLx (l.getD 2 tok0).text).2 ≠ 0 then ((0, 0), ((numLx (l.getD 2 tok0).text).2, (l.getD 2 tok0).at_))
    else if (numLx (l.getD 2 tok0).text).1 < 1 ∨ 65536 < (numLx (l.getD 2 tok0).text).1 then ((0, 0), (24, (l.getD 2 tok0).at_))
    else if 3 < l.length then ((0, 0), (70, (l.getD 3 tok0).at_))
    else (((numLx (l.getD 1 tok0).text).1, (numLx (l.getD 2 tok0).text).1), (0, 0)) := by
  conv => lhs; unfold headL
  rw [if_neg (by omega), if_neg (by rintro (q | q) <;> contradiction), if_neg (by omega)]
end
def idL (t : Tx) (bound : Int) : Int := if 1 ≤ (plR t : Int) ∧ (plR t : Int) < bound then (plR t : Int) else 0
def kindT (c : Int) : Int := if c = 105 then 2 else if c = 110 then 3 else if c = 115 then 4 else 1
def argT (c : Int) (t : TokL) (bound : Int) : ArgP × Int :=
  if c = 0 ∨ t.kind ≠ kindT c then (zeroA, 70)
  else if c = 105 then (if idL t.text bound = 0 then (zeroA, 43) else (⟨1, idL t.text bound, []⟩, 0))
  else if c = 110 then (if (numLx t.text).2 ≠ 0 then (zeroA, (numLx t.text).2) else (⟨2, (numLx t.text).1, []⟩, 0))
  else if c = 115 then (if zeroAt t.text ≠ t.text.length then (zeroA, 13) else (⟨3, 0, t.text⟩, 0))
  else if (namesL.find? (enS c t.text)).isSome = false then (zeroA, 71)
  else (⟨4, ((namesL.find? (enS c t.text)).getD zeroN).n, []⟩, 0)
def argsT (fm : FormL) (bound : Int) : Nat → List TokL → List ArgP × (Int × Int)
  | _, [] => ([], (0, 0))
  | k, t :: r =>
    if (argT (letterS fm k) t bound).2 ≠ 0 then ([], ((argT (letterS fm k) t bound).2, t.at_))
    else ((argT (letterS fm k) t bound).1 :: (argsT fm bound (k + 1) r).1, (argsT fm bound (k + 1) r).2)
def opAt (l : List TokL) : Nat := if (l.getD 0 tok0).kind = 2 then 2 else 0
def lineO (n : Int) (l : List TokL) (bound : Int) (fm : FormL) : InstL × Bool × (Int × Int) :=
  if fm.res ≠ decide ((l.getD 0 tok0).kind = 2) then (zeroIL, false, (41, (l.getD 0 tok0).at_))
  else if (l.getD 0 tok0).kind = 2 ∧ idL (l.getD 0 tok0).text bound = 0 then (zeroIL, false, (43, (l.getD 0 tok0).at_))
  else if fm.ty = true ∧ l.length = opAt l + 1 then (zeroIL, false, (72, n))
  else if fm.ty = true ∧ (l.getD (opAt l + 1) tok0).kind ≠ 2 then (zeroIL, false, (70, (l.getD (opAt l + 1) tok0).at_))
  else if fm.ty = true ∧ idL (l.getD (opAt l + 1) tok0).text bound = 0 then (zeroIL, false, (43, (l.getD (opAt l + 1) tok0).at_))
  else if (argsT fm bound 0 (l.drop (opAt l + 1 + b2n fm.ty))).2.1 ≠ 0 then (zeroIL, false, (argsT fm bound 0 (l.drop (opAt l + 1 + b2n fm.ty))).2)
  else if (fitsS fm.op ((argsT fm bound 0 (l.drop (opAt l + 1 + b2n fm.ty))).1.map ArgP.kind)).2 = false then (zeroIL, false, (72, n))
  else if roomI fm (argsT fm bound 0 (l.drop (opAt l + 1 + b2n fm.ty))).1 > 65535 then (zeroIL, false, (25, 0))
  else (⟨fm.op, if fm.ty = true then idL (l.getD (opAt l + 1) tok0).text bound else 0, if (l.getD 0 tok0).kind = 2 then idL (l.getD 0 tok0).text bound else 0, (argsT fm bound 0 (l.drop (opAt l + 1 + b2n fm.ty))).1⟩, true, (0, 0))
def lineL (n : Int) (l : List TokL) (bound : Int) : InstL × Bool × (Int × Int) :=
  if l.length = 0 then (zeroIL, false, (0, 0))
  else if (l.getD 0 tok0).kind = 2 ∧ l.length = 1 then (zeroIL, false, (72, n))
  else if (l.getD 0 tok0).kind = 2 ∧ (l.getD 1 tok0).kind ≠ 5 then (zeroIL, false, (70, (l.getD 1 tok0).at_))
  else if (l.getD 0 tok0).kind = 2 ∧ l.length = 2 then (zeroIL, false, (72, n))
  else if (l.getD (opAt l) tok0).kind ≠ 1 then (zeroIL, false, (70, (l.getD (opAt l) tok0).at_))
  else if (refT.find? (nmF (l.getD (opAt l) tok0).text)).isSome = false then (zeroIL, false, (71, (l.getD (opAt l) tok0).at_))
  else lineO n l bound ((refT.find? (nmF (l.getD (opAt l) tok0).text)).getD zeroF)
def lineF (s : Tx) (bound : Int) : InstL × Bool × (Int × Int) := if (toksF s).2.1 ≠ 0 then (zeroIL, false, (toksF s).2) else lineL s.length (toksF s).1 bound
end Go.SK
namespace Go.SK
structure HdI (l : List TokL) (k : Nat) (gn bd : Int) : Prop where
  le : k ≤ 3 ∧ k ≤ l.length
  k0 : 0 < k → (l.getD 0 tok0).kind = 1 ∧ (l.getD 0 tok0).text = modW
  k1 : 1 < k → (l.getD 1 tok0).kind = 3 ∧ (numLx (l.getD 1 tok0).text).2 = 0 ∧ gn = (numLx (l.getD 1 tok0).text).1
  k2 : 2 < k → (l.getD 2 tok0).kind = 3 ∧ (numLx (l.getD 2 tok0).text).2 = 0 ∧ bd = (numLx (l.getD 2 tok0).text).1 ∧ ¬ (bd < 1 ∨ 65536 < bd)
section
variable {n : Int} {l : List TokL} {k : Nat} {gn bd : Int}
theorem HdI.start (l : List TokL) : HdI l 0 0 0 := ⟨⟨by decide, Nat.zero_le _⟩, fun h => absurd h (by decide), fun h => absurd h (by decide), fun h => absurd h (by decide)⟩
theorem HdI.from1 (h : HdI l k gn bd) (h1 : 0 < k) (hl : 1 < l.length) : headL n l =
    if (l.getD 1 tok0).kind ≠ 3 then ((0, 0), (70, (l.getD 1 tok0).at_))
    else if (numLx (l.getD 1 tok0).text).2 ≠ 0 then ((0, 0), ((numLx (l.getD 1 tok0).text).2, (l.getD 1 tok0).at_))
    else if l.length = 2 then ((0, 0), (72, n))
    else if (l.getD 2 tok0).kind ≠ 3 then ((0, 0), (70, (l.getD 2 tok0).at_))
    else if (numLx (l.getD 2 tok0).text).2 ≠ 0 then ((0, 0), ((numLx (l.getD 2 tok0).text).2, (l.getD 2 tok0).at_))
    else if (numLx (l.getD 2 tok0).text).1 < 1 ∨ 65536 < (numLx (l.getD 2 tok0).text).1 then ((0, 0), (24, (l.getD 2 tok0).at_))
    else if 3 < l.length then ((0, 0), (70, (l.getD 3 tok0).at_))
    else (((numLx (l.getD 1 tok0).text).1, (numLx (l.getD 2 tok0).text).1), (0, 0)) := head3 (h.k0 h1).1 (h.k0 h1).2 hl
theorem HdI.from2 (h : HdI l k gn bd) (h1 : 1 < k) (hl : 2 < l.length) : headL n l =
    if (l.getD 2 tok0).kind ≠ 3 then ((0, 0), (70, (l.getD 2 tok0).at_))
    else if (numLx (l.getD 2 tok0).text).2 ≠ 0 then ((0, 0), ((numLx (l.getD 2 tok0).text).2, (l.getD 2 tok0).at_))
    else if (numLx (l.getD 2 tok0).text).1 < 1 ∨ 65536 < (numLx (l.getD 2 tok0).text).1 then ((0, 0), (24, (l.getD 2 tok0).at_))
    else if 3 < l.length then ((0, 0), (70, (l.getD 3 tok0).at_))
    else ((gn, (numLx (l.getD 2 tok0).text).1), (0, 0)) := by
  obtain ⟨q1, q2, q3⟩ := h.k1 h1
  rw [h.from1 (by omega) (by omega), if_neg (fun q => q q1), if_neg (fun q => q q2), if_neg (by omega), ← q3]
theorem HdI.from3 (h : HdI l k gn bd) (h1 : 2 < k) (hl : 2 < l.length) : headL n l =
    if 3 < l.length then ((0, 0), (70, (l.getD 3 tok0).at_)) else ((gn, bd), (0, 0)) := by
  obtain ⟨q1, q2, q3, q4⟩ := h.k2 h1
  rw [h.from2 (by omega) hl, if_neg (fun q => q q1), if_neg (fun q => q q2), ← q3, if_neg q4]
theorem HdI.at3 (h : HdI l k gn bd) (hk : k = 3) (hl : k < l.length) : headL n l = ((0, 0), (70, (l.getD k tok0).at_)) := by
  subst hk; rw [h.from3 (by omega) (by omega), if_pos hl]
theorem HdI.bad0 (h : HdI l k gn bd) (hk : k = 0) (hl : k < l.length) (hb : (l.getD k tok0).kind ≠ 1 ∨ (l.getD k tok0).text ≠ modW) : headL n l = ((0, 0), (70, (l.getD k tok0).at_)) := by
  subst hk; exact head1 (by omega) hb
theorem HdI.badk (h : HdI l k gn bd) (hk : 0 < k) (h3 : ¬ k = 3) (hl : k < l.length) (hb : (l.getD k tok0).kind ≠ 3) : headL n l = ((0, 0), (70, (l.getD k tok0).at_)) := by
  have hle := h.le
  rcases (show k = 1 ∨ k = 2 by omega) with rfl | rfl
  · rw [h.from1 (by omega) (by omega), if_pos hb]
  · rw [h.from2 (by omega) (by omega), if_pos hb]
theorem HdI.num (h : HdI l k gn bd) (hk : 0 < k) (h3 : ¬ k = 3) (hl : k < l.length) (hb : (l.getD k tok0).kind = 3) (hn : (numLx (l.getD k tok0).text).2 ≠ 0) : headL n l = ((0, 0), ((numLx (l.getD k tok0).text).2, (l.getD k tok0).at_)) := by
  have hle := h.le
  rcases (show k = 1 ∨ k = 2 by omega) with rfl | rfl
  · rw [h.from1 (by omega) (by omega), if_neg (fun q => q hb), if_pos hn]
  · rw [h.from2 (by omega) (by omega), if_neg (fun q => q hb), if_pos hn]
theorem HdI.bound (h : HdI l k gn bd) (hk : k = 2) (hl : k < l.length) (hb : (l.getD k tok0).kind = 3) (hn : (numLx (l.getD k tok0).text).2 = 0) (hq : (numLx (l.getD k tok0).text).1 < 1 ∨ 65536 < (numLx (l.getD k tok0).text).1) : headL n l = ((0, 0), (24, (l.getD k tok0).at_)) := by
  subst hk
  rw [h.from2 (by omega) (by omega), if_neg (fun q => q hb), if_neg (fun q => q hn), if_pos hq]
theorem HdI.step0 (h : HdI l k gn bd) (hk : k = 0) (hl : k < l.length) (h1 : (l.getD k tok0).kind = 1) (h2 : (l.getD k tok0).text = modW) : HdI l (k + 1) gn bd := by
  subst hk
  exact ⟨⟨by omega, by omega⟩, fun _ => ⟨h1, h2⟩, fun q => absurd q (by omega), fun q => absurd q (by omega)⟩
theorem HdI.step1 (h : HdI l k gn bd) (hk : k = 1) (hl : k < l.length) (hb : (l.getD k tok0).kind = 3) (hn : (numLx (l.getD k tok0).text).2 = 0) : HdI l (k + 1) (numLx (l.getD k tok0).text).1 bd := by
  subst hk
  exact ⟨⟨by omega, by omega⟩, fun _ => h.k0 (by omega), fun _ => ⟨hb, hn, rfl⟩, fun q => absurd q (by omega)⟩
theorem HdI.step2 (h : HdI l k gn bd) (hk : k = 2) (hl : k < l.length) (hb : (l.getD k tok0).kind = 3) (hn : (numLx (l.getD k tok0).text).2 = 0) (hq : ¬ ((numLx (l.getD k tok0).text).1 < 1 ∨ 65536 < (numLx (l.getD k tok0).text).1)) : HdI l (k + 1) gn (numLx (l.getD k tok0).text).1 := by
  subst hk
  exact ⟨⟨by omega, by omega⟩, fun _ => h.k0 (by omega), fun _ => h.k1 (by omega), fun _ => ⟨hb, hn, rfl, hq⟩⟩
theorem HdI.short (h : HdI l k gn bd) (hl : l.length ≤ k) (h3 : l.length < 3) : headL n l = ((0, 0), (72, n)) := by
  have hle := h.le
  rcases (show k = 0 ∨ k = 1 ∨ k = 2 by omega) with rfl | rfl | rfl
  · exact head0 (by omega)
  · exact head2 (h.k0 (by omega)).1 (h.k0 (by omega)).2 (by omega)
  · obtain ⟨q1, q2, q3⟩ := h.k1 (by omega)
    rw [h.from1 (by omega) (by omega), if_neg (fun q => q q1), if_neg (fun q => q q2), if_pos (by omega)]
theorem HdI.fin (h : HdI l k gn bd) (hl : l.length ≤ k) (h3 : ¬ l.length < 3) : headL n l = ((gn, bd), (0, 0)) := by
  have hle := h.le
  rw [h.from3 (by omega) (by omega), if_neg (by omega)]
end
end Go.SK
namespace Go.SK
theorem zeroAt_nil : zeroAt ([] : Tx) = 0 := rfl
theorem argT_ok {c : Int} {t : TokL} {bound : Int} (hc : 0 ≤ c ∧ c ≤ 255) (h : (argT c t bound).2 = 0) : c ≠ 0 ∧ (argT c t bound).1.kind = kindS c ∧ wrongA c (argT c t bound).1 bound = 0 ∧ (argT c t bound).1.s.length ≤ t.text.length := by
  unfold argT at h ⊢
  by_cases h1 : c = 0 ∨ t.kind ≠ kindT c
  · rw [if_pos h1] at h; cases h
  rw [if_neg h1] at h ⊢
  have hc0 : c ≠ 0 := fun e => h1 (.inl e)
  by_cases h2 : c = 105
  · rw [if_pos h2] at h ⊢
    subst h2
    by_cases hi : idL t.text bound = 0
    · rw [if_pos hi] at h; cases h
    · rw [if_neg hi]
      have hb : 1 ≤ idL t.text bound ∧ idL t.text bound < bound := by
        unfold idL at hi ⊢
        split
        · assumption
        · rename_i q; rw [if_neg q] at hi; exact absurd rfl hi
      refine ⟨by decide, rfl, ?_, Nat.zero_le _⟩
      unfold wrongA
      rw [if_neg (by simp [kindS]), if_neg (by simp), if_neg (by simp [idE]; omega), if_neg (by simp), if_neg (by simp [zeroAt_nil])]
  rw [if_neg h2] at h ⊢
  by_cases h3 : c = 110
  · rw [if_pos h3] at h ⊢
    subst h3
    by_cases hi : (numLx t.text).2 ≠ 0
    · rw [if_pos hi] at h; exact absurd h hi
    · rw [if_neg hi]
      refine ⟨by decide, rfl, ?_, Nat.zero_le _⟩
      unfold wrongA
      rw [if_neg (by simp [kindS]), if_neg (by simp), if_neg (by simp), if_neg (by simp), if_neg (by simp [zeroAt_nil])]
  rw [if_neg h3] at h ⊢
  by_cases h4 : c = 115
  · rw [if_pos h4] at h ⊢
    subst h4
    by_cases hi : zeroAt t.text ≠ t.text.length
    · rw [if_pos hi] at h; cases h
    · rw [if_neg hi]
      refine ⟨by decide, rfl, ?_, Nat.le_refl _⟩
      unfold wrongA
      rw [if_neg (by simp [kindS]), if_neg (by simp), if_neg (by simp), if_neg (by simp), if_neg hi]
  rw [if_neg h4] at h ⊢
  cases hf : namesL.find? (enS c t.text) with
  | none => rw [hf, if_pos (show (none : Option NameL).isSome = false from rfl)] at h; exact absurd h (by decide)
  | some x =>
    rw [if_neg (by simp)]
    have hx : x.letter = c ∧ x.name = t.text := by simpa using List.find?_some hf
    have hm := List.mem_of_find?_eq_some hf
    have hany : (namesL.find? (fun y => decide (y.letter = c))).isSome = true := by
      rw [List.find?_isSome]; exact ⟨x, hm, by simp [hx.1]⟩
    have hk : kindS c = 4 := by
      unfold kindS; rw [if_neg h2, if_neg h3, if_neg h4, if_pos ((names_any hc.1 hc.2).2 hany)]
    have hen : enumE c x.n = 0 := by
      unfold enumE; rw [if_pos]
      rw [List.find?_isSome]; exact ⟨x, hm, by simp [hx.1]⟩
    refine ⟨hc0, hk.symm, ?_, Nat.zero_le _⟩
    unfold wrongA
    rw [if_neg (by simp [hk, hc0]), if_neg (by simp), if_neg (by simp), if_neg (by simp [hen]), if_neg (by simp [zeroAt_nil])]
theorem argsT_ok {fm : FormL} {bound : Int} : ∀ {l : List TokL} {k : Nat}, (argsT fm bound k l).2.1 = 0 → wrongL fm bound k (argsT fm bound k l).1 = 0 ∧ (argsT fm bound k l).1.length = l.length ∧ (argsT fm bound k l).2 = (0, 0)
  | [], k, _ => ⟨rfl, rfl, rfl⟩
  | t :: r, k, h => by
    unfold argsT at h ⊢
    by_cases h1 : (argT (letterS fm k) t bound).2 ≠ 0
    · rw [if_pos h1] at h; exact absurd h h1
    · rw [if_neg h1] at h ⊢
      have h2 := argT_ok (letterS_bd fm k) (Classical.not_not.1 h1)
      have ih := argsT_ok (l := r) (k := k + 1) h
      refine ⟨?_, by rw [List.length_cons, List.length_cons, ih.2.1], ih.2.2⟩
      unfold wrongL
      rw [if_neg (by rw [h2.2.2.1]; simp)]; exact ih.1
theorem fits_off {op : Int} {ks : List Int} (h : (fitsS op ks).2 = true) : (refS op).isSome = true ∧ ¬ offR (refD op) ks.length := by
  unfold fitsS at h
  by_cases h1 : (refS op).isSome = true
  · rw [if_pos h1] at h
    refine ⟨h1, fun ho => ?_⟩
    unfold fitsF at h
    cases hb : badI (refD op) 0 ks with
    | some i => rw [hb] at h; cases h
    | none => rw [hb] at h; dsimp only at h; rw [if_pos ho] at h; cases h
  · rw [if_neg h1] at h; cases h
theorem idL_bd {t : Tx} {bound : Int} (h : idL t bound ≠ 0) : 1 ≤ idL t bound ∧ idL t bound < bound := by
  unfold idL at h ⊢
  split
  · assumption
  · rename_i q; rw [if_neg q] at h; exact absurd rfl h
theorem line_fault {fm : FormL} {bound : Int} {said : Bool} {ty res : Int} {l : List TokL} (hfm : refD fm.op = fm) (hr : fm.res = said) (hres : said = true → 1 ≤ res ∧ res < bound) (hres0 : said = false → res = 0) (hty : fm.ty = true → 1 ≤ ty ∧ ty < bound) (hty0 : fm.ty = false → ty = 0)
    (ha : (argsT fm bound 0 l).2.1 = 0) (hf : (fitsS fm.op ((argsT fm bound 0 l).1.map ArgP.kind)).2 = true) :
    faultF bound ⟨fm.op, ty, res, (argsT fm bound 0 l).1⟩ = if roomI fm (argsT fm bound 0 l).1 > 65535 then 25 else 0 := by
  have h1 := fits_off hf
  have h2 := argsT_ok ha
  unfold faultF
  dsimp only
  rw [hfm] at h1 ⊢
  have ht : idH fm.ty ty bound 40 = 0 := by
    unfold idH
    cases hb : fm.ty with
    | false => rw [hty0 hb]; simp
    | true => have := hty hb; rw [if_neg (by simp; omega), if_neg (by simp; omega)]
  have hs : idH fm.res res bound 41 = 0 := by
    unfold idH
    rw [hr]
    cases hb : said with
    | false => rw [hres0 hb]; simp
    | true => have := hres hb; rw [if_neg (by simp; omega), if_neg (by simp; omega)]
  rw [if_neg (by rw [h1.1]; simp), if_neg (by rw [ht]; simp), if_neg (by rw [hs]; simp), if_neg (by rw [h2.1]; simp), if_neg (by have := h1.2; rwa [List.length_map] at this)]
end Go.SK
namespace Go.SK
theorem find_refD_small : refT.all (fun f => decide (refS f.op = some f)) = true := by decide +kernel
theorem find_refD {q : Tx} {fm : FormL} (h : refT.find? (nmF q) = some fm) : refS fm.op = some fm ∧ refD fm.op = fm ∧ fm.name = q := by
  have h1 : refS fm.op = some fm := by simpa only [decide_eq_true_eq] using List.all_eq_true.1 find_refD_small fm (List.mem_of_find?_eq_some h)
  refine ⟨h1, by rw [refD, h1]; rfl, by simpa using List.find?_some h⟩
structure ArI (fm : FormL) (bound : Int) (l : List TokL) (q j : Nat) (ags : List ArgP) : Prop where
  le : q + j ≤ l.length
  len : ags.length = j
  eq : argsT fm bound 0 (l.drop q) = (ags ++ (argsT fm bound j (l.drop (q + j))).1, (argsT fm bound j (l.drop (q + j))).2)
  tx : ∀ a ∈ ags, 4 * a.s.length ≤ wsz l
  sum : 4 * (ags.map argRoom).sum + wsz (l.drop (q + j)) ≤ wsz (l.drop q) + 4 * j
section
variable {fm : FormL} {bound : Int} {l : List TokL} {q j : Nat} {ags : List ArgP}
theorem ArI.start (h : q ≤ l.length) : ArI fm bound l q 0 [] := ⟨h, rfl, rfl, fun a h => absurd h List.not_mem_nil, by simp⟩
theorem argT_room {c : Int} {t : TokL} {bound : Int} (hc : 0 ≤ c ∧ c ≤ 255) (h : (argT c t bound).2 = 0) : argRoom (argT c t bound).1 ≤ t.text.length / 4 + 1 := by
  have h1 := (argT_ok hc h).2.2.2
  unfold argRoom
  split
  · have := Nat.div_le_div_right (c := 4) h1; omega
  · omega
theorem ArI.step (h : ArI fm bound l q j ags) (hj : q + j < l.length) (he : (argT (letterS fm j) (l.getD (q + j) tok0) bound).2 = 0) : ArI fm bound l q (j + 1) (ags ++ [(argT (letterS fm j) (l.getD (q + j) tok0) bound).1]) := by
  have hd := drop_tok hj
  have hr := argT_room (letterS_bd fm j) he
  have ht := (argT_ok (letterS_bd fm j) he).2.2.2
  have hw := wsz_get (l := l) (i := q + j) hj
  have hm := wsz_mem hj
  refine ⟨by omega, by rw [List.length_append, h.len]; rfl, ?_, fun a ha => ?_, ?_⟩
  · rw [h.eq, hd, argsT, if_neg (by rw [he]; simp), List.append_assoc, ← Nat.add_assoc]; rfl
  · rcases List.mem_append.1 ha with ha | ha
    · exact h.tx a ha
    · obtain rfl := List.mem_singleton.1 ha; omega
  · have hs := h.sum
    rw [List.map_append, List.sum_append, List.map_singleton, List.sum_singleton, ← Nat.add_assoc]
    omega
theorem ArI.fin (h : ArI fm bound l q j ags) (hj : l.length ≤ q + j) : argsT fm bound 0 (l.drop q) = (ags, (0, 0)) := by
  rw [h.eq, List.drop_eq_nil_of_le hj, argsT, List.append_nil]
end
end Go.SK
namespace Go.SK
structure PaL where
  gn : Int
  bd : Int
  words : Nat
  insts : List InstL
def zeroD (e a : Int) : DecL := ((0, 0, []), (e, a))
def parS (x : Tx) (s : PaL) : Except Int PaL :=
  if s.words = 0 then
    if (toksF x).2.1 = 0 ∧ (toksF x).1.length = 0 then .ok s
    else if (headF x).2.1 ≠ 0 then .error (headF x).2.1
    else .ok ⟨(headF x).1.1, (headF x).1.2, 5, []⟩
  else if (lineF x s.bd).2.2.1 ≠ 0 then .error (lineF x s.bd).2.2.1
  else if (lineF x s.bd).2.1 = false then .ok s
  else if s.words + roomI (refD (lineF x s.bd).1.op) (lineF x s.bd).1.args > 1048576 then .error 4
  else .ok ⟨s.gn, s.bd, s.words + roomI (refD (lineF x s.bd).1.op) (lineF x s.bd).1.args, s.insts ++ [(lineF x s.bd).1]⟩
def parL : Nat → List Tx → PaL → DecL
  | n, [], s => if s.words = 0 then zeroD 72 n else ((s.gn, s.bd, s.insts), (0, 0))
  | n, x :: r, s => match parS x s with
    | .error e => zeroD e (n + 1)
    | .ok t => parL (n + 1) r t
structure PaI (t : Tx) (i : Nat) (s : PaL) : Prop where
  le : i ≤ (lnF t).length
  eq : parL 0 (lnF t) ⟨0, 0, 0, []⟩ = parL i ((lnF t).drop i) s
  words : s.words ≤ 1048576
  small : s.insts.length ≤ s.words
theorem drop_line {l : List Tx} {i : Nat} (h : i < l.length) : l.drop i = l.getD i [] :: l.drop (i + 1) := by
  rw [List.drop_eq_getElem_cons h]; simp [List.getD, h]
section
variable {t : Tx} {i : Nat} {s s' : PaL}
theorem PaI.start : PaI t 0 ⟨0, 0, 0, []⟩ := ⟨Nat.zero_le _, rfl, Nat.zero_le _, Nat.le_refl _⟩
theorem PaI.step (h : PaI t i s) (hi : i < (lnF t).length) (he : parS ((lnF t).getD i []) s = .ok s') : PaI t (i + 1) s' := by
  refine ⟨hi, by rw [h.eq, drop_line hi, parL, he], ?_, ?_⟩
  · have h1 := h.words
    unfold parS at he
    split at he
    · split at he
      · cases he; omega
      · split at he
        · cases he
        · cases he; dsimp only; omega
    · split at he
      · cases he
      · split at he
        · cases he; omega
        · split at he
          · cases he
          · cases he; dsimp only; omega
  · have h1 := h.small
    unfold parS at he
    split at he
    · split at he
      · cases he; omega
      · split at he
        · cases he
        · cases he; exact Nat.zero_le _
    · split at he
      · cases he
      · split at he
        · cases he; omega
        · split at he
          · cases he
          · cases he; dsimp only; rw [List.length_append, List.length_singleton]; unfold roomI; omega
theorem PaI.fin (h : PaI t (lnF t).length s) : parL 0 (lnF t) ⟨0, 0, 0, []⟩ = if s.words = 0 then zeroD 72 (lnF t).length else ((s.gn, s.bd, s.insts), (0, 0)) := by
  rw [h.eq, List.drop_eq_nil_of_le (Nat.le_refl _), parL]
end
end Go.SK
namespace Go.SK
structure InstL.U32 (i : InstL) : Prop where
  ty : 0 ≤ i.ty ∧ i.ty < 4294967296
  res : 0 ≤ i.res ∧ i.res < 4294967296
  args : ∀ a ∈ i.args, 0 ≤ a.n ∧ a.n < 4294967296
end Go.SK
namespace Go.SK
theorem enums_u32 : namesL.all (fun x => decide (0 ≤ x.n ∧ x.n < 4294967296)) = true := by decide +kernel
theorem numLx_u32 (s : Tx) : 0 ≤ (numLx s).1 ∧ (numLx s).1 < 4294967296 := by
  unfold numLx
  cases h : plainF s with
  | some n => have := (plR_of h).2; dsimp only; omega
  | none =>
    dsimp only
    split
    · cases h2 : plainF (s.drop 1) with
      | none => exact ⟨by decide, by decide⟩
      | some n =>
        dsimp only
        split
        · dsimp only; omega
        · exact ⟨by decide, by decide⟩
    · split
      · exact ⟨by decide, by decide⟩
      · rename_i h3
        cases h2 : hexsF (s.drop 2) 0 with
        | none => exact ⟨by decide, by decide⟩
        | some n => have := hexs_bd h2 (by rw [List.length_drop]; omega); dsimp only; omega
theorem argT_u32 {c bound : Int} {t : TokL} (hb : bound ≤ 65536) : 0 ≤ (argT c t bound).1.n ∧ (argT c t bound).1.n < 4294967296 := by
  unfold argT
  split
  · exact ⟨by decide, by decide⟩
  split
  · split
    · exact ⟨by decide, by decide⟩
    · rename_i h
      have := idL_bd h
      dsimp only; omega
  split
  · split
    · exact ⟨show (0 : Int) ≤ 0 by decide, show (0 : Int) < 4294967296 by decide⟩
    · exact numLx_u32 _
  split
  · split
    · exact ⟨show (0 : Int) ≤ 0 by decide, show (0 : Int) < 4294967296 by decide⟩
    · exact ⟨show (0 : Int) ≤ 0 by decide, show (0 : Int) < 4294967296 by decide⟩
  split
  · exact ⟨by decide, by decide⟩
  · rename_i h
    cases hf : namesL.find? (enS c t.text) with
    | none => rw [hf] at h; exact absurd rfl h
    | some x => exact of_decide_eq_true (List.all_eq_true.1 enums_u32 x (List.mem_of_find?_eq_some hf))
theorem argsT_u32 {fm : FormL} {bound : Int} (hb : bound ≤ 65536) : ∀ (l : List TokL) (k : Nat), ∀ a ∈ (argsT fm bound k l).1, 0 ≤ a.n ∧ a.n < 4294967296
  | [], k, a, h => by cases h
  | t :: r, k, a, h => by
    unfold argsT at h
    split at h
    · cases h
    · rcases List.mem_cons.1 h with rfl | h
      · exact argT_u32 hb
      · exact argsT_u32 hb r (k + 1) a h
theorem lineO_good {n bound : Int} {l : List TokL} {fm : FormL} (hfm : refD fm.op = fm) (hb : bound ≤ 65536) (h : (lineO n l bound fm).2.2.1 = 0) : (lineO n l bound fm).2.1 = true ∧ faultF bound (lineO n l bound fm).1 = 0 ∧ (lineO n l bound fm).1.U32 ∧ (lineO n l bound fm).2.2 = (0, 0) := by
  unfold lineO at h ⊢
  split at h
  · cases h
  rename_i h1
  rw [if_neg h1]
  split at h
  · cases h
  rename_i h2
  rw [if_neg h2]
  split at h
  · cases h
  rename_i h3
  rw [if_neg h3]
  split at h
  · cases h
  rename_i h4
  rw [if_neg h4]
  split at h
  · cases h
  rename_i h5
  rw [if_neg h5]
  split at h
  · rename_i h6; exact absurd h h6
  rename_i h6
  rw [if_neg h6]
  split at h
  · cases h
  rename_i h7
  rw [if_neg h7]
  split at h
  · cases h
  rename_i h8
  rw [if_neg h8]
  have e1 := Classical.not_not.1 h1
  have hres : decide ((l.getD 0 tok0).kind = 2) = true → 1 ≤ (if (l.getD 0 tok0).kind = 2 then idL (l.getD 0 tok0).text bound else 0) ∧ (if (l.getD 0 tok0).kind = 2 then idL (l.getD 0 tok0).text bound else 0) < bound := fun hk => by
    have hk := of_decide_eq_true hk
    rw [if_pos hk]; exact idL_bd fun e => h2 ⟨hk, e⟩
  have hres0 : decide ((l.getD 0 tok0).kind = 2) = false → (if (l.getD 0 tok0).kind = 2 then idL (l.getD 0 tok0).text bound else 0) = 0 := fun hk => if_neg (of_decide_eq_false hk)
  have hty : fm.ty = true → 1 ≤ (if fm.ty = true then idL (l.getD (opAt l + 1) tok0).text bound else 0) ∧ (if fm.ty = true then idL (l.getD (opAt l + 1) tok0).text bound else 0) < bound := fun hk => by
    rw [if_pos hk]; exact idL_bd fun e => h5 ⟨hk, e⟩
  have hty0 : fm.ty = false → (if fm.ty = true then idL (l.getD (opAt l + 1) tok0).text bound else 0) = 0 := fun hk => if_neg (by rw [hk]; simp)
  have hf := line_fault (ty := if fm.ty = true then idL (l.getD (opAt l + 1) tok0).text bound else 0) (res := if (l.getD 0 tok0).kind = 2 then idL (l.getD 0 tok0).text bound else 0) hfm e1 hres hres0 hty hty0 (Classical.not_not.1 h6) (by simpa using h7)
  refine ⟨rfl, by rw [hf, if_neg h8], ⟨?_, ?_, argsT_u32 hb _ _⟩, rfl⟩
  · dsimp only
    cases ht : fm.ty with
    | false => rw [if_neg (by simp)]; exact ⟨by decide, by decide⟩
    | true => have := hty ht; rw [ht] at this; rw [if_pos rfl] at this ⊢; omega
  · dsimp only
    by_cases hk : (l.getD 0 tok0).kind = 2
    · have := hres (decide_eq_true hk); omega
    · rw [if_neg hk]; exact ⟨by decide, by decide⟩
theorem lineF_good {x : Tx} {bound : Int} (hb : bound ≤ 65536) (h : (lineF x bound).2.2.1 = 0) : (lineF x bound).2.2 = (0, 0) ∧ ((lineF x bound).2.1 = true → faultF bound (lineF x bound).1 = 0 ∧ (lineF x bound).1.U32) := by
  unfold lineF at h ⊢
  split at h
  · rename_i h1; exact absurd h h1
  rename_i h1
  rw [if_neg h1]
  unfold lineL at h ⊢
  split at h
  · rename_i h2
    rw [if_pos h2]; exact ⟨rfl, fun q => by cases q⟩
  rename_i h2
  rw [if_neg h2]
  split at h
  · cases h
  rename_i h3
  rw [if_neg h3]
  split at h
  · cases h
  rename_i h4
  rw [if_neg h4]
  split at h
  · cases h
  rename_i h5
  rw [if_neg h5]
  split at h
  · cases h
  rename_i h6
  rw [if_neg h6]
  split at h
  · cases h
  rename_i h7
  rw [if_neg h7]
  cases hf : refT.find? (nmF ((toksF x).1.getD (opAt (toksF x).1) tok0).text) with
  | none => rw [hf] at h7; exact absurd rfl h7
  | some fm =>
    rw [hf, Option.getD_some] at h
    rw [Option.getD_some]
    have hg := lineO_good (find_refD hf).2.1 hb h
    exact ⟨hg.2.2.2, fun _ => ⟨hg.2.1, hg.2.2.1⟩⟩
structure PaG (s : PaL) : Prop where
  none : s.words = 0 → s.insts = []
  gn : 0 ≤ s.gn ∧ s.gn < 4294967296
  bd : s.words ≠ 0 → 1 ≤ s.bd ∧ s.bd ≤ 65536
  words : s.words ≠ 0 → s.words = 5 + (s.insts.map fun i => roomI (refD i.op) i.args).sum
  le : s.words ≤ 1048576
  ok : ∀ i ∈ s.insts, faultF s.bd i = 0 ∧ i.U32
theorem headL_good {n : Int} {l : List TokL} (h : (headL n l).2.1 = 0) : (0 ≤ (headL n l).1.1 ∧ (headL n l).1.1 < 4294967296) ∧ (1 ≤ (headL n l).1.2 ∧ (headL n l).1.2 ≤ 65536) ∧ (headL n l).2 = (0, 0) := by
  unfold headL at h ⊢
  split at h
  · cases h
  rename_i h1
  rw [if_neg h1]
  split at h
  · cases h
  rename_i h2
  rw [if_neg h2]
  split at h
  · cases h
  rename_i h3
  rw [if_neg h3]
  split at h
  · cases h
  rename_i h4
  rw [if_neg h4]
  split at h
  · rename_i q; exact absurd h q
  rename_i h5
  rw [if_neg h5]
  split at h
  · cases h
  rename_i h6
  rw [if_neg h6]
  split at h
  · cases h
  rename_i h7
  rw [if_neg h7]
  split at h
  · rename_i q; exact absurd h q
  rename_i h8
  rw [if_neg h8]
  split at h
  · cases h
  rename_i h9
  rw [if_neg h9]
  split at h
  · cases h
  rename_i h10
  rw [if_neg h10]
  exact ⟨numLx_u32 _, by dsimp only; omega, rfl⟩
theorem headF_good {x : Tx} (h : (headF x).2.1 = 0) : (0 ≤ (headF x).1.1 ∧ (headF x).1.1 < 4294967296) ∧ (1 ≤ (headF x).1.2 ∧ (headF x).1.2 ≤ 65536) ∧ (headF x).2 = (0, 0) := by
  unfold headF at h ⊢
  split at h
  · rename_i q; exact absurd h q
  rename_i h1
  rw [if_neg h1]
  exact headL_good h
theorem PaG.start : PaG ⟨0, 0, 0, []⟩ := ⟨fun _ => rfl, ⟨by decide, by decide⟩, fun h => absurd rfl h, fun h => absurd rfl h, by decide, fun i h => by cases h⟩
theorem PaG.step {s s' : PaL} {x : Tx} (g : PaG s) (h : parS x s = .ok s') : PaG s' := by
  unfold parS at h
  split at h
  · rename_i h0
    split at h
    · cases h; exact g
    · split at h
      · cases h
      · rename_i h2
        cases h
        have hg := headF_good (Classical.not_not.1 h2)
        exact ⟨fun q => (by cases q), hg.1, fun _ => hg.2.1, fun _ => rfl, show (5 : Nat) ≤ 1048576 by decide, fun i hi => (by cases hi)⟩
  · rename_i h0
    split at h
    · cases h
    · rename_i h1
      have hg := lineF_good (g.bd h0).2 (Classical.not_not.1 h1)
      split at h
      · cases h; exact g
      · rename_i h2
        split at h
        · cases h
        · rename_i h3
          cases h
          have hi := hg.2 (by simpa using h2)
          refine ⟨fun q => absurd q (by dsimp only; omega), g.gn, fun _ => g.bd h0, fun _ => ?_, by dsimp only; omega, fun i hi2 => ?_⟩
          · have := g.words h0
            dsimp only
            rw [List.map_append, List.sum_append, List.map_singleton, List.sum_singleton]; omega
          · rcases List.mem_append.1 hi2 with hi2 | hi2
            · exact g.ok i hi2
            · obtain rfl := List.mem_singleton.1 hi2; exact hi
end Go.SK
namespace Go.SK
open Go.RowKit
variable {P : Program} {b : Base} {k : List Item} {E : Frame → World → Prop} {ops : Array Oper} {f : Nat → Value} {w0 w : World} {M : Nat → Prop} {L D : List Res} {pd : Pend} {tk : Takes} {bs : List Nat} {ds : List (Option Nat)} {i : Nat} {l : List Oper} {ws : Nat → Word}
theorem RunD.opP {d : Option Tmp} {op : Op} {ty : TypeId} {pos : String} {aft : Array Edge} (wd : PWord) (htab : DrawTab ops bs ds) (i' : Nat)
    (hv : ∀ f' L' w', Know1 tk bs ds f w0 M L D i ws f' L' w' → (∀ j r r', (j, r, r') ∈ pd → bitB (bs.getD j 0) i = true → r ∈ L') → Op1 P op ty (ev b.n f') w' (fun v w'' => ∃ rs, wd v rs ∧ St w0 M (rs ++ (L' ++ L)) D w''))
    (h : RunD tk pd P b ops bs ds k E f w0 M L D w i' l (updW ws i (cw wd))) (hi : i + 1 = i' := by rfl) (hd : isDefer op = false := by rfl) (hp : (pd.all fun p => !(Nat.beq p.1 i)) = true := by rfl) (hk : tkNo tk i = true := by rfl) : RunD tk pd P b ops bs ds k E f w0 M L D w i (⟨d, op, ty, pos, aft, none⟩ :: l) ws := by
  subst hi
  refine RunD.cons (cw wd) (fun ho φ hφ hi2 o ho' f' L' L'' w' hc => ?_) h
  rw [ho] at ho'
  obtain rfl := Option.some.inj ho'
  refine .inl ⟨rfl, hd, ?_⟩
  have := hv f' L' w' (know1_of htab hφ ho hc) (fun j r r' hp hb => hc.later (j, r, r') hp (by rw [htab.waits, bitB_eq]; exact hb))
  rw [hi2, hc.turn.same (plain_of hp) (tkNo_spec hk)]
  exact this
theorem Rem.perm2 {r : Res} {A X : List Res} (h : Rem r A X) : A.Perm (r :: X) := by
  induction h with
  | here => exact List.Perm.refl _
  | there _ ih => exact (List.Perm.cons _ ih).trans (List.Perm.swap _ _ _)
theorem Rem.mem2 {r : Res} {A X : List Res} (h : Rem r A X) : r ∈ A := (h.perm2.mem_iff).2 (.head _)
theorem St.callRem {A X : List Res} {r r' : Res} {w' w'' : World} (h : St w0 M A D w') (hr : Rem r A X) (hc : St w' r.foot [r'] [] w'') : St w0 M (r' :: X) D w'' :=
  (h.perm hr.perm2).call1 hc
end Go.SK
namespace Go.SK
open Go Go.Proofs
theorem ty3 : TyF Tryd.prog 3 (.int .i64) 1 8 [.int .i64 0] := TyF.of (by kernel_rfl) (by kernel_rfl)
theorem ent76 : Enters Tryd.prog 76 := ⟨Tryd.f76, _, Tryd.func76, by kernel_rfl, rfl⟩
theorem ty149 : TyF Tryd.prog 149 (.array 24 5) 24 24 [.int .u8 0, .int .u8 0, .int .u8 0, .int .u8 0, .int .u8 0, .int .u8 0, .int .u8 0, .int .u8 0, .int .u8 0, .int .u8 0, .int .u8 0, .int .u8 0, .int .u8 0, .int .u8 0, .int .u8 0, .int .u8 0, .int .u8 0, .int .u8 0, .int .u8 0, .int .u8 0, .int .u8 0, .int .u8 0, .int .u8 0, .int .u8 0] := TyF.of (by kernel_rfl) (by kernel_rfl)
theorem ent77 : Enters Tryd.prog 77 := ⟨Tryd.f77, _, Tryd.func77, by kernel_rfl, rfl⟩
theorem ent78 : Enters Tryd.prog 78 := ⟨Tryd.f78, _, Tryd.func78, by kernel_rfl, rfl⟩
theorem ty56 : TyF Tryd.prog 56 (.slice 5) 1 24 [.slice none 0 0] := TyF.of (by kernel_rfl) (by kernel_rfl)
theorem ent57 : Enters Tryd.prog 57 := ⟨Tryd.f57, _, Tryd.func57, by kernel_rfl, rfl⟩
end Go.SK
namespace Go.SK
open Go Go.Proofs
open Go.RowKit
theorem lx_FB (b u k : Nat) (xs : List Value) (hx : xs = List.replicate 24 (Value.int .u8 0)) (w : World) (hR : (Res.row b 149 xs).holds w) (hk : k = Lib.nDigits u) (hu : u < 4294967296) : Ret Tryd.prog 78 #[.slice (some ⟨b, 0, none⟩) k 24, .int .u64 (u : Int)] w (fun v w' => ∃ ys, (ys.drop 0).take k = (Lib.decDigits u).flatMap byC ∧ v = .tuple #[] ∧ St w (Res.row b 149 xs).foot [Res.row b 149 ys] [] w') := by
 have h10 : Lib.nDigits u ≤ 10 := nDigits_le (u := u) (k := 9) (by omega)
 have hsz : (Array.replicate k (0 : UInt8)).size = k := by simp
 have hpow := Lib.lt_pow_nDigits u
 have hc := Any.internal_strconv_formatBase10 lx_lays285 b 0 24 u (Array.replicate k (0 : UInt8)) w (fun j hj => ?_) (by rw [hsz, hk]; exact hpow) (by omega) (by rw [hsz]; omega)
 · rw [hsz] at hc
   refine Calls.mono hc ?_
   rintro e w' ⟨he, n, v', dk, rfl, hf⟩
   obtain ⟨hkp, hnew⟩ := putRow_kept (fun (b : UInt8) => Value.int .u8 (b.toNat : Int)) w b 0 dk n hR
   refine ⟨_, he, _, ?_, rfl, (St.enter1 hR (fun d hd => by cases hd) (fun d hd => by cases hd)).upd .here hkp (r' := Res.row b 149 (Sort.putCells (fun (b : UInt8) => Value.int .u8 (b.toNat : Int)) 0 dk xs.toArray).toList) ?_ (fun c hc => .inl hc)⟩
   · rw [List.drop_zero]; exact fmt_row hf hk xs (by rw [hx, List.length_replicate]; omega)
   · show _ = some _
     rw [hnew]
 · rw [hsz] at hj
   have hR' : w.heap[b]? = some (.cells xs.toArray 149 (0, 0)) := hR
   refine ⟨?_, by simp [World.frozen?, hR']⟩
   have hx2 : xs[j]? = some (.int .u8 0) := by rw [hx, List.getElem?_replicate, if_pos (by omega)]
   simp [World.cell?, hR', hx2, hj]
theorem R6lx_iFU (u : Nat) (hu : u < 4294967296) (w : World) (hG : LxG.holds w) : Ret Tryd.prog 57 #[.int .u64 (u : Int), .int .i64 10] w (fun v w' => v = str (Lib.decDigits u) ∧ St w NoM [] [] w') := by
 refine Ret.enter (args := [.int .u64 (u : Int), .int .i64 10]) Tryd.func57 rfl rfl rfl ?_
 have hst : St w NoM [] [LxG] w := St.init_Ds (by simp only [List.forall_mem_cons]; exact ⟨hG, fun _ h => absurd h List.not_mem_nil⟩)
 have h10 : Lib.nDigits u ≤ 10 := nDigits_le (u := u) (k := 9) (by omega)
 have hpos := Lib.nDigits_pos u
 refine SR <| AS rfl <| NL <| SQ <| SR <| MI rfl <| CN <| Op1.eql rfl rfl <| NL <| run_cond_dec rfl (fun g1 => ?_) (fun g1 => ?_)
 · skip
   refine SQ <| SR <| CN <| Op1.move (v := .int .u64 _) rfl <| CN <| Op1.lss rfl rfl <| NL <| run_cond_dec rfl (fun g2 => ?_) (fun g2 => ?_)
   · skip
     refine SR <| CN (Op1.move (v := .int .u64 _) rfl ?_)
     first | refine CN (Op1.convN ty76 ty3 rfl (wrap_i64 (by omega) (by omega)) ?_) | refine CN (Op1.conv ty76 ty3 rfl ?_)
     refine CN <| Op1.call1 (v1 := .int .i64 _) ent76 rfl rfl <| Ret.det (lx_small u (by omega) _) hst fun w hst => AS rfl <| NL <| run_ret1 Tryd.func57 rfl (TP (v := str _) rfl) ?_
     exact ⟨rfl, hst.pure⟩
   refine run_skip <| SR <| CN <| Op1.alloc hst ty149 fun w b5 hst => NSR <| CN <| Op1.move (v := .int .u64 _) rfl <| CN <| Op1.call1 (v1 := .int .u64 _) ent77 rfl rfl <| Ret.det (lx_numDigits u _ (hst.hD _ (.head _)) (by omega) (by omega)) hst fun w hst => AI rfl <| NSR <| MI rfl <| CN (Op1.sliceArrTo (hi := Lib.nDigits u) ty149 ty5 rfl rfl rfl (by omega) ?_)
   refine CN <| Op1.move (v := .int .u64 _) rfl <| CN (Op1.call2 (v1 := .slice _ _ _) (v2 := .int .u64 _) ent78 rfl rfl rfl ((lx_FB b5 u _ _ rfl _ (hst.hL _ (.head _)) rfl (by omega)).mono fun v w hp => ?_))
   obtain ⟨ys, hys, rfl, hp⟩ := hp
   replace hst := hst.call1 hp
   clear hp
   replace hst : St _ _ [Res.row b5 149 ys] _ _ := hst
   refine NSR <| MI rfl <| CN <| Op1.sliceArrTo (hi := Lib.nDigits u) ty149 ty5 rfl rfl rfl (by omega) <| CN <| Op1.bytesStr2 (l := Lib.decDigits u) ty56 ty5 ty9 rfl (dec_len u).symm ⟨by rw [flat_len (es := 1) (fun _ => rfl), dec_len, Nat.mul_one], .inr ⟨b5, 0, rfl, cells_of_obj (n := Lib.nDigits u) (hst.objL (.head _)) _ hys⟩⟩ rfl <| AS rfl <| NL <| run_ret1 Tryd.func57 rfl (TP (v := str _) rfl) ?_
   exact ⟨rfl, hst.pure⟩
 exfalso
 exact g1 rfl
theorem R6lx_FU (u : Nat) (hu : u < 4294967296) (w : World) (hG : LxG.holds w) : Ret Tryd.prog 39 #[.int .u64 (u : Int), .int .i64 10] w (fun v w' => v = str (Lib.decDigits u) ∧ St w NoM [] [] w') := by
 refine Ret.enter (args := [.int .u64 (u : Int), .int .i64 10]) Tryd.func39 rfl rfl rfl ?_
 have hst : St w NoM [] [LxG] w := St.init_Ds (by simp only [List.forall_mem_cons]; exact ⟨hG, fun _ h => absurd h List.not_mem_nil⟩)
 refine SR <| AS rfl <| NSR <| CN <| Op1.move (v := .int .u64 _) rfl <| MI rfl <| CN <| Op1.call2 (v1 := .int .u64 _) (v2 := .int .i64 _) ent57 rfl rfl rfl <| Ret.det (R6lx_iFU u hu _ (hst.hD _ (.head _))) hst fun w hst => AS rfl <| NL <| run_ret1 Tryd.func39 rfl (TP (v := str _) rfl) ?_
 exact ⟨rfl, hst.pure⟩
end Go.SK
namespace Go.SK
open Go Go.Proofs
theorem ty181 : TyF Tryd.prog 181 (.int .i64) 1 8 [.int .i64 0] := TyF.of (by kernel_rfl) (by kernel_rfl)
theorem ty169 : TyF Tryd.prog 169 (.int .u64) 1 8 [.int .u64 0] := TyF.of (by kernel_rfl) (by kernel_rfl)
theorem ent108 : Enters Tryd.prog 108 := ⟨Tryd.f108, _, Tryd.func108, by kernel_rfl, rfl⟩
end Go.SK
namespace Go.SK
open Go Go.Proofs
open Go.RowKit
theorem R6lx_iPU16 (s : Tx) (hl : s.length ≤ 8) (w : World) : Ret Tryd.prog 87 #[str s, .int .i64 16, .int .i64 32] w (fun v w' => ((∃ n, s.length ≠ 0 ∧ hexsF s 0 = some n ∧ v = .tuple #[.int .u64 (n : Int), .nilIface]) ∨ ((s.length = 0 ∨ hexsF s 0 = none) ∧ v = .tuple #[.int .u64 0, .iface 181 (.int .i64 2)])) ∧ St w NoM [] [] w') := by
 refine Ret.enter (args := [str s, .int .i64 16, .int .i64 32]) Tryd.func87 rfl rfl rfl ?_
 have hst := St.init w
 refine SR <| CN <| Op1.assign (v := .int .u64 _) rfl <| CN <| Op1.assign (v := .nilIface) rfl <| NL <| SQ <| SR <| MS rfl <| CN <| Op1.eqlS rfl rfl <| NL <| run_cond_dec rfl (fun g1 => ?_) (fun g1 => ?_)
 · skip
   refine SR <| CN <| Op1.mkIface (v := .int .i64 _) ty181 rfl rfl <| CN <| Op1.assign (v := .int .u64 _) rfl <| CN <| Op1.assign (v := .iface _ _) rfl <| NL <| run_ret2 Tryd.func87 rfl (TP (v := .int .u64 _) rfl) (TP (v := .iface _ _) rfl) ?_
   subst g1
   exact ⟨.inr ⟨.inl rfl, rfl⟩, hst.pure⟩
 refine run_skip <| SR <| MI rfl <| CN <| Op1.eql rfl rfl <| AB rfl <| NSR <| MS rfl <| AS rfl <| NL <| SQ <| run_block <| SQ ?_
 refine RG <| MI rfl <| CN <| Op1.leq rfl rfl <| MB rfl <| RunL.splitD (d := 28) rfl (fun g2 => ?_) (fun g2 => ?_)
 · skip
   refine TK (t := 28) rfl (congrArg Value.bool (decide_eq_true g2)) <| Op1.move (v := .int .i64 _) rfl <| TK (t := 28) rfl (congrArg Value.bool (decide_eq_true g2)) <| Op1.leq rfl rfl <| CN <| Op1.pickT (u := .bool _) (congrArg Value.bool (decide_eq_true g2)) rfl <| AB rfl <| NL <| run_cond_dec rfl (fun g3 => ?_) (fun g3 => ?_)
   · skip
     refine run_skip <| run_inBlock <| SQ <| SR <| MI rfl <| CN <| Op1.eql rfl rfl <| NL <| run_cond_dec rfl (fun g4 => ?_) (fun g4 => ?_)
     · skip
       exfalso
       omega
     refine SR <| MI rfl <| CN <| Op1.lss rfl rfl <| MB rfl <| RunL.splitD (d := 80) rfl (fun g5 => ?_) (fun g5 => ?_)
     · skip
       exfalso
       omega
     refine TK (t := 80) rfl (congrArg Value.bool (decide_eq_false g5)) <| Op1.move (v := .int .i64 _) rfl <| TK (t := 80) rfl (congrArg Value.bool (decide_eq_false g5)) <| Op1.gtr rfl rfl <| CN <| Op1.pickF (u := .bool _) (congrArg Value.bool (decide_eq_false g5)) rfl <| NL <| Run.forget [(0, str _), (1, .int .i64 _), (2, .int .i64 _), (8, .bool _), (9, str _), (83, .bool _)] ⟨rfl, rfl, rfl, rfl, rfl, rfl, trivial⟩ fun f => run_cond_dec rfl (fun g6 => ?_) (fun g6 => ?_)
     · skip
       exfalso
       omega
     refine run_skip <| SR <| CN <| Op1.assign (v := .int .u64 _) rfl <| NL <| SQ <| SR <| MI rfl <| NL <| run_block <| SR <| CN <| Op1.eql rfl rfl <| AB rfl ?_
     refine NL <| run_cond_dec rfl (fun g7 => ?_) (fun g7 => ?_)
     · skip
       exfalso
       omega
     refine SR <| CN <| Op1.eql rfl rfl <| AB rfl <| NL <| run_cond_dec rfl (fun g8 => ?_) (fun g8 => ?_)
     · skip
       refine RG <| CN <| Op1.assign (v := .int .u64 _) rfl <| NL <| run_inBlock <| SR <| MI rfl ?_
       first | refine CN (Op1.convN ty3 ty169 rfl (wrap_u64 (by omega) (by omega)) ?_) | refine CN (Op1.conv ty3 ty169 rfl ?_)
       refine CN <| Op1.shlV (c := 4294967296) rfl rfl (by omega) (by decide) (by decide) <| CN <| Op1.subN rfl rfl rfl (wrap_u64 (by omega) (by omega)) <| CN <| Op1.assign (v := .int .u64 _) rfl <| NSR <| AB rfl <| NSR <| CN <| Op1.assign (v := .int .u64 _) rfl <| NL <| SQ <| SQ <| RG ?_
       refine MS rfl <| CN <| Op1.strBytes hst ty9 ty56 ty5 rfl fun w by_ cpb hst => CN <| Op1.lenSl (rest := []) ty56 rfl <| MI rfl <| NL <| run_block <| run_loop <| Run.indW [(1, .int .i64 _), (8, .bool _), (9, str _), (10, .int .u64 _), (11, .int .u64 _), (99, .slice _ _ _), (100, .int .i64 _)] ⟨rfl, rfl, rfl, rfl, rfl, rfl, rfl, trivial⟩ (fun (qq : Nat × Nat) => [(12, .bool false), (13, .int .u64 (qq.2 : Int)), (101, .int .i64 (qq.1 : Int))]) (fun (qq : Nat × Nat) => []) (fun (qq : Nat × Nat) => qq.1 ≤ s.length ∧ qq.2 < 16 ^ qq.1 ∧ hexsF s 0 = hexsF (s.drop qq.1) qq.2) (fun (qq : Nat × Nat) => s.length - qq.1) ((0, 0)) hst ⟨Nat.zero_le _, by decide, rfl⟩ ⟨rfl, rfl, rfl, trivial⟩ ?_
       intro ⟨i, n⟩ f w hst hJ ih9
       replace hst : St _ _ ([] ++ [_]) _ _ := hst
       replace hJ : i ≤ s.length ∧ n < 16 ^ i ∧ hexsF s 0 = hexsF (s.drop i) n := hJ
       refine Run.slots (sl := [(12, .bool false), (13, .int .u64 (n : Int)), (101, .int .i64 (i : Int))]) ⟨rfl, rfl, rfl, trivial⟩ ?_
       have hidx : (s.getD ((i : Int).toNat) 0).toNat = (s.getD i 0).toNat := rfl
       have hidl : bits .or .u8 ((s.getD ((i : Int).toNat) 0).toNat : Int) 32 = bits .or .u8 ((s.getD i 0).toNat : Int) 32 := rfl
       have hlow := low_nat _ (s.getD i 0).toNat_lt
       refine SR <| CN <| Op1.lss rfl rfl <| NL <| SQ <| run_cond_dec rfl (fun g10 => ?_) (fun g10 => ?_)
       · skip
         have hp16 := pow16_le (i := i) (by omega)
         refine run_skip <| SQ <| run_block <| SR <| CN <| Op1.indexRs ty56 ty5 (hst.hL _ (.head _)) rfl rfl (by omega) (by omega) <| CN <| Op1.load1 (v := .int .u8 _) ty5 rfl rfl (Res.rs2_cell (hst.hL _ (.head _)) (flat_cell0 (g := byC) (d := 0) byC_len rfl (by omega))) <| AC rfl <| NSR <| AC rfl <| NL <| SQ <| run_block ?_
         refine SR <| MC rfl <| CN <| Op1.eql rfl rfl <| MB rfl <| RunL.splitD (d := 109) rfl (fun g11 => ?_) (fun g11 => ?_)
         · skip
           refine TK (t := 109) rfl (congrArg Value.bool (decide_eq_true g11)) <| Op1.move (v := .bool _) rfl <| CN <| Op1.pickT (u := .bool _) (congrArg Value.bool (decide_eq_true g11)) rfl <| AB rfl <| NL <| run_cond_dec rfl (fun g12 => ?_) (fun g12 => ?_)
           · skip
             exfalso
             omega
           refine SR <| MC rfl <| CN <| Op1.leq rfl rfl <| MB rfl <| RunL.splitD (d := 115) rfl (fun g13 => ?_) (fun g13 => ?_)
           · skip
             refine TK (t := 115) rfl (congrArg Value.bool (decide_eq_true g13)) <| Op1.move (v := .int .u8 _) rfl <| TK (t := 115) rfl (congrArg Value.bool (decide_eq_true g13)) <| Op1.leq rfl rfl <| CN <| Op1.pickT (u := .bool _) (congrArg Value.bool (decide_eq_true g13)) rfl <| AB rfl <| NL <| run_cond_dec rfl (fun g14 => ?_) (fun g14 => ?_)
             · skip
               refine RG <| MC rfl <| CN <| Op1.subN rfl rfl rfl (wrap_u8 (by omega) (by omega)) <| AC rfl <| NL <| run_inBlock <| Run.forget [(1, .int .i64 _), (8, .bool _), (9, str _), (10, .int .u64 _), (11, .int .u64 _), (12, .bool _), (13, .int .u64 _), (16, .int .u8 _), (99, .slice _ _ _), (100, .int .i64 _), (101, .int .i64 _)] ⟨rfl, rfl, rfl, rfl, rfl, rfl, rfl, rfl, rfl, rfl, rfl, trivial⟩ fun f => SQ <| SR <| MC rfl <| MI rfl ?_
               first | refine CN (Op1.convN ty3 ty5 rfl (wrap_u8 (by omega) (by omega)) ?_) | refine CN (Op1.conv ty3 ty5 rfl ?_)
               refine CN <| Op1.geq rfl rfl <| NL <| run_cond_dec rfl (fun g15 => ?_) (fun g15 => ?_)
               · skip
                 exfalso
                 omega
               have hyd : hexB (s.getD i 0) = true := decide_eq_true (by omega)
               have hwd : (worF (s.getD i 0) : Int) = ((s.getD i 0).toNat : Int) - 48 := by have hq := of_decide_eq_true hyd; unfold worF; split <;> (try split) <;> omega
               refine run_skip <| SQ <| SR <| CN <| Op1.move (v := .int .u64 _) rfl <| CN <| Op1.move (v := .int .u64 _) rfl <| CN <| Op1.geq rfl rfl <| NL <| run_cond_dec rfl (fun g16 => ?_) (fun g16 => ?_)
               · skip
                 exfalso
                 omega
               refine run_skip <| SR <| CN <| Op1.move (v := .int .u64 _) rfl <| MI rfl ?_
               first | refine CN (Op1.convN ty3 ty76 rfl (wrap_u64 (by omega) (by omega)) ?_) | refine CN (Op1.conv ty3 ty76 rfl ?_)
               refine CN <| Op1.mulN rfl rfl rfl (wrap_u64 (by omega) (by omega)) <| CN <| Op1.assign (v := .int .u64 _) rfl <| NSR <| CN <| Op1.move (v := .int .u64 _) rfl <| MC rfl ?_
               first | refine CN (Op1.convN ty5 ty76 rfl (wrap_u64 (by omega) (by omega)) ?_) | refine CN (Op1.conv ty5 ty76 rfl ?_)
               refine CN <| Op1.addN rfl rfl rfl (wrap_u64 (by omega) (by omega)) <| CN <| Op1.assign (v := .int .u64 _) rfl <| NL <| SQ <| SR <| CN <| Op1.move (v := .int .u64 _) rfl <| CN <| Op1.move (v := .int .u64 _) rfl <| CN <| Op1.lss rfl rfl <| MB rfl <| RunL.splitD (d := 155) rfl (fun g17 => ?_) (fun g17 => ?_)
               · skip
                 exfalso
                 omega
               refine TK (t := 155) rfl (congrArg Value.bool (decide_eq_false g17)) <| Op1.move (v := .int .u64 _) rfl <| TK (t := 155) rfl (congrArg Value.bool (decide_eq_false g17)) <| Op1.move (v := .int .u64 _) rfl <| TK (t := 155) rfl (congrArg Value.bool (decide_eq_false g17)) <| Op1.gtr rfl rfl <| CN <| Op1.pickF (u := .bool _) (congrArg Value.bool (decide_eq_false g17)) rfl <| NL <| Run.forget [(1, .int .i64 _), (8, .bool _), (9, str _), (10, .int .u64 _), (11, .int .u64 _), (12, .bool _), (17, .int .u64 _), (99, .slice _ _ _), (100, .int .i64 _), (101, .int .i64 _), (159, .bool _)] ⟨rfl, rfl, rfl, rfl, rfl, rfl, rfl, rfl, rfl, rfl, rfl, trivial⟩ fun f => run_cond_dec rfl (fun g18 => ?_) (fun g18 => ?_)
               · skip
                 exfalso
                 omega
               refine run_skip <| RG <| CN <| Op1.move (v := .int .u64 _) rfl <| CN <| Op1.assign (v := .int .u64 _) rfl <| NL <| run_inBlock <| RG <| CN <| Op1.addN rfl rfl rfl (wrap_i64 (by omega) (by omega)) <| MI rfl <| NL <| run_inLoop ?_
               exact ih9 ((i + 1, 16 * n + worF (s.getD i 0))) _ w (by (try dsimp only); omega) hst (⟨by (try dsimp only); omega, by (try dsimp only); exact pow16_step hJ.2.1 (hex_bd hyd).2, by (try dsimp only); rw [hJ.2.2, hexs_step (by omega) hyd]⟩) ⟨rfl, rfl, rfl, rfl, rfl, rfl, rfl, trivial⟩ ⟨rfl, (congrArg (Value.int .u64) (by (try dsimp only); omega)), (congrArg (Value.int .i64) (by (try dsimp only); omega)), trivial⟩
             refine SR <| MC rfl <| CN <| Op1.call1 (v1 := .int .u8 _) ent108 rfl rfl <| Ret.det (lx_lower _ _) hst fun w hst => CN <| Op1.leq rfl rfl <| MB rfl <| RunL.splitD (d := 125) rfl (fun g19 => ?_) (fun g19 => ?_)
             · skip
               refine TK (t := 125) rfl (congrArg Value.bool (decide_eq_true g19)) <| Op1.move (v := .int .u8 _) rfl <| TK (t := 125) rfl (congrArg Value.bool (decide_eq_true g19)) (Op1.call1 (v1 := .int .u8 _) ent108 rfl rfl ((lx_lower _ _).mono fun v w hp => ?_))
               obtain ⟨rfl, hp⟩ := hp
               replace hst := hst.keepc hp
               clear hp
               refine TK (t := 125) rfl (congrArg Value.bool (decide_eq_true g19)) <| Op1.leq rfl rfl <| CN <| Op1.pickT (u := .bool _) (congrArg Value.bool (decide_eq_true g19)) rfl <| AB rfl <| NL <| Run.forget [(1, .int .i64 _), (8, .bool _), (9, str _), (10, .int .u64 _), (11, .int .u64 _), (12, .bool _), (13, .int .u64 _), (15, .int .u8 _), (99, .slice _ _ _), (100, .int .i64 _), (101, .int .i64 _), (121, .bool _)] ⟨rfl, rfl, rfl, rfl, rfl, rfl, rfl, rfl, rfl, rfl, rfl, rfl, trivial⟩ fun f => run_cond_dec rfl (fun g20 => ?_) (fun g20 => ?_)
               · skip
                 refine RG <| MC rfl <| CN <| Op1.call1 (v1 := .int .u8 _) ent108 rfl rfl <| Ret.det (lx_lower _ _) hst fun w hst => CN <| Op1.subN rfl rfl rfl (wrap_u8 (by omega) (by omega)) <| CN <| Op1.addN rfl rfl rfl (wrap_u8 (by omega) (by omega)) <| AC rfl <| NL <| run_inBlock <| SQ <| SR <| MC rfl <| MI rfl ?_
                 first | refine CN (Op1.convN ty3 ty5 rfl (wrap_u8 (by omega) (by omega)) ?_) | refine CN (Op1.conv ty3 ty5 rfl ?_)
                 refine CN <| Op1.geq rfl rfl <| NL <| run_cond_dec rfl (fun g21 => ?_) (fun g21 => ?_)
                 · skip
                   refine SR <| CN <| Op1.mkIface (v := .int .i64 _) ty181 rfl rfl <| CN <| Op1.assign (v := .int .u64 _) rfl <| CN <| Op1.assign (v := .iface _ _) rfl <| NL <| run_ret2 Tryd.func87 rfl (TP (v := .int .u64 _) rfl) (TP (v := .iface _ _) rfl) ?_
                   have hno : ¬ hexB (s.getD i 0) = true := fun hn => by have hn2 := of_decide_eq_true hn; omega
                   exact ⟨.inr ⟨.inr (hJ.2.2.trans (hexs_stop (by omega) hno)), rfl⟩, hst.pure⟩
                 have hyd : hexB (s.getD i 0) = true := Classical.byContradiction fun hn => by have hn2 := of_decide_eq_false (Bool.not_eq_true _ ▸ hn); omega
                 have hwd : (worF (s.getD i 0) : Int) = bits .or .u8 ((s.getD i 0).toNat : Int) 32 - 87 := by have hq := of_decide_eq_true hyd; unfold worF; split <;> (try split) <;> omega
                 refine run_skip <| SQ <| SR <| CN <| Op1.move (v := .int .u64 _) rfl <| CN <| Op1.move (v := .int .u64 _) rfl <| CN <| Op1.geq rfl rfl <| NL <| run_cond_dec rfl (fun g22 => ?_) (fun g22 => ?_)
                 · skip
                   exfalso
                   omega
                 refine run_skip <| SR <| CN <| Op1.move (v := .int .u64 _) rfl <| MI rfl ?_
                 first | refine CN (Op1.convN ty3 ty76 rfl (wrap_u64 (by omega) (by omega)) ?_) | refine CN (Op1.conv ty3 ty76 rfl ?_)
                 refine CN <| Op1.mulN rfl rfl rfl (wrap_u64 (by omega) (by omega)) <| CN <| Op1.assign (v := .int .u64 _) rfl <| NSR <| CN <| Op1.move (v := .int .u64 _) rfl <| MC rfl ?_
                 first | refine CN (Op1.convN ty5 ty76 rfl (wrap_u64 (by omega) (by omega)) ?_) | refine CN (Op1.conv ty5 ty76 rfl ?_)
                 refine CN <| Op1.addN rfl rfl rfl (wrap_u64 (by omega) (by omega)) <| CN <| Op1.assign (v := .int .u64 _) rfl <| NL <| Run.forget [(1, .int .i64 _), (8, .bool _), (9, str _), (10, .int .u64 _), (11, .int .u64 _), (12, .bool _), (13, .int .u64 _), (17, .int .u64 _), (99, .slice _ _ _), (100, .int .i64 _), (101, .int .i64 _)] ⟨rfl, rfl, rfl, rfl, rfl, rfl, rfl, rfl, rfl, rfl, rfl, trivial⟩ fun f => SQ <| SR <| CN <| Op1.move (v := .int .u64 _) rfl <| CN <| Op1.move (v := .int .u64 _) rfl <| CN <| Op1.lss rfl rfl <| MB rfl <| RunL.splitD (d := 155) rfl (fun g23 => ?_) (fun g23 => ?_)
                 · skip
                   exfalso
                   omega
                 refine TK (t := 155) rfl (congrArg Value.bool (decide_eq_false g23)) <| Op1.move (v := .int .u64 _) rfl <| TK (t := 155) rfl (congrArg Value.bool (decide_eq_false g23)) <| Op1.move (v := .int .u64 _) rfl <| TK (t := 155) rfl (congrArg Value.bool (decide_eq_false g23)) <| Op1.gtr rfl rfl <| CN <| Op1.pickF (u := .bool _) (congrArg Value.bool (decide_eq_false g23)) rfl <| NL <| run_cond_dec rfl (fun g24 => ?_) (fun g24 => ?_)
                 · skip
                   exfalso
                   omega
                 refine run_skip <| RG <| CN <| Op1.move (v := .int .u64 _) rfl <| CN <| Op1.assign (v := .int .u64 _) rfl <| NL <| run_inBlock <| RG <| CN <| Op1.addN rfl rfl rfl (wrap_i64 (by omega) (by omega)) <| MI rfl <| NL <| run_inLoop ?_
                 exact ih9 ((i + 1, 16 * n + worF (s.getD i 0))) _ w (by (try dsimp only); omega) hst (⟨by (try dsimp only); omega, by (try dsimp only); exact pow16_step hJ.2.1 (hex_bd hyd).2, by (try dsimp only); rw [hJ.2.2, hexs_step (by omega) hyd]⟩) ⟨rfl, rfl, rfl, rfl, rfl, rfl, rfl, trivial⟩ ⟨rfl, (congrArg (Value.int .u64) (by (try dsimp only); omega)), (congrArg (Value.int .i64) (by (try dsimp only); omega)), trivial⟩
               refine SR <| CN <| Op1.mkIface (v := .int .i64 _) ty181 rfl rfl <| CN <| Op1.assign (v := .int .u64 _) rfl <| CN <| Op1.assign (v := .iface _ _) rfl <| NL <| run_ret2 Tryd.func87 rfl (TP (v := .int .u64 _) rfl) (TP (v := .iface _ _) rfl) ?_
               have hno : ¬ hexB (s.getD i 0) = true := fun hn => by have hn2 := of_decide_eq_true hn; omega
               exact ⟨.inr ⟨.inr (hJ.2.2.trans (hexs_stop (by omega) hno)), rfl⟩, hst.pure⟩
             refine OM (t := 125) rfl (congrArg Value.bool (decide_eq_false g19)) rfl <| OM (t := 125) rfl (congrArg Value.bool (decide_eq_false g19)) rfl <| OM (t := 125) rfl (congrArg Value.bool (decide_eq_false g19)) rfl <| CN <| Op1.pickF (u := .bool _) (congrArg Value.bool (decide_eq_false g19)) rfl <| AB rfl <| NL <| Run.forget [(1, .int .i64 _), (8, .bool _), (9, str _), (10, .int .u64 _), (11, .int .u64 _), (12, .bool _), (13, .int .u64 _), (15, .int .u8 _), (99, .slice _ _ _), (100, .int .i64 _), (101, .int .i64 _), (121, .bool _)] ⟨rfl, rfl, rfl, rfl, rfl, rfl, rfl, rfl, rfl, rfl, rfl, rfl, trivial⟩ fun f => run_cond_false (congrArg Value.bool (rfl : false = _)) <| SR <| CN <| Op1.mkIface (v := .int .i64 _) ty181 rfl rfl <| CN <| Op1.assign (v := .int .u64 _) rfl <| CN <| Op1.assign (v := .iface _ _) rfl <| NL <| run_ret2 Tryd.func87 rfl (TP (v := .int .u64 _) rfl) (TP (v := .iface _ _) rfl) ?_
             have hno : ¬ hexB (s.getD i 0) = true := fun hn => by have hn2 := of_decide_eq_true hn; omega
             exact ⟨.inr ⟨.inr (hJ.2.2.trans (hexs_stop (by omega) hno)), rfl⟩, hst.pure⟩
           refine OM (t := 115) rfl (congrArg Value.bool (decide_eq_false g13)) rfl <| OM (t := 115) rfl (congrArg Value.bool (decide_eq_false g13)) rfl <| CN <| Op1.pickF (u := .bool _) (congrArg Value.bool (decide_eq_false g13)) rfl <| AB rfl <| NL <| run_cond_false (congrArg Value.bool (rfl : false = _)) <| SR <| MC rfl <| CN <| Op1.call1 (v1 := .int .u8 _) ent108 rfl rfl <| Ret.det (lx_lower _ _) hst fun w hst => CN <| Op1.leq rfl rfl <| MB rfl <| RunL.splitD (d := 125) rfl (fun g25 => ?_) (fun g25 => ?_)
           · skip
             refine TK (t := 125) rfl (congrArg Value.bool (decide_eq_true g25)) <| Op1.move (v := .int .u8 _) rfl <| TK (t := 125) rfl (congrArg Value.bool (decide_eq_true g25)) (Op1.call1 (v1 := .int .u8 _) ent108 rfl rfl ((lx_lower _ _).mono fun v w hp => ?_))
             obtain ⟨rfl, hp⟩ := hp
             replace hst := hst.keepc hp
             clear hp
             refine TK (t := 125) rfl (congrArg Value.bool (decide_eq_true g25)) <| Op1.leq rfl rfl <| CN <| Op1.pickT (u := .bool _) (congrArg Value.bool (decide_eq_true g25)) rfl <| AB rfl <| NL <| Run.forget [(1, .int .i64 _), (8, .bool _), (9, str _), (10, .int .u64 _), (11, .int .u64 _), (12, .bool _), (13, .int .u64 _), (15, .int .u8 _), (99, .slice _ _ _), (100, .int .i64 _), (101, .int .i64 _), (121, .bool _)] ⟨rfl, rfl, rfl, rfl, rfl, rfl, rfl, rfl, rfl, rfl, rfl, rfl, trivial⟩ fun f => run_cond_dec rfl (fun g26 => ?_) (fun g26 => ?_)
             · skip
               refine RG <| MC rfl <| CN <| Op1.call1 (v1 := .int .u8 _) ent108 rfl rfl <| Ret.det (lx_lower _ _) hst fun w hst => CN <| Op1.subN rfl rfl rfl (wrap_u8 (by omega) (by omega)) <| CN <| Op1.addN rfl rfl rfl (wrap_u8 (by omega) (by omega)) <| AC rfl <| NL <| run_inBlock <| SQ <| SR <| MC rfl <| MI rfl ?_
               first | refine CN (Op1.convN ty3 ty5 rfl (wrap_u8 (by omega) (by omega)) ?_) | refine CN (Op1.conv ty3 ty5 rfl ?_)
               refine CN <| Op1.geq rfl rfl <| NL <| run_cond_dec rfl (fun g27 => ?_) (fun g27 => ?_)
               · skip
                 refine SR <| CN <| Op1.mkIface (v := .int .i64 _) ty181 rfl rfl <| CN <| Op1.assign (v := .int .u64 _) rfl <| CN <| Op1.assign (v := .iface _ _) rfl <| NL <| run_ret2 Tryd.func87 rfl (TP (v := .int .u64 _) rfl) (TP (v := .iface _ _) rfl) ?_
                 have hno : ¬ hexB (s.getD i 0) = true := fun hn => by have hn2 := of_decide_eq_true hn; omega
                 exact ⟨.inr ⟨.inr (hJ.2.2.trans (hexs_stop (by omega) hno)), rfl⟩, hst.pure⟩
               have hyd : hexB (s.getD i 0) = true := Classical.byContradiction fun hn => by have hn2 := of_decide_eq_false (Bool.not_eq_true _ ▸ hn); omega
               have hwd : (worF (s.getD i 0) : Int) = bits .or .u8 ((s.getD i 0).toNat : Int) 32 - 87 := by have hq := of_decide_eq_true hyd; unfold worF; split <;> (try split) <;> omega
               refine run_skip <| SQ <| SR <| CN <| Op1.move (v := .int .u64 _) rfl <| CN <| Op1.move (v := .int .u64 _) rfl <| CN <| Op1.geq rfl rfl <| NL <| run_cond_dec rfl (fun g28 => ?_) (fun g28 => ?_)
               · skip
                 exfalso
                 omega
               refine run_skip <| SR <| CN <| Op1.move (v := .int .u64 _) rfl <| MI rfl ?_
               first | refine CN (Op1.convN ty3 ty76 rfl (wrap_u64 (by omega) (by omega)) ?_) | refine CN (Op1.conv ty3 ty76 rfl ?_)
               refine CN <| Op1.mulN rfl rfl rfl (wrap_u64 (by omega) (by omega)) <| CN <| Op1.assign (v := .int .u64 _) rfl <| NSR <| CN <| Op1.move (v := .int .u64 _) rfl <| MC rfl ?_
               first | refine CN (Op1.convN ty5 ty76 rfl (wrap_u64 (by omega) (by omega)) ?_) | refine CN (Op1.conv ty5 ty76 rfl ?_)
               refine CN <| Op1.addN rfl rfl rfl (wrap_u64 (by omega) (by omega)) <| CN <| Op1.assign (v := .int .u64 _) rfl <| NL <| Run.forget [(1, .int .i64 _), (8, .bool _), (9, str _), (10, .int .u64 _), (11, .int .u64 _), (12, .bool _), (13, .int .u64 _), (17, .int .u64 _), (99, .slice _ _ _), (100, .int .i64 _), (101, .int .i64 _)] ⟨rfl, rfl, rfl, rfl, rfl, rfl, rfl, rfl, rfl, rfl, rfl, trivial⟩ fun f => SQ <| SR <| CN <| Op1.move (v := .int .u64 _) rfl <| CN <| Op1.move (v := .int .u64 _) rfl <| CN <| Op1.lss rfl rfl <| MB rfl <| RunL.splitD (d := 155) rfl (fun g29 => ?_) (fun g29 => ?_)
               · skip
                 exfalso
                 omega
               refine TK (t := 155) rfl (congrArg Value.bool (decide_eq_false g29)) <| Op1.move (v := .int .u64 _) rfl <| TK (t := 155) rfl (congrArg Value.bool (decide_eq_false g29)) <| Op1.move (v := .int .u64 _) rfl <| TK (t := 155) rfl (congrArg Value.bool (decide_eq_false g29)) <| Op1.gtr rfl rfl <| CN <| Op1.pickF (u := .bool _) (congrArg Value.bool (decide_eq_false g29)) rfl <| NL <| run_cond_dec rfl (fun g30 => ?_) (fun g30 => ?_)
               · skip
                 exfalso
                 omega
               refine run_skip <| RG <| CN <| Op1.move (v := .int .u64 _) rfl <| CN <| Op1.assign (v := .int .u64 _) rfl <| NL <| run_inBlock <| RG <| CN <| Op1.addN rfl rfl rfl (wrap_i64 (by omega) (by omega)) <| MI rfl <| NL <| run_inLoop ?_
               exact ih9 ((i + 1, 16 * n + worF (s.getD i 0))) _ w (by (try dsimp only); omega) hst (⟨by (try dsimp only); omega, by (try dsimp only); exact pow16_step hJ.2.1 (hex_bd hyd).2, by (try dsimp only); rw [hJ.2.2, hexs_step (by omega) hyd]⟩) ⟨rfl, rfl, rfl, rfl, rfl, rfl, rfl, trivial⟩ ⟨rfl, (congrArg (Value.int .u64) (by (try dsimp only); omega)), (congrArg (Value.int .i64) (by (try dsimp only); omega)), trivial⟩
             refine SR <| CN <| Op1.mkIface (v := .int .i64 _) ty181 rfl rfl <| CN <| Op1.assign (v := .int .u64 _) rfl <| CN <| Op1.assign (v := .iface _ _) rfl <| NL <| run_ret2 Tryd.func87 rfl (TP (v := .int .u64 _) rfl) (TP (v := .iface _ _) rfl) ?_
             have hno : ¬ hexB (s.getD i 0) = true := fun hn => by have hn2 := of_decide_eq_true hn; omega
             exact ⟨.inr ⟨.inr (hJ.2.2.trans (hexs_stop (by omega) hno)), rfl⟩, hst.pure⟩
           refine OM (t := 125) rfl (congrArg Value.bool (decide_eq_false g25)) rfl <| OM (t := 125) rfl (congrArg Value.bool (decide_eq_false g25)) rfl <| OM (t := 125) rfl (congrArg Value.bool (decide_eq_false g25)) rfl <| CN <| Op1.pickF (u := .bool _) (congrArg Value.bool (decide_eq_false g25)) rfl <| AB rfl <| NL <| Run.forget [(1, .int .i64 _), (8, .bool _), (9, str _), (10, .int .u64 _), (11, .int .u64 _), (12, .bool _), (13, .int .u64 _), (15, .int .u8 _), (99, .slice _ _ _), (100, .int .i64 _), (101, .int .i64 _), (121, .bool _)] ⟨rfl, rfl, rfl, rfl, rfl, rfl, rfl, rfl, rfl, rfl, rfl, rfl, trivial⟩ fun f => run_cond_false (congrArg Value.bool (rfl : false = _)) <| SR <| CN <| Op1.mkIface (v := .int .i64 _) ty181 rfl rfl <| CN <| Op1.assign (v := .int .u64 _) rfl <| CN <| Op1.assign (v := .iface _ _) rfl <| NL <| run_ret2 Tryd.func87 rfl (TP (v := .int .u64 _) rfl) (TP (v := .iface _ _) rfl) ?_
           have hno : ¬ hexB (s.getD i 0) = true := fun hn => by have hn2 := of_decide_eq_true hn; omega
           exact ⟨.inr ⟨.inr (hJ.2.2.trans (hexs_stop (by omega) hno)), rfl⟩, hst.pure⟩
         refine OM (t := 109) rfl (congrArg Value.bool (decide_eq_false g11)) rfl <| CN <| Op1.pickF (u := .bool _) (congrArg Value.bool (decide_eq_false g11)) rfl <| AB rfl <| NL <| run_cond_false (congrArg Value.bool (rfl : false = _)) <| SR <| MC rfl <| CN <| Op1.leq rfl rfl <| MB rfl <| RunL.splitD (d := 115) rfl (fun g31 => ?_) (fun g31 => ?_)
         · skip
           refine TK (t := 115) rfl (congrArg Value.bool (decide_eq_true g31)) <| Op1.move (v := .int .u8 _) rfl <| TK (t := 115) rfl (congrArg Value.bool (decide_eq_true g31)) <| Op1.leq rfl rfl <| CN <| Op1.pickT (u := .bool _) (congrArg Value.bool (decide_eq_true g31)) rfl <| AB rfl <| NL <| run_cond_dec rfl (fun g32 => ?_) (fun g32 => ?_)
           · skip
             refine RG <| MC rfl <| CN <| Op1.subN rfl rfl rfl (wrap_u8 (by omega) (by omega)) <| AC rfl <| NL <| run_inBlock <| Run.forget [(1, .int .i64 _), (8, .bool _), (9, str _), (10, .int .u64 _), (11, .int .u64 _), (12, .bool _), (13, .int .u64 _), (16, .int .u8 _), (99, .slice _ _ _), (100, .int .i64 _), (101, .int .i64 _)] ⟨rfl, rfl, rfl, rfl, rfl, rfl, rfl, rfl, rfl, rfl, rfl, trivial⟩ fun f => SQ <| SR <| MC rfl <| MI rfl ?_
             first | refine CN (Op1.convN ty3 ty5 rfl (wrap_u8 (by omega) (by omega)) ?_) | refine CN (Op1.conv ty3 ty5 rfl ?_)
             refine CN <| Op1.geq rfl rfl <| NL <| run_cond_dec rfl (fun g33 => ?_) (fun g33 => ?_)
             · skip
               exfalso
               omega
             have hyd : hexB (s.getD i 0) = true := decide_eq_true (by omega)
             have hwd : (worF (s.getD i 0) : Int) = ((s.getD i 0).toNat : Int) - 48 := by have hq := of_decide_eq_true hyd; unfold worF; split <;> (try split) <;> omega
             refine run_skip <| SQ <| SR <| CN <| Op1.move (v := .int .u64 _) rfl <| CN <| Op1.move (v := .int .u64 _) rfl <| CN <| Op1.geq rfl rfl <| NL <| run_cond_dec rfl (fun g34 => ?_) (fun g34 => ?_)
             · skip
               exfalso
               omega
             refine run_skip <| SR <| CN <| Op1.move (v := .int .u64 _) rfl <| MI rfl ?_
             first | refine CN (Op1.convN ty3 ty76 rfl (wrap_u64 (by omega) (by omega)) ?_) | refine CN (Op1.conv ty3 ty76 rfl ?_)
             refine CN <| Op1.mulN rfl rfl rfl (wrap_u64 (by omega) (by omega)) <| CN <| Op1.assign (v := .int .u64 _) rfl <| NSR <| CN <| Op1.move (v := .int .u64 _) rfl <| MC rfl ?_
             first | refine CN (Op1.convN ty5 ty76 rfl (wrap_u64 (by omega) (by omega)) ?_) | refine CN (Op1.conv ty5 ty76 rfl ?_)
             refine CN <| Op1.addN rfl rfl rfl (wrap_u64 (by omega) (by omega)) <| CN <| Op1.assign (v := .int .u64 _) rfl <| NL <| SQ <| SR <| CN <| Op1.move (v := .int .u64 _) rfl <| CN <| Op1.move (v := .int .u64 _) rfl <| CN <| Op1.lss rfl rfl <| MB rfl <| RunL.splitD (d := 155) rfl (fun g35 => ?_) (fun g35 => ?_)
             · skip
               exfalso
               omega
             refine TK (t := 155) rfl (congrArg Value.bool (decide_eq_false g35)) <| Op1.move (v := .int .u64 _) rfl <| TK (t := 155) rfl (congrArg Value.bool (decide_eq_false g35)) <| Op1.move (v := .int .u64 _) rfl <| TK (t := 155) rfl (congrArg Value.bool (decide_eq_false g35)) <| Op1.gtr rfl rfl <| CN <| Op1.pickF (u := .bool _) (congrArg Value.bool (decide_eq_false g35)) rfl <| NL <| Run.forget [(1, .int .i64 _), (8, .bool _), (9, str _), (10, .int .u64 _), (11, .int .u64 _), (12, .bool _), (17, .int .u64 _), (99, .slice _ _ _), (100, .int .i64 _), (101, .int .i64 _), (159, .bool _)] ⟨rfl, rfl, rfl, rfl, rfl, rfl, rfl, rfl, rfl, rfl, rfl, trivial⟩ fun f => run_cond_dec rfl (fun g36 => ?_) (fun g36 => ?_)
             · skip
               exfalso
               omega
             refine run_skip <| RG <| CN <| Op1.move (v := .int .u64 _) rfl <| CN <| Op1.assign (v := .int .u64 _) rfl <| NL <| run_inBlock <| RG <| CN <| Op1.addN rfl rfl rfl (wrap_i64 (by omega) (by omega)) <| MI rfl <| NL <| run_inLoop ?_
             exact ih9 ((i + 1, 16 * n + worF (s.getD i 0))) _ w (by (try dsimp only); omega) hst (⟨by (try dsimp only); omega, by (try dsimp only); exact pow16_step hJ.2.1 (hex_bd hyd).2, by (try dsimp only); rw [hJ.2.2, hexs_step (by omega) hyd]⟩) ⟨rfl, rfl, rfl, rfl, rfl, rfl, rfl, trivial⟩ ⟨rfl, (congrArg (Value.int .u64) (by (try dsimp only); omega)), (congrArg (Value.int .i64) (by (try dsimp only); omega)), trivial⟩
           refine SR <| MC rfl <| CN <| Op1.call1 (v1 := .int .u8 _) ent108 rfl rfl <| Ret.det (lx_lower _ _) hst fun w hst => CN <| Op1.leq rfl rfl <| MB rfl <| RunL.splitD (d := 125) rfl (fun g37 => ?_) (fun g37 => ?_)
           · skip
             refine TK (t := 125) rfl (congrArg Value.bool (decide_eq_true g37)) <| Op1.move (v := .int .u8 _) rfl <| TK (t := 125) rfl (congrArg Value.bool (decide_eq_true g37)) (Op1.call1 (v1 := .int .u8 _) ent108 rfl rfl ((lx_lower _ _).mono fun v w hp => ?_))
             obtain ⟨rfl, hp⟩ := hp
             replace hst := hst.keepc hp
             clear hp
             refine TK (t := 125) rfl (congrArg Value.bool (decide_eq_true g37)) <| Op1.leq rfl rfl <| CN <| Op1.pickT (u := .bool _) (congrArg Value.bool (decide_eq_true g37)) rfl <| AB rfl <| NL <| Run.forget [(1, .int .i64 _), (8, .bool _), (9, str _), (10, .int .u64 _), (11, .int .u64 _), (12, .bool _), (13, .int .u64 _), (15, .int .u8 _), (99, .slice _ _ _), (100, .int .i64 _), (101, .int .i64 _), (121, .bool _)] ⟨rfl, rfl, rfl, rfl, rfl, rfl, rfl, rfl, rfl, rfl, rfl, rfl, trivial⟩ fun f => run_cond_dec rfl (fun g38 => ?_) (fun g38 => ?_)
             · skip
               refine RG <| MC rfl <| CN <| Op1.call1 (v1 := .int .u8 _) ent108 rfl rfl <| Ret.det (lx_lower _ _) hst fun w hst => CN <| Op1.subN rfl rfl rfl (wrap_u8 (by omega) (by omega)) <| CN <| Op1.addN rfl rfl rfl (wrap_u8 (by omega) (by omega)) <| AC rfl <| NL <| run_inBlock <| SQ <| SR <| MC rfl <| MI rfl ?_
               first | refine CN (Op1.convN ty3 ty5 rfl (wrap_u8 (by omega) (by omega)) ?_) | refine CN (Op1.conv ty3 ty5 rfl ?_)
               refine CN <| Op1.geq rfl rfl <| NL <| run_cond_dec rfl (fun g39 => ?_) (fun g39 => ?_)
               · skip
                 refine SR <| CN <| Op1.mkIface (v := .int .i64 _) ty181 rfl rfl <| CN <| Op1.assign (v := .int .u64 _) rfl <| CN <| Op1.assign (v := .iface _ _) rfl <| NL <| run_ret2 Tryd.func87 rfl (TP (v := .int .u64 _) rfl) (TP (v := .iface _ _) rfl) ?_
                 have hno : ¬ hexB (s.getD i 0) = true := fun hn => by have hn2 := of_decide_eq_true hn; omega
                 exact ⟨.inr ⟨.inr (hJ.2.2.trans (hexs_stop (by omega) hno)), rfl⟩, hst.pure⟩
               have hyd : hexB (s.getD i 0) = true := Classical.byContradiction fun hn => by have hn2 := of_decide_eq_false (Bool.not_eq_true _ ▸ hn); omega
               have hwd : (worF (s.getD i 0) : Int) = bits .or .u8 ((s.getD i 0).toNat : Int) 32 - 87 := by have hq := of_decide_eq_true hyd; unfold worF; split <;> (try split) <;> omega
               refine run_skip <| SQ <| SR <| CN <| Op1.move (v := .int .u64 _) rfl <| CN <| Op1.move (v := .int .u64 _) rfl <| CN <| Op1.geq rfl rfl <| NL <| run_cond_dec rfl (fun g40 => ?_) (fun g40 => ?_)
               · skip
                 exfalso
                 omega
               refine run_skip <| SR <| CN <| Op1.move (v := .int .u64 _) rfl <| MI rfl ?_
               first | refine CN (Op1.convN ty3 ty76 rfl (wrap_u64 (by omega) (by omega)) ?_) | refine CN (Op1.conv ty3 ty76 rfl ?_)
               refine CN <| Op1.mulN rfl rfl rfl (wrap_u64 (by omega) (by omega)) <| CN <| Op1.assign (v := .int .u64 _) rfl <| NSR <| CN <| Op1.move (v := .int .u64 _) rfl <| MC rfl ?_
               first | refine CN (Op1.convN ty5 ty76 rfl (wrap_u64 (by omega) (by omega)) ?_) | refine CN (Op1.conv ty5 ty76 rfl ?_)
               refine CN <| Op1.addN rfl rfl rfl (wrap_u64 (by omega) (by omega)) <| CN <| Op1.assign (v := .int .u64 _) rfl <| NL <| Run.forget [(1, .int .i64 _), (8, .bool _), (9, str _), (10, .int .u64 _), (11, .int .u64 _), (12, .bool _), (13, .int .u64 _), (17, .int .u64 _), (99, .slice _ _ _), (100, .int .i64 _), (101, .int .i64 _)] ⟨rfl, rfl, rfl, rfl, rfl, rfl, rfl, rfl, rfl, rfl, rfl, trivial⟩ fun f => SQ <| SR <| CN <| Op1.move (v := .int .u64 _) rfl <| CN <| Op1.move (v := .int .u64 _) rfl <| CN <| Op1.lss rfl rfl <| MB rfl <| RunL.splitD (d := 155) rfl (fun g41 => ?_) (fun g41 => ?_)
               · skip
                 exfalso
                 omega
               refine TK (t := 155) rfl (congrArg Value.bool (decide_eq_false g41)) <| Op1.move (v := .int .u64 _) rfl <| TK (t := 155) rfl (congrArg Value.bool (decide_eq_false g41)) <| Op1.move (v := .int .u64 _) rfl <| TK (t := 155) rfl (congrArg Value.bool (decide_eq_false g41)) <| Op1.gtr rfl rfl <| CN <| Op1.pickF (u := .bool _) (congrArg Value.bool (decide_eq_false g41)) rfl <| NL <| run_cond_dec rfl (fun g42 => ?_) (fun g42 => ?_)
               · skip
                 exfalso
                 omega
               refine run_skip <| RG <| CN <| Op1.move (v := .int .u64 _) rfl <| CN <| Op1.assign (v := .int .u64 _) rfl <| NL <| run_inBlock <| RG <| CN <| Op1.addN rfl rfl rfl (wrap_i64 (by omega) (by omega)) <| MI rfl <| NL <| run_inLoop ?_
               exact ih9 ((i + 1, 16 * n + worF (s.getD i 0))) _ w (by (try dsimp only); omega) hst (⟨by (try dsimp only); omega, by (try dsimp only); exact pow16_step hJ.2.1 (hex_bd hyd).2, by (try dsimp only); rw [hJ.2.2, hexs_step (by omega) hyd]⟩) ⟨rfl, rfl, rfl, rfl, rfl, rfl, rfl, trivial⟩ ⟨rfl, (congrArg (Value.int .u64) (by (try dsimp only); omega)), (congrArg (Value.int .i64) (by (try dsimp only); omega)), trivial⟩
             refine SR <| CN <| Op1.mkIface (v := .int .i64 _) ty181 rfl rfl <| CN <| Op1.assign (v := .int .u64 _) rfl <| CN <| Op1.assign (v := .iface _ _) rfl <| NL <| run_ret2 Tryd.func87 rfl (TP (v := .int .u64 _) rfl) (TP (v := .iface _ _) rfl) ?_
             have hno : ¬ hexB (s.getD i 0) = true := fun hn => by have hn2 := of_decide_eq_true hn; omega
             exact ⟨.inr ⟨.inr (hJ.2.2.trans (hexs_stop (by omega) hno)), rfl⟩, hst.pure⟩
           refine OM (t := 125) rfl (congrArg Value.bool (decide_eq_false g37)) rfl <| OM (t := 125) rfl (congrArg Value.bool (decide_eq_false g37)) rfl <| OM (t := 125) rfl (congrArg Value.bool (decide_eq_false g37)) rfl <| CN <| Op1.pickF (u := .bool _) (congrArg Value.bool (decide_eq_false g37)) rfl <| AB rfl <| NL <| Run.forget [(1, .int .i64 _), (8, .bool _), (9, str _), (10, .int .u64 _), (11, .int .u64 _), (12, .bool _), (13, .int .u64 _), (15, .int .u8 _), (99, .slice _ _ _), (100, .int .i64 _), (101, .int .i64 _), (121, .bool _)] ⟨rfl, rfl, rfl, rfl, rfl, rfl, rfl, rfl, rfl, rfl, rfl, rfl, trivial⟩ fun f => run_cond_false (congrArg Value.bool (rfl : false = _)) <| SR <| CN <| Op1.mkIface (v := .int .i64 _) ty181 rfl rfl <| CN <| Op1.assign (v := .int .u64 _) rfl <| CN <| Op1.assign (v := .iface _ _) rfl <| NL <| run_ret2 Tryd.func87 rfl (TP (v := .int .u64 _) rfl) (TP (v := .iface _ _) rfl) ?_
           have hno : ¬ hexB (s.getD i 0) = true := fun hn => by have hn2 := of_decide_eq_true hn; omega
           exact ⟨.inr ⟨.inr (hJ.2.2.trans (hexs_stop (by omega) hno)), rfl⟩, hst.pure⟩
         refine OM (t := 115) rfl (congrArg Value.bool (decide_eq_false g31)) rfl <| OM (t := 115) rfl (congrArg Value.bool (decide_eq_false g31)) rfl <| CN <| Op1.pickF (u := .bool _) (congrArg Value.bool (decide_eq_false g31)) rfl <| AB rfl <| NL <| run_cond_false (congrArg Value.bool (rfl : false = _)) <| SR <| MC rfl <| CN <| Op1.call1 (v1 := .int .u8 _) ent108 rfl rfl <| Ret.det (lx_lower _ _) hst fun w hst => CN <| Op1.leq rfl rfl <| MB rfl <| RunL.splitD (d := 125) rfl (fun g43 => ?_) (fun g43 => ?_)
         · skip
           refine TK (t := 125) rfl (congrArg Value.bool (decide_eq_true g43)) <| Op1.move (v := .int .u8 _) rfl <| TK (t := 125) rfl (congrArg Value.bool (decide_eq_true g43)) (Op1.call1 (v1 := .int .u8 _) ent108 rfl rfl ((lx_lower _ _).mono fun v w hp => ?_))
           obtain ⟨rfl, hp⟩ := hp
           replace hst := hst.keepc hp
           clear hp
           refine TK (t := 125) rfl (congrArg Value.bool (decide_eq_true g43)) <| Op1.leq rfl rfl <| CN <| Op1.pickT (u := .bool _) (congrArg Value.bool (decide_eq_true g43)) rfl <| AB rfl <| NL <| Run.forget [(1, .int .i64 _), (8, .bool _), (9, str _), (10, .int .u64 _), (11, .int .u64 _), (12, .bool _), (13, .int .u64 _), (15, .int .u8 _), (99, .slice _ _ _), (100, .int .i64 _), (101, .int .i64 _), (121, .bool _)] ⟨rfl, rfl, rfl, rfl, rfl, rfl, rfl, rfl, rfl, rfl, rfl, rfl, trivial⟩ fun f => run_cond_dec rfl (fun g44 => ?_) (fun g44 => ?_)
           · skip
             refine RG <| MC rfl <| CN <| Op1.call1 (v1 := .int .u8 _) ent108 rfl rfl <| Ret.det (lx_lower _ _) hst fun w hst => CN <| Op1.subN rfl rfl rfl (wrap_u8 (by omega) (by omega)) <| CN <| Op1.addN rfl rfl rfl (wrap_u8 (by omega) (by omega)) <| AC rfl <| NL <| run_inBlock <| SQ <| SR <| MC rfl <| MI rfl ?_
             first | refine CN (Op1.convN ty3 ty5 rfl (wrap_u8 (by omega) (by omega)) ?_) | refine CN (Op1.conv ty3 ty5 rfl ?_)
             refine CN <| Op1.geq rfl rfl <| NL <| run_cond_dec rfl (fun g45 => ?_) (fun g45 => ?_)
             · skip
               refine SR <| CN <| Op1.mkIface (v := .int .i64 _) ty181 rfl rfl <| CN <| Op1.assign (v := .int .u64 _) rfl <| CN <| Op1.assign (v := .iface _ _) rfl <| NL <| run_ret2 Tryd.func87 rfl (TP (v := .int .u64 _) rfl) (TP (v := .iface _ _) rfl) ?_
               have hno : ¬ hexB (s.getD i 0) = true := fun hn => by have hn2 := of_decide_eq_true hn; omega
               exact ⟨.inr ⟨.inr (hJ.2.2.trans (hexs_stop (by omega) hno)), rfl⟩, hst.pure⟩
             have hyd : hexB (s.getD i 0) = true := Classical.byContradiction fun hn => by have hn2 := of_decide_eq_false (Bool.not_eq_true _ ▸ hn); omega
             have hwd : (worF (s.getD i 0) : Int) = bits .or .u8 ((s.getD i 0).toNat : Int) 32 - 87 := by have hq := of_decide_eq_true hyd; unfold worF; split <;> (try split) <;> omega
             refine run_skip <| SQ <| SR <| CN <| Op1.move (v := .int .u64 _) rfl <| CN <| Op1.move (v := .int .u64 _) rfl <| CN <| Op1.geq rfl rfl <| NL <| run_cond_dec rfl (fun g46 => ?_) (fun g46 => ?_)
             · skip
               exfalso
               omega
             refine run_skip <| SR <| CN <| Op1.move (v := .int .u64 _) rfl <| MI rfl ?_
             first | refine CN (Op1.convN ty3 ty76 rfl (wrap_u64 (by omega) (by omega)) ?_) | refine CN (Op1.conv ty3 ty76 rfl ?_)
             refine CN <| Op1.mulN rfl rfl rfl (wrap_u64 (by omega) (by omega)) <| CN <| Op1.assign (v := .int .u64 _) rfl <| NSR <| CN <| Op1.move (v := .int .u64 _) rfl <| MC rfl ?_
             first | refine CN (Op1.convN ty5 ty76 rfl (wrap_u64 (by omega) (by omega)) ?_) | refine CN (Op1.conv ty5 ty76 rfl ?_)
             refine CN <| Op1.addN rfl rfl rfl (wrap_u64 (by omega) (by omega)) <| CN <| Op1.assign (v := .int .u64 _) rfl <| NL <| Run.forget [(1, .int .i64 _), (8, .bool _), (9, str _), (10, .int .u64 _), (11, .int .u64 _), (12, .bool _), (13, .int .u64 _), (17, .int .u64 _), (99, .slice _ _ _), (100, .int .i64 _), (101, .int .i64 _)] ⟨rfl, rfl, rfl, rfl, rfl, rfl, rfl, rfl, rfl, rfl, rfl, trivial⟩ fun f => SQ <| SR <| CN <| Op1.move (v := .int .u64 _) rfl <| CN <| Op1.move (v := .int .u64 _) rfl <| CN <| Op1.lss rfl rfl <| MB rfl <| RunL.splitD (d := 155) rfl (fun g47 => ?_) (fun g47 => ?_)
             · skip
               exfalso
               omega
             refine TK (t := 155) rfl (congrArg Value.bool (decide_eq_false g47)) <| Op1.move (v := .int .u64 _) rfl <| TK (t := 155) rfl (congrArg Value.bool (decide_eq_false g47)) <| Op1.move (v := .int .u64 _) rfl <| TK (t := 155) rfl (congrArg Value.bool (decide_eq_false g47)) <| Op1.gtr rfl rfl <| CN <| Op1.pickF (u := .bool _) (congrArg Value.bool (decide_eq_false g47)) rfl <| NL <| run_cond_dec rfl (fun g48 => ?_) (fun g48 => ?_)
             · skip
               exfalso
               omega
             refine run_skip <| RG <| CN <| Op1.move (v := .int .u64 _) rfl <| CN <| Op1.assign (v := .int .u64 _) rfl <| NL <| run_inBlock <| RG <| CN <| Op1.addN rfl rfl rfl (wrap_i64 (by omega) (by omega)) <| MI rfl <| NL <| run_inLoop ?_
             exact ih9 ((i + 1, 16 * n + worF (s.getD i 0))) _ w (by (try dsimp only); omega) hst (⟨by (try dsimp only); omega, by (try dsimp only); exact pow16_step hJ.2.1 (hex_bd hyd).2, by (try dsimp only); rw [hJ.2.2, hexs_step (by omega) hyd]⟩) ⟨rfl, rfl, rfl, rfl, rfl, rfl, rfl, trivial⟩ ⟨rfl, (congrArg (Value.int .u64) (by (try dsimp only); omega)), (congrArg (Value.int .i64) (by (try dsimp only); omega)), trivial⟩
           refine SR <| CN <| Op1.mkIface (v := .int .i64 _) ty181 rfl rfl <| CN <| Op1.assign (v := .int .u64 _) rfl <| CN <| Op1.assign (v := .iface _ _) rfl <| NL <| run_ret2 Tryd.func87 rfl (TP (v := .int .u64 _) rfl) (TP (v := .iface _ _) rfl) ?_
           have hno : ¬ hexB (s.getD i 0) = true := fun hn => by have hn2 := of_decide_eq_true hn; omega
           exact ⟨.inr ⟨.inr (hJ.2.2.trans (hexs_stop (by omega) hno)), rfl⟩, hst.pure⟩
         refine OM (t := 125) rfl (congrArg Value.bool (decide_eq_false g43)) rfl <| OM (t := 125) rfl (congrArg Value.bool (decide_eq_false g43)) rfl <| OM (t := 125) rfl (congrArg Value.bool (decide_eq_false g43)) rfl <| CN <| Op1.pickF (u := .bool _) (congrArg Value.bool (decide_eq_false g43)) rfl <| AB rfl <| NL <| Run.forget [(1, .int .i64 _), (8, .bool _), (9, str _), (10, .int .u64 _), (11, .int .u64 _), (12, .bool _), (13, .int .u64 _), (15, .int .u8 _), (99, .slice _ _ _), (100, .int .i64 _), (101, .int .i64 _), (121, .bool _)] ⟨rfl, rfl, rfl, rfl, rfl, rfl, rfl, rfl, rfl, rfl, rfl, rfl, trivial⟩ fun f => run_cond_false (congrArg Value.bool (rfl : false = _)) <| SR <| CN <| Op1.mkIface (v := .int .i64 _) ty181 rfl rfl <| CN <| Op1.assign (v := .int .u64 _) rfl <| CN <| Op1.assign (v := .iface _ _) rfl <| NL <| run_ret2 Tryd.func87 rfl (TP (v := .int .u64 _) rfl) (TP (v := .iface _ _) rfl) ?_
         have hno : ¬ hexB (s.getD i 0) = true := fun hn => by have hn2 := of_decide_eq_true hn; omega
         exact ⟨.inr ⟨.inr (hJ.2.2.trans (hexs_stop (by omega) hno)), rfl⟩, hst.pure⟩
       refine run_exit (id := 3) rfl <| SQ <| SR <| MB rfl <| MB rfl <| OM (t := 165) rfl (congrArg Value.bool (rfl : false = _)) rfl <| OM (t := 165) rfl (congrArg Value.bool (rfl : false = _)) rfl <| OM (t := 165) rfl (congrArg Value.bool (rfl : false = _)) rfl <| CN <| Op1.pickF (u := .bool _) (congrArg Value.bool (rfl : false = _)) rfl <| NL <| run_cond_false (congrArg Value.bool (rfl : false = _)) <| run_skip <| SQ <| RG ?_
       refine CN <| Op1.move (v := .int .u64 _) rfl <| CN <| Op1.assign (v := .int .u64 _) rfl <| CN <| Op1.assign (v := .nilIface) rfl <| NL <| run_ret2 Tryd.func87 rfl (TP (v := .int .u64 _) rfl) (TP (v := .nilIface) rfl) ?_
       exact ⟨.inl ⟨n, fun e => g1 (List.length_eq_zero_iff.1 e), hJ.2.2.trans (hexs_end (by omega)), rfl⟩, hst.pure⟩
     exfalso
     omega
   exfalso
   omega
 exfalso
 omega
end Go.SK
namespace Go.SK
open Go Go.Proofs
theorem ent87 : Enters Tryd.prog 87 := ⟨Tryd.f87, _, Tryd.func87, by kernel_rfl, rfl⟩
theorem ty92 : TyF Tryd.prog 92 (.interface (methodsOf Tryd.prog 92)) 1 16 [.nilIface] := TyF.of (by kernel_rfl) (by kernel_rfl)
theorem ent88 : Enters Tryd.prog 88 := ⟨Tryd.f88, _, Tryd.func88, by kernel_rfl, rfl⟩
theorem ent67 : Enters Tryd.prog 67 := ⟨Tryd.f67, _, Tryd.func67, by kernel_rfl, rfl⟩
theorem ent39 : Enters Tryd.prog 39 := ⟨Tryd.f39, _, Tryd.func39, by kernel_rfl, rfl⟩
theorem ent65 : Enters Tryd.prog 65 := ⟨Tryd.f65, _, Tryd.func65, by kernel_rfl, rfl⟩
theorem ent66 : Enters Tryd.prog 66 := ⟨Tryd.f66, _, Tryd.func66, by kernel_rfl, rfl⟩
theorem ent64 : Enters Tryd.prog 64 := ⟨Tryd.f64, _, Tryd.func64, by kernel_rfl, rfl⟩
theorem ent68 : Enters Tryd.prog 68 := ⟨Tryd.f68, _, Tryd.func68, by kernel_rfl, rfl⟩
end Go.SK
namespace Go.SK
open Go Go.Proofs
open Go.RowKit
theorem R6lx_PU16 (s : Tx) (hl : s.length ≤ 8) (w : World) (hG : LxG.holds w) : Ret Tryd.prog 67 #[str s, .int .i64 16, .int .i64 32] w (fun v w' => ((∃ n, s.length ≠ 0 ∧ hexsF s 0 = some n ∧ v = .tuple #[.int .u64 (n : Int), .nilIface]) ∨ ((s.length = 0 ∨ hexsF s 0 = none) ∧ ∃ N, v = .tuple #[.int .u64 0, .iface 182 (.pointer (some ⟨N, 0, none⟩))])) ∧ St w NoM [] [] w') := by
 refine Ret.enter (args := [str s, .int .i64 16, .int .i64 32]) Tryd.func67 rfl rfl rfl ?_
 have hst : St w NoM [] [LxG] w := St.init_Ds (by simp only [List.forall_mem_cons]; exact ⟨hG, fun _ h => absurd h List.not_mem_nil⟩)
 refine SR <| CN <| Op1.assign (v := .int .u64 _) rfl <| CN <| Op1.assign (v := .nilIface) rfl <| NSR <| MS rfl <| MI rfl <| MI rfl <| CN (Op1.call3 (v1 := str _) (v2 := .int .i64 _) (v3 := .int .i64 _) ent87 rfl rfl rfl rfl ((R6lx_iPU16 s hl _).mono fun v w hp => ?_))
 replace hp := or_and_right.1 hp
 rcases hp with ⟨⟨n, hne, hn, rfl⟩, hp⟩ | ⟨⟨hno, rfl⟩, hp⟩
 · skip
   replace hst := hst.keepc hp
   clear hp
   refine CN <| Op1.move (v := .tuple #[.int .u64 _, .nilIface]) rfl <| CN <| Op1.extract (v := .int .u64 _) rfl rfl <| CN <| Op1.extract (v := .nilIface) rfl rfl <| CN <| Op1.assign (v := .int .u64 _) rfl <| CN <| Op1.assign (v := .nilIface) rfl <| NL <| SQ <| SR <| CN <| Op1.move (v := .nilIface) rfl <| CN <| Op1.neqNN ty92 rfl rfl <| NL <| run_cond_false (congrArg Value.bool (rfl : false = _)) <| run_skip <| SQ ?_
   refine RG <| CN <| Op1.move (v := .int .u64 _) rfl <| CN <| Op1.assign (v := .int .u64 _) rfl <| CN <| Op1.assign (v := .nilIface) rfl <| NL <| run_ret2 Tryd.func67 rfl (TP (v := .int .u64 _) rfl) (TP (v := .nilIface) rfl) ?_
   exact ⟨.inl ⟨n, hne, hn, rfl⟩, hst.pure⟩
 · skip
   replace hst := hst.keepc hp
   clear hp
   refine CN <| Op1.move (v := .tuple #[.int .u64 _, .iface _ _]) rfl <| CN <| Op1.extract (v := .int .u64 _) rfl rfl <| CN <| Op1.extract (v := .iface _ _) rfl rfl <| CN <| Op1.assign (v := .int .u64 _) rfl <| CN <| Op1.assign (v := .iface _ _) rfl <| NL <| SQ <| SR <| CN <| Op1.move (v := .iface _ _) rfl <| CN <| Op1.neqIN ty92 rfl rfl <| NL <| run_cond_true (congrArg Value.bool (rfl : true = _)) <| SQ <| RG ?_
   refine CN <| Op1.move (v := .int .u64 _) rfl <| MS rfl <| MI rfl <| MI rfl <| CN <| Op1.move (v := .iface _ _) rfl <| CN (Op1.call5 (v1 := str _) (v2 := str _) (v3 := .int .i64 _) (v4 := .int .i64 _) (v5 := .iface _ _) ent88 rfl rfl rfl rfl rfl rfl ((lx_TE _ s _ (hst.hD _ (.head _)) (by omega)).mono fun v w hp => ?_))
   obtain ⟨⟨N, rfl⟩, hp⟩ := hp
   replace hst := hst.keepc hp
   clear hp
   refine CN <| Op1.assign (v := .int .u64 _) rfl <| CN <| Op1.assign (v := .iface _ _) rfl <| NL <| run_ret2 Tryd.func67 rfl (TP (v := .int .u64 _) rfl) (TP (v := .iface _ _) rfl) ?_
   exact ⟨.inr ⟨hno, N, rfl⟩, hst.pure⟩
theorem R6lx_plain (s : Tx) (w : World) (hG : LxG.holds w) (hl : s.length ≤ 140737488355328) : Ret Tryd.prog 65 #[str s] w (fun v w' => v = .tuple #[.int .u32 (puV s : Int), .bool (plainF s).isSome] ∧ St w NoM [] [] w') := by
 refine Ret.enter (args := [str s]) Tryd.func65 rfl rfl rfl ?_
 have hst : St w NoM [] [LxG] w := St.init_Ds (by simp only [List.forall_mem_cons]; exact ⟨hG, fun _ h => absurd h List.not_mem_nil⟩)
 have hpv := puV_le s
 refine SR <| AU rfl <| AB rfl <| NSR <| MS rfl <| CN (Op1.call3 (v1 := str _) (v2 := .int .i64 _) (v3 := .int .i64 _) ent67 rfl rfl rfl rfl ((lx_PU10 s _ (hst.hD _ (.head _)) (by omega)).mono fun v w hp => ?_))
 replace hp := or_and_right.1 hp
 rcases hp with ⟨⟨ho, rfl⟩, hp⟩ | ⟨⟨ho, N, rfl⟩, hp⟩
 · skip
   replace hst := hst.keepc hp
   clear hp
   refine CN <| Op1.move (v := .tuple #[.int .u64 _, .nilIface]) rfl <| CN <| Op1.extract (v := .int .u64 _) rfl rfl <| CN <| Op1.extract (v := .nilIface) rfl rfl <| CN <| Op1.assign (v := .int .u64 _) rfl <| CN <| Op1.assign (v := .nilIface) rfl <| NSR <| CN (Op1.move (v := .int .u64 _) rfl ?_)
   first | refine CN (Op1.convN ty76 ty22 rfl (wrap_u32 (by omega) (by omega)) ?_) | refine CN (Op1.conv ty76 ty22 rfl ?_)
   refine CN <| Op1.move (v := .nilIface) rfl <| CN <| Op1.eqlNN ty92 rfl rfl <| MB rfl <| TK (t := 15) rfl (congrArg Value.bool (rfl : true = _)) <| Op1.move (v := .int .u64 _) rfl <| TK (t := 15) rfl (congrArg Value.bool (rfl : true = _)) (Op1.call2 (v1 := .int .u64 _) (v2 := .int .i64 _) ent39 rfl rfl rfl ((R6lx_FU (puV s) (by omega) _ (hst.hD _ (.head _))).mono fun v w hp => ?_))
   obtain ⟨rfl, hp⟩ := hp
   replace hst := hst.keepc hp
   clear hp
   refine TK (t := 15) rfl (congrArg Value.bool (rfl : true = _)) <| Op1.move (v := str _) rfl <| TK (t := 15) rfl (congrArg Value.bool (rfl : true = _)) <| Op1.eqlS rfl rfl <| CN <| Op1.pickT (u := .bool _) (congrArg Value.bool (rfl : true = _)) rfl <| AU rfl <| AB rfl <| NL <| run_ret2 Tryd.func65 rfl (TP (v := .int .u32 _) rfl) (TP (v := .bool _) rfl) ?_
   rw [plain_yes ho]
   exact ⟨rfl, hst.pure⟩
 · skip
   replace hst := hst.keepc hp
   clear hp
   refine CN <| Op1.move (v := .tuple #[.int .u64 _, .iface _ _]) rfl <| CN <| Op1.extract (v := .int .u64 _) rfl rfl <| CN <| Op1.extract (v := .iface _ _) rfl rfl <| CN <| Op1.assign (v := .int .u64 _) rfl <| CN <| Op1.assign (v := .iface _ _) rfl <| NSR <| CN (Op1.move (v := .int .u64 _) rfl ?_)
   first | refine CN (Op1.convN ty76 ty22 rfl (wrap_u32 (by omega) (by omega)) ?_) | refine CN (Op1.conv ty76 ty22 rfl ?_)
   refine CN <| Op1.move (v := .iface _ _) rfl <| CN <| Op1.eqlIN ty92 rfl rfl <| MB rfl <| OM (t := 15) rfl (congrArg Value.bool (rfl : false = _)) rfl <| OM (t := 15) rfl (congrArg Value.bool (rfl : false = _)) rfl <| OM (t := 15) rfl (congrArg Value.bool (rfl : false = _)) rfl <| OM (t := 15) rfl (congrArg Value.bool (rfl : false = _)) rfl <| CN <| Op1.pickF (u := .bool _) (congrArg Value.bool (rfl : false = _)) rfl <| AU rfl <| AB rfl <| NL <| run_ret2 Tryd.func65 rfl (TP (v := .int .u32 _) rfl) (TP (v := .bool _) rfl) ?_
   rw [plain_no ho]
   exact ⟨rfl, hst.pure⟩
theorem R6lx_lNumber (s : Tx) (w : World) (hG : LxG.holds w) (hl : s.length ≤ 140737488355328) : Ret Tryd.prog 51 #[str s] w (fun v w' => v = .tuple #[.int .u32 (numLx s).1, .int .i64 (numLx s).2] ∧ St w NoM [] [] w') := by
 refine Ret.enter (args := [str s]) Tryd.func51 rfl rfl rfl ?_
 have hst : St w NoM [] [LxG] w := St.init_Ds (by simp only [List.forall_mem_cons]; exact ⟨hG, fun _ h => absurd h List.not_mem_nil⟩)
 refine SR <| AU rfl <| AI rfl <| NL <| SQ <| SR <| MS rfl <| CN <| Op1.call1 (v1 := str _) ent65 rfl rfl <| Ret.det (R6lx_plain _ _ (hst.hD _ (.head _)) (by first | omega | (simp only [List.length_drop, List.length_take, List.length_append, List.length_cons, List.length_nil]; omega))) hst fun w hst => CN <| Op1.move (v := .tuple #[.int .u32 _, .bool _]) rfl <| CN <| Op1.extract (v := .int .u32 _) rfl rfl <| CN <| Op1.extract (v := .bool _) rfl rfl <| AU rfl <| AB rfl ?_
 refine NSR <| MB rfl <| NL <| run_cond_split rfl (fun g1 => ?_) (fun g1 => ?_)
 · skip
   obtain ⟨n0, hn0⟩ := isSome_ex g1
   have hpr := plain_dec hn0
   refine SR <| MU rfl <| AU rfl <| AI rfl <| NL <| run_ret2 Tryd.func51 rfl (TP (v := .int .u32 _) rfl) (TP (v := .int .i64 _) rfl) ?_
   rw [numF_plain hn0, hpr.2.1]
   exact ⟨rfl, hst.pure⟩
 have hpn := isSome_no g1
 refine run_skip <| SQ <| SR <| MS rfl <| CN (Op1.call2 (v1 := str _) (v2 := str _) ent66 rfl rfl rfl ((lx_CPc s [45] _).mono fun v w hp => ?_))
 rcases hp with ⟨hm0, rfl, hp⟩ | ⟨hm0, rfl, hp⟩
 · skip
   replace hst := hst.keepc hp
   clear hp
   have hm := take1 hm0
   have hm45 : (45 : UInt8).toNat = 45 := rfl
   have hcl : ([45] : Tx).length = 1 := rfl
   rw [hm45] at hm
   refine CN <| Op1.move (v := .tuple #[str _, .bool _]) rfl <| CN <| Op1.extract (v := str _) rfl rfl <| CN <| Op1.extract (v := .bool _) rfl rfl <| AS rfl <| AB rfl <| NSR <| MB rfl <| NL <| run_cond_true (congrArg Value.bool (rfl : true = _)) <| SR <| MS rfl <| CN <| Op1.call1 (v1 := str _) ent65 rfl rfl <| Ret.det (R6lx_plain _ _ (hst.hD _ (.head _)) (by first | omega | (simp only [List.length_drop, List.length_take, List.length_append, List.length_cons, List.length_nil]; omega))) hst fun w hst => ?_
   refine CN <| Op1.move (v := .tuple #[.int .u32 _, .bool _]) rfl <| CN <| Op1.extract (v := .int .u32 _) rfl rfl <| CN <| Op1.extract (v := .bool _) rfl rfl <| AU rfl <| AB rfl <| NL <| Run.forget [(0, str _), (8, .int .u32 _), (9, .bool _)] ⟨rfl, rfl, rfl, trivial⟩ fun f => SR <| MB rfl <| MB rfl <| RunL.split (d := 33) rfl (fun g2 => ?_) (fun g2 => ?_)
   · skip
     obtain ⟨m, hm0m⟩ := isSome_ex g2
     have hmm : plainF (s.drop 1) = some m := hm0m
     have hpm : puV (s.drop ([45] : Tx).length) = m := (plain_dec hm0m).2.1
     refine TK (t := 33) rfl (congrArg Value.bool g2) <| Op1.move (v := .int .u32 _) rfl <| TK (t := 33) rfl (congrArg Value.bool g2) <| Op1.geq rfl rfl <| CN <| Op1.pickT (u := .bool _) (congrArg Value.bool g2) rfl <| MB rfl <| RunL.splitD (d := 37) rfl (fun g3 => ?_) (fun g3 => ?_)
     · skip
       refine TK (t := 37) rfl (congrArg Value.bool (decide_eq_true g3)) <| Op1.move (v := .int .u32 _) rfl <| TK (t := 37) rfl (congrArg Value.bool (decide_eq_true g3)) <| Op1.leq rfl rfl <| CN <| Op1.pickT (u := .bool _) (congrArg Value.bool (decide_eq_true g3)) rfl <| NL <| run_cond_dec rfl (fun g4 => ?_) (fun g4 => ?_)
       · skip
         refine SR <| MU rfl ?_
         first | refine CN (Op1.negN rfl rfl (wrap_u32 (by omega) (by omega)) ?_) | refine CN (Op1.neg rfl ?_)
         refine AU rfl <| AI rfl <| NL <| run_ret2 Tryd.func51 rfl (TP (v := .int .u32 _) rfl) (TP (v := .int .i64 _) rfl) ?_
         have hq : (1 : Int) ≤ (m : Int) ∧ (m : Int) ≤ 2147483648 := by omega
         rw [numF_minus2 hpn hm hmm (by omega)]
         have hw := neg_wrap (m := m) (by omega)
         rw [hpm, hw]
         exact ⟨rfl, hst.pure⟩
       refine run_skip <| SQ <| SR <| MS rfl <| CN (Op1.call2 (v1 := str _) (v2 := str _) ent66 rfl rfl rfl ((lx_CPc s [48, 120] _).mono fun v w hp => ?_))
       rcases hp with ⟨hx0, rfl, hp⟩ | ⟨hx0, rfl, hp⟩
       · skip
         have hx := take2 hx0
         have hx48 : (48 : UInt8).toNat = 48 := rfl
         have hx120 : (120 : UInt8).toNat = 120 := rfl
         rw [hx48, hx120] at hx
         exfalso; omega
       · skip
         replace hst := hst.keepc hp
         clear hp
         have hx := take2_no hx0
         have hx48 : (48 : UInt8).toNat = 48 := rfl
         have hx120 : (120 : UInt8).toNat = 120 := rfl
         rw [hx48, hx120] at hx
         refine CN <| Op1.move (v := .tuple #[str _, .bool _]) rfl <| CN <| Op1.extract (v := str _) rfl rfl <| CN <| Op1.extract (v := .bool _) rfl rfl <| AS rfl <| AB rfl <| NSR <| MB rfl <| MB rfl <| OM (t := 49) rfl (congrArg Value.bool (rfl : false = _)) rfl <| OM (t := 49) rfl (congrArg Value.bool (rfl : false = _)) rfl <| OM (t := 49) rfl (congrArg Value.bool (rfl : false = _)) rfl <| CN <| Op1.pickF (u := .bool _) (congrArg Value.bool (rfl : false = _)) rfl <| MB rfl ?_
         refine OM (t := 54) rfl (congrArg Value.bool (rfl : false = _)) rfl <| OM (t := 54) rfl (congrArg Value.bool (rfl : false = _)) rfl <| OM (t := 54) rfl (congrArg Value.bool (rfl : false = _)) rfl <| OM (t := 54) rfl (congrArg Value.bool (rfl : false = _)) rfl <| CN <| Op1.pickF (u := .bool _) (congrArg Value.bool (rfl : false = _)) rfl <| NL <| Run.forget [(10, str _), (59, .bool _)] ⟨rfl, rfl, trivial⟩ fun f => run_cond_false (congrArg Value.bool (rfl : false = _)) <| run_skip <| SR <| AU rfl <| AI rfl <| NL <| run_ret2 Tryd.func51 rfl (TP (v := .int .u32 _) rfl) (TP (v := .int .i64 _) rfl) ?_
         rw [numF_minusBad2 hpn hm (fun n hn => by rw [hmm] at hn; cases hn; omega)]
         exact ⟨rfl, hst.pure⟩
     refine OM (t := 37) rfl (congrArg Value.bool (decide_eq_false g3)) rfl <| OM (t := 37) rfl (congrArg Value.bool (decide_eq_false g3)) rfl <| CN <| Op1.pickF (u := .bool _) (congrArg Value.bool (decide_eq_false g3)) rfl <| NL <| run_cond_false (congrArg Value.bool (rfl : false = _)) <| run_skip <| SQ <| SR <| MS rfl <| CN (Op1.call2 (v1 := str _) (v2 := str _) ent66 rfl rfl rfl ((lx_CPc s [48, 120] _).mono fun v w hp => ?_))
     rcases hp with ⟨hx0, rfl, hp⟩ | ⟨hx0, rfl, hp⟩
     · skip
       have hx := take2 hx0
       have hx48 : (48 : UInt8).toNat = 48 := rfl
       have hx120 : (120 : UInt8).toNat = 120 := rfl
       rw [hx48, hx120] at hx
       exfalso; omega
     · skip
       replace hst := hst.keepc hp
       clear hp
       have hx := take2_no hx0
       have hx48 : (48 : UInt8).toNat = 48 := rfl
       have hx120 : (120 : UInt8).toNat = 120 := rfl
       rw [hx48, hx120] at hx
       refine CN <| Op1.move (v := .tuple #[str _, .bool _]) rfl <| CN <| Op1.extract (v := str _) rfl rfl <| CN <| Op1.extract (v := .bool _) rfl rfl <| AS rfl <| AB rfl <| NSR <| MB rfl <| MB rfl <| OM (t := 49) rfl (congrArg Value.bool (rfl : false = _)) rfl <| OM (t := 49) rfl (congrArg Value.bool (rfl : false = _)) rfl <| OM (t := 49) rfl (congrArg Value.bool (rfl : false = _)) rfl <| CN <| Op1.pickF (u := .bool _) (congrArg Value.bool (rfl : false = _)) rfl <| MB rfl ?_
       refine OM (t := 54) rfl (congrArg Value.bool (rfl : false = _)) rfl <| OM (t := 54) rfl (congrArg Value.bool (rfl : false = _)) rfl <| OM (t := 54) rfl (congrArg Value.bool (rfl : false = _)) rfl <| OM (t := 54) rfl (congrArg Value.bool (rfl : false = _)) rfl <| CN <| Op1.pickF (u := .bool _) (congrArg Value.bool (rfl : false = _)) rfl <| NL <| Run.forget [(10, str _), (59, .bool _)] ⟨rfl, rfl, trivial⟩ fun f => run_cond_false (congrArg Value.bool (rfl : false = _)) <| run_skip <| SR <| AU rfl <| AI rfl <| NL <| run_ret2 Tryd.func51 rfl (TP (v := .int .u32 _) rfl) (TP (v := .int .i64 _) rfl) ?_
       rw [numF_minusBad2 hpn hm (fun n hn => by rw [hmm] at hn; cases hn; omega)]
       exact ⟨rfl, hst.pure⟩
   have hmn : plainF (s.drop 1) = none := isSome_no g2
   refine OM (t := 33) rfl (congrArg Value.bool g2) rfl <| OM (t := 33) rfl (congrArg Value.bool g2) rfl <| CN <| Op1.pickF (u := .bool _) (congrArg Value.bool g2) rfl <| MB rfl <| OM (t := 37) rfl (congrArg Value.bool (rfl : false = _)) rfl <| OM (t := 37) rfl (congrArg Value.bool (rfl : false = _)) rfl <| CN <| Op1.pickF (u := .bool _) (congrArg Value.bool (rfl : false = _)) rfl <| NL <| run_cond_false (congrArg Value.bool (rfl : false = _)) <| run_skip <| SQ <| SR <| MS rfl <| CN (Op1.call2 (v1 := str _) (v2 := str _) ent66 rfl rfl rfl ((lx_CPc s [48, 120] _).mono fun v w hp => ?_))
   rcases hp with ⟨hx0, rfl, hp⟩ | ⟨hx0, rfl, hp⟩
   · skip
     have hx := take2 hx0
     have hx48 : (48 : UInt8).toNat = 48 := rfl
     have hx120 : (120 : UInt8).toNat = 120 := rfl
     rw [hx48, hx120] at hx
     exfalso; omega
   · skip
     replace hst := hst.keepc hp
     clear hp
     have hx := take2_no hx0
     have hx48 : (48 : UInt8).toNat = 48 := rfl
     have hx120 : (120 : UInt8).toNat = 120 := rfl
     rw [hx48, hx120] at hx
     refine CN <| Op1.move (v := .tuple #[str _, .bool _]) rfl <| CN <| Op1.extract (v := str _) rfl rfl <| CN <| Op1.extract (v := .bool _) rfl rfl <| AS rfl <| AB rfl <| NSR <| MB rfl <| MB rfl <| OM (t := 49) rfl (congrArg Value.bool (rfl : false = _)) rfl <| OM (t := 49) rfl (congrArg Value.bool (rfl : false = _)) rfl <| OM (t := 49) rfl (congrArg Value.bool (rfl : false = _)) rfl <| CN <| Op1.pickF (u := .bool _) (congrArg Value.bool (rfl : false = _)) rfl <| MB rfl ?_
     refine OM (t := 54) rfl (congrArg Value.bool (rfl : false = _)) rfl <| OM (t := 54) rfl (congrArg Value.bool (rfl : false = _)) rfl <| OM (t := 54) rfl (congrArg Value.bool (rfl : false = _)) rfl <| OM (t := 54) rfl (congrArg Value.bool (rfl : false = _)) rfl <| CN <| Op1.pickF (u := .bool _) (congrArg Value.bool (rfl : false = _)) rfl <| NL <| run_cond_false (congrArg Value.bool (rfl : false = _)) <| run_skip <| SR <| AU rfl <| AI rfl <| NL <| run_ret2 Tryd.func51 rfl (TP (v := .int .u32 _) rfl) (TP (v := .int .i64 _) rfl) ?_
     rw [numF_minusBad2 hpn hm (fun n hn => by rw [hmn] at hn; cases hn)]
     exact ⟨rfl, hst.pure⟩
 · skip
   replace hst := hst.keepc hp
   clear hp
   have hm := take1_no hm0
   have hm45 : (45 : UInt8).toNat = 45 := rfl
   rw [hm45] at hm
   refine CN <| Op1.move (v := .tuple #[str _, .bool _]) rfl <| CN <| Op1.extract (v := str _) rfl rfl <| CN <| Op1.extract (v := .bool _) rfl rfl <| AS rfl <| AB rfl <| NSR <| MB rfl <| NL <| run_cond_false (congrArg Value.bool (rfl : false = _)) <| run_skip <| SQ <| SQ <| RG ?_
   refine MS rfl <| CN (Op1.call2 (v1 := str _) (v2 := str _) ent66 rfl rfl rfl ((lx_CPc s [48, 120] _).mono fun v w hp => ?_))
   rcases hp with ⟨hx0, rfl, hp⟩ | ⟨hx0, rfl, hp⟩
   · skip
     replace hst := hst.keepc hp
     clear hp
     have hx := take2 hx0
     have hx48 : (48 : UInt8).toNat = 48 := rfl
     have hx120 : (120 : UInt8).toNat = 120 := rfl
     rw [hx48, hx120] at hx
     have hcl2 : ([48, 120] : Tx).length = 2 := rfl
     refine CN <| Op1.move (v := .tuple #[str _, .bool _]) rfl <| CN <| Op1.extract (v := str _) rfl rfl <| CN <| Op1.extract (v := .bool _) rfl rfl <| AS rfl <| AB rfl <| NL <| Run.forget [(10, str _), (11, .bool _)] ⟨rfl, rfl, trivial⟩ fun f => SR <| MB rfl <| MB rfl <| TK (t := 49) rfl (congrArg Value.bool (rfl : true = _)) <| Op1.move (v := str _) rfl <| TK (t := 49) rfl (congrArg Value.bool (rfl : true = _)) <| Op1.lenS (rest := []) ty9 rfl <| TK (t := 49) rfl (congrArg Value.bool (rfl : true = _)) <| Op1.leq rfl rfl <| CN (Op1.pickT (u := .bool _) (congrArg Value.bool (rfl : true = _)) rfl ?_)
     refine MB rfl <| RunL.splitD (d := 54) rfl (fun g5 => ?_) (fun g5 => ?_)
     · skip
       refine TK (t := 54) rfl (congrArg Value.bool (decide_eq_true g5)) <| Op1.move (v := str _) rfl <| TK (t := 54) rfl (congrArg Value.bool (decide_eq_true g5)) (Op1.call1 (v1 := str _) ent64 rfl rfl ((R6lx_run _ _ (by first | omega | (simp only [List.length_drop]; omega))).mono fun v w hp => ?_))
       obtain ⟨rfl, hp⟩ := hp
       replace hst := hst.keepc hp
       clear hp
       refine TK (t := 54) rfl (congrArg Value.bool (decide_eq_true g5)) <| Op1.move (v := str _) rfl <| TK (t := 54) rfl (congrArg Value.bool (decide_eq_true g5)) <| Op1.eqlS rfl rfl <| CN <| Op1.pickT (u := .bool _) (congrArg Value.bool (decide_eq_true g5)) rfl <| NL <| run_cond_dec rfl (fun g6 => ?_) (fun g6 => ?_)
       · skip
         have hd2 : (s.drop ([48, 120] : Tx).length).length = s.length - 2 := List.length_drop
         have hd3 : (s.drop 2).length = s.length - 2 := List.length_drop
         have hl8 : (s.drop 2).length ≤ 8 := by omega
         refine SR <| MS rfl <| CN (Op1.call3 (v1 := str _) (v2 := .int .i64 _) (v3 := .int .i64 _) ent67 rfl rfl rfl rfl ((R6lx_PU16 (s.drop 2) hl8 _ (hst.hD _ (.head _))).mono fun v w hp => ?_))
         replace hp := or_and_right.1 hp
         rcases hp with ⟨⟨n, hne, hn, rfl⟩, hp⟩ | ⟨⟨hno, N, rfl⟩, hp⟩
         · skip
           replace hst := hst.keepc hp
           clear hp
           have hru := hexs_run _ _ _ hn
           have hnb := hexs_bd hn hl8
           refine CN <| Op1.move (v := .tuple #[.int .u64 _, .nilIface]) rfl <| CN <| Op1.extract (v := .int .u64 _) rfl rfl <| CN <| Op1.extract (v := .nilIface) rfl rfl <| CN <| Op1.assign (v := .int .u64 _) rfl <| CN <| Op1.assign (v := .nilIface) rfl <| NL <| Run.forget [(10, str _), (12, .int .u64 _), (13, .nilIface)] ⟨rfl, rfl, rfl, trivial⟩ fun f => SR <| CN <| Op1.move (v := .nilIface) rfl <| CN <| Op1.eqlNN ty92 rfl rfl <| MB rfl <| TK (t := 67) rfl (congrArg Value.bool (rfl : true = _)) <| Op1.move (v := str _) rfl <| TK (t := 67) rfl (congrArg Value.bool (rfl : true = _)) (Op1.call2 (v1 := str _) (v2 := .int .u8 _) ent68 rfl rfl rfl ((lx_IB (s.drop 2) 95 _).mono fun v w hp => ?_))
           obtain ⟨he, hp⟩ := hp
           replace he := he.trans ((by rw [show (95 : Int).toNat.toUInt8 = 95 from rfl, hru.2] : _ = Value.int .i64 (-1)))
           subst he
           replace hst := hst.keepc hp
           clear hp
           refine TK (t := 67) rfl (congrArg Value.bool (rfl : true = _)) <| Op1.lss rfl rfl <| CN <| Op1.pickT (u := .bool _) (congrArg Value.bool (rfl : true = _)) rfl <| NL <| run_cond_dec rfl (fun g7 => ?_) (fun g7 => ?_)
           · skip
             refine SR <| CN (Op1.move (v := .int .u64 _) rfl ?_)
             first | refine CN (Op1.convN ty76 ty22 rfl (wrap_u32 (by omega) (by omega)) ?_) | refine CN (Op1.conv ty76 ty22 rfl ?_)
             refine AU rfl <| AI rfl <| NL <| run_ret2 Tryd.func51 rfl (TP (v := .int .u32 _) rfl) (TP (v := .int .i64 _) rfl) ?_
             have hd2 : (s.drop 2).length = s.length - 2 := List.length_drop
             rw [numF_hex hpn (by omega) (by omega) hn]
             exact ⟨rfl, hst.pure⟩
           exfalso
           omega
         · skip
           replace hst := hst.keepc hp
           clear hp
           refine CN <| Op1.move (v := .tuple #[.int .u64 _, .iface _ _]) rfl <| CN <| Op1.extract (v := .int .u64 _) rfl rfl <| CN <| Op1.extract (v := .iface _ _) rfl rfl <| CN <| Op1.assign (v := .int .u64 _) rfl <| CN <| Op1.assign (v := .iface _ _) rfl <| NL <| Run.forget [(10, str _), (12, .int .u64 _), (13, .iface _ _)] ⟨rfl, rfl, rfl, trivial⟩ fun f => SR <| CN <| Op1.move (v := .iface _ _) rfl <| CN <| Op1.eqlIN ty92 rfl rfl <| MB rfl <| OM (t := 67) rfl (congrArg Value.bool (rfl : false = _)) rfl <| OM (t := 67) rfl (congrArg Value.bool (rfl : false = _)) rfl <| OM (t := 67) rfl (congrArg Value.bool (rfl : false = _)) rfl ?_
           refine CN <| Op1.pickF (u := .bool _) (congrArg Value.bool (rfl : false = _)) rfl <| NL <| run_cond_false (congrArg Value.bool (rfl : false = _)) <| run_skip <| SR <| AU rfl <| AI rfl <| NL <| run_ret2 Tryd.func51 rfl (TP (v := .int .u32 _) rfl) (TP (v := .int .i64 _) rfl) ?_
           have hd2 : (s.drop 2).length = s.length - 2 := List.length_drop
           rw [numF_hexBad2 hpn hx (by rcases hno with h0 | h0; exact .inr (.inl (by omega)); exact .inr (.inr h0))]
           exact ⟨rfl, hst.pure⟩
       refine run_skip <| SR <| AU rfl <| AI rfl <| NL <| run_ret2 Tryd.func51 rfl (TP (v := .int .u32 _) rfl) (TP (v := .int .i64 _) rfl) ?_
       rw [numF_hexBad2 hpn hx (.inr (.inr (by cases hq : hexsF (s.drop 2) 0 with | none => rfl | some n => exact absurd (hexs_run _ _ _ hq).1 g6)))]
       exact ⟨rfl, hst.pure⟩
     refine OM (t := 54) rfl (congrArg Value.bool (decide_eq_false g5)) rfl <| OM (t := 54) rfl (congrArg Value.bool (decide_eq_false g5)) rfl <| OM (t := 54) rfl (congrArg Value.bool (decide_eq_false g5)) rfl <| OM (t := 54) rfl (congrArg Value.bool (decide_eq_false g5)) rfl <| CN <| Op1.pickF (u := .bool _) (congrArg Value.bool (decide_eq_false g5)) rfl <| NL <| run_cond_false (congrArg Value.bool (rfl : false = _)) <| run_skip <| SR <| AU rfl <| AI rfl <| NL <| run_ret2 Tryd.func51 rfl (TP (v := .int .u32 _) rfl) (TP (v := .int .i64 _) rfl) ?_
     have hd2 : (s.drop ([48, 120] : Tx).length).length = s.length - 2 := List.length_drop
     rw [numF_hexBad2 hpn hx (.inl (by omega))]
     exact ⟨rfl, hst.pure⟩
   · skip
     replace hst := hst.keepc hp
     clear hp
     have hx := take2_no hx0
     have hx48 : (48 : UInt8).toNat = 48 := rfl
     have hx120 : (120 : UInt8).toNat = 120 := rfl
     rw [hx48, hx120] at hx
     refine CN <| Op1.move (v := .tuple #[str _, .bool _]) rfl <| CN <| Op1.extract (v := str _) rfl rfl <| CN <| Op1.extract (v := .bool _) rfl rfl <| AS rfl <| AB rfl <| NL <| Run.forget [(10, str _), (11, .bool _)] ⟨rfl, rfl, trivial⟩ fun f => SR <| MB rfl <| MB rfl <| OM (t := 49) rfl (congrArg Value.bool (rfl : false = _)) rfl <| OM (t := 49) rfl (congrArg Value.bool (rfl : false = _)) rfl <| OM (t := 49) rfl (congrArg Value.bool (rfl : false = _)) rfl <| CN (Op1.pickF (u := .bool _) (congrArg Value.bool (rfl : false = _)) rfl ?_)
     refine MB rfl <| OM (t := 54) rfl (congrArg Value.bool (rfl : false = _)) rfl <| OM (t := 54) rfl (congrArg Value.bool (rfl : false = _)) rfl <| OM (t := 54) rfl (congrArg Value.bool (rfl : false = _)) rfl <| OM (t := 54) rfl (congrArg Value.bool (rfl : false = _)) rfl <| CN <| Op1.pickF (u := .bool _) (congrArg Value.bool (rfl : false = _)) rfl <| NL <| run_cond_false (congrArg Value.bool (rfl : false = _)) <| run_skip <| SR <| AU rfl <| AI rfl <| NL <| run_ret2 Tryd.func51 rfl (TP (v := .int .u32 _) rfl) (TP (v := .int .i64 _) rfl) ?_
     rw [numF_bad hpn (by omega) (by omega)]
     exact ⟨rfl, hst.pure⟩
end Go.SK
namespace Go.SK
open Go Go.Proofs
theorem ent51 : Enters Tryd.prog 51 := ⟨Tryd.f51, _, Tryd.func51, by kernel_rfl, rfl⟩
theorem ent62 : Enters Tryd.prog 62 := ⟨Tryd.f62, _, Tryd.func62, by kernel_rfl, rfl⟩
end Go.SK
namespace Go.SK
open Go Go.Proofs
open Go.RowKit
theorem R6lx_escaped (s : Tx) (w : World) (hG : LxG.holds w) (hl : s.length ≤ 140737488355327) : Ret Tryd.prog 85 #[str s] w (fun v w' => v = partV (escF s) ∧ St w NoM [] [] w') := by
 refine Ret.enter (args := [str s]) Tryd.func85 rfl rfl rfl ?_
 have hst : St w NoM [] [LxG] w := St.init_Ds (by simp only [List.forall_mem_cons]; exact ⟨hG, fun _ h => absurd h List.not_mem_nil⟩)
 have hidx0 : (s.getD ((0 : Int).toNat) 0).toNat = (s.getD 0 0).toNat := rfl
 have h48 : (numLx ([48] ++ s.take ((3 : Int).toNat))).2 = (numLx ([48] ++ s.take 3)).2 := rfl
 refine SR <| AC rfl <| AI rfl <| NL <| SQ <| run_block <| SR <| MS rfl <| CN <| Op1.eqlS rfl rfl <| AB rfl <| NL <| run_cond_dec rfl (fun g1 => ?_) (fun g1 => ?_)
 · skip
   refine run_skip <| run_inBlock <| SR <| AC rfl <| AI rfl <| NL <| run_ret2 Tryd.func85 rfl (TP (v := .int .u8 _) rfl) (TP (v := .int .i64 _) rfl) ?_
   subst g1
   exact ⟨rfl, hst.pure⟩
 have hpos : 0 < s.length := by rcases Nat.eq_zero_or_pos s.length with h0 | h0; exact absurd (List.length_eq_zero_iff.1 h0) g1; exact h0
 refine SQ <| SR <| MS rfl <| CN <| Op1.indexS ty9 rfl rfl (by omega) (by omega) <| CN <| Op1.eql rfl rfl <| AB rfl <| NL <| run_cond_dec rfl (fun g2 => ?_) (fun g2 => ?_)
 · skip
   refine run_skip <| run_cond_true (congrArg Value.bool (decide_eq_true g2)) <| SR <| MS rfl <| CN <| Op1.indexS ty9 rfl rfl (by omega) (by omega) <| AC rfl <| AI rfl <| NL <| run_ret2 Tryd.func85 rfl (TP (v := .int .u8 _) rfl) (TP (v := .int .i64 _) rfl) ?_
   rw [esc_mark (by omega) (by omega)]
   exact ⟨rfl, hst.pure⟩
 refine RG <| MS rfl <| CN <| Op1.indexS ty9 rfl rfl (by omega) (by omega) <| CN <| Op1.eql rfl rfl <| AB rfl <| NL <| run_cond_dec rfl (fun g3 => ?_) (fun g3 => ?_)
 · skip
   refine SR <| MS rfl <| CN <| Op1.indexS ty9 rfl rfl (by omega) (by omega) <| AC rfl <| AI rfl <| NL <| run_ret2 Tryd.func85 rfl (TP (v := .int .u8 _) rfl) (TP (v := .int .i64 _) rfl) ?_
   rw [esc_mark (by omega) (by omega)]
   exact ⟨rfl, hst.pure⟩
 refine SR <| MS rfl <| CN <| Op1.indexS ty9 rfl rfl (by omega) (by omega) <| CN <| Op1.eql rfl rfl <| MB rfl <| RunL.splitD (d := 22) rfl (fun g4 => ?_) (fun g4 => ?_)
 · skip
   refine TK (t := 22) rfl (congrArg Value.bool (decide_eq_true g4)) <| Op1.move (v := str _) rfl <| TK (t := 22) rfl (congrArg Value.bool (decide_eq_true g4)) <| Op1.lenS (rest := []) ty9 rfl <| TK (t := 22) rfl (congrArg Value.bool (decide_eq_true g4)) <| Op1.geq rfl rfl <| CN <| Op1.pickT (u := .bool _) (congrArg Value.bool (decide_eq_true g4)) rfl <| AB rfl <| NL <| Run.forget [(0, str _), (18, .bool _)] ⟨rfl, rfl, trivial⟩ fun f => run_cond_dec rfl (fun g5 => ?_) (fun g5 => ?_)
   · skip
     refine SR <| MS rfl <| CN <| Op1.sliceTo ty9 rfl rfl (by omega) (by omega) <| CN <| Op1.addS rfl rfl (by first | omega | (simp only [List.length_cons, List.length_nil, List.length_append]; omega) | (simp; omega)) <| CN <| Op1.call1 (v1 := str _) ent51 rfl rfl <| Ret.det (R6lx_lNumber _ _ (hst.hD _ (.head _)) (by simp only [List.length_append, List.length_take, List.length_singleton]; omega)) hst fun w hst => CN <| Op1.move (v := .tuple #[.int .u32 _, .int .i64 _]) rfl <| CN <| Op1.extract (v := .int .u32 _) rfl rfl <| CN <| Op1.extract (v := .int .i64 _) rfl rfl <| AU rfl <| AI rfl <| NSR <| MI rfl ?_
     refine CN <| Op1.eql rfl rfl <| NL <| run_cond_dec rfl (fun g6 => ?_) (fun g6 => ?_)
     · skip
       have hq0 : (numLx ([48] ++ s.take ((3 : Int).toNat))) = numLx ([48] ++ s.take 3) := rfl
       have hn0 : (numLx ([48] ++ s.take 3)).2 = 0 := by have := g6; omega
       have heb := (esc_hex (r := s) (by omega) (by omega) hn0).2
       have heb2 : (numLx ([48] ++ s.take ((3 : Int).toNat))).1 = (numLx ([48] ++ s.take 3)).1 := rfl
       refine SR <| MU rfl ?_
       first | refine CN (Op1.convN ty22 ty5 rfl (wrap_u8 (by omega) (by omega)) ?_) | refine CN (Op1.conv ty22 ty5 rfl ?_)
       refine AC rfl <| AI rfl <| NL <| run_ret2 Tryd.func85 rfl (TP (v := .int .u8 _) rfl) (TP (v := .int .i64 _) rfl) ?_
       have he := esc_hex (r := s) (by omega) (by omega) hn0
       rw [he.1]
       exact ⟨partV_byte he.2, hst.pure⟩
     have hq0 : (numLx ([48] ++ s.take ((3 : Int).toNat))) = numLx ([48] ++ s.take 3) := rfl
     refine run_skip <| run_inBlock <| SR <| AC rfl <| AI rfl <| NL <| run_ret2 Tryd.func85 rfl (TP (v := .int .u8 _) rfl) (TP (v := .int .i64 _) rfl) ?_
     rw [esc_noHex (r := s) (by omega) (by omega) (by omega)]
     exact ⟨rfl, hst.pure⟩
   refine run_skip <| run_inBlock <| SR <| AC rfl <| AI rfl <| NL <| run_ret2 Tryd.func85 rfl (TP (v := .int .u8 _) rfl) (TP (v := .int .i64 _) rfl) ?_
   rw [esc_no (r := s) (by omega) (by omega) (by omega)]
   exact ⟨rfl, hst.pure⟩
 refine OM (t := 22) rfl (congrArg Value.bool (decide_eq_false g4)) rfl <| OM (t := 22) rfl (congrArg Value.bool (decide_eq_false g4)) rfl <| OM (t := 22) rfl (congrArg Value.bool (decide_eq_false g4)) rfl <| CN <| Op1.pickF (u := .bool _) (congrArg Value.bool (decide_eq_false g4)) rfl <| AB rfl <| NL <| Run.forget [(0, str _), (18, .bool _)] ⟨rfl, rfl, trivial⟩ fun f => run_cond_false (congrArg Value.bool (rfl : false = _)) <| run_skip <| run_inBlock <| SR <| AC rfl <| AI rfl <| NL ?_
 refine run_ret2 Tryd.func85 rfl (TP (v := .int .u8 _) rfl) (TP (v := .int .i64 _) rfl) ?_
 rw [esc_no (r := s) (by omega) (by omega) (by omega)]
 exact ⟨rfl, hst.pure⟩
theorem R6lx_Quoted (s : Tx) (x : Int) (a : Nat) (hx : x = a) (ha : a < s.length) (w : World) (hl : s.length ≤ 1099511627776) : Ret Tryd.prog 48 #[str s, .int .i64 x] w (fun v w' => v = .tuple #[str (quoP (quoA s (a + 1))).1, .int .i64 ((quoP (quoA s (a + 1))).2 : Int)] ∧ St w NoM [] [] w') := by
 refine Ret.enter (args := [str s, .int .i64 x]) Tryd.func48 rfl rfl rfl ?_
 have hst := St.init w
 subst hx
 refine SR <| AS rfl <| AI rfl <| NSR <| AL rfl <| NSR <| MI rfl <| CN <| Op1.addN rfl rfl rfl (wrap_i64 (by omega) (by omega)) <| AI rfl <| NL ?_
 refine SQ <| run_block <| run_loop ?_
 replace hst := hst.pushNil 5 1
 refine Run.indW [(0, str _), (1, .int .i64 _)] ⟨rfl, rfl, trivial⟩ (fun (qq : Nat × Tx × Option Addr × Nat) => [(6, .slice qq.2.2.1 qq.2.1.length qq.2.2.2), (7, .int .i64 (qq.1 : Int))]) (fun (qq : Nat × Tx × Option Addr × Nat) => [Res.sl qq.2.2.1 qq.2.1.length qq.2.2.2 5 1 (qq.2.1.flatMap byC)]) (fun (qq : Nat × Tx × Option Addr × Nat) => quoI s (a + 1) qq.1 qq.2.1) (fun (qq : Nat × Tx × Option Addr × Nat) => s.length - qq.1) ((a + 1, [], none, 0)) hst (quoI_start (by omega)) ⟨rfl, rfl, trivial⟩ ?_
 intro ⟨i, b, aq, cq⟩ f w hst hJ ih1
 replace hst : St _ _ ([Res.sl aq b.length cq 5 1 (b.flatMap byC)] ++ []) _ _ := hst
 replace hJ : quoI s (a + 1) i b := hJ
 refine Run.slots (sl := [(6, .slice aq b.length cq), (7, .int .i64 (i : Int))]) ⟨rfl, rfl, trivial⟩ ?_
 have hidx : (s.getD ((i : Int).toNat) 0).toNat = (s.getD i 0).toNat := rfl
 have hj2 := hJ.2.1
 have hj3 := hJ.2.2.1
 have hj1 := hJ.1
 refine SQ <| SR <| MI rfl <| MS rfl <| CN <| Op1.lenS (rest := []) ty9 rfl <| CN <| Op1.lss rfl rfl <| NL <| run_cond_dec rfl (fun g2 => ?_) (fun g2 => ?_)
 · skip
   refine run_skip <| run_block <| SQ <| SR <| MS rfl <| MI rfl <| CN <| Op1.indexS ty9 rfl rfl (by omega) (by omega) <| CN <| Op1.eql rfl rfl <| NL <| run_cond_dec rfl (fun g3 => ?_) (fun g3 => ?_)
   · skip
     refine SR <| ML rfl <| CN <| Op1.bytesStr2 (l := b) ty56 ty5 ty9 rfl rfl (Res.rs_of_sl (hst.hL _ (.head _))) rfl <| MI rfl <| CN <| Op1.addN rfl rfl rfl (wrap_i64 (by omega) (by omega)) <| MI rfl <| CN <| Op1.subN rfl rfl rfl (wrap_i64 (by omega) (by omega)) <| AS rfl <| AI rfl <| NL <| run_ret2 Tryd.func48 rfl (TP (v := str _) rfl) (TP (v := .int .i64 _) rfl) ?_
     rw [quoI_mark hJ (by omega) (by omega)]
     unfold quoP; dsimp only
     refine ⟨?_, hst.pure⟩
     congr 3; congr 1; have hj1 := hJ.1; congr 1; omega
   refine run_skip <| SR <| MS rfl <| MI rfl <| CN <| Op1.call2 (v1 := str _) (v2 := .int .i64 _) ent62 rfl rfl rfl <| Ret.det (R6lx_Part s _ i rfl (by omega) _ (by omega)) hst fun w hst => CN <| Op1.move (v := .tuple #[.int .u8 _, .int .i64 _]) rfl <| CN <| Op1.extract (v := .int .u8 _) rfl rfl <| CN <| Op1.extract (v := .int .i64 _) rfl rfl <| AC rfl <| AI rfl <| NL <| SQ <| SQ <| RG ?_
   refine MI rfl <| CN <| Op1.eql rfl rfl <| NL <| run_cond_dec rfl (fun g4 => ?_) (fun g4 => ?_)
   · skip
     have hpn : partF (s.drop i) = none := get_none (d := (0 : UInt8)) (fun c k h => (part_pos h).1) (Int.ofNat_eq_zero.1 g4)
     refine SR <| AS rfl <| AI rfl <| NL <| run_ret2 Tryd.func48 rfl (TP (v := str _) rfl) (TP (v := .int .i64 _) rfl) ?_
     rw [quoI_none hJ (quo_none (by omega) (by omega) hpn)]
     exact ⟨rfl, hst.pure⟩
   have hpt : partF (s.drop i) = some (((partF (s.drop i)).getD (0, 0)).1, ((partF (s.drop i)).getD (0, 0)).2) := get_some (d := (0 : UInt8)) (fun e => g4 (by rw [e]; rfl))
   have hpl := part_len (by omega) hpt
   refine run_skip <| SR <| ML rfl <| MC rfl <| CN (Op1.buildSl (z0 := [.int .u8 0]) hst ty56 ty5 rfl rfl (by kernel_rfl) (.c (v := .int .u8 _) rfl (h := .nil)) fun w b36 hst => ?_)
   refine CN (Op1.append (news := byC ((partF (s.drop i)).getD (0, 0)).1) hst ty56 ty5 rfl rfl (.there (.here)) rfl rfl rfl (cells_of_obj (n := 1) (hst.objL (.head _)) _ rfl) rfl rfl (by omega) fun w ao5 cp6 hst => ?_)
   replace hst := hst.drop (.there (.here))
   refine AL rfl <| NL <| Run.forget [(0, str _), (1, .int .i64 _), (6, .slice _ _ _), (7, .int .i64 _), (9, .int .i64 _)] ⟨rfl, rfl, rfl, rfl, rfl, trivial⟩ fun f => RG <| MI rfl <| MI rfl <| CN <| Op1.addN rfl rfl rfl (wrap_i64 (by omega) (by omega)) <| AI rfl <| NL <| run_inBlock <| run_inLoop ?_
   have hI := quoI_step hJ (by omega) (by omega) hpt
   exact ih1 ((i + ((partF (s.drop i)).getD (0, 0)).2, b ++ [((partF (s.drop i)).getD (0, 0)).1], ao5, cp6)) _ w (by (try dsimp only); have := (part_len (by omega) hpt).1; omega) (by rw [List.length_append, List.flatMap_append]; exact hst) (hI) ⟨rfl, rfl, trivial⟩ ⟨(by simp only [List.length_append]; rfl), (congrArg (Value.int .i64) (by (try dsimp only); omega)), trivial⟩
 refine run_exit (id := 0) rfl <| SR <| AS rfl <| AI rfl <| NL <| run_ret2 Tryd.func48 rfl (TP (v := str _) rfl) (TP (v := .int .i64 _) rfl) ?_
 rw [quoI_none hJ (quo_end (by omega))]
 exact ⟨rfl, hst.pure⟩
end Go.SK
namespace Go.SK
open Go Go.Proofs
theorem ent85 : Enters Tryd.prog 85 := ⟨Tryd.f85, _, Tryd.func85, by kernel_rfl, rfl⟩
end Go.SK
namespace Go.SK
open Go Go.Proofs
open Go.RowKit
theorem R6lx_quoted (s : Tx) (h0 : 0 < s.length) (w : World) (hG : LxG.holds w) (hl : s.length ≤ 1099511627776) : Ret Tryd.prog 63 #[str s] w (fun v w' => v = .tuple #[str (quoP (quoA s 1)).1, .int .i64 ((quoP (quoA s 1)).2 : Int)] ∧ St w NoM [] [] w') := by
 refine Ret.enter (args := [str s]) Tryd.func63 rfl rfl rfl ?_
 have hst : St w NoM [] [LxG] w := St.init_Ds (by simp only [List.forall_mem_cons]; exact ⟨hG, fun _ h => absurd h List.not_mem_nil⟩)
 refine SR <| AS rfl <| AI rfl <| NL <| run_scope <| SR <| AL rfl <| NL <| SQ ?_
 replace hst := hst.pushNil 5 1
 refine RG <| AI rfl <| NL <| SQ <| run_label <| Run.indW [(0, str _)] ⟨rfl, trivial⟩ (fun (qq : Nat × Tx × Option Addr × Nat) => [(4, .slice qq.2.2.1 qq.2.1.length qq.2.2.2), (5, .int .i64 (qq.1 : Int))]) (fun (qq : Nat × Tx × Option Addr × Nat) => [Res.sl qq.2.2.1 qq.2.1.length qq.2.2.2 5 1 (qq.2.1.flatMap byC)]) (fun (qq : Nat × Tx × Option Addr × Nat) => quoI s 1 qq.1 qq.2.1) (fun (qq : Nat × Tx × Option Addr × Nat) => s.length - qq.1) ((1, [], none, 0)) hst (quoI_start (by omega)) ⟨rfl, rfl, trivial⟩ ?_
 intro ⟨i, b, aq, cq⟩ f w hst hJ ih1
 replace hst : St _ _ ([Res.sl aq b.length cq 5 1 (b.flatMap byC)] ++ []) _ _ := hst
 replace hJ : quoI s 1 i b := hJ
 refine Run.slots (sl := [(4, .slice aq b.length cq), (5, .int .i64 (i : Int))]) ⟨rfl, rfl, trivial⟩ ?_
 have hidx : (s.getD ((i : Int).toNat) 0).toNat = (s.getD i 0).toNat := rfl
 have hj2 := hJ.2.1
 have hj3 := hJ.2.2.1
 have hj1 := hJ.1
 refine SQ <| SR <| MI rfl <| MS rfl <| CN <| Op1.lenS (rest := []) ty9 rfl <| CN <| Op1.geq rfl rfl <| NL <| run_cond_dec rfl (fun g2 => ?_) (fun g2 => ?_)
 · skip
   refine SR <| AS rfl <| AI rfl <| NL <| run_ret2 Tryd.func63 rfl (TP (v := str _) rfl) (TP (v := .int .i64 _) rfl) ?_
   rw [quoI_none hJ (quo_end (by omega))]
   exact ⟨rfl, hst.pure⟩
 refine run_skip <| SQ <| SR <| MS rfl <| MI rfl <| CN <| Op1.indexS ty9 rfl rfl (by omega) (by omega) <| AC rfl <| NL <| run_block <| SR <| MC rfl <| CN <| Op1.eql rfl rfl <| AB rfl ?_
 refine NL <| run_cond_dec rfl (fun g3 => ?_) (fun g3 => ?_)
 · skip
   refine SR <| ML rfl <| CN <| Op1.bytesStr2 (l := b) ty56 ty5 ty9 rfl rfl (Res.rs_of_sl (hst.hL _ (.head _))) rfl <| MI rfl <| CN <| Op1.addN rfl rfl rfl (wrap_i64 (by omega) (by omega)) <| AS rfl <| AI rfl <| NL <| run_ret2 Tryd.func63 rfl (TP (v := str _) rfl) (TP (v := .int .i64 _) rfl) ?_
   rw [quoI_mark hJ (by omega) (by omega)]
   unfold quoP; dsimp only
   refine ⟨?_, hst.pure⟩
   congr 3; congr 1; have hj1 := hJ.1; congr 1; omega
 refine SR <| MC rfl <| CN <| Op1.lss rfl rfl <| MB rfl <| RunL.splitD (d := 30) rfl (fun g4 => ?_) (fun g4 => ?_)
 · skip
   refine OM (t := 30) rfl (congrArg Value.bool (decide_eq_true g4)) rfl <| OM (t := 30) rfl (congrArg Value.bool (decide_eq_true g4)) rfl <| CN <| Op1.pickT (u := .bool _) (congrArg Value.bool (decide_eq_true g4)) rfl <| AB rfl <| NL <| run_cond_true (congrArg Value.bool (rfl : true = _)) <| SR <| AS rfl <| AI rfl <| NL <| run_ret2 Tryd.func63 rfl (TP (v := str _) rfl) (TP (v := .int .i64 _) rfl) ?_
   rw [quoI_none hJ (quo_none (by omega) (by omega) (part_no1 (by omega) (by omega)))]
   exact ⟨rfl, hst.pure⟩
 refine TK (t := 30) rfl (congrArg Value.bool (decide_eq_false g4)) <| Op1.move (v := .int .u8 _) rfl <| TK (t := 30) rfl (congrArg Value.bool (decide_eq_false g4)) <| Op1.gtr rfl rfl <| CN <| Op1.pickF (u := .bool _) (congrArg Value.bool (decide_eq_false g4)) rfl <| AB rfl <| NL <| run_cond_dec rfl (fun g5 => ?_) (fun g5 => ?_)
 · skip
   refine SR <| AS rfl <| AI rfl <| NL <| run_ret2 Tryd.func63 rfl (TP (v := str _) rfl) (TP (v := .int .i64 _) rfl) ?_
   rw [quoI_none hJ (quo_none (by omega) (by omega) (part_no1 (by omega) (by omega)))]
   exact ⟨rfl, hst.pure⟩
 refine SR <| MC rfl <| CN <| Op1.eql rfl rfl <| AB rfl <| NL <| Run.forget [(0, str _), (4, .slice _ _ _), (5, .int .i64 _), (6, .int .u8 _), (34, .bool _)] ⟨rfl, rfl, rfl, rfl, rfl, trivial⟩ fun f => run_cond_dec rfl (fun g6 => ?_) (fun g6 => ?_)
 · skip
   refine SR <| MS rfl <| MI rfl <| CN <| Op1.addN rfl rfl rfl (wrap_i64 (by omega) (by omega)) <| CN <| Op1.sliceFrom ty9 rfl rfl (by omega) (by omega) <| CN <| Op1.call1 (v1 := str _) ent85 rfl rfl <| Ret.det (R6lx_escaped _ _ (hst.hD _ (.head _)) (by first | omega | (simp only [List.length_drop, List.length_take, List.length_append, List.length_cons, List.length_nil]; omega))) hst fun w hst => CN <| Op1.move (v := .tuple #[.int .u8 _, .int .i64 _]) rfl <| CN <| Op1.extract (v := .int .u8 _) rfl rfl <| CN <| Op1.extract (v := .int .i64 _) rfl rfl <| AC rfl <| AI rfl <| NL <| SQ <| SQ ?_
   refine RG <| MI rfl <| CN <| Op1.eql rfl rfl <| NL <| run_cond_dec rfl (fun g7 => ?_) (fun g7 => ?_)
   · skip
     have hpn : partF (s.drop i) = none := part_escN (by omega) (by omega) (Int.ofNat_eq_zero.1 g7)
     refine SR <| AS rfl <| AI rfl <| NL <| run_ret2 Tryd.func63 rfl (TP (v := str _) rfl) (TP (v := .int .i64 _) rfl) ?_
     rw [quoI_none hJ (quo_none (by omega) (by omega) hpn)]
     exact ⟨rfl, hst.pure⟩
   have hpt : partF (s.drop i) = some (((escF (s.drop (i + 1))).getD (0, 0)).1, ((escF (s.drop (i + 1))).getD (0, 0)).2 + 1) := part_escS (by omega) (by omega) (fun e => g7 (by rw [show ((escF (s.drop (((i : Int) + 1).toNat))).getD (0, 0)).2 = 0 from e]; rfl))
   have hpl := part_len (by omega) hpt
   have hidE : ((escF (s.drop (((i : Int) + 1).toNat))).getD (0, 0)).2 = ((escF (s.drop (i + 1))).getD (0, 0)).2 := rfl
   refine run_skip <| SR <| ML rfl <| MC rfl <| CN (Op1.buildSl (z0 := [.int .u8 0]) hst ty56 ty5 rfl rfl (by kernel_rfl) (.c (v := .int .u8 _) rfl (h := .nil)) fun w b49 hst => ?_)
   refine CN (Op1.append (news := byC ((escF (s.drop (((i : Int) + 1).toNat))).getD (0, 0)).1) hst ty56 ty5 rfl rfl (.there (.here)) rfl rfl rfl (cells_of_obj (n := 1) (hst.objL (.head _)) _ rfl) rfl rfl (by omega) fun w ao8 cp9 hst => ?_)
   replace hst := hst.drop (.there (.here))
   refine AL rfl <| NR <| MI rfl <| MI rfl <| CN <| Op1.addN rfl rfl rfl (wrap_i64 (by omega) (by omega)) <| AI rfl <| NL <| run_inBlock <| Run.forget [(0, str _), (4, .slice _ _ _), (5, .int .i64 _)] ⟨rfl, rfl, rfl, trivial⟩ fun f => SR <| MI rfl <| CN <| Op1.addN rfl rfl rfl (wrap_i64 (by omega) (by omega)) <| AI rfl ?_
   refine NL ?_
   have hI := quoI_step hJ (by omega) (by omega) hpt
   refine run_goto ?_ (SQ (run_skip (ih1 ((i + (((escF (s.drop (i + 1))).getD (0, 0)).2 + 1), b ++ [((escF (s.drop (i + 1))).getD (0, 0)).1], ao8, cp9)) _ w ((by (try dsimp only); omega)) (by rw [List.length_append, List.flatMap_append]; exact hst) (hI) ⟨rfl, trivial⟩ ⟨(by simp only [List.length_append]; rfl), (congrArg (Value.int .i64) (by (try dsimp only); omega)), trivial⟩)))
   rfl
 refine RG <| ML rfl <| MC rfl <| CN (Op1.buildSl (z0 := [.int .u8 0]) hst ty56 ty5 rfl rfl (by kernel_rfl) (.c (v := .int .u8 _) rfl (h := .nil)) fun w b18 hst => ?_)
 refine CN (Op1.append (news := byC (s.getD ((i : Int).toNat) 0)) hst ty56 ty5 rfl rfl (.there (.here)) rfl rfl rfl (cells_of_obj (n := 1) (hst.objL (.head _)) _ rfl) rfl rfl (by omega) fun w ao10 cp11 hst => ?_)
 replace hst := hst.drop (.there (.here))
 refine AL rfl <| NL <| run_inBlock <| SR <| MI rfl <| CN <| Op1.addN rfl rfl rfl (wrap_i64 (by omega) (by omega)) <| AI rfl <| NL ?_
 have hpt : partF (s.drop i) = some (s.getD i 0, 1) := part_plain (by omega) (by omega) (by omega) (by omega)
 have hI := quoI_step hJ (by omega) (by omega) hpt
 refine run_goto ?_ (SQ (run_skip (ih1 ((i + (1), b ++ [s.getD i 0], ao10, cp11)) _ w ((by (try dsimp only); omega)) (by rw [List.length_append, List.flatMap_append]; exact hst) (hI) ⟨rfl, trivial⟩ ⟨(by simp only [List.length_append]; rfl), (congrArg (Value.int .i64) (by (try dsimp only); omega)), trivial⟩)))
 rfl
end Go.SK
namespace Go.SK
open Go Go.Proofs
theorem ty43 : TyF Tryd.prog 43 (.struct (fieldsOf Tryd.prog 43)) 3 32 [.int .u8 0, str [], .int .i64 0] := TyF.of (by kernel_rfl) (by kernel_rfl)
theorem ent46 : Enters Tryd.prog 46 := ⟨Tryd.f46, _, Tryd.func46, by kernel_rfl, rfl⟩
theorem stf43 : StructF Tryd.prog 43 [(0, 1), (1, 1), (2, 1)] := ⟨fieldsOf Tryd.prog 43, by kernel_rfl, fun w => by kernel_rfl⟩
theorem ent13 : Enters Tryd.prog 13 := ⟨Tryd.f13, _, Tryd.func13, by kernel_rfl, rfl⟩
theorem ent48 : Enters Tryd.prog 48 := ⟨Tryd.f48, _, Tryd.func48, by kernel_rfl, rfl⟩
theorem ent63 : Enters Tryd.prog 63 := ⟨Tryd.f63, _, Tryd.func63, by kernel_rfl, rfl⟩
theorem ty27 : TyF Tryd.prog 27 (.struct (fieldsOf Tryd.prog 27)) 2 16 [.int .i64 0, .int .i64 0] := TyF.of (by kernel_rfl) (by kernel_rfl)
theorem ent25 : Enters Tryd.prog 25 := ⟨Tryd.f25, _, Tryd.func25, by kernel_rfl, rfl⟩
theorem ent26 : Enters Tryd.prog 26 := ⟨Tryd.f26, _, Tryd.func26, by kernel_rfl, rfl⟩
theorem ty39 : TyF Tryd.prog 39 (.slice 43) 1 24 [.slice none 0 0] := TyF.of (by kernel_rfl) (by kernel_rfl)
theorem stf27 : StructF Tryd.prog 27 [(0, 1), (1, 1)] := ⟨fieldsOf Tryd.prog 27, by kernel_rfl, fun w => by kernel_rfl⟩
theorem ent50 : Enters Tryd.prog 50 := ⟨Tryd.f50, _, Tryd.func50, by kernel_rfl, rfl⟩
theorem fld43_2 : FldF Tryd.prog 43 2 2 := FldF.of (n := 0) (by kernel_rfl)
end Go.SK
