/-
  Walks of functions, and of the laws over them.
-/
import Derived.Test.YtnbapjkldjhjoaaSkFacts1
import Derived.Test.YtnbapjkldjhjoaaSkFacts2
import Derived.Test.YtnbapjkldjhjoaaSkCoverSq
import Derived.Test.YtnbapjkldjhjoaaSkCoverG
set_option linter.unusedVariables false
set_option linter.unusedSimpArgs false
namespace Go.SK
open Go Go.Proofs
open Go.RowKit
theorem covRows_swap (ax ay bx by_ cx cy wd ht : Int) : covRows ax ay cx cy bx by_ wd ht = covRows ax ay bx by_ cx cy wd ht :=
  (covRows_flip ax ay cx cy bx by_ wd ht).symm.trans ((covRows_turn bx by_ cx cy ax ay wd ht).trans (covRows_turn ax ay bx by_ cx cy wd ht))
set_option maxRecDepth 8000 in
set_option maxHeartbeats 4000000 in
theorem law_WholeSquare (sl st sr sb : Int) (o1 o2 o3 : Bool) (wd ht : Int) (w : World) : Ret Try.prog 18 #[.agg #[.int .i32 sl, .int .i32 st, .int .i32 sr, .int .i32 sb, .bool o1, .bool o2, .bool o3], .int .i64 wd, .int .i64 ht] w (fun v w' => v = .bool true ∧ St w NoM [] [] w') := by
  refine Ret.enter (args := [.agg #[.int .i32 sl, .int .i32 st, .int .i32 sr, .int .i32 sb, .bool o1, .bool o2, .bool o3], .int .i64 wd, .int .i64 ht]) Try.func18 rfl rfl rfl ?_
  have hst := St.init w
  have hc1 := clampZ_bd sl
  have hc2 := clampZ_bd st
  have hc3 := clampZ_bd sr
  have hc4 := clampZ_bd sb
  refine run_seq ?_
  refine run_region ?_
  refine RunL.cons (Op1.box (v := .agg #[.int .i32 _, .int .i32 _, .int .i32 _, .int .i32 _, .bool _, .bool _, .bool _]) hst rfl rfl fun w b3 hst => ?_)
  refine RunL.cons (Op1.assign (v := .bool _) rfl ?_)
  refine RunL.nil ?_
  refine run_seq ?_
  refine run_seq ?_
  refine run_region ?_
  refine RunL.cons (Op1.buildStruct ty25 stf25 (.cons rfl (v := .int .i32 _) rfl rfl rfl rfl (by repeat (first | exact Put.nil | apply Put.put | apply Put.skip)) (.cons rfl (v := .int .i32 _) rfl rfl rfl rfl (by repeat (first | exact Put.nil | apply Put.put | apply Put.skip)) .nil)) ?_)
  refine RunL.cons (Op1.buildStruct ty25 stf25 (.cons rfl (v := .int .i32 _) rfl rfl rfl rfl (by repeat (first | exact Put.nil | apply Put.put | apply Put.skip)) (.cons rfl (v := .int .i32 _) rfl rfl rfl rfl (by repeat (first | exact Put.nil | apply Put.put | apply Put.skip)) .nil)) ?_)
  refine RunL.cons (Op1.buildStruct ty25 stf25 (.cons rfl (v := .int .i32 _) rfl rfl rfl rfl (by repeat (first | exact Put.nil | apply Put.put | apply Put.skip)) (.cons rfl (v := .int .i32 _) rfl rfl rfl rfl (by repeat (first | exact Put.nil | apply Put.put | apply Put.skip)) .nil)) ?_)
  refine RunL.cons (Op1.buildArr ty27 ty25 (.cons rfl (v := .agg #[.int .i32 _, .int .i32 _, .int .i32 _]) rfl rfl rfl rfl (by repeat (first | exact Put.nil | apply Put.put | apply Put.skip)) (.cons rfl (v := .agg #[.int .i32 _, .int .i32 _, .int .i32 _]) rfl rfl rfl rfl (by repeat (first | exact Put.nil | apply Put.put | apply Put.skip)) (.cons rfl (v := .agg #[.int .i32 _, .int .i32 _, .int .i32 _]) rfl rfl rfl rfl (by repeat (first | exact Put.nil | apply Put.put | apply Put.skip)) .nil))) ?_)
  refine RunL.cons (Op1.call3 (v1 := .agg #[.int .i32 _, .int .i32 _, .int .i32 _, .int .i32 _, .int .i32 _, .int .i32 _, .int .i32 _, .int .i32 _, .int .i32 _]) (v2 := .int .i64 _) (v3 := .int .i64 _) ent44 rfl rfl rfl rfl ((cov_Count _ _ _ _ _ _ _ _ _ _ _ _).mono fun v w hp => ?_))
  obtain ⟨rfl, hp⟩ := hp
  replace hst := hst.keepc hp
  clear hp
  refine RunL.cons (Op1.move (v := .tuple #[.int .i64 _, .int .i64 _]) rfl ?_)
  refine RunL.cons (Op1.extract (v := .int .i64 _) rfl rfl ?_)
  refine RunL.cons (Op1.extract (v := .int .i64 _) rfl rfl ?_)
  refine RunL.cons (Op1.assign (v := .int .i64 _) rfl ?_)
  refine RunL.cons (Op1.assign (v := .int .i64 _) rfl ?_)
  refine RunL.nil ?_
  refine run_seq ?_
  refine run_region ?_
  refine RunL.cons (Op1.move (v := .int .i64 _) rfl ?_)
  refine RunL.cons (Op1.neq rfl rfl ?_)
  refine RunL.cons (Op1.move (v := .bool _) rfl ?_)
  refine RunL.splitD (d := 41) rfl (fun g1 => ?_) (fun g1 => ?_)
  · skip
    exfalso
    first | exact g1 (by decide +kernel) | exact absurd g1 (by decide +kernel)
  · skip
    refine RunL.take (t := 41) rfl (congrArg Value.bool (decide_eq_false g1)) (Op1.move (v := .int .i64 _) rfl ?_)
    refine RunL.take (t := 41) rfl (congrArg Value.bool (decide_eq_false g1)) (Op1.neq rfl rfl ?_)
    refine RunL.cons (Op1.pickF (u := .bool _) (congrArg Value.bool (decide_eq_false g1)) rfl ?_)
    refine RunL.nil ?_
    refine run_cond_dec rfl (fun g2 => ?_) (fun g2 => ?_)
    · skip
      exfalso
      first | exact g2 (by decide +kernel) | exact absurd g2 (by decide +kernel)
    · skip
      refine run_skip ?_
      refine run_seq ?_
      refine run_seq ?_
      refine run_region ?_
      refine RunL.cons (Op1.move (v := .int .i64 _) rfl ?_)
      refine RunL.cons (Op1.lss rfl rfl ?_)
      refine RunL.cons (Op1.move (v := .bool _) rfl ?_)
      refine RunL.splitD (d := 47) rfl (fun g3 => ?_) (fun g3 => ?_)
      · skip
        refine RunL.omit (t := 47) rfl (congrArg Value.bool (decide_eq_true g3)) rfl ?_
        refine RunL.omit (t := 47) rfl (congrArg Value.bool (decide_eq_true g3)) rfl ?_
        refine RunL.cons (Op1.pickT (u := .bool _) (congrArg Value.bool (decide_eq_true g3)) rfl ?_)
        refine RunL.cons (Op1.move (v := .bool _) rfl ?_)
        refine RunL.omit (t := 51) rfl (congrArg Value.bool (rfl : true = _)) rfl ?_
        refine RunL.omit (t := 51) rfl (congrArg Value.bool (rfl : true = _)) rfl ?_
        refine RunL.cons (Op1.pickT (u := .bool _) (congrArg Value.bool (rfl : true = _)) rfl ?_)
        refine RunL.cons (Op1.move (v := .bool _) rfl ?_)
        refine RunL.omit (t := 55) rfl (congrArg Value.bool (rfl : true = _)) rfl ?_
        refine RunL.omit (t := 55) rfl (congrArg Value.bool (rfl : true = _)) rfl ?_
        refine RunL.cons (Op1.pickT (u := .bool _) (congrArg Value.bool (rfl : true = _)) rfl ?_)
        refine RunL.nil ?_
        refine run_cond_true (congrArg Value.bool (rfl : true = _)) ?_
        refine run_seq ?_
        refine run_region ?_
        refine RunL.cons (Op1.assign (v := .bool _) rfl ?_)
        refine RunL.nil ?_
        refine run_ret1 Try.func18 rfl (RV.tmp (v := .bool _) rfl) ?_
        exact ⟨rfl, hst.pure⟩
      · skip
        refine RunL.take (t := 47) rfl (congrArg Value.bool (decide_eq_false g3)) (Op1.move (v := .int .i64 _) rfl ?_)
        refine RunL.take (t := 47) rfl (congrArg Value.bool (decide_eq_false g3)) (Op1.lss rfl rfl ?_)
        refine RunL.cons (Op1.pickF (u := .bool _) (congrArg Value.bool (decide_eq_false g3)) rfl ?_)
        refine RunL.cons (Op1.move (v := .bool _) rfl ?_)
        refine RunL.splitD (d := 51) rfl (fun g4 => ?_) (fun g4 => ?_)
        · skip
          refine RunL.omit (t := 51) rfl (congrArg Value.bool (decide_eq_true g4)) rfl ?_
          refine RunL.omit (t := 51) rfl (congrArg Value.bool (decide_eq_true g4)) rfl ?_
          refine RunL.cons (Op1.pickT (u := .bool _) (congrArg Value.bool (decide_eq_true g4)) rfl ?_)
          refine RunL.cons (Op1.move (v := .bool _) rfl ?_)
          refine RunL.omit (t := 55) rfl (congrArg Value.bool (rfl : true = _)) rfl ?_
          refine RunL.omit (t := 55) rfl (congrArg Value.bool (rfl : true = _)) rfl ?_
          refine RunL.cons (Op1.pickT (u := .bool _) (congrArg Value.bool (rfl : true = _)) rfl ?_)
          refine RunL.nil ?_
          refine run_cond_true (congrArg Value.bool (rfl : true = _)) ?_
          refine run_seq ?_
          refine run_region ?_
          refine RunL.cons (Op1.assign (v := .bool _) rfl ?_)
          refine RunL.nil ?_
          refine run_ret1 Try.func18 rfl (RV.tmp (v := .bool _) rfl) ?_
          exact ⟨rfl, hst.pure⟩
        · skip
          refine RunL.take (t := 51) rfl (congrArg Value.bool (decide_eq_false g4)) (Op1.move (v := .int .i64 _) rfl ?_)
          refine RunL.take (t := 51) rfl (congrArg Value.bool (decide_eq_false g4)) (Op1.gtr rfl rfl ?_)
          refine RunL.cons (Op1.pickF (u := .bool _) (congrArg Value.bool (decide_eq_false g4)) rfl ?_)
          refine RunL.cons (Op1.move (v := .bool _) rfl ?_)
          refine RunL.splitD (d := 55) rfl (fun g5 => ?_) (fun g5 => ?_)
          · skip
            refine RunL.omit (t := 55) rfl (congrArg Value.bool (decide_eq_true g5)) rfl ?_
            refine RunL.omit (t := 55) rfl (congrArg Value.bool (decide_eq_true g5)) rfl ?_
            refine RunL.cons (Op1.pickT (u := .bool _) (congrArg Value.bool (decide_eq_true g5)) rfl ?_)
            refine RunL.nil ?_
            refine run_cond_true (congrArg Value.bool (rfl : true = _)) ?_
            refine run_seq ?_
            refine run_region ?_
            refine RunL.cons (Op1.assign (v := .bool _) rfl ?_)
            refine RunL.nil ?_
            refine run_ret1 Try.func18 rfl (RV.tmp (v := .bool _) rfl) ?_
            exact ⟨rfl, hst.pure⟩
          · skip
            refine RunL.take (t := 55) rfl (congrArg Value.bool (decide_eq_false g5)) (Op1.move (v := .int .i64 _) rfl ?_)
            refine RunL.take (t := 55) rfl (congrArg Value.bool (decide_eq_false g5)) (Op1.gtr rfl rfl ?_)
            refine RunL.cons (Op1.pickF (u := .bool _) (congrArg Value.bool (decide_eq_false g5)) rfl ?_)
            refine RunL.nil ?_
            refine run_cond_dec rfl (fun g6 => ?_) (fun g6 => ?_)
            · skip
              refine run_seq ?_
              refine run_region ?_
              refine RunL.cons (Op1.assign (v := .bool _) rfl ?_)
              refine RunL.nil ?_
              refine run_ret1 Try.func18 rfl (RV.tmp (v := .bool _) rfl) ?_
              exact ⟨rfl, hst.pure⟩
            · skip
              refine run_skip ?_
              refine run_seq ?_
              refine run_region ?_
              refine RunL.cons (Op1.fieldAddr fld67_0 rfl ?_)
              refine RunL.cons (Op1.load1 (v := .int .i32 _) ty21 rfl rfl (hst.cellL (.head _) rfl) ?_)
              refine RunL.cons (Op1.call1 (v1 := .int .i32 _) ent25 rfl rfl ((edge_clamp _ _).mono fun v w hp => ?_))
              obtain ⟨rfl, hp⟩ := hp
              replace hst := hst.keepc hp
              clear hp
              refine RunL.cons (Op1.assign (v := .int .i32 _) rfl ?_)
              refine RunL.nil ?_
              refine run_seq ?_
              refine run_region ?_
              refine RunL.cons (Op1.fieldAddr fld67_2 rfl ?_)
              refine RunL.cons (Op1.load1 (v := .int .i32 _) ty21 rfl rfl (hst.cellL (.head _) rfl) ?_)
              refine RunL.cons (Op1.call1 (v1 := .int .i32 _) ent25 rfl rfl ((edge_clamp _ _).mono fun v w hp => ?_))
              obtain ⟨rfl, hp⟩ := hp
              replace hst := hst.keepc hp
              clear hp
              refine RunL.cons (Op1.assign (v := .int .i32 _) rfl ?_)
              refine RunL.nil ?_
              refine run_seq ?_
              refine run_region ?_
              refine RunL.cons (Op1.fieldAddr fld67_1 rfl ?_)
              refine RunL.cons (Op1.load1 (v := .int .i32 _) ty21 rfl rfl (hst.cellL (.head _) rfl) ?_)
              refine RunL.cons (Op1.call1 (v1 := .int .i32 _) ent25 rfl rfl ((edge_clamp _ _).mono fun v w hp => ?_))
              obtain ⟨rfl, hp⟩ := hp
              replace hst := hst.keepc hp
              clear hp
              refine RunL.cons (Op1.assign (v := .int .i32 _) rfl ?_)
              refine RunL.nil ?_
              refine run_seq ?_
              refine run_region ?_
              refine RunL.cons (Op1.fieldAddr fld67_3 rfl ?_)
              refine RunL.cons (Op1.load1 (v := .int .i32 _) ty21 rfl rfl (hst.cellL (.head _) rfl) ?_)
              refine RunL.cons (Op1.call1 (v1 := .int .i32 _) ent25 rfl rfl ((edge_clamp _ _).mono fun v w hp => ?_))
              obtain ⟨rfl, hp⟩ := hp
              replace hst := hst.keepc hp
              clear hp
              refine RunL.cons (Op1.assign (v := .int .i32 _) rfl ?_)
              refine RunL.nil ?_
              refine run_seq ?_
              refine run_seq ?_
              refine run_region ?_
              refine RunL.cons (Op1.move (v := .int .i32 _) rfl ?_)
              refine RunL.cons (Op1.move (v := .int .i32 _) rfl ?_)
              refine RunL.cons (Op1.geq rfl rfl ?_)
              refine RunL.cons (Op1.move (v := .bool _) rfl ?_)
              refine RunL.splitD (d := 74) rfl (fun g7 => ?_) (fun g7 => ?_)
              · skip
                refine RunL.omit (t := 74) rfl (congrArg Value.bool (decide_eq_true g7)) rfl ?_
                refine RunL.omit (t := 74) rfl (congrArg Value.bool (decide_eq_true g7)) rfl ?_
                refine RunL.omit (t := 74) rfl (congrArg Value.bool (decide_eq_true g7)) rfl ?_
                refine RunL.cons (Op1.pickT (u := .bool _) (congrArg Value.bool (decide_eq_true g7)) rfl ?_)
                refine RunL.nil ?_
                refine run_cond_true (congrArg Value.bool (rfl : true = _)) ?_
                refine run_seq ?_
                refine run_region ?_
                refine RunL.cons (Op1.assign (v := .bool _) rfl ?_)
                refine RunL.nil ?_
                refine run_ret1 Try.func18 rfl (RV.tmp (v := .bool _) rfl) ?_
                exact ⟨rfl, hst.pure⟩
              · skip
                refine RunL.take (t := 74) rfl (congrArg Value.bool (decide_eq_false g7)) (Op1.move (v := .int .i32 _) rfl ?_)
                refine RunL.take (t := 74) rfl (congrArg Value.bool (decide_eq_false g7)) (Op1.move (v := .int .i32 _) rfl ?_)
                refine RunL.take (t := 74) rfl (congrArg Value.bool (decide_eq_false g7)) (Op1.geq rfl rfl ?_)
                refine RunL.cons (Op1.pickF (u := .bool _) (congrArg Value.bool (decide_eq_false g7)) rfl ?_)
                refine RunL.nil ?_
                refine run_cond_dec rfl (fun g8 => ?_) (fun g8 => ?_)
                · skip
                  refine run_seq ?_
                  refine run_region ?_
                  refine RunL.cons (Op1.assign (v := .bool _) rfl ?_)
                  refine RunL.nil ?_
                  refine run_ret1 Try.func18 rfl (RV.tmp (v := .bool _) rfl) ?_
                  exact ⟨rfl, hst.pure⟩
                · skip
                  refine run_skip ?_
                  refine run_seq ?_
                  refine run_region ?_
                  refine RunL.cons (Op1.fieldAddr fld67_0 rfl ?_)
                  refine RunL.cons (Op1.load1 (v := .int .i32 _) ty21 rfl rfl (hst.cellL (.head _) rfl) ?_)
                  refine RunL.cons (Op1.fieldAddr fld67_1 rfl ?_)
                  refine RunL.cons (Op1.load1 (v := .int .i32 _) ty21 rfl rfl (hst.cellL (.head _) rfl) ?_)
                  refine RunL.cons (Op1.buildStruct ty25 stf25 (.cons rfl (v := .int .i32 _) rfl rfl rfl rfl (by repeat (first | exact Put.nil | apply Put.put | apply Put.skip)) (.cons rfl (v := .int .i32 _) rfl rfl rfl rfl (by repeat (first | exact Put.nil | apply Put.put | apply Put.skip)) .nil)) ?_)
                  refine RunL.cons (Op1.alloc hst ty25 fun w b13 hst => ?_)
                  refine RunL.cons (Op1.store (v := .agg #[.int .i32 _, .int .i32 _, .int .i32 _]) hst ty25 rfl rfl rfl rfl rfl (.here) (by repeat (first | exact Put.nil | apply Put.put | apply Put.skip)) fun w hst => ?_)
                  refine RunL.nil ?_
                  refine run_seq ?_
                  refine run_region ?_
                  refine RunL.cons (Op1.fieldAddr fld67_2 rfl ?_)
                  refine RunL.cons (Op1.load1 (v := .int .i32 _) ty21 rfl rfl (hst.cellL (.tail _ (.head _)) rfl) ?_)
                  refine RunL.cons (Op1.fieldAddr fld67_1 rfl ?_)
                  refine RunL.cons (Op1.load1 (v := .int .i32 _) ty21 rfl rfl (hst.cellL (.tail _ (.head _)) rfl) ?_)
                  refine RunL.cons (Op1.buildStruct ty25 stf25 (.cons rfl (v := .int .i32 _) rfl rfl rfl rfl (by repeat (first | exact Put.nil | apply Put.put | apply Put.skip)) (.cons rfl (v := .int .i32 _) rfl rfl rfl rfl (by repeat (first | exact Put.nil | apply Put.put | apply Put.skip)) .nil)) ?_)
                  refine RunL.cons (Op1.alloc hst ty25 fun w b14 hst => ?_)
                  refine RunL.cons (Op1.store (v := .agg #[.int .i32 _, .int .i32 _, .int .i32 _]) hst ty25 rfl rfl rfl rfl rfl (.here) (by repeat (first | exact Put.nil | apply Put.put | apply Put.skip)) fun w hst => ?_)
                  refine RunL.nil ?_
                  refine run_seq ?_
                  refine run_region ?_
                  refine RunL.cons (Op1.fieldAddr fld67_2 rfl ?_)
                  refine RunL.cons (Op1.load1 (v := .int .i32 _) ty21 rfl rfl (hst.cellL (.tail _ (.tail _ (.head _))) rfl) ?_)
                  refine RunL.cons (Op1.fieldAddr fld67_3 rfl ?_)
                  refine RunL.cons (Op1.load1 (v := .int .i32 _) ty21 rfl rfl (hst.cellL (.tail _ (.tail _ (.head _))) rfl) ?_)
                  refine RunL.cons (Op1.buildStruct ty25 stf25 (.cons rfl (v := .int .i32 _) rfl rfl rfl rfl (by repeat (first | exact Put.nil | apply Put.put | apply Put.skip)) (.cons rfl (v := .int .i32 _) rfl rfl rfl rfl (by repeat (first | exact Put.nil | apply Put.put | apply Put.skip)) .nil)) ?_)
                  refine RunL.cons (Op1.alloc hst ty25 fun w b15 hst => ?_)
                  refine RunL.cons (Op1.store (v := .agg #[.int .i32 _, .int .i32 _, .int .i32 _]) hst ty25 rfl rfl rfl rfl rfl (.here) (by repeat (first | exact Put.nil | apply Put.put | apply Put.skip)) fun w hst => ?_)
                  refine RunL.nil ?_
                  refine run_seq ?_
                  refine run_region ?_
                  refine RunL.cons (Op1.fieldAddr fld67_0 rfl ?_)
                  refine RunL.cons (Op1.load1 (v := .int .i32 _) ty21 rfl rfl (hst.cellL (.tail _ (.tail _ (.tail _ (.head _)))) rfl) ?_)
                  refine RunL.cons (Op1.fieldAddr fld67_3 rfl ?_)
                  refine RunL.cons (Op1.load1 (v := .int .i32 _) ty21 rfl rfl (hst.cellL (.tail _ (.tail _ (.tail _ (.head _)))) rfl) ?_)
                  refine RunL.cons (Op1.buildStruct ty25 stf25 (.cons rfl (v := .int .i32 _) rfl rfl rfl rfl (by repeat (first | exact Put.nil | apply Put.put | apply Put.skip)) (.cons rfl (v := .int .i32 _) rfl rfl rfl rfl (by repeat (first | exact Put.nil | apply Put.put | apply Put.skip)) .nil)) ?_)
                  refine RunL.cons (Op1.alloc hst ty25 fun w b16 hst => ?_)
                  refine RunL.cons (Op1.store (v := .agg #[.int .i32 _, .int .i32 _, .int .i32 _]) hst ty25 rfl rfl rfl rfl rfl (.here) (by repeat (first | exact Put.nil | apply Put.put | apply Put.skip)) fun w hst => ?_)
                  refine RunL.nil ?_
                  refine run_seq ?_
                  refine run_region ?_
                  refine RunL.cons (Op1.loadA (vs := [.int .i32 _, .int .i32 _, .int .i32 _]) ty25 rfl rfl rfl (cells_of_obj (n := 3) (hst.objL (.tail _ (.tail _ (.tail _ (.head _))))) _ rfl) ?_)
                  refine RunL.cons (Op1.loadA (vs := [.int .i32 _, .int .i32 _, .int .i32 _]) ty25 rfl rfl rfl (cells_of_obj (n := 3) (hst.objL (.tail _ (.tail _ (.head _)))) _ rfl) ?_)
                  refine RunL.cons (Op1.loadA (vs := [.int .i32 _, .int .i32 _, .int .i32 _]) ty25 rfl rfl rfl (cells_of_obj (n := 3) (hst.objL (.tail _ (.head _))) _ rfl) ?_)
                  refine RunL.cons (Op1.buildArr ty27 ty25 (.cons rfl (v := .agg #[.int .i32 _, .int .i32 _, .int .i32 _]) rfl rfl rfl rfl (by repeat (first | exact Put.nil | apply Put.put | apply Put.skip)) (.cons rfl (v := .agg #[.int .i32 _, .int .i32 _, .int .i32 _]) rfl rfl rfl rfl (by repeat (first | exact Put.nil | apply Put.put | apply Put.skip)) (.cons rfl (v := .agg #[.int .i32 _, .int .i32 _, .int .i32 _]) rfl rfl rfl rfl (by repeat (first | exact Put.nil | apply Put.put | apply Put.skip)) .nil))) ?_)
                  refine RunL.cons (Op1.alloc hst ty27 fun w b17 hst => ?_)
                  refine RunL.cons (Op1.store (v := .agg #[.int .i32 _, .int .i32 _, .int .i32 _, .int .i32 _, .int .i32 _, .int .i32 _, .int .i32 _, .int .i32 _, .int .i32 _]) hst ty27 rfl rfl rfl rfl rfl (.here) (by repeat (first | exact Put.nil | apply Put.put | apply Put.skip)) fun w hst => ?_)
                  refine RunL.nil ?_
                  refine run_seq ?_
                  refine run_region ?_
                  refine RunL.cons (Op1.loadA (vs := [.int .i32 _, .int .i32 _, .int .i32 _]) ty25 rfl rfl rfl (cells_of_obj (n := 3) (hst.objL (.tail _ (.tail _ (.tail _ (.tail _ (.head _)))))) _ rfl) ?_)
                  refine RunL.cons (Op1.loadA (vs := [.int .i32 _, .int .i32 _, .int .i32 _]) ty25 rfl rfl rfl (cells_of_obj (n := 3) (hst.objL (.tail _ (.tail _ (.head _)))) _ rfl) ?_)
                  refine RunL.cons (Op1.loadA (vs := [.int .i32 _, .int .i32 _, .int .i32 _]) ty25 rfl rfl rfl (cells_of_obj (n := 3) (hst.objL (.tail _ (.head _))) _ rfl) ?_)
                  refine RunL.cons (Op1.buildArr ty27 ty25 (.cons rfl (v := .agg #[.int .i32 _, .int .i32 _, .int .i32 _]) rfl rfl rfl rfl (by repeat (first | exact Put.nil | apply Put.put | apply Put.skip)) (.cons rfl (v := .agg #[.int .i32 _, .int .i32 _, .int .i32 _]) rfl rfl rfl rfl (by repeat (first | exact Put.nil | apply Put.put | apply Put.skip)) (.cons rfl (v := .agg #[.int .i32 _, .int .i32 _, .int .i32 _]) rfl rfl rfl rfl (by repeat (first | exact Put.nil | apply Put.put | apply Put.skip)) .nil))) ?_)
                  refine RunL.cons (Op1.alloc hst ty27 fun w b18 hst => ?_)
                  refine RunL.cons (Op1.store (v := .agg #[.int .i32 _, .int .i32 _, .int .i32 _, .int .i32 _, .int .i32 _, .int .i32 _, .int .i32 _, .int .i32 _, .int .i32 _]) hst ty27 rfl rfl rfl rfl rfl (.here) (by repeat (first | exact Put.nil | apply Put.put | apply Put.skip)) fun w hst => ?_)
                  refine RunL.nil ?_
                  refine run_seq ?_
                  refine Run.cutW (L1 := [_, _]) [(1, .int .i64 _), (2, .int .i64 _), (3, .pointer (some ⟨_, _, none⟩)), (9, .int .i32 _), (10, .int .i32 _), (11, .int .i32 _), (12, .int .i32 _), (17, .pointer (some ⟨_, _, none⟩)), (18, .pointer (some ⟨_, _, none⟩))] hst ⟨rfl, rfl, rfl, rfl, rfl, rfl, rfl, rfl, rfl, trivial⟩ (fun (_u : Unit) => []) (fun (_u : Unit) => [Res.row b18 27 [.int .i32 (bif o1 then sr else sl), .int .i32 st, .int .i32 0, .int .i32 (bif o1 then sl else sr), .int .i32 sb, .int .i32 0, .int .i32 sl, .int .i32 (bif o1 then st else sb), .int .i32 0], Res.row b17 27 [.int .i32 (bif o1 then sr else sl), .int .i32 st, .int .i32 0, .int .i32 sr, .int .i32 (bif o1 then sb else st), .int .i32 0, .int .i32 (bif o1 then sl else sr), .int .i32 sb, .int .i32 0]]) (fun (_u : Unit) => True) (fun _u f w hst hJ10 => ?_) (fun cut9 => ?_)
                  · skip
                    refine run_seq ?_
                    replace hst := hst.pick (.cons (.there (.here)) (.cons (.here) (.cons (.here) (.cons (.here) (.cons (.here) (.cons (.here) (.cons (.here) .nil)))))))
                    refine Run.cutW (L1 := [_]) [(1, .int .i64 _), (2, .int .i64 _), (3, .pointer (some ⟨_, _, none⟩)), (9, .int .i32 _), (10, .int .i32 _), (11, .int .i32 _), (12, .int .i32 _), (17, .pointer (some ⟨_, _, none⟩)), (18, .pointer (some ⟨_, _, none⟩))] hst ⟨rfl, rfl, rfl, rfl, rfl, rfl, rfl, rfl, rfl, trivial⟩ (fun (_u : Unit) => []) (fun (_u : Unit) => [Res.row b17 27 [.int .i32 (bif o2 then sr else (bif o1 then sr else sl)), .int .i32 (bif o2 then (bif o1 then sb else st) else st), .int .i32 0, .int .i32 (bif o2 then (bif o1 then sr else sl) else sr), .int .i32 (bif o2 then st else (bif o1 then sb else st)), .int .i32 0, .int .i32 (bif o1 then sl else sr), .int .i32 sb, .int .i32 0]]) (fun (_u : Unit) => True) (fun _u f w hst hJ13 => ?_) (fun cut12 => ?_)
                    · skip
                      refine run_seq ?_
                      replace hst := hst.pick (.cons (.there (.here)) (.cons (.here) (.cons (.here) (.cons (.here) (.cons (.here) (.cons (.here) (.cons (.here) .nil)))))))
                      refine Run.cutW (L1 := [_]) [(1, .int .i64 _), (2, .int .i64 _), (9, .int .i32 _), (10, .int .i32 _), (11, .int .i32 _), (12, .int .i32 _), (17, .pointer (some ⟨_, _, none⟩)), (18, .pointer (some ⟨_, _, none⟩))] hst ⟨rfl, rfl, rfl, rfl, rfl, rfl, rfl, rfl, trivial⟩ (fun (_u : Unit) => []) (fun (_u : Unit) => [Res.row b18 27 [.int .i32 (bif o1 then sr else sl), .int .i32 st, .int .i32 0, .int .i32 (bif o3 then sl else (bif o1 then sl else sr)), .int .i32 (bif o3 then (bif o1 then st else sb) else sb), .int .i32 0, .int .i32 (bif o3 then (bif o1 then sl else sr) else sl), .int .i32 (bif o3 then sb else (bif o1 then st else sb)), .int .i32 0]]) (fun (_u : Unit) => True) (fun _u f w hst hJ16 => ?_) (fun cut15 => ?_)
                      · skip
                        refine run_seq ?_
                        refine run_region ?_
                        refine RunL.cons (Op1.alloc hst ty68 fun w b19 hst => ?_)
                        rw [tabOf_zero] at hst
                        refine RunL.nil ?_
                        refine run_seq ?_
                        have hw1 : clampZ sl < clampZ sr ∧ clampZ st < clampZ sb := by omega
                        obtain ⟨l, m, hl, hm, hsq⟩ : ∃ l m, covRows (clampZ (bif o2 then sr else (bif o1 then sr else sl))) (clampZ (bif o2 then (bif o1 then sb else st) else st)) (clampZ (bif o2 then (bif o1 then sr else sl) else sr)) (clampZ (bif o2 then st else (bif o1 then sb else st))) (clampZ (bif o1 then sl else sr)) (clampZ sb) wd ht = l ∧ covRows (clampZ (bif o1 then sr else sl)) (clampZ st) (clampZ (bif o3 then sl else (bif o1 then sl else sr))) (clampZ (bif o3 then (bif o1 then st else sb) else sb)) (clampZ (bif o3 then (bif o1 then sl else sr) else sl)) (clampZ (bif o3 then sb else (bif o1 then st else sb))) wd ht = m ∧ SqT (clampZ sl) (clampZ st) (clampZ sr) (clampZ sb) wd ht l m := ⟨_, _, rfl, rfl, ⟨hw1, by
                          cases o1 <;> cases o2 <;> cases o3
                          · exact .inl ⟨rfl, rfl⟩
                          · exact .inl ⟨rfl, (covRows_swap _ _ _ _ _ _ _ _).symm⟩
                          · exact .inl ⟨(covRows_flip _ _ _ _ _ _ _ _).symm, rfl⟩
                          · exact .inl ⟨(covRows_flip _ _ _ _ _ _ _ _).symm, (covRows_swap _ _ _ _ _ _ _ _).symm⟩
                          · exact .inr ⟨rfl, rfl⟩
                          · exact .inr ⟨rfl, (covRows_swap _ _ _ _ _ _ _ _).symm⟩
                          · exact .inr ⟨(covRows_flip _ _ _ _ _ _ _ _).symm, rfl⟩
                          · exact .inr ⟨(covRows_flip _ _ _ _ _ _ _ _).symm, (covRows_swap _ _ _ _ _ _ _ _).symm⟩⟩⟩
                        have hri := hsq.bd
                        have hbl := hri.1.bd.1
                        have hbm := hri.2.bd.1
                        refine run_region ?_
                        refine RunL.cons (Op1.loadA (vs := [.int .i32 _, .int .i32 _, .int .i32 _, .int .i32 _, .int .i32 _, .int .i32 _, .int .i32 _, .int .i32 _, .int .i32 _]) ty27 rfl rfl rfl (cells_of_obj (n := 9) (hst.objL (.tail _ (.tail _ (.head _)))) _ rfl) ?_)
                        refine RunL.cons (Op1.move (v := .int .i64 _) rfl ?_)
                        refine RunL.cons (Op1.move (v := .int .i64 _) rfl ?_)
                        refine RunL.cons (Op1.call3 (v1 := .agg #[.int .i32 _, .int .i32 _, .int .i32 _, .int .i32 _, .int .i32 _, .int .i32 _, .int .i32 _, .int .i32 _, .int .i32 _]) (v2 := .int .i64 _) (v3 := .int .i64 _) ent42 rfl rfl rfl rfl ((cov_Rows2 _ _ _ _ _ _ _ _ _ _ _ _ hl).mono fun v w hp => ?_))
                        obtain ⟨ao18, cp18, rfl, hp⟩ := hp
                        replace hst := hst.call0 hp
                        clear hp
                        refine RunL.cons (Op1.move (v := .tuple #[.slice _ _ _, .int .i64 _]) rfl ?_)
                        refine RunL.cons (Op1.extract (v := .slice _ _ _) rfl rfl ?_)
                        refine RunL.cons (Op1.extract (v := .int .i64 _) rfl rfl ?_)
                        refine RunL.cons (Op1.assign (v := .slice _ _ _) rfl ?_)
                        refine RunL.cons (Op1.assign (v := .int .i64 _) rfl ?_)
                        refine RunL.nil ?_
                        refine run_seq ?_
                        refine run_region ?_
                        refine RunL.cons (Op1.loadA (vs := [.int .i32 _, .int .i32 _, .int .i32 _, .int .i32 _, .int .i32 _, .int .i32 _, .int .i32 _, .int .i32 _, .int .i32 _]) ty27 rfl rfl rfl (cells_of_obj (n := 9) (hst.objL (.tail _ (.tail _ (.head _)))) _ rfl) ?_)
                        refine RunL.cons (Op1.move (v := .int .i64 _) rfl ?_)
                        refine RunL.cons (Op1.move (v := .int .i64 _) rfl ?_)
                        refine RunL.cons (Op1.call3 (v1 := .agg #[.int .i32 _, .int .i32 _, .int .i32 _, .int .i32 _, .int .i32 _, .int .i32 _, .int .i32 _, .int .i32 _, .int .i32 _]) (v2 := .int .i64 _) (v3 := .int .i64 _) ent42 rfl rfl rfl rfl ((cov_Rows2 _ _ _ _ _ _ _ _ _ _ _ _ hm).mono fun v w hp => ?_))
                        obtain ⟨ao19, cp19, rfl, hp⟩ := hp
                        replace hst := hst.call0 hp
                        clear hp
                        refine RunL.cons (Op1.move (v := .tuple #[.slice _ _ _, .int .i64 _]) rfl ?_)
                        refine RunL.cons (Op1.extract (v := .slice _ _ _) rfl rfl ?_)
                        refine RunL.cons (Op1.extract (v := .int .i64 _) rfl rfl ?_)
                        refine RunL.cons (Op1.assign (v := .slice _ _ _) rfl ?_)
                        refine RunL.cons (Op1.assign (v := .int .i64 _) rfl ?_)
                        refine RunL.nil ?_
                        refine run_seq ?_
                        refine run_seq ?_
                        refine run_region ?_
                        refine RunL.cons (Op1.move (v := .int .i64 _) rfl ?_)
                        refine RunL.cons (Op1.neq rfl rfl ?_)
                        refine RunL.cons (Op1.move (v := .bool _) rfl ?_)
                        refine RunL.splitD (d := 149) rfl (fun g20 => ?_) (fun g20 => ?_)
                        · skip
                          exfalso
                          exact g20 ((errZ_pic _ _).2 (by omega))
                        · skip
                          refine RunL.take (t := 149) rfl (congrArg Value.bool (decide_eq_false g20)) (Op1.move (v := .int .i64 _) rfl ?_)
                          refine RunL.take (t := 149) rfl (congrArg Value.bool (decide_eq_false g20)) (Op1.neq rfl rfl ?_)
                          refine RunL.cons (Op1.pickF (u := .bool _) (congrArg Value.bool (decide_eq_false g20)) rfl ?_)
                          refine RunL.nil ?_
                          refine run_cond_dec rfl (fun g21 => ?_) (fun g21 => ?_)
                          · skip
                            exfalso
                            exact g21 ((errZ_pic _ _).2 (by omega))
                          · skip
                            refine run_skip ?_
                            refine run_seq ?_
                            refine run_region ?_
                            refine RunL.cons (Op1.move (v := .slice _ _ _) rfl ?_)
                            refine RunL.cons (Op1.move (v := .slice _ _ _) rfl ?_)
                            refine RunL.cons (Op1.appendSl hst ty50 ty56 rfl rfl (.there (.here)) rfl rfl (hst.hL _ (.head _)) (flat_ok (fun _ => rfl) _) rfl (by omega) fun w aoP cpP hst => ?_)
                            obtain ⟨p, hp, hpl, hpf⟩ : ∃ p, l ++ m = p ∧ p.length = l.length + m.length ∧ p.flatMap rowC = l.flatMap rowC ++ m.flatMap rowC := ⟨_, rfl, by simp, by simp⟩
                            rw [← hpf, ← hpl] at hst
                            rw [← hpl]
                            have hrok : RowsOk p wd ht := by rw [← hp]; exact hri.1.ok.app hri.2.ok
                            refine RunL.cons (Op1.assign (v := .slice _ _ _) rfl ?_)
                            refine RunL.nil ?_
                            refine run_seq ?_
                            refine run_seq ?_
                            refine run_region ?_
                            refine RunL.cons (Op1.assign (v := .int .i64 _) rfl ?_)
                            refine RunL.nil ?_
                            refine run_block ?_
                            refine run_loop ?_
                            replace hst := hst.pick (.cons (.there (.there (.here))) (.cons (.here) (.cons (.here) (.cons (.here) (.cons (.here) (.cons (.here) (.cons (.here) (.cons (.here) (.cons (.here) (.cons (.here) .nil))))))))))
                            refine Run.indW [(1, .int .i64 _), (2, .int .i64 _), (9, .int .i32 _), (10, .int .i32 _), (11, .int .i32 _), (12, .int .i32 _), (19, .pointer (some ⟨_, _, none⟩)), (20, .slice _ _ _)] ⟨rfl, rfl, rfl, rfl, rfl, rfl, rfl, rfl, trivial⟩ (fun (k : Nat) => [(24, .int .i64 (k : Int))]) (fun (k : Nat) => [Res.row b19 68 (tabOf .i64 4096 (cntA p k))]) (fun (k : Nat) => k ≤ p.length) (fun (k : Nat) => p.length - k) (0) hst (Nat.zero_le _) ⟨rfl, trivial⟩ ?_
                            intro k f w hst hJ ih22
                            refine run_seq ?_
                            refine run_seq ?_
                            refine run_region ?_
                            refine RunL.cons (Op1.move (v := .int .i64 _) rfl ?_)
                            refine RunL.cons (Op1.move (v := .slice _ _ _) rfl ?_)
                            refine RunL.cons (Op1.lenSl (rest := []) ty50 rfl ?_)
                            refine RunL.cons (Op1.lss rfl rfl ?_)
                            refine RunL.nil ?_
                            refine run_cond_dec rfl (fun g23 => ?_) (fun g23 => ?_)
                            · skip
                              have hok := hrok k (by omega)
                              have hq : (p.getD ((k : Int)).toNat (0, 0, 0)).2.2 = (p.getD k (0, 0, 0)).2.2 ∧ (p.getD ((k : Int)).toNat (0, 0, 0)).2.1 = (p.getD k (0, 0, 0)).2.1 ∧ (p.getD ((k : Int)).toNat (0, 0, 0)).1 = (p.getD k (0, 0, 0)).1 := ⟨rfl, rfl, rfl⟩
                              refine run_skip ?_
                              refine run_seq ?_
                              refine run_block ?_
                              refine run_seq ?_
                              refine run_seq ?_
                              obtain ⟨bs24, rfl⟩ := Res.sl_some (hst.hL _ (.tail _ (.head _))) (by omega)
                              refine RunD.start [] hst (bs := [0, 0, 3, 7, 15, 31, 63, 127, 127, 511, 1023, 2047, 127, 8191, 16383, 32767, 65535, 65535, 262143, 524287, 1048575, 2097151, 4194303, 8388607, 16777215, 16777215, 67108863, 134217727, 268435455, 16777215, 16777215, 1627389951, 3774873599, 8069840895, 17179869183, 34359738367, 68719476735, 137438953471, 137438953471, 549755813887, 1099511627775, 2199023255551, 137438953471, 8796093022207, 17592186044415]) (ds := [some 162, some 163, some 164, some 165, some 166, some 167, some 168, some 169, some 170, some 171, some 172, some 173, some 174, some 175, some 176, some 177, some 178, some 179, some 180, some 181, some 182, some 183, some 184, some 185, some 186, some 187, some 188, some 189, some 190, some 191, some 192, some 193, some 194, some 195, some 196, some 197, some 198, some 199, some 200, some 201, some 202, some 203, some 204, some 205, some 206]) ⟨by kernel_rfl, by kernel_rfl, by kernel_rfl⟩ (fun tab25 => ?_)
                              refine RunD.op (det _) tab25 1 (fun f' L' w' hc => Op1.move (v := .slice _ _ _) (hc.old (v := .slice _ _ _) rfl rfl rfl) ⟨[], ⟨rfl, rfl⟩, hc.st⟩) ?_
                              refine RunD.op (det _) tab25 2 (fun f' L' w' hc => Op1.move (v := .int .i64 _) (hc.old (v := .int .i64 _) rfl rfl rfl) ⟨[], ⟨rfl, rfl⟩, hc.st⟩) ?_
                              refine RunD.op (det _) tab25 3 (fun f' L' w' hc => Op1.indexSl ty50 ty56 (hc.det (j := 0) rfl rfl rfl rfl) (hc.det (j := 1) rfl rfl rfl rfl) (by omega) (by omega) ⟨[], ⟨rfl, rfl⟩, hc.st⟩) ?_
                              refine RunD.op (det _) tab25 4 (fun f' L' w' hc => Op1.fieldAddr fld56_0 (hc.det (j := 2) rfl rfl rfl rfl) ⟨[], ⟨rfl, rfl⟩, hc.st⟩) ?_
                              refine RunD.op (det _) tab25 5 (fun f' L' w' hc => Op1.load1 (v := .int .i64 _) ty3 rfl (hc.det (j := 3) rfl rfl rfl rfl) (Res.sl_cell (hc.st.hL _ (List.mem_append_right _ (.tail _ (.head _)))) (flat_cell (g := rowC) (d := (0, 0, 0)) rowC_len rfl (by omega))) ⟨[], ⟨rfl, rfl⟩, hc.st⟩) ?_
                              refine RunD.op (det _) tab25 6 (fun f' L' w' hc => Op1.lss (hc.det (j := 4) rfl rfl rfl rfl) rfl ⟨[], ⟨rfl, rfl⟩, hc.st⟩) ?_
                              refine RunD.op (det _) tab25 7 (fun f' L' w' hc => Op1.move (v := .bool _) (hc.det (j := 5) rfl rfl rfl rfl) ⟨[], ⟨rfl, rfl⟩, hc.st⟩) ?_
                              refine RunD.splitD (j := 6) rfl (fun g26 => ?_) (fun g26 => ?_)
                              · skip
                                exfalso
                                omega
                              · skip
                                refine RunD.take (det _) tab25 8 rfl (fun f' L' w' hc => (hc.det (j := 6) rfl rfl rfl rfl).trans (congrArg Value.bool (decide_eq_false g26))) (fun f' L' w' hc => Op1.move (v := .slice _ _ _) (hc.old (v := .slice _ _ _) rfl rfl rfl) ⟨[], ⟨rfl, rfl⟩, hc.st⟩) ?_
                                refine RunD.take (det _) tab25 9 rfl (fun f' L' w' hc => (hc.det (j := 6) rfl rfl rfl rfl).trans (congrArg Value.bool (decide_eq_false g26))) (fun f' L' w' hc => Op1.move (v := .int .i64 _) (hc.old (v := .int .i64 _) rfl rfl rfl) ⟨[], ⟨rfl, rfl⟩, hc.st⟩) ?_
                                refine RunD.take (det _) tab25 10 rfl (fun f' L' w' hc => (hc.det (j := 6) rfl rfl rfl rfl).trans (congrArg Value.bool (decide_eq_false g26))) (fun f' L' w' hc => Op1.indexSl ty50 ty56 (hc.det (j := 7) rfl rfl rfl rfl) (hc.det (j := 8) rfl rfl rfl rfl) (by omega) (by omega) ⟨[], ⟨rfl, rfl⟩, hc.st⟩) ?_
                                refine RunD.take (det _) tab25 11 rfl (fun f' L' w' hc => (hc.det (j := 6) rfl rfl rfl rfl).trans (congrArg Value.bool (decide_eq_false g26))) (fun f' L' w' hc => Op1.fieldAddr fld56_0 (hc.det (j := 9) rfl rfl rfl rfl) ⟨[], ⟨rfl, rfl⟩, hc.st⟩) ?_
                                refine RunD.take (det _) tab25 12 rfl (fun f' L' w' hc => (hc.det (j := 6) rfl rfl rfl rfl).trans (congrArg Value.bool (decide_eq_false g26))) (fun f' L' w' hc => Op1.load1 (v := .int .i64 _) ty3 rfl (hc.det (j := 10) rfl rfl rfl rfl) (Res.sl_cell (hc.st.hL _ (List.mem_append_right _ (.tail _ (.head _)))) (flat_cell (g := rowC) (d := (0, 0, 0)) rowC_len rfl (by omega))) ⟨[], ⟨rfl, rfl⟩, hc.st⟩) ?_
                                refine RunD.take (det _) tab25 13 rfl (fun f' L' w' hc => (hc.det (j := 6) rfl rfl rfl rfl).trans (congrArg Value.bool (decide_eq_false g26))) (fun f' L' w' hc => Op1.move (v := .int .i64 _) (hc.old (v := .int .i64 _) rfl rfl rfl) ⟨[], ⟨rfl, rfl⟩, hc.st⟩) ?_
                                refine RunD.take (det _) tab25 14 rfl (fun f' L' w' hc => (hc.det (j := 6) rfl rfl rfl rfl).trans (congrArg Value.bool (decide_eq_false g26))) (fun f' L' w' hc => Op1.geq (hc.det (j := 11) rfl rfl rfl rfl) (hc.det (j := 12) rfl rfl rfl rfl) ⟨[], ⟨rfl, rfl⟩, hc.st⟩) ?_
                                refine RunD.op (det _) tab25 15 (fun f' L' w' hc => Op1.pickF (u := .bool _) (((hc.det (j := 6) rfl rfl rfl rfl)).trans (congrArg Value.bool (decide_eq_false g26))) (hc.det (j := 13) rfl rfl rfl rfl) ⟨[], ⟨rfl, rfl⟩, hc.st⟩) ?_
                                refine RunD.op (det _) tab25 16 (fun f' L' w' hc => Op1.move (v := .bool _) (hc.det (j := 14) rfl rfl rfl rfl) ⟨[], ⟨rfl, rfl⟩, hc.st⟩) ?_
                                refine RunD.splitD (j := 15) rfl (fun g27 => ?_) (fun g27 => ?_)
                                · skip
                                  exfalso
                                  omega
                                · skip
                                  refine RunD.take (det _) tab25 17 rfl (fun f' L' w' hc => (hc.det (j := 15) rfl rfl rfl rfl).trans (congrArg Value.bool (decide_eq_false g27))) (fun f' L' w' hc => Op1.move (v := .slice _ _ _) (hc.old (v := .slice _ _ _) rfl rfl rfl) ⟨[], ⟨rfl, rfl⟩, hc.st⟩) ?_
                                  refine RunD.take (det _) tab25 18 rfl (fun f' L' w' hc => (hc.det (j := 15) rfl rfl rfl rfl).trans (congrArg Value.bool (decide_eq_false g27))) (fun f' L' w' hc => Op1.move (v := .int .i64 _) (hc.old (v := .int .i64 _) rfl rfl rfl) ⟨[], ⟨rfl, rfl⟩, hc.st⟩) ?_
                                  refine RunD.take (det _) tab25 19 rfl (fun f' L' w' hc => (hc.det (j := 15) rfl rfl rfl rfl).trans (congrArg Value.bool (decide_eq_false g27))) (fun f' L' w' hc => Op1.indexSl ty50 ty56 (hc.det (j := 16) rfl rfl rfl rfl) (hc.det (j := 17) rfl rfl rfl rfl) (by omega) (by omega) ⟨[], ⟨rfl, rfl⟩, hc.st⟩) ?_
                                  refine RunD.take (det _) tab25 20 rfl (fun f' L' w' hc => (hc.det (j := 15) rfl rfl rfl rfl).trans (congrArg Value.bool (decide_eq_false g27))) (fun f' L' w' hc => Op1.fieldAddr fld56_1 (hc.det (j := 18) rfl rfl rfl rfl) ⟨[], ⟨rfl, rfl⟩, hc.st⟩) ?_
                                  refine RunD.take (det _) tab25 21 rfl (fun f' L' w' hc => (hc.det (j := 15) rfl rfl rfl rfl).trans (congrArg Value.bool (decide_eq_false g27))) (fun f' L' w' hc => Op1.load1 (v := .int .i64 _) ty3 rfl (hc.det (j := 19) rfl rfl rfl rfl) (Res.sl_cell (hc.st.hL _ (List.mem_append_right _ (.tail _ (.head _)))) (flat_cell (g := rowC) (d := (0, 0, 0)) rowC_len rfl (by omega))) ⟨[], ⟨rfl, rfl⟩, hc.st⟩) ?_
                                  refine RunD.take (det _) tab25 22 rfl (fun f' L' w' hc => (hc.det (j := 15) rfl rfl rfl rfl).trans (congrArg Value.bool (decide_eq_false g27))) (fun f' L' w' hc => Op1.lss (hc.det (j := 20) rfl rfl rfl rfl) rfl ⟨[], ⟨rfl, rfl⟩, hc.st⟩) ?_
                                  refine RunD.op (det _) tab25 23 (fun f' L' w' hc => Op1.pickF (u := .bool _) (((hc.det (j := 15) rfl rfl rfl rfl)).trans (congrArg Value.bool (decide_eq_false g27))) (hc.det (j := 21) rfl rfl rfl rfl) ⟨[], ⟨rfl, rfl⟩, hc.st⟩) ?_
                                  refine RunD.op (det _) tab25 24 (fun f' L' w' hc => Op1.move (v := .bool _) (hc.det (j := 22) rfl rfl rfl rfl) ⟨[], ⟨rfl, rfl⟩, hc.st⟩) ?_
                                  refine RunD.splitD (j := 23) rfl (fun g28 => ?_) (fun g28 => ?_)
                                  · skip
                                    exfalso
                                    omega
                                  · skip
                                    refine RunD.take (det _) tab25 25 rfl (fun f' L' w' hc => (hc.det (j := 23) rfl rfl rfl rfl).trans (congrArg Value.bool (decide_eq_false g28))) (fun f' L' w' hc => Op1.move (v := .slice _ _ _) (hc.old (v := .slice _ _ _) rfl rfl rfl) ⟨[], ⟨rfl, rfl⟩, hc.st⟩) ?_
                                    refine RunD.take (det _) tab25 26 rfl (fun f' L' w' hc => (hc.det (j := 23) rfl rfl rfl rfl).trans (congrArg Value.bool (decide_eq_false g28))) (fun f' L' w' hc => Op1.move (v := .int .i64 _) (hc.old (v := .int .i64 _) rfl rfl rfl) ⟨[], ⟨rfl, rfl⟩, hc.st⟩) ?_
                                    refine RunD.take (det _) tab25 27 rfl (fun f' L' w' hc => (hc.det (j := 23) rfl rfl rfl rfl).trans (congrArg Value.bool (decide_eq_false g28))) (fun f' L' w' hc => Op1.indexSl ty50 ty56 (hc.det (j := 24) rfl rfl rfl rfl) (hc.det (j := 25) rfl rfl rfl rfl) (by omega) (by omega) ⟨[], ⟨rfl, rfl⟩, hc.st⟩) ?_
                                    refine RunD.take (det _) tab25 28 rfl (fun f' L' w' hc => (hc.det (j := 23) rfl rfl rfl rfl).trans (congrArg Value.bool (decide_eq_false g28))) (fun f' L' w' hc => Op1.fieldAddr fld56_1 (hc.det (j := 26) rfl rfl rfl rfl) ⟨[], ⟨rfl, rfl⟩, hc.st⟩) ?_
                                    refine RunD.take (det _) tab25 29 rfl (fun f' L' w' hc => (hc.det (j := 23) rfl rfl rfl rfl).trans (congrArg Value.bool (decide_eq_false g28))) (fun f' L' w' hc => Op1.load1 (v := .int .i64 _) ty3 rfl (hc.det (j := 27) rfl rfl rfl rfl) (Res.sl_cell (hc.st.hL _ (List.mem_append_right _ (.tail _ (.head _)))) (flat_cell (g := rowC) (d := (0, 0, 0)) rowC_len rfl (by omega))) ⟨[], ⟨rfl, rfl⟩, hc.st⟩) ?_
                                    refine RunD.take (det _) tab25 30 rfl (fun f' L' w' hc => (hc.det (j := 23) rfl rfl rfl rfl).trans (congrArg Value.bool (decide_eq_false g28))) (fun f' L' w' hc => Op1.move (v := .slice _ _ _) (hc.old (v := .slice _ _ _) rfl rfl rfl) ⟨[], ⟨rfl, rfl⟩, hc.st⟩) ?_
                                    refine RunD.take (det _) tab25 31 rfl (fun f' L' w' hc => (hc.det (j := 23) rfl rfl rfl rfl).trans (congrArg Value.bool (decide_eq_false g28))) (fun f' L' w' hc => Op1.move (v := .int .i64 _) (hc.old (v := .int .i64 _) rfl rfl rfl) ⟨[], ⟨rfl, rfl⟩, hc.st⟩) ?_
                                    refine RunD.take (det _) tab25 32 rfl (fun f' L' w' hc => (hc.det (j := 23) rfl rfl rfl rfl).trans (congrArg Value.bool (decide_eq_false g28))) (fun f' L' w' hc => Op1.indexSl ty50 ty56 (hc.det (j := 29) rfl rfl rfl rfl) (hc.det (j := 30) rfl rfl rfl rfl) (by omega) (by omega) ⟨[], ⟨rfl, rfl⟩, hc.st⟩) ?_
                                    refine RunD.take (det _) tab25 33 rfl (fun f' L' w' hc => (hc.det (j := 23) rfl rfl rfl rfl).trans (congrArg Value.bool (decide_eq_false g28))) (fun f' L' w' hc => Op1.fieldAddr fld56_2 (hc.det (j := 31) rfl rfl rfl rfl) ⟨[], ⟨rfl, rfl⟩, hc.st⟩) ?_
                                    refine RunD.take (det _) tab25 34 rfl (fun f' L' w' hc => (hc.det (j := 23) rfl rfl rfl rfl).trans (congrArg Value.bool (decide_eq_false g28))) (fun f' L' w' hc => Op1.load1 (v := .int .i64 _) ty3 rfl (hc.det (j := 32) rfl rfl rfl rfl) (Res.sl_cell (hc.st.hL _ (List.mem_append_right _ (.tail _ (.head _)))) (flat_cell (g := rowC) (d := (0, 0, 0)) rowC_len rfl (by omega))) ⟨[], ⟨rfl, rfl⟩, hc.st⟩) ?_
                                    refine RunD.take (det _) tab25 35 rfl (fun f' L' w' hc => (hc.det (j := 23) rfl rfl rfl rfl).trans (congrArg Value.bool (decide_eq_false g28))) (fun f' L' w' hc => Op1.geq (hc.det (j := 28) rfl rfl rfl rfl) (hc.det (j := 33) rfl rfl rfl rfl) ⟨[], ⟨rfl, rfl⟩, hc.st⟩) ?_
                                    refine RunD.op (det _) tab25 36 (fun f' L' w' hc => Op1.pickF (u := .bool _) (((hc.det (j := 23) rfl rfl rfl rfl)).trans (congrArg Value.bool (decide_eq_false g28))) (hc.det (j := 34) rfl rfl rfl rfl) ⟨[], ⟨rfl, rfl⟩, hc.st⟩) ?_
                                    refine RunD.op (det _) tab25 37 (fun f' L' w' hc => Op1.move (v := .bool _) (hc.det (j := 35) rfl rfl rfl rfl) ⟨[], ⟨rfl, rfl⟩, hc.st⟩) ?_
                                    refine RunD.splitD (j := 36) rfl (fun g29 => ?_) (fun g29 => ?_)
                                    · skip
                                      exfalso
                                      omega
                                    · skip
                                      refine RunD.take (det _) tab25 38 rfl (fun f' L' w' hc => (hc.det (j := 36) rfl rfl rfl rfl).trans (congrArg Value.bool (decide_eq_false g29))) (fun f' L' w' hc => Op1.move (v := .slice _ _ _) (hc.old (v := .slice _ _ _) rfl rfl rfl) ⟨[], ⟨rfl, rfl⟩, hc.st⟩) ?_
                                      refine RunD.take (det _) tab25 39 rfl (fun f' L' w' hc => (hc.det (j := 36) rfl rfl rfl rfl).trans (congrArg Value.bool (decide_eq_false g29))) (fun f' L' w' hc => Op1.move (v := .int .i64 _) (hc.old (v := .int .i64 _) rfl rfl rfl) ⟨[], ⟨rfl, rfl⟩, hc.st⟩) ?_
                                      refine RunD.take (det _) tab25 40 rfl (fun f' L' w' hc => (hc.det (j := 36) rfl rfl rfl rfl).trans (congrArg Value.bool (decide_eq_false g29))) (fun f' L' w' hc => Op1.indexSl ty50 ty56 (hc.det (j := 37) rfl rfl rfl rfl) (hc.det (j := 38) rfl rfl rfl rfl) (by omega) (by omega) ⟨[], ⟨rfl, rfl⟩, hc.st⟩) ?_
                                      refine RunD.take (det _) tab25 41 rfl (fun f' L' w' hc => (hc.det (j := 36) rfl rfl rfl rfl).trans (congrArg Value.bool (decide_eq_false g29))) (fun f' L' w' hc => Op1.fieldAddr fld56_2 (hc.det (j := 39) rfl rfl rfl rfl) ⟨[], ⟨rfl, rfl⟩, hc.st⟩) ?_
                                      refine RunD.take (det _) tab25 42 rfl (fun f' L' w' hc => (hc.det (j := 36) rfl rfl rfl rfl).trans (congrArg Value.bool (decide_eq_false g29))) (fun f' L' w' hc => Op1.load1 (v := .int .i64 _) ty3 rfl (hc.det (j := 40) rfl rfl rfl rfl) (Res.sl_cell (hc.st.hL _ (List.mem_append_right _ (.tail _ (.head _)))) (flat_cell (g := rowC) (d := (0, 0, 0)) rowC_len rfl (by omega))) ⟨[], ⟨rfl, rfl⟩, hc.st⟩) ?_
                                      refine RunD.take (det _) tab25 43 rfl (fun f' L' w' hc => (hc.det (j := 36) rfl rfl rfl rfl).trans (congrArg Value.bool (decide_eq_false g29))) (fun f' L' w' hc => Op1.move (v := .int .i64 _) (hc.old (v := .int .i64 _) rfl rfl rfl) ⟨[], ⟨rfl, rfl⟩, hc.st⟩) ?_
                                      refine RunD.fin followsMixed tab25 hst rfl (fun f30 w R33 hs31 hd32 hr34 hst => ?_)
                                      obtain ⟨h162_, r0⟩ := hd32 0 162 rfl rfl
                                      obtain ⟨h163_, r1⟩ := hd32 1 163 rfl rfl
                                      obtain ⟨h164_, r2⟩ := hd32 2 164 rfl rfl
                                      obtain ⟨h165_, r3⟩ := hd32 3 165 rfl rfl
                                      obtain ⟨h166_, r4⟩ := hd32 4 166 rfl rfl
                                      obtain ⟨h167_, r5⟩ := hd32 5 167 rfl rfl
                                      obtain ⟨h168_, r6⟩ := hd32 6 168 rfl rfl
                                      obtain ⟨h169_, r7⟩ := hd32 7 169 rfl rfl
                                      obtain ⟨h170_, r8⟩ := hd32 8 170 rfl rfl
                                      obtain ⟨h171_, r9⟩ := hd32 9 171 rfl rfl
                                      obtain ⟨h172_, r10⟩ := hd32 10 172 rfl rfl
                                      obtain ⟨h173_, r11⟩ := hd32 11 173 rfl rfl
                                      obtain ⟨h174_, r12⟩ := hd32 12 174 rfl rfl
                                      obtain ⟨h175_, r13⟩ := hd32 13 175 rfl rfl
                                      obtain ⟨h176_, r14⟩ := hd32 14 176 rfl rfl
                                      obtain ⟨h177_, r15⟩ := hd32 15 177 rfl rfl
                                      obtain ⟨h178_, r16⟩ := hd32 16 178 rfl rfl
                                      obtain ⟨h179_, r17⟩ := hd32 17 179 rfl rfl
                                      obtain ⟨h180_, r18⟩ := hd32 18 180 rfl rfl
                                      obtain ⟨h181_, r19⟩ := hd32 19 181 rfl rfl
                                      obtain ⟨h182_, r20⟩ := hd32 20 182 rfl rfl
                                      obtain ⟨h183_, r21⟩ := hd32 21 183 rfl rfl
                                      obtain ⟨h184_, r22⟩ := hd32 22 184 rfl rfl
                                      obtain ⟨h185_, r23⟩ := hd32 23 185 rfl rfl
                                      obtain ⟨h186_, r24⟩ := hd32 24 186 rfl rfl
                                      obtain ⟨h187_, r25⟩ := hd32 25 187 rfl rfl
                                      obtain ⟨h188_, r26⟩ := hd32 26 188 rfl rfl
                                      obtain ⟨h189_, r27⟩ := hd32 27 189 rfl rfl
                                      obtain ⟨h190_, r28⟩ := hd32 28 190 rfl rfl
                                      obtain ⟨h191_, r29⟩ := hd32 29 191 rfl rfl
                                      obtain ⟨h192_, r30⟩ := hd32 30 192 rfl rfl
                                      obtain ⟨h193_, r31⟩ := hd32 31 193 rfl rfl
                                      obtain ⟨h194_, r32⟩ := hd32 32 194 rfl rfl
                                      obtain ⟨h195_, r33⟩ := hd32 33 195 rfl rfl
                                      obtain ⟨h196_, r34⟩ := hd32 34 196 rfl rfl
                                      obtain ⟨h197_, r35⟩ := hd32 35 197 rfl rfl
                                      obtain ⟨h198_, r36⟩ := hd32 36 198 rfl rfl
                                      obtain ⟨h199_, r37⟩ := hd32 37 199 rfl rfl
                                      obtain ⟨h200_, r38⟩ := hd32 38 200 rfl rfl
                                      obtain ⟨h201_, r39⟩ := hd32 39 201 rfl rfl
                                      obtain ⟨h202_, r40⟩ := hd32 40 202 rfl rfl
                                      obtain ⟨h203_, r41⟩ := hd32 41 203 rfl rfl
                                      obtain ⟨h204_, r42⟩ := hd32 42 204 rfl rfl
                                      simp only [show List.range 43 = [0, 1, 2, 3, 4, 5, 6, 7, 8, 9, 10, 11, 12, 13, 14, 15, 16, 17, 18, 19, 20, 21, 22, 23, 24, 25, 26, 27, 28, 29, 30, 31, 32, 33, 34, 35, 36, 37, 38, 39, 40, 41, 42] from rfl, List.flatMap_cons, List.flatMap_nil, List.map_cons, List.map_nil, r0, r1, r2, r3, r4, r5, r6, r7, r8, r9, r10, r11, r12, r13, r14, r15, r16, r17, r18, r19, r20, r21, r22, r23, r24, r25, r26, r27, r28, r29, r30, r31, r32, r33, r34, r35, r36, r37, r38, r39, r40, r41, r42, List.nil_append, List.append_nil, List.cons_append] at hst
                                      refine RunL.slots (sl := [(1, .int .i64 _), (2, .int .i64 _), (9, .int .i32 _), (10, .int .i32 _), (11, .int .i32 _), (12, .int .i32 _), (19, .pointer (some ⟨_, _, none⟩)), (20, .slice _ _ _), (24, .int .i64 _), (198, .bool _), (203, .int .i64 _), (204, .int .i64 _)]) ⟨(hs31 1 rfl).trans rfl, (hs31 2 rfl).trans rfl, (hs31 9 rfl).trans rfl, (hs31 10 rfl).trans rfl, (hs31 11 rfl).trans rfl, (hs31 12 rfl).trans rfl, (hs31 19 rfl).trans rfl, (hs31 20 rfl).trans rfl, (hs31 24 rfl).trans rfl, h198_, h203_, h204_, trivial⟩ ?_
                                      clear hs31 hd32 hr34 tab25
                                      refine RunL.take (t := 198) rfl (congrArg Value.bool (decide_eq_false g29)) (Op1.gtr rfl rfl ?_)
                                      refine RunL.cons (Op1.pickF (u := .bool _) (congrArg Value.bool (decide_eq_false g29)) rfl ?_)
                                      refine RunL.nil ?_
                                      refine run_cond_dec rfl (fun g35 => ?_) (fun g35 => ?_)
                                      · skip
                                        exfalso
                                        omega
                                      · skip
                                        refine run_skip ?_
                                        refine run_seq ?_
                                        refine run_region ?_
                                        refine RunL.cons (Op1.move (v := .slice _ _ _) rfl ?_)
                                        refine RunL.cons (Op1.move (v := .int .i64 _) rfl ?_)
                                        refine RunL.cons (Op1.indexSl ty50 ty56 rfl rfl (by omega) (by omega) ?_)
                                        refine RunL.cons (Op1.fieldAddr fld56_1 rfl ?_)
                                        refine RunL.cons (Op1.load1 (v := .int .i64 _) ty3 rfl rfl (Res.sl_cell (hst.hL _ (.tail _ (.head _))) (flat_cell (g := rowC) (d := (0, 0, 0)) rowC_len rfl (by omega))) ?_)
                                        refine RunL.cons (Op1.assign (v := .int .i64 _) rfl ?_)
                                        refine RunL.nil ?_
                                        refine run_block ?_
                                        refine run_loop ?_
                                        refine Run.indW [(1, .int .i64 _), (2, .int .i64 _), (9, .int .i32 _), (10, .int .i32 _), (11, .int .i32 _), (12, .int .i32 _), (19, .pointer (some ⟨_, _, none⟩)), (20, .slice _ _ _), (24, .int .i64 _)] ⟨rfl, rfl, rfl, rfl, rfl, rfl, rfl, rfl, rfl, trivial⟩ (fun (x : Int) => [(25, .int .i64 x)]) (fun (x : Int) => [Res.row b19 68 (tabOf .i64 4096 (cntB p k x))]) (fun (x : Int) => (p.getD k (0, 0, 0)).2.1 ≤ x ∧ x ≤ (p.getD k (0, 0, 0)).2.2) (fun (x : Int) => ((p.getD k (0, 0, 0)).2.2 - x).toNat) ((p.getD k (0, 0, 0)).2.1) (by (try dsimp only); rw [cntB_first]; exact hst) ⟨by omega, by omega⟩ ⟨rfl, trivial⟩ ?_
                                        intro x f w hst hX ih36
                                        refine run_seq ?_
                                        refine run_seq ?_
                                        refine run_region ?_
                                        refine RunL.cons (Op1.move (v := .int .i64 _) rfl ?_)
                                        refine RunL.cons (Op1.move (v := .slice _ _ _) rfl ?_)
                                        refine RunL.cons (Op1.move (v := .int .i64 _) rfl ?_)
                                        refine RunL.cons (Op1.indexSl ty50 ty56 rfl rfl (by omega) (by omega) ?_)
                                        refine RunL.cons (Op1.fieldAddr fld56_2 rfl ?_)
                                        refine RunL.cons (Op1.load1 (v := .int .i64 _) ty3 rfl rfl (Res.sl_cell (hst.hL _ (.tail _ (.head _))) (flat_cell (g := rowC) (d := (0, 0, 0)) rowC_len rfl (by omega))) ?_)
                                        refine RunL.cons (Op1.lss rfl rfl ?_)
                                        refine RunL.nil ?_
                                        refine run_cond_dec rfl (fun g37 => ?_) (fun g37 => ?_)
                                        · skip
                                          have hcb := cntB_bd p k x (64 * (p.getD k (0, 0, 0)).1 + x).toNat
                                          refine run_skip ?_
                                          refine run_seq ?_
                                          refine run_block ?_
                                          refine run_region ?_
                                          refine RunL.cons (Op1.move (v := .slice _ _ _) rfl ?_)
                                          refine RunL.cons (Op1.move (v := .int .i64 _) rfl ?_)
                                          refine RunL.cons (Op1.indexSl ty50 ty56 rfl rfl (by omega) (by omega) ?_)
                                          refine RunL.cons (Op1.fieldAddr fld56_0 rfl ?_)
                                          refine RunL.cons (Op1.load1 (v := .int .i64 _) ty3 rfl rfl (Res.sl_cell (hst.hL _ (.tail _ (.head _))) (flat_cell (g := rowC) (d := (0, 0, 0)) rowC_len rfl (by omega))) ?_)
                                          first | refine RunL.cons (Op1.mulN rfl rfl rfl (wrap_i64 (by omega) (by omega)) ?_) | refine RunL.cons (Op1.mulB rfl rfl (by omega) (by omega) (by omega) (by omega) (fun hm38 hm39 => ?_))
                                          refine RunL.cons (Op1.move (v := .int .i64 _) rfl ?_)
                                          refine RunL.cons (Op1.addN rfl rfl rfl (wrap_i64 (by omega) (by omega)) ?_)
                                          refine RunL.cons (Op1.indexArr ty68 ty3 rfl rfl (by omega) (by omega) ?_)
                                          refine RunL.cons (Op1.load1 (v := .int .i64 _) ty3 rfl rfl (hst.cellL (.head _) (tabOf_get (j := (64 * (p.getD k (0, 0, 0)).1 + x).toNat) (by (try simp only [Int.toNat_natCast]); omega) (by omega))) ?_)
                                          refine RunL.cons (Op1.addN rfl rfl rfl (wrap_i64 (by omega) (by omega)) ?_)
                                          refine RunL.cons (Op1.indexArr ty68 ty3 rfl rfl (by omega) (by omega) ?_)
                                          refine RunL.cons (Op1.storeAt (v := .int .i64 _) hst ty3 rfl rfl rfl rfl rfl (.here) (by simp only [tabOf_len, List.length_cons, List.length_nil, Int.toNat_natCast]; omega) fun w hst => ?_)
                                          refine RunL.nil ?_
                                          refine run_inBlock ?_
                                          refine run_region ?_
                                          refine RunL.cons (Op1.move (v := .int .i64 _) rfl ?_)
                                          refine RunL.cons (Op1.addN rfl rfl rfl (wrap_i64 (by omega) (by omega)) ?_)
                                          refine RunL.cons (Op1.assign (v := .int .i64 _) rfl ?_)
                                          refine RunL.nil ?_
                                          refine run_inLoop ?_
                                          exact ih36 (x + 1) _ w (by omega) (by (try dsimp only); rw [cntB_step (p := p) (k := k) (x := x)] at hst; exact hst; all_goals ((try simp only [Int.toNat_natCast]); omega)) (⟨by omega, by omega⟩) ⟨rfl, rfl, rfl, rfl, rfl, rfl, rfl, rfl, rfl, trivial⟩ ⟨rfl, trivial⟩
                                        · skip
                                          obtain rfl : x = (p.getD k (0, 0, 0)).2.2 := by omega
                                          refine run_exit (id := 2) rfl ?_
                                          refine run_inBlock ?_
                                          refine run_region ?_
                                          refine RunL.cons (Op1.move (v := .int .i64 _) rfl ?_)
                                          refine RunL.cons (Op1.addN rfl rfl rfl (wrap_i64 (by omega) (by omega)) ?_)
                                          refine RunL.cons (Op1.assign (v := .int .i64 _) rfl ?_)
                                          refine RunL.nil ?_
                                          refine run_inLoop ?_
                                          exact ih22 (k + 1) _ w (by omega) (by (try dsimp only); rw [← cntB_last]; exact hst) (by omega) ⟨rfl, rfl, rfl, rfl, rfl, rfl, rfl, rfl, trivial⟩ ⟨(congrArg (Value.int .i64) (by omega)), trivial⟩
                            · skip
                              obtain rfl : k = p.length := by omega
                              refine run_exit (id := 0) rfl ?_
                              refine run_seq ?_
                              refine run_seq ?_
                              refine run_region ?_
                              refine RunL.cons (Op1.assign (v := .int .i64 _) rfl ?_)
                              refine RunL.nil ?_
                              refine run_block ?_
                              refine run_loop ?_
                              refine Run.indW [(1, .int .i64 _), (2, .int .i64 _), (9, .int .i32 _), (10, .int .i32 _), (11, .int .i32 _), (12, .int .i32 _), (19, .pointer (some ⟨_, _, none⟩))] ⟨rfl, rfl, rfl, rfl, rfl, rfl, rfl, trivial⟩ (fun (y : Int) => [(26, .int .i64 y)]) (fun (y : Int) => []) (fun (y : Int) => 0 ≤ y ∧ y ≤ ht) (fun (y : Int) => (ht - y).toNat) (0) hst ⟨by omega, by omega⟩ ⟨rfl, trivial⟩ ?_
                              intro y f w hst hY ih40
                              refine run_seq ?_
                              refine run_seq ?_
                              refine run_region ?_
                              refine RunL.cons (Op1.move (v := .int .i64 _) rfl ?_)
                              refine RunL.cons (Op1.move (v := .int .i64 _) rfl ?_)
                              refine RunL.cons (Op1.lss rfl rfl ?_)
                              refine RunL.nil ?_
                              refine run_cond_dec rfl (fun g41 => ?_) (fun g41 => ?_)
                              · skip
                                refine run_skip ?_
                                refine run_seq ?_
                                refine run_block ?_
                                refine run_seq ?_
                                refine run_region ?_
                                refine RunL.cons (Op1.assign (v := .int .i64 _) rfl ?_)
                                refine RunL.nil ?_
                                refine run_block ?_
                                refine run_loop ?_
                                refine Run.indW [(1, .int .i64 _), (2, .int .i64 _), (9, .int .i32 _), (10, .int .i32 _), (11, .int .i32 _), (12, .int .i32 _), (19, .pointer (some ⟨_, _, none⟩)), (26, .int .i64 _)] ⟨rfl, rfl, rfl, rfl, rfl, rfl, rfl, rfl, trivial⟩ (fun (x : Int) => [(27, .int .i64 x)]) (fun (x : Int) => []) (fun (x : Int) => 0 ≤ x ∧ x ≤ wd) (fun (x : Int) => (wd - x).toNat) (0) hst ⟨by omega, by omega⟩ ⟨rfl, trivial⟩ ?_
                                intro x f w hst hX ih42
                                refine run_seq ?_
                                refine run_seq ?_
                                refine run_region ?_
                                refine RunL.cons (Op1.move (v := .int .i64 _) rfl ?_)
                                refine RunL.cons (Op1.move (v := .int .i64 _) rfl ?_)
                                refine RunL.cons (Op1.lss rfl rfl ?_)
                                refine RunL.nil ?_
                                refine run_cond_dec rfl (fun g43 => ?_) (fun g43 => ?_)
                                · skip
                                  have hcnt := hsq.count (by omega) (by omega) (x := x) (y := y) (by omega) (by omega)
                                  rw [hp] at hcnt
                                  refine run_skip ?_
                                  refine run_seq ?_
                                  refine run_block ?_
                                  refine run_seq ?_
                                  refine run_region ?_
                                  refine RunL.cons (Op1.move (v := .int .i64 _) rfl ?_)
                                  first | refine RunL.cons (Op1.mulN rfl rfl rfl (wrap_i64 (by omega) (by omega)) ?_) | refine RunL.cons (Op1.mulB rfl rfl (by omega) (by omega) (by omega) (by omega) (fun hm44 hm45 => ?_))
                                  refine RunL.cons (Op1.addN rfl rfl rfl (wrap_i64 (by omega) (by omega)) ?_)
                                  first | refine RunL.cons (Op1.convN ty3 ty21 rfl (wrap_i32 (by omega) (by omega)) ?_) | refine RunL.cons (Op1.conv ty3 ty21 rfl ?_)
                                  refine RunL.cons (Op1.assign (v := .int .i32 _) rfl ?_)
                                  refine RunL.nil ?_
                                  refine run_seq ?_
                                  refine run_region ?_
                                  refine RunL.cons (Op1.move (v := .int .i64 _) rfl ?_)
                                  first | refine RunL.cons (Op1.mulN rfl rfl rfl (wrap_i64 (by omega) (by omega)) ?_) | refine RunL.cons (Op1.mulB rfl rfl (by omega) (by omega) (by omega) (by omega) (fun hm46 hm47 => ?_))
                                  refine RunL.cons (Op1.addN rfl rfl rfl (wrap_i64 (by omega) (by omega)) ?_)
                                  first | refine RunL.cons (Op1.convN ty3 ty21 rfl (wrap_i32 (by omega) (by omega)) ?_) | refine RunL.cons (Op1.conv ty3 ty21 rfl ?_)
                                  refine RunL.cons (Op1.assign (v := .int .i32 _) rfl ?_)
                                  refine RunL.nil ?_
                                  refine run_seq ?_
                                  refine run_region ?_
                                  refine RunL.cons (Op1.assign (v := .int .i64 _) rfl ?_)
                                  refine RunL.nil ?_
                                  refine run_seq ?_
                                  refine run_seq ?_
                                  refine run_region ?_
                                  refine RunL.cons (Op1.move (v := .int .i32 _) rfl ?_)
                                  refine RunL.cons (Op1.move (v := .int .i32 _) rfl ?_)
                                  refine RunL.cons (Op1.leq rfl rfl ?_)
                                  refine RunL.cons (Op1.move (v := .bool _) rfl ?_)
                                  refine RunL.splitD (d := 254) rfl (fun g48 => ?_) (fun g48 => ?_)
                                  · skip
                                    refine RunL.take (t := 254) rfl (congrArg Value.bool (decide_eq_true g48)) (Op1.move (v := .int .i32 _) rfl ?_)
                                    refine RunL.take (t := 254) rfl (congrArg Value.bool (decide_eq_true g48)) (Op1.move (v := .int .i32 _) rfl ?_)
                                    refine RunL.take (t := 254) rfl (congrArg Value.bool (decide_eq_true g48)) (Op1.lss rfl rfl ?_)
                                    refine RunL.cons (Op1.pickT (u := .bool _) (congrArg Value.bool (decide_eq_true g48)) rfl ?_)
                                    refine RunL.cons (Op1.move (v := .bool _) rfl ?_)
                                    refine RunL.splitD (d := 259) rfl (fun g49 => ?_) (fun g49 => ?_)
                                    · skip
                                      refine RunL.take (t := 259) rfl (congrArg Value.bool (decide_eq_true g49)) (Op1.move (v := .int .i32 _) rfl ?_)
                                      refine RunL.take (t := 259) rfl (congrArg Value.bool (decide_eq_true g49)) (Op1.move (v := .int .i32 _) rfl ?_)
                                      refine RunL.take (t := 259) rfl (congrArg Value.bool (decide_eq_true g49)) (Op1.leq rfl rfl ?_)
                                      refine RunL.cons (Op1.pickT (u := .bool _) (congrArg Value.bool (decide_eq_true g49)) rfl ?_)
                                      refine RunL.cons (Op1.move (v := .bool _) rfl ?_)
                                      refine RunL.splitD (d := 264) rfl (fun g50 => ?_) (fun g50 => ?_)
                                      · skip
                                        refine RunL.take (t := 264) rfl (congrArg Value.bool (decide_eq_true g50)) (Op1.move (v := .int .i32 _) rfl ?_)
                                        refine RunL.take (t := 264) rfl (congrArg Value.bool (decide_eq_true g50)) (Op1.move (v := .int .i32 _) rfl ?_)
                                        refine RunL.take (t := 264) rfl (congrArg Value.bool (decide_eq_true g50)) (Op1.lss rfl rfl ?_)
                                        refine RunL.cons (Op1.pickT (u := .bool _) (congrArg Value.bool (decide_eq_true g50)) rfl ?_)
                                        refine RunL.nil ?_
                                        refine run_cond_dec rfl (fun g51 => ?_) (fun g51 => ?_)
                                        · skip
                                          refine run_region ?_
                                          refine RunL.cons (Op1.assign (v := .int .i64 _) rfl ?_)
                                          refine RunL.nil ?_
                                          refine run_seq ?_
                                          refine run_region ?_
                                          refine RunL.cons (Op1.move (v := .int .i64 _) rfl ?_)
                                          first | refine RunL.cons (Op1.mulN rfl rfl rfl (wrap_i64 (by omega) (by omega)) ?_) | refine RunL.cons (Op1.mulB rfl rfl (by omega) (by omega) (by omega) (by omega) (fun hm52 hm53 => ?_))
                                          refine RunL.cons (Op1.move (v := .int .i64 _) rfl ?_)
                                          refine RunL.cons (Op1.addN rfl rfl rfl (wrap_i64 (by omega) (by omega)) ?_)
                                          refine RunL.cons (Op1.indexArr ty68 ty3 rfl rfl (by omega) (by omega) ?_)
                                          refine RunL.cons (Op1.load1 (v := .int .i64 _) ty3 rfl rfl (hst.cellL (.head _) (tabOf_get (j := (64 * y + x).toNat) (by (try simp only [Int.toNat_natCast]); omega) (by omega))) ?_)
                                          refine RunL.cons (Op1.move (v := .int .i64 _) rfl ?_)
                                          refine RunL.cons (Op1.neq rfl rfl ?_)
                                          refine RunL.nil ?_
                                          refine run_cond_dec rfl (fun g54 => ?_) (fun g54 => ?_)
                                          · skip
                                            exfalso
                                            exact g54 (hcnt.trans (if_pos (by unfold inSq; omega)))
                                          · skip
                                            refine run_skip ?_
                                            refine run_inBlock ?_
                                            refine run_region ?_
                                            refine RunL.cons (Op1.move (v := .int .i64 _) rfl ?_)
                                            refine RunL.cons (Op1.addN rfl rfl rfl (wrap_i64 (by omega) (by omega)) ?_)
                                            refine RunL.cons (Op1.assign (v := .int .i64 _) rfl ?_)
                                            refine RunL.nil ?_
                                            refine run_inLoop ?_
                                            exact ih42 (x + 1) _ w (by omega) hst (⟨by omega, by omega⟩) ⟨rfl, rfl, rfl, rfl, rfl, rfl, rfl, rfl, trivial⟩ ⟨rfl, trivial⟩
                                        · skip
                                          refine run_skip ?_
                                          refine run_seq ?_
                                          refine run_region ?_
                                          refine RunL.cons (Op1.move (v := .int .i64 _) rfl ?_)
                                          first | refine RunL.cons (Op1.mulN rfl rfl rfl (wrap_i64 (by omega) (by omega)) ?_) | refine RunL.cons (Op1.mulB rfl rfl (by omega) (by omega) (by omega) (by omega) (fun hm55 hm56 => ?_))
                                          refine RunL.cons (Op1.move (v := .int .i64 _) rfl ?_)
                                          refine RunL.cons (Op1.addN rfl rfl rfl (wrap_i64 (by omega) (by omega)) ?_)
                                          refine RunL.cons (Op1.indexArr ty68 ty3 rfl rfl (by omega) (by omega) ?_)
                                          refine RunL.cons (Op1.load1 (v := .int .i64 _) ty3 rfl rfl (hst.cellL (.head _) (tabOf_get (j := (64 * y + x).toNat) (by (try simp only [Int.toNat_natCast]); omega) (by omega))) ?_)
                                          refine RunL.cons (Op1.move (v := .int .i64 _) rfl ?_)
                                          refine RunL.cons (Op1.neq rfl rfl ?_)
                                          refine RunL.nil ?_
                                          refine run_cond_dec rfl (fun g57 => ?_) (fun g57 => ?_)
                                          · skip
                                            exfalso
                                            exact g57 (hcnt.trans (if_neg (by unfold inSq; omega)))
                                          · skip
                                            refine run_skip ?_
                                            refine run_inBlock ?_
                                            refine run_region ?_
                                            refine RunL.cons (Op1.move (v := .int .i64 _) rfl ?_)
                                            refine RunL.cons (Op1.addN rfl rfl rfl (wrap_i64 (by omega) (by omega)) ?_)
                                            refine RunL.cons (Op1.assign (v := .int .i64 _) rfl ?_)
                                            refine RunL.nil ?_
                                            refine run_inLoop ?_
                                            exact ih42 (x + 1) _ w (by omega) hst (⟨by omega, by omega⟩) ⟨rfl, rfl, rfl, rfl, rfl, rfl, rfl, rfl, trivial⟩ ⟨rfl, trivial⟩
                                      · skip
                                        refine RunL.omit (t := 264) rfl (congrArg Value.bool (decide_eq_false g50)) rfl ?_
                                        refine RunL.omit (t := 264) rfl (congrArg Value.bool (decide_eq_false g50)) rfl ?_
                                        refine RunL.omit (t := 264) rfl (congrArg Value.bool (decide_eq_false g50)) rfl ?_
                                        refine RunL.cons (Op1.pickF (u := .bool _) (congrArg Value.bool (decide_eq_false g50)) rfl ?_)
                                        refine RunL.nil ?_
                                        refine run_cond_false (congrArg Value.bool (rfl : false = _)) ?_
                                        refine run_skip ?_
                                        refine run_seq ?_
                                        refine run_region ?_
                                        refine RunL.cons (Op1.move (v := .int .i64 _) rfl ?_)
                                        first | refine RunL.cons (Op1.mulN rfl rfl rfl (wrap_i64 (by omega) (by omega)) ?_) | refine RunL.cons (Op1.mulB rfl rfl (by omega) (by omega) (by omega) (by omega) (fun hm58 hm59 => ?_))
                                        refine RunL.cons (Op1.move (v := .int .i64 _) rfl ?_)
                                        refine RunL.cons (Op1.addN rfl rfl rfl (wrap_i64 (by omega) (by omega)) ?_)
                                        refine RunL.cons (Op1.indexArr ty68 ty3 rfl rfl (by omega) (by omega) ?_)
                                        refine RunL.cons (Op1.load1 (v := .int .i64 _) ty3 rfl rfl (hst.cellL (.head _) (tabOf_get (j := (64 * y + x).toNat) (by (try simp only [Int.toNat_natCast]); omega) (by omega))) ?_)
                                        refine RunL.cons (Op1.move (v := .int .i64 _) rfl ?_)
                                        refine RunL.cons (Op1.neq rfl rfl ?_)
                                        refine RunL.nil ?_
                                        refine run_cond_dec rfl (fun g60 => ?_) (fun g60 => ?_)
                                        · skip
                                          exfalso
                                          exact g60 (hcnt.trans (if_neg (by unfold inSq; omega)))
                                        · skip
                                          refine run_skip ?_
                                          refine run_inBlock ?_
                                          refine run_region ?_
                                          refine RunL.cons (Op1.move (v := .int .i64 _) rfl ?_)
                                          refine RunL.cons (Op1.addN rfl rfl rfl (wrap_i64 (by omega) (by omega)) ?_)
                                          refine RunL.cons (Op1.assign (v := .int .i64 _) rfl ?_)
                                          refine RunL.nil ?_
                                          refine run_inLoop ?_
                                          exact ih42 (x + 1) _ w (by omega) hst (⟨by omega, by omega⟩) ⟨rfl, rfl, rfl, rfl, rfl, rfl, rfl, rfl, trivial⟩ ⟨rfl, trivial⟩
                                    · skip
                                      refine RunL.omit (t := 259) rfl (congrArg Value.bool (decide_eq_false g49)) rfl ?_
                                      refine RunL.omit (t := 259) rfl (congrArg Value.bool (decide_eq_false g49)) rfl ?_
                                      refine RunL.omit (t := 259) rfl (congrArg Value.bool (decide_eq_false g49)) rfl ?_
                                      refine RunL.cons (Op1.pickF (u := .bool _) (congrArg Value.bool (decide_eq_false g49)) rfl ?_)
                                      refine RunL.cons (Op1.move (v := .bool _) rfl ?_)
                                      refine RunL.omit (t := 264) rfl (congrArg Value.bool (rfl : false = _)) rfl ?_
                                      refine RunL.omit (t := 264) rfl (congrArg Value.bool (rfl : false = _)) rfl ?_
                                      refine RunL.omit (t := 264) rfl (congrArg Value.bool (rfl : false = _)) rfl ?_
                                      refine RunL.cons (Op1.pickF (u := .bool _) (congrArg Value.bool (rfl : false = _)) rfl ?_)
                                      refine RunL.nil ?_
                                      refine run_cond_false (congrArg Value.bool (rfl : false = _)) ?_
                                      refine run_skip ?_
                                      refine run_seq ?_
                                      refine run_region ?_
                                      refine RunL.cons (Op1.move (v := .int .i64 _) rfl ?_)
                                      first | refine RunL.cons (Op1.mulN rfl rfl rfl (wrap_i64 (by omega) (by omega)) ?_) | refine RunL.cons (Op1.mulB rfl rfl (by omega) (by omega) (by omega) (by omega) (fun hm61 hm62 => ?_))
                                      refine RunL.cons (Op1.move (v := .int .i64 _) rfl ?_)
                                      refine RunL.cons (Op1.addN rfl rfl rfl (wrap_i64 (by omega) (by omega)) ?_)
                                      refine RunL.cons (Op1.indexArr ty68 ty3 rfl rfl (by omega) (by omega) ?_)
                                      refine RunL.cons (Op1.load1 (v := .int .i64 _) ty3 rfl rfl (hst.cellL (.head _) (tabOf_get (j := (64 * y + x).toNat) (by (try simp only [Int.toNat_natCast]); omega) (by omega))) ?_)
                                      refine RunL.cons (Op1.move (v := .int .i64 _) rfl ?_)
                                      refine RunL.cons (Op1.neq rfl rfl ?_)
                                      refine RunL.nil ?_
                                      refine run_cond_dec rfl (fun g63 => ?_) (fun g63 => ?_)
                                      · skip
                                        exfalso
                                        exact g63 (hcnt.trans (if_neg (by unfold inSq; omega)))
                                      · skip
                                        refine run_skip ?_
                                        refine run_inBlock ?_
                                        refine run_region ?_
                                        refine RunL.cons (Op1.move (v := .int .i64 _) rfl ?_)
                                        refine RunL.cons (Op1.addN rfl rfl rfl (wrap_i64 (by omega) (by omega)) ?_)
                                        refine RunL.cons (Op1.assign (v := .int .i64 _) rfl ?_)
                                        refine RunL.nil ?_
                                        refine run_inLoop ?_
                                        exact ih42 (x + 1) _ w (by omega) hst (⟨by omega, by omega⟩) ⟨rfl, rfl, rfl, rfl, rfl, rfl, rfl, rfl, trivial⟩ ⟨rfl, trivial⟩
                                  · skip
                                    refine RunL.omit (t := 254) rfl (congrArg Value.bool (decide_eq_false g48)) rfl ?_
                                    refine RunL.omit (t := 254) rfl (congrArg Value.bool (decide_eq_false g48)) rfl ?_
                                    refine RunL.omit (t := 254) rfl (congrArg Value.bool (decide_eq_false g48)) rfl ?_
                                    refine RunL.cons (Op1.pickF (u := .bool _) (congrArg Value.bool (decide_eq_false g48)) rfl ?_)
                                    refine RunL.cons (Op1.move (v := .bool _) rfl ?_)
                                    refine RunL.omit (t := 259) rfl (congrArg Value.bool (rfl : false = _)) rfl ?_
                                    refine RunL.omit (t := 259) rfl (congrArg Value.bool (rfl : false = _)) rfl ?_
                                    refine RunL.omit (t := 259) rfl (congrArg Value.bool (rfl : false = _)) rfl ?_
                                    refine RunL.cons (Op1.pickF (u := .bool _) (congrArg Value.bool (rfl : false = _)) rfl ?_)
                                    refine RunL.cons (Op1.move (v := .bool _) rfl ?_)
                                    refine RunL.omit (t := 264) rfl (congrArg Value.bool (rfl : false = _)) rfl ?_
                                    refine RunL.omit (t := 264) rfl (congrArg Value.bool (rfl : false = _)) rfl ?_
                                    refine RunL.omit (t := 264) rfl (congrArg Value.bool (rfl : false = _)) rfl ?_
                                    refine RunL.cons (Op1.pickF (u := .bool _) (congrArg Value.bool (rfl : false = _)) rfl ?_)
                                    refine RunL.nil ?_
                                    refine run_cond_false (congrArg Value.bool (rfl : false = _)) ?_
                                    refine run_skip ?_
                                    refine run_seq ?_
                                    refine run_region ?_
                                    refine RunL.cons (Op1.move (v := .int .i64 _) rfl ?_)
                                    first | refine RunL.cons (Op1.mulN rfl rfl rfl (wrap_i64 (by omega) (by omega)) ?_) | refine RunL.cons (Op1.mulB rfl rfl (by omega) (by omega) (by omega) (by omega) (fun hm64 hm65 => ?_))
                                    refine RunL.cons (Op1.move (v := .int .i64 _) rfl ?_)
                                    refine RunL.cons (Op1.addN rfl rfl rfl (wrap_i64 (by omega) (by omega)) ?_)
                                    refine RunL.cons (Op1.indexArr ty68 ty3 rfl rfl (by omega) (by omega) ?_)
                                    refine RunL.cons (Op1.load1 (v := .int .i64 _) ty3 rfl rfl (hst.cellL (.head _) (tabOf_get (j := (64 * y + x).toNat) (by (try simp only [Int.toNat_natCast]); omega) (by omega))) ?_)
                                    refine RunL.cons (Op1.move (v := .int .i64 _) rfl ?_)
                                    refine RunL.cons (Op1.neq rfl rfl ?_)
                                    refine RunL.nil ?_
                                    refine run_cond_dec rfl (fun g66 => ?_) (fun g66 => ?_)
                                    · skip
                                      exfalso
                                      exact g66 (hcnt.trans (if_neg (by unfold inSq; omega)))
                                    · skip
                                      refine run_skip ?_
                                      refine run_inBlock ?_
                                      refine run_region ?_
                                      refine RunL.cons (Op1.move (v := .int .i64 _) rfl ?_)
                                      refine RunL.cons (Op1.addN rfl rfl rfl (wrap_i64 (by omega) (by omega)) ?_)
                                      refine RunL.cons (Op1.assign (v := .int .i64 _) rfl ?_)
                                      refine RunL.nil ?_
                                      refine run_inLoop ?_
                                      exact ih42 (x + 1) _ w (by omega) hst (⟨by omega, by omega⟩) ⟨rfl, rfl, rfl, rfl, rfl, rfl, rfl, rfl, trivial⟩ ⟨rfl, trivial⟩
                                · skip
                                  refine run_exit (id := 6) rfl ?_
                                  refine run_inBlock ?_
                                  refine run_region ?_
                                  refine RunL.cons (Op1.move (v := .int .i64 _) rfl ?_)
                                  refine RunL.cons (Op1.addN rfl rfl rfl (wrap_i64 (by omega) (by omega)) ?_)
                                  refine RunL.cons (Op1.assign (v := .int .i64 _) rfl ?_)
                                  refine RunL.nil ?_
                                  refine run_inLoop ?_
                                  exact ih40 (y + 1) _ w (by omega) hst (⟨by omega, by omega⟩) ⟨rfl, rfl, rfl, rfl, rfl, rfl, rfl, trivial⟩ ⟨rfl, trivial⟩
                              · skip
                                refine run_exit (id := 4) rfl ?_
                                refine run_seq ?_
                                refine run_region ?_
                                refine RunL.cons (Op1.assign (v := .bool _) rfl ?_)
                                refine RunL.nil ?_
                                refine run_ret1 Try.func18 rfl (RV.tmp (v := .bool _) rfl) ?_
                                exact ⟨rfl, hst.pure⟩
                      · skip
                        refine run_seq ?_
                        refine run_region ?_
                        refine RunL.cons (Op1.fieldAddr fld67_6 rfl ?_)
                        refine RunL.cons (Op1.load1 (v := .bool _) ty4 rfl rfl (hst.cellL (.tail _ (.tail _ (.tail _ (.tail _ (.tail _ (.tail _ (.head _))))))) rfl) ?_)
                        refine RunL.nil ?_
                        refine run_cond_split rfl (fun g67 => ?_) (fun g67 => ?_)
                        · skip
                          refine run_region ?_
                          refine RunL.cons (Op1.indexArr ty27 ty25 rfl rfl (by decide) (by decide) ?_)
                          refine RunL.cons (Op1.loadA (vs := [.int .i32 _, .int .i32 _, .int .i32 _]) ty25 rfl rfl rfl (cells_of_obj (n := 3) (hst.objL (.head _)) _ rfl) ?_)
                          refine RunL.cons (Op1.indexArr ty27 ty25 rfl rfl (by decide) (by decide) ?_)
                          refine RunL.cons (Op1.loadA (vs := [.int .i32 _, .int .i32 _, .int .i32 _]) ty25 rfl rfl rfl (cells_of_obj (n := 3) (hst.objL (.head _)) _ rfl) ?_)
                          refine RunL.cons (Op1.indexArr ty27 ty25 rfl rfl (by decide) (by decide) ?_)
                          refine RunL.cons (Op1.store (v := .agg #[.int .i32 _, .int .i32 _, .int .i32 _]) hst ty25 rfl rfl rfl rfl rfl (.here) (by repeat (first | exact Put.nil | apply Put.put | apply Put.skip)) fun w hst => ?_)
                          refine RunL.cons (Op1.indexArr ty27 ty25 rfl rfl (by decide) (by decide) ?_)
                          refine RunL.cons (Op1.store (v := .agg #[.int .i32 _, .int .i32 _, .int .i32 _]) hst ty25 rfl rfl rfl rfl rfl (.here) (by repeat (first | exact Put.nil | apply Put.put | apply Put.skip)) fun w hst => ?_)
                          refine RunL.nil ?_
                          cases g67
                          exact cut15 (()) _ w (hst) (trivial) ⟨rfl, rfl, rfl, rfl, rfl, rfl, rfl, rfl, trivial⟩ trivial
                        · skip
                          refine run_skip ?_
                          cases g67
                          exact cut15 (()) _ w (hst) (trivial) ⟨rfl, rfl, rfl, rfl, rfl, rfl, rfl, rfl, trivial⟩ trivial
                    · skip
                      refine run_seq ?_
                      refine run_region ?_
                      refine RunL.cons (Op1.fieldAddr fld67_5 rfl ?_)
                      refine RunL.cons (Op1.load1 (v := .bool _) ty4 rfl rfl (hst.cellL (.tail _ (.tail _ (.tail _ (.tail _ (.tail _ (.tail _ (.head _))))))) rfl) ?_)
                      refine RunL.nil ?_
                      refine run_cond_split rfl (fun g68 => ?_) (fun g68 => ?_)
                      · skip
                        refine run_region ?_
                        refine RunL.cons (Op1.indexArr ty27 ty25 rfl rfl (by decide) (by decide) ?_)
                        refine RunL.cons (Op1.loadA (vs := [.int .i32 _, .int .i32 _, .int .i32 _]) ty25 rfl rfl rfl (cells_of_obj (n := 3) (hst.objL (.head _)) _ rfl) ?_)
                        refine RunL.cons (Op1.indexArr ty27 ty25 rfl rfl (by decide) (by decide) ?_)
                        refine RunL.cons (Op1.loadA (vs := [.int .i32 _, .int .i32 _, .int .i32 _]) ty25 rfl rfl rfl (cells_of_obj (n := 3) (hst.objL (.head _)) _ rfl) ?_)
                        refine RunL.cons (Op1.indexArr ty27 ty25 rfl rfl (by decide) (by decide) ?_)
                        refine RunL.cons (Op1.store (v := .agg #[.int .i32 _, .int .i32 _, .int .i32 _]) hst ty25 rfl rfl rfl rfl rfl (.here) (by repeat (first | exact Put.nil | apply Put.put | apply Put.skip)) fun w hst => ?_)
                        refine RunL.cons (Op1.indexArr ty27 ty25 rfl rfl (by decide) (by decide) ?_)
                        refine RunL.cons (Op1.store (v := .agg #[.int .i32 _, .int .i32 _, .int .i32 _]) hst ty25 rfl rfl rfl rfl rfl (.here) (by repeat (first | exact Put.nil | apply Put.put | apply Put.skip)) fun w hst => ?_)
                        refine RunL.nil ?_
                        cases g68
                        exact cut12 (()) _ w (hst) (trivial) ⟨rfl, rfl, rfl, rfl, rfl, rfl, rfl, rfl, rfl, trivial⟩ trivial
                      · skip
                        refine run_skip ?_
                        cases g68
                        exact cut12 (()) _ w (hst) (trivial) ⟨rfl, rfl, rfl, rfl, rfl, rfl, rfl, rfl, rfl, trivial⟩ trivial
                  · skip
                    refine run_seq ?_
                    refine run_region ?_
                    refine RunL.cons (Op1.fieldAddr fld67_4 rfl ?_)
                    refine RunL.cons (Op1.load1 (v := .bool _) ty4 rfl rfl (hst.cellL (.tail _ (.tail _ (.tail _ (.tail _ (.tail _ (.tail _ (.head _))))))) rfl) ?_)
                    refine RunL.nil ?_
                    refine run_cond_split rfl (fun g69 => ?_) (fun g69 => ?_)
                    · skip
                      refine run_seq ?_
                      refine run_region ?_
                      refine RunL.cons (Op1.loadA (vs := [.int .i32 _, .int .i32 _, .int .i32 _]) ty25 rfl rfl rfl (cells_of_obj (n := 3) (hst.objL (.tail _ (.tail _ (.tail _ (.tail _ (.head _)))))) _ rfl) ?_)
                      refine RunL.cons (Op1.loadA (vs := [.int .i32 _, .int .i32 _, .int .i32 _]) ty25 rfl rfl rfl (cells_of_obj (n := 3) (hst.objL (.tail _ (.tail _ (.tail _ (.head _))))) _ rfl) ?_)
                      refine RunL.cons (Op1.loadA (vs := [.int .i32 _, .int .i32 _, .int .i32 _]) ty25 rfl rfl rfl (cells_of_obj (n := 3) (hst.objL (.tail _ (.tail _ (.head _)))) _ rfl) ?_)
                      refine RunL.cons (Op1.buildArr ty27 ty25 (.cons rfl (v := .agg #[.int .i32 _, .int .i32 _, .int .i32 _]) rfl rfl rfl rfl (by repeat (first | exact Put.nil | apply Put.put | apply Put.skip)) (.cons rfl (v := .agg #[.int .i32 _, .int .i32 _, .int .i32 _]) rfl rfl rfl rfl (by repeat (first | exact Put.nil | apply Put.put | apply Put.skip)) (.cons rfl (v := .agg #[.int .i32 _, .int .i32 _, .int .i32 _]) rfl rfl rfl rfl (by repeat (first | exact Put.nil | apply Put.put | apply Put.skip)) .nil))) ?_)
                      refine RunL.cons (Op1.store (v := .agg #[.int .i32 _, .int .i32 _, .int .i32 _, .int .i32 _, .int .i32 _, .int .i32 _, .int .i32 _, .int .i32 _, .int .i32 _]) hst ty27 rfl rfl rfl rfl rfl (.there (.here)) (by repeat (first | exact Put.nil | apply Put.put | apply Put.skip)) fun w hst => ?_)
                      refine RunL.nil ?_
                      refine run_region ?_
                      refine RunL.cons (Op1.loadA (vs := [.int .i32 _, .int .i32 _, .int .i32 _]) ty25 rfl rfl rfl (cells_of_obj (n := 3) (hst.objL (.tail _ (.tail _ (.tail _ (.tail _ (.head _)))))) _ rfl) ?_)
                      refine RunL.cons (Op1.loadA (vs := [.int .i32 _, .int .i32 _, .int .i32 _]) ty25 rfl rfl rfl (cells_of_obj (n := 3) (hst.objL (.tail _ (.tail _ (.head _)))) _ rfl) ?_)
                      refine RunL.cons (Op1.loadA (vs := [.int .i32 _, .int .i32 _, .int .i32 _]) ty25 rfl rfl rfl (cells_of_obj (n := 3) (hst.objL (.tail _ (.tail _ (.tail _ (.tail _ (.tail _ (.head _))))))) _ rfl) ?_)
                      refine RunL.cons (Op1.buildArr ty27 ty25 (.cons rfl (v := .agg #[.int .i32 _, .int .i32 _, .int .i32 _]) rfl rfl rfl rfl (by repeat (first | exact Put.nil | apply Put.put | apply Put.skip)) (.cons rfl (v := .agg #[.int .i32 _, .int .i32 _, .int .i32 _]) rfl rfl rfl rfl (by repeat (first | exact Put.nil | apply Put.put | apply Put.skip)) (.cons rfl (v := .agg #[.int .i32 _, .int .i32 _, .int .i32 _]) rfl rfl rfl rfl (by repeat (first | exact Put.nil | apply Put.put | apply Put.skip)) .nil))) ?_)
                      refine RunL.cons (Op1.store (v := .agg #[.int .i32 _, .int .i32 _, .int .i32 _, .int .i32 _, .int .i32 _, .int .i32 _, .int .i32 _, .int .i32 _, .int .i32 _]) hst ty27 rfl rfl rfl rfl rfl (.here) (by repeat (first | exact Put.nil | apply Put.put | apply Put.skip)) fun w hst => ?_)
                      refine RunL.nil ?_
                      cases g69
                      exact cut9 (()) _ w (hst) (trivial) ⟨rfl, rfl, rfl, rfl, rfl, rfl, rfl, rfl, rfl, trivial⟩ trivial
                    · skip
                      refine run_skip ?_
                      cases g69
                      exact cut9 (()) _ w (hst) (trivial) ⟨rfl, rfl, rfl, rfl, rfl, rfl, rfl, rfl, rfl, trivial⟩ trivial

end Go.SK
