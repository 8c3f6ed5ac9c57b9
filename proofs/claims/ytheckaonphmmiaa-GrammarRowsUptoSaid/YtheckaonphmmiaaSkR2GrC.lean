/-
  Walks of functions, and of the laws over them.
-/
import Derived.Test.YtheckaonphmmiaaSkGrP
import Derived.Test.YtheckaonphmmiaaSkR2GrB
import Derived.Test.YtheckaonphmmiaaSkR2GrCF
set_option linter.unusedVariables false
set_option linter.unusedSimpArgs false
namespace Go.SK
open Go Go.Proofs
open Go.RowKit
set_option maxRecDepth 4000 in
theorem R2ref_Names  (w : World) : Ret Try.prog 12 #[] w (fun v w' => ∃ ao cp, v = .slice ao namesL.length cp ∧ St w NoM [Res.sl ao namesL.length cp 26 3 (namesL.flatMap nameC)] [] w') := by
  refine Ret.enter (args := []) Try.func12 rfl rfl rfl ?_
  have hst := St.init w
  refine run_seq ?_
  refine run_region ?_
  refine RunL.cons (Op1.assign (v := .slice _ _ _) rfl ?_)
  refine RunL.nil ?_
  refine run_seq ?_
  refine run_region ?_
  refine RunL.cons (Op1.assign (v := .slice _ _ _) rfl ?_)
  refine RunL.nil ?_
  refine run_seq ?_
  refine run_region ?_
  refine RunL.cons (Op1.move (v := .slice _ _ _) rfl ?_)
  refine RunL.cons (Op1.buildStruct ty26 stf26 (.cons rfl (v := .int .u8 _) rfl rfl rfl rfl (by repeat (first | exact Put.nil | apply Put.put | apply Put.skip)) (.cons rfl (v := .int .u32 _) rfl rfl rfl rfl (by repeat (first | exact Put.nil | apply Put.put | apply Put.skip)) (.cons rfl (v := str _) rfl rfl rfl rfl (by repeat (first | exact Put.nil | apply Put.put | apply Put.skip)) .nil))) ?_)
  refine RunL.cons (Op1.buildSl (z0 := [.int .u8 0, .int .u32 0, str []]) hst ty22 ty26 rfl rfl (by kernel_rfl) (.cons rfl (v := .agg #[.int .u8 _, .int .u32 _, str _]) rfl rfl rfl rfl (by repeat (first | exact Put.nil | apply Put.put | apply Put.skip)) .nil) fun w b4 hst => ?_)
  replace hst := hst.pushNil 26 3
  refine RunL.cons (Op1.append (news := [.int .u8 _, .int .u32 _, str _]) hst ty22 ty26 rfl rfl (.here) rfl rfl rfl (cells_of_obj (n := 3) (hst.objL (.tail _ (.head _))) _ rfl) rfl rfl (by omega) fun w ao1 cp2 hst => ?_)
  replace hst := hst.drop (.there (.here))
  refine RunL.cons (Op1.assign (v := .slice _ _ _) rfl ?_)
  refine RunL.nil ?_
  refine run_seq ?_
  refine run_region ?_
  refine RunL.cons (Op1.move (v := .slice _ _ _) rfl ?_)
  refine RunL.cons (Op1.buildStruct ty26 stf26 (.cons rfl (v := .int .u8 _) rfl rfl rfl rfl (by repeat (first | exact Put.nil | apply Put.put | apply Put.skip)) (.cons rfl (v := .int .u32 _) rfl rfl rfl rfl (by repeat (first | exact Put.nil | apply Put.put | apply Put.skip)) (.cons rfl (v := str _) rfl rfl rfl rfl (by repeat (first | exact Put.nil | apply Put.put | apply Put.skip)) .nil))) ?_)
  refine RunL.cons (Op1.buildSl (z0 := [.int .u8 0, .int .u32 0, str []]) hst ty22 ty26 rfl rfl (by kernel_rfl) (.cons rfl (v := .agg #[.int .u8 _, .int .u32 _, str _]) rfl rfl rfl rfl (by repeat (first | exact Put.nil | apply Put.put | apply Put.skip)) .nil) fun w b8 hst => ?_)
  refine RunL.cons (Op1.append (news := [.int .u8 _, .int .u32 _, str _]) hst ty22 ty26 rfl rfl (.there (.here)) rfl rfl rfl (cells_of_obj (n := 3) (hst.objL (.head _)) _ rfl) rfl rfl (by omega) fun w ao3 cp4 hst => ?_)
  replace hst := hst.drop (.there (.here))
  refine RunL.cons (Op1.assign (v := .slice _ _ _) rfl ?_)
  refine RunL.nil ?_
  refine run_seq ?_
  refine run_region ?_
  refine RunL.cons (Op1.move (v := .slice _ _ _) rfl ?_)
  refine RunL.cons (Op1.buildStruct ty26 stf26 (.cons rfl (v := .int .u8 _) rfl rfl rfl rfl (by repeat (first | exact Put.nil | apply Put.put | apply Put.skip)) (.cons rfl (v := .int .u32 _) rfl rfl rfl rfl (by repeat (first | exact Put.nil | apply Put.put | apply Put.skip)) (.cons rfl (v := str _) rfl rfl rfl rfl (by repeat (first | exact Put.nil | apply Put.put | apply Put.skip)) .nil))) ?_)
  refine RunL.cons (Op1.buildSl (z0 := [.int .u8 0, .int .u32 0, str []]) hst ty22 ty26 rfl rfl (by kernel_rfl) (.cons rfl (v := .agg #[.int .u8 _, .int .u32 _, str _]) rfl rfl rfl rfl (by repeat (first | exact Put.nil | apply Put.put | apply Put.skip)) .nil) fun w b12 hst => ?_)
  refine RunL.cons (Op1.append (news := [.int .u8 _, .int .u32 _, str _]) hst ty22 ty26 rfl rfl (.there (.here)) rfl rfl rfl (cells_of_obj (n := 3) (hst.objL (.head _)) _ rfl) rfl rfl (by omega) fun w ao5 cp6 hst => ?_)
  replace hst := hst.drop (.there (.here))
  refine RunL.cons (Op1.assign (v := .slice _ _ _) rfl ?_)
  refine RunL.nil ?_
  refine run_seq ?_
  refine run_region ?_
  refine RunL.cons (Op1.move (v := .slice _ _ _) rfl ?_)
  refine RunL.cons (Op1.buildStruct ty26 stf26 (.cons rfl (v := .int .u8 _) rfl rfl rfl rfl (by repeat (first | exact Put.nil | apply Put.put | apply Put.skip)) (.cons rfl (v := .int .u32 _) rfl rfl rfl rfl (by repeat (first | exact Put.nil | apply Put.put | apply Put.skip)) (.cons rfl (v := str _) rfl rfl rfl rfl (by repeat (first | exact Put.nil | apply Put.put | apply Put.skip)) .nil))) ?_)
  refine RunL.cons (Op1.buildSl (z0 := [.int .u8 0, .int .u32 0, str []]) hst ty22 ty26 rfl rfl (by kernel_rfl) (.cons rfl (v := .agg #[.int .u8 _, .int .u32 _, str _]) rfl rfl rfl rfl (by repeat (first | exact Put.nil | apply Put.put | apply Put.skip)) .nil) fun w b16 hst => ?_)
  refine RunL.cons (Op1.append (news := [.int .u8 _, .int .u32 _, str _]) hst ty22 ty26 rfl rfl (.there (.here)) rfl rfl rfl (cells_of_obj (n := 3) (hst.objL (.head _)) _ rfl) rfl rfl (by omega) fun w ao7 cp8 hst => ?_)
  replace hst := hst.drop (.there (.here))
  refine RunL.cons (Op1.assign (v := .slice _ _ _) rfl ?_)
  refine RunL.nil ?_
  refine Run.forget [(1, .slice _ _ _)] ⟨rfl, trivial⟩ (fun f => ?_)
  refine run_seq ?_
  refine run_region ?_
  refine RunL.cons (Op1.move (v := .slice _ _ _) rfl ?_)
  refine RunL.cons (Op1.buildStruct ty26 stf26 (.cons rfl (v := .int .u8 _) rfl rfl rfl rfl (by repeat (first | exact Put.nil | apply Put.put | apply Put.skip)) (.cons rfl (v := .int .u32 _) rfl rfl rfl rfl (by repeat (first | exact Put.nil | apply Put.put | apply Put.skip)) (.cons rfl (v := str _) rfl rfl rfl rfl (by repeat (first | exact Put.nil | apply Put.put | apply Put.skip)) .nil))) ?_)
  refine RunL.cons (Op1.buildSl (z0 := [.int .u8 0, .int .u32 0, str []]) hst ty22 ty26 rfl rfl (by kernel_rfl) (.cons rfl (v := .agg #[.int .u8 _, .int .u32 _, str _]) rfl rfl rfl rfl (by repeat (first | exact Put.nil | apply Put.put | apply Put.skip)) .nil) fun w b20 hst => ?_)
  refine RunL.cons (Op1.append (news := [.int .u8 _, .int .u32 _, str _]) hst ty22 ty26 rfl rfl (.there (.here)) rfl rfl rfl (cells_of_obj (n := 3) (hst.objL (.head _)) _ rfl) rfl rfl (by omega) fun w ao9 cp10 hst => ?_)
  replace hst := hst.drop (.there (.here))
  refine RunL.cons (Op1.assign (v := .slice _ _ _) rfl ?_)
  refine RunL.nil ?_
  refine run_seq ?_
  refine run_region ?_
  refine RunL.cons (Op1.move (v := .slice _ _ _) rfl ?_)
  refine RunL.cons (Op1.buildStruct ty26 stf26 (.cons rfl (v := .int .u8 _) rfl rfl rfl rfl (by repeat (first | exact Put.nil | apply Put.put | apply Put.skip)) (.cons rfl (v := .int .u32 _) rfl rfl rfl rfl (by repeat (first | exact Put.nil | apply Put.put | apply Put.skip)) (.cons rfl (v := str _) rfl rfl rfl rfl (by repeat (first | exact Put.nil | apply Put.put | apply Put.skip)) .nil))) ?_)
  refine RunL.cons (Op1.buildSl (z0 := [.int .u8 0, .int .u32 0, str []]) hst ty22 ty26 rfl rfl (by kernel_rfl) (.cons rfl (v := .agg #[.int .u8 _, .int .u32 _, str _]) rfl rfl rfl rfl (by repeat (first | exact Put.nil | apply Put.put | apply Put.skip)) .nil) fun w b24 hst => ?_)
  refine RunL.cons (Op1.append (news := [.int .u8 _, .int .u32 _, str _]) hst ty22 ty26 rfl rfl (.there (.here)) rfl rfl rfl (cells_of_obj (n := 3) (hst.objL (.head _)) _ rfl) rfl rfl (by omega) fun w ao11 cp12 hst => ?_)
  replace hst := hst.drop (.there (.here))
  refine RunL.cons (Op1.assign (v := .slice _ _ _) rfl ?_)
  refine RunL.nil ?_
  refine run_seq ?_
  refine run_region ?_
  refine RunL.cons (Op1.move (v := .slice _ _ _) rfl ?_)
  refine RunL.cons (Op1.buildStruct ty26 stf26 (.cons rfl (v := .int .u8 _) rfl rfl rfl rfl (by repeat (first | exact Put.nil | apply Put.put | apply Put.skip)) (.cons rfl (v := .int .u32 _) rfl rfl rfl rfl (by repeat (first | exact Put.nil | apply Put.put | apply Put.skip)) (.cons rfl (v := str _) rfl rfl rfl rfl (by repeat (first | exact Put.nil | apply Put.put | apply Put.skip)) .nil))) ?_)
  refine RunL.cons (Op1.buildSl (z0 := [.int .u8 0, .int .u32 0, str []]) hst ty22 ty26 rfl rfl (by kernel_rfl) (.cons rfl (v := .agg #[.int .u8 _, .int .u32 _, str _]) rfl rfl rfl rfl (by repeat (first | exact Put.nil | apply Put.put | apply Put.skip)) .nil) fun w b28 hst => ?_)
  refine RunL.cons (Op1.append (news := [.int .u8 _, .int .u32 _, str _]) hst ty22 ty26 rfl rfl (.there (.here)) rfl rfl rfl (cells_of_obj (n := 3) (hst.objL (.head _)) _ rfl) rfl rfl (by omega) fun w ao13 cp14 hst => ?_)
  replace hst := hst.drop (.there (.here))
  refine RunL.cons (Op1.assign (v := .slice _ _ _) rfl ?_)
  refine RunL.nil ?_
  refine run_seq ?_
  refine run_region ?_
  refine RunL.cons (Op1.move (v := .slice _ _ _) rfl ?_)
  refine RunL.cons (Op1.buildStruct ty26 stf26 (.cons rfl (v := .int .u8 _) rfl rfl rfl rfl (by repeat (first | exact Put.nil | apply Put.put | apply Put.skip)) (.cons rfl (v := .int .u32 _) rfl rfl rfl rfl (by repeat (first | exact Put.nil | apply Put.put | apply Put.skip)) (.cons rfl (v := str _) rfl rfl rfl rfl (by repeat (first | exact Put.nil | apply Put.put | apply Put.skip)) .nil))) ?_)
  refine RunL.cons (Op1.buildSl (z0 := [.int .u8 0, .int .u32 0, str []]) hst ty22 ty26 rfl rfl (by kernel_rfl) (.cons rfl (v := .agg #[.int .u8 _, .int .u32 _, str _]) rfl rfl rfl rfl (by repeat (first | exact Put.nil | apply Put.put | apply Put.skip)) .nil) fun w b32 hst => ?_)
  refine RunL.cons (Op1.append (news := [.int .u8 _, .int .u32 _, str _]) hst ty22 ty26 rfl rfl (.there (.here)) rfl rfl rfl (cells_of_obj (n := 3) (hst.objL (.head _)) _ rfl) rfl rfl (by omega) fun w ao15 cp16 hst => ?_)
  replace hst := hst.drop (.there (.here))
  refine RunL.cons (Op1.assign (v := .slice _ _ _) rfl ?_)
  refine RunL.nil ?_
  refine Run.forget [(1, .slice _ _ _)] ⟨rfl, trivial⟩ (fun f => ?_)
  refine run_seq ?_
  refine run_region ?_
  refine RunL.cons (Op1.move (v := .slice _ _ _) rfl ?_)
  refine RunL.cons (Op1.buildStruct ty26 stf26 (.cons rfl (v := .int .u8 _) rfl rfl rfl rfl (by repeat (first | exact Put.nil | apply Put.put | apply Put.skip)) (.cons rfl (v := .int .u32 _) rfl rfl rfl rfl (by repeat (first | exact Put.nil | apply Put.put | apply Put.skip)) (.cons rfl (v := str _) rfl rfl rfl rfl (by repeat (first | exact Put.nil | apply Put.put | apply Put.skip)) .nil))) ?_)
  refine RunL.cons (Op1.buildSl (z0 := [.int .u8 0, .int .u32 0, str []]) hst ty22 ty26 rfl rfl (by kernel_rfl) (.cons rfl (v := .agg #[.int .u8 _, .int .u32 _, str _]) rfl rfl rfl rfl (by repeat (first | exact Put.nil | apply Put.put | apply Put.skip)) .nil) fun w b36 hst => ?_)
  refine RunL.cons (Op1.append (news := [.int .u8 _, .int .u32 _, str _]) hst ty22 ty26 rfl rfl (.there (.here)) rfl rfl rfl (cells_of_obj (n := 3) (hst.objL (.head _)) _ rfl) rfl rfl (by omega) fun w ao17 cp18 hst => ?_)
  replace hst := hst.drop (.there (.here))
  refine RunL.cons (Op1.assign (v := .slice _ _ _) rfl ?_)
  refine RunL.nil ?_
  refine run_seq ?_
  refine run_region ?_
  refine RunL.cons (Op1.move (v := .slice _ _ _) rfl ?_)
  refine RunL.cons (Op1.buildStruct ty26 stf26 (.cons rfl (v := .int .u8 _) rfl rfl rfl rfl (by repeat (first | exact Put.nil | apply Put.put | apply Put.skip)) (.cons rfl (v := .int .u32 _) rfl rfl rfl rfl (by repeat (first | exact Put.nil | apply Put.put | apply Put.skip)) (.cons rfl (v := str _) rfl rfl rfl rfl (by repeat (first | exact Put.nil | apply Put.put | apply Put.skip)) .nil))) ?_)
  refine RunL.cons (Op1.buildSl (z0 := [.int .u8 0, .int .u32 0, str []]) hst ty22 ty26 rfl rfl (by kernel_rfl) (.cons rfl (v := .agg #[.int .u8 _, .int .u32 _, str _]) rfl rfl rfl rfl (by repeat (first | exact Put.nil | apply Put.put | apply Put.skip)) .nil) fun w b40 hst => ?_)
  refine RunL.cons (Op1.append (news := [.int .u8 _, .int .u32 _, str _]) hst ty22 ty26 rfl rfl (.there (.here)) rfl rfl rfl (cells_of_obj (n := 3) (hst.objL (.head _)) _ rfl) rfl rfl (by omega) fun w ao19 cp20 hst => ?_)
  replace hst := hst.drop (.there (.here))
  refine RunL.cons (Op1.assign (v := .slice _ _ _) rfl ?_)
  refine RunL.nil ?_
  refine run_seq ?_
  refine run_region ?_
  refine RunL.cons (Op1.move (v := .slice _ _ _) rfl ?_)
  refine RunL.cons (Op1.buildStruct ty26 stf26 (.cons rfl (v := .int .u8 _) rfl rfl rfl rfl (by repeat (first | exact Put.nil | apply Put.put | apply Put.skip)) (.cons rfl (v := .int .u32 _) rfl rfl rfl rfl (by repeat (first | exact Put.nil | apply Put.put | apply Put.skip)) (.cons rfl (v := str _) rfl rfl rfl rfl (by repeat (first | exact Put.nil | apply Put.put | apply Put.skip)) .nil))) ?_)
  refine RunL.cons (Op1.buildSl (z0 := [.int .u8 0, .int .u32 0, str []]) hst ty22 ty26 rfl rfl (by kernel_rfl) (.cons rfl (v := .agg #[.int .u8 _, .int .u32 _, str _]) rfl rfl rfl rfl (by repeat (first | exact Put.nil | apply Put.put | apply Put.skip)) .nil) fun w b44 hst => ?_)
  refine RunL.cons (Op1.append (news := [.int .u8 _, .int .u32 _, str _]) hst ty22 ty26 rfl rfl (.there (.here)) rfl rfl rfl (cells_of_obj (n := 3) (hst.objL (.head _)) _ rfl) rfl rfl (by omega) fun w ao21 cp22 hst => ?_)
  replace hst := hst.drop (.there (.here))
  refine RunL.cons (Op1.assign (v := .slice _ _ _) rfl ?_)
  refine RunL.nil ?_
  refine run_seq ?_
  refine run_region ?_
  refine RunL.cons (Op1.move (v := .slice _ _ _) rfl ?_)
  refine RunL.cons (Op1.buildStruct ty26 stf26 (.cons rfl (v := .int .u8 _) rfl rfl rfl rfl (by repeat (first | exact Put.nil | apply Put.put | apply Put.skip)) (.cons rfl (v := .int .u32 _) rfl rfl rfl rfl (by repeat (first | exact Put.nil | apply Put.put | apply Put.skip)) (.cons rfl (v := str _) rfl rfl rfl rfl (by repeat (first | exact Put.nil | apply Put.put | apply Put.skip)) .nil))) ?_)
  refine RunL.cons (Op1.buildSl (z0 := [.int .u8 0, .int .u32 0, str []]) hst ty22 ty26 rfl rfl (by kernel_rfl) (.cons rfl (v := .agg #[.int .u8 _, .int .u32 _, str _]) rfl rfl rfl rfl (by repeat (first | exact Put.nil | apply Put.put | apply Put.skip)) .nil) fun w b48 hst => ?_)
  refine RunL.cons (Op1.append (news := [.int .u8 _, .int .u32 _, str _]) hst ty22 ty26 rfl rfl (.there (.here)) rfl rfl rfl (cells_of_obj (n := 3) (hst.objL (.head _)) _ rfl) rfl rfl (by omega) fun w ao23 cp24 hst => ?_)
  replace hst := hst.drop (.there (.here))
  refine RunL.cons (Op1.assign (v := .slice _ _ _) rfl ?_)
  refine RunL.nil ?_
  refine Run.forget [(1, .slice _ _ _)] ⟨rfl, trivial⟩ (fun f => ?_)
  refine run_seq ?_
  refine run_region ?_
  refine RunL.cons (Op1.move (v := .slice _ _ _) rfl ?_)
  refine RunL.cons (Op1.buildStruct ty26 stf26 (.cons rfl (v := .int .u8 _) rfl rfl rfl rfl (by repeat (first | exact Put.nil | apply Put.put | apply Put.skip)) (.cons rfl (v := .int .u32 _) rfl rfl rfl rfl (by repeat (first | exact Put.nil | apply Put.put | apply Put.skip)) (.cons rfl (v := str _) rfl rfl rfl rfl (by repeat (first | exact Put.nil | apply Put.put | apply Put.skip)) .nil))) ?_)
  refine RunL.cons (Op1.buildSl (z0 := [.int .u8 0, .int .u32 0, str []]) hst ty22 ty26 rfl rfl (by kernel_rfl) (.cons rfl (v := .agg #[.int .u8 _, .int .u32 _, str _]) rfl rfl rfl rfl (by repeat (first | exact Put.nil | apply Put.put | apply Put.skip)) .nil) fun w b52 hst => ?_)
  refine RunL.cons (Op1.append (news := [.int .u8 _, .int .u32 _, str _]) hst ty22 ty26 rfl rfl (.there (.here)) rfl rfl rfl (cells_of_obj (n := 3) (hst.objL (.head _)) _ rfl) rfl rfl (by omega) fun w ao25 cp26 hst => ?_)
  replace hst := hst.drop (.there (.here))
  refine RunL.cons (Op1.assign (v := .slice _ _ _) rfl ?_)
  refine RunL.nil ?_
  refine run_seq ?_
  refine run_region ?_
  refine RunL.cons (Op1.move (v := .slice _ _ _) rfl ?_)
  refine RunL.cons (Op1.buildStruct ty26 stf26 (.cons rfl (v := .int .u8 _) rfl rfl rfl rfl (by repeat (first | exact Put.nil | apply Put.put | apply Put.skip)) (.cons rfl (v := .int .u32 _) rfl rfl rfl rfl (by repeat (first | exact Put.nil | apply Put.put | apply Put.skip)) (.cons rfl (v := str _) rfl rfl rfl rfl (by repeat (first | exact Put.nil | apply Put.put | apply Put.skip)) .nil))) ?_)
  refine RunL.cons (Op1.buildSl (z0 := [.int .u8 0, .int .u32 0, str []]) hst ty22 ty26 rfl rfl (by kernel_rfl) (.cons rfl (v := .agg #[.int .u8 _, .int .u32 _, str _]) rfl rfl rfl rfl (by repeat (first | exact Put.nil | apply Put.put | apply Put.skip)) .nil) fun w b56 hst => ?_)
  refine RunL.cons (Op1.append (news := [.int .u8 _, .int .u32 _, str _]) hst ty22 ty26 rfl rfl (.there (.here)) rfl rfl rfl (cells_of_obj (n := 3) (hst.objL (.head _)) _ rfl) rfl rfl (by omega) fun w ao27 cp28 hst => ?_)
  replace hst := hst.drop (.there (.here))
  refine RunL.cons (Op1.assign (v := .slice _ _ _) rfl ?_)
  refine RunL.nil ?_
  refine run_seq ?_
  refine run_region ?_
  refine RunL.cons (Op1.move (v := .slice _ _ _) rfl ?_)
  refine RunL.cons (Op1.buildStruct ty26 stf26 (.cons rfl (v := .int .u8 _) rfl rfl rfl rfl (by repeat (first | exact Put.nil | apply Put.put | apply Put.skip)) (.cons rfl (v := .int .u32 _) rfl rfl rfl rfl (by repeat (first | exact Put.nil | apply Put.put | apply Put.skip)) (.cons rfl (v := str _) rfl rfl rfl rfl (by repeat (first | exact Put.nil | apply Put.put | apply Put.skip)) .nil))) ?_)
  refine RunL.cons (Op1.buildSl (z0 := [.int .u8 0, .int .u32 0, str []]) hst ty22 ty26 rfl rfl (by kernel_rfl) (.cons rfl (v := .agg #[.int .u8 _, .int .u32 _, str _]) rfl rfl rfl rfl (by repeat (first | exact Put.nil | apply Put.put | apply Put.skip)) .nil) fun w b60 hst => ?_)
  refine RunL.cons (Op1.append (news := [.int .u8 _, .int .u32 _, str _]) hst ty22 ty26 rfl rfl (.there (.here)) rfl rfl rfl (cells_of_obj (n := 3) (hst.objL (.head _)) _ rfl) rfl rfl (by omega) fun w ao29 cp30 hst => ?_)
  replace hst := hst.drop (.there (.here))
  refine RunL.cons (Op1.assign (v := .slice _ _ _) rfl ?_)
  refine RunL.nil ?_
  refine run_seq ?_
  refine run_region ?_
  refine RunL.cons (Op1.move (v := .slice _ _ _) rfl ?_)
  refine RunL.cons (Op1.buildStruct ty26 stf26 (.cons rfl (v := .int .u8 _) rfl rfl rfl rfl (by repeat (first | exact Put.nil | apply Put.put | apply Put.skip)) (.cons rfl (v := .int .u32 _) rfl rfl rfl rfl (by repeat (first | exact Put.nil | apply Put.put | apply Put.skip)) (.cons rfl (v := str _) rfl rfl rfl rfl (by repeat (first | exact Put.nil | apply Put.put | apply Put.skip)) .nil))) ?_)
  refine RunL.cons (Op1.buildSl (z0 := [.int .u8 0, .int .u32 0, str []]) hst ty22 ty26 rfl rfl (by kernel_rfl) (.cons rfl (v := .agg #[.int .u8 _, .int .u32 _, str _]) rfl rfl rfl rfl (by repeat (first | exact Put.nil | apply Put.put | apply Put.skip)) .nil) fun w b64 hst => ?_)
  refine RunL.cons (Op1.append (news := [.int .u8 _, .int .u32 _, str _]) hst ty22 ty26 rfl rfl (.there (.here)) rfl rfl rfl (cells_of_obj (n := 3) (hst.objL (.head _)) _ rfl) rfl rfl (by omega) fun w ao31 cp32 hst => ?_)
  replace hst := hst.drop (.there (.here))
  refine RunL.cons (Op1.assign (v := .slice _ _ _) rfl ?_)
  refine RunL.nil ?_
  refine Run.forget [(1, .slice _ _ _)] ⟨rfl, trivial⟩ (fun f => ?_)
  refine run_seq ?_
  refine run_region ?_
  refine RunL.cons (Op1.move (v := .slice _ _ _) rfl ?_)
  refine RunL.cons (Op1.buildStruct ty26 stf26 (.cons rfl (v := .int .u8 _) rfl rfl rfl rfl (by repeat (first | exact Put.nil | apply Put.put | apply Put.skip)) (.cons rfl (v := .int .u32 _) rfl rfl rfl rfl (by repeat (first | exact Put.nil | apply Put.put | apply Put.skip)) (.cons rfl (v := str _) rfl rfl rfl rfl (by repeat (first | exact Put.nil | apply Put.put | apply Put.skip)) .nil))) ?_)
  refine RunL.cons (Op1.buildSl (z0 := [.int .u8 0, .int .u32 0, str []]) hst ty22 ty26 rfl rfl (by kernel_rfl) (.cons rfl (v := .agg #[.int .u8 _, .int .u32 _, str _]) rfl rfl rfl rfl (by repeat (first | exact Put.nil | apply Put.put | apply Put.skip)) .nil) fun w b68 hst => ?_)
  refine RunL.cons (Op1.append (news := [.int .u8 _, .int .u32 _, str _]) hst ty22 ty26 rfl rfl (.there (.here)) rfl rfl rfl (cells_of_obj (n := 3) (hst.objL (.head _)) _ rfl) rfl rfl (by omega) fun w ao33 cp34 hst => ?_)
  replace hst := hst.drop (.there (.here))
  refine RunL.cons (Op1.assign (v := .slice _ _ _) rfl ?_)
  refine RunL.nil ?_
  refine run_seq ?_
  refine run_region ?_
  refine RunL.cons (Op1.move (v := .slice _ _ _) rfl ?_)
  refine RunL.cons (Op1.buildStruct ty26 stf26 (.cons rfl (v := .int .u8 _) rfl rfl rfl rfl (by repeat (first | exact Put.nil | apply Put.put | apply Put.skip)) (.cons rfl (v := .int .u32 _) rfl rfl rfl rfl (by repeat (first | exact Put.nil | apply Put.put | apply Put.skip)) (.cons rfl (v := str _) rfl rfl rfl rfl (by repeat (first | exact Put.nil | apply Put.put | apply Put.skip)) .nil))) ?_)
  refine RunL.cons (Op1.buildSl (z0 := [.int .u8 0, .int .u32 0, str []]) hst ty22 ty26 rfl rfl (by kernel_rfl) (.cons rfl (v := .agg #[.int .u8 _, .int .u32 _, str _]) rfl rfl rfl rfl (by repeat (first | exact Put.nil | apply Put.put | apply Put.skip)) .nil) fun w b72 hst => ?_)
  refine RunL.cons (Op1.append (news := [.int .u8 _, .int .u32 _, str _]) hst ty22 ty26 rfl rfl (.there (.here)) rfl rfl rfl (cells_of_obj (n := 3) (hst.objL (.head _)) _ rfl) rfl rfl (by omega) fun w ao35 cp36 hst => ?_)
  replace hst := hst.drop (.there (.here))
  refine RunL.cons (Op1.assign (v := .slice _ _ _) rfl ?_)
  refine RunL.nil ?_
  refine run_seq ?_
  refine run_region ?_
  refine RunL.cons (Op1.move (v := .slice _ _ _) rfl ?_)
  refine RunL.cons (Op1.buildStruct ty26 stf26 (.cons rfl (v := .int .u8 _) rfl rfl rfl rfl (by repeat (first | exact Put.nil | apply Put.put | apply Put.skip)) (.cons rfl (v := .int .u32 _) rfl rfl rfl rfl (by repeat (first | exact Put.nil | apply Put.put | apply Put.skip)) (.cons rfl (v := str _) rfl rfl rfl rfl (by repeat (first | exact Put.nil | apply Put.put | apply Put.skip)) .nil))) ?_)
  refine RunL.cons (Op1.buildSl (z0 := [.int .u8 0, .int .u32 0, str []]) hst ty22 ty26 rfl rfl (by kernel_rfl) (.cons rfl (v := .agg #[.int .u8 _, .int .u32 _, str _]) rfl rfl rfl rfl (by repeat (first | exact Put.nil | apply Put.put | apply Put.skip)) .nil) fun w b76 hst => ?_)
  refine RunL.cons (Op1.append (news := [.int .u8 _, .int .u32 _, str _]) hst ty22 ty26 rfl rfl (.there (.here)) rfl rfl rfl (cells_of_obj (n := 3) (hst.objL (.head _)) _ rfl) rfl rfl (by omega) fun w ao37 cp38 hst => ?_)
  replace hst := hst.drop (.there (.here))
  refine RunL.cons (Op1.assign (v := .slice _ _ _) rfl ?_)
  refine RunL.nil ?_
  refine run_seq ?_
  refine run_region ?_
  refine RunL.cons (Op1.move (v := .slice _ _ _) rfl ?_)
  refine RunL.cons (Op1.buildStruct ty26 stf26 (.cons rfl (v := .int .u8 _) rfl rfl rfl rfl (by repeat (first | exact Put.nil | apply Put.put | apply Put.skip)) (.cons rfl (v := .int .u32 _) rfl rfl rfl rfl (by repeat (first | exact Put.nil | apply Put.put | apply Put.skip)) (.cons rfl (v := str _) rfl rfl rfl rfl (by repeat (first | exact Put.nil | apply Put.put | apply Put.skip)) .nil))) ?_)
  refine RunL.cons (Op1.buildSl (z0 := [.int .u8 0, .int .u32 0, str []]) hst ty22 ty26 rfl rfl (by kernel_rfl) (.cons rfl (v := .agg #[.int .u8 _, .int .u32 _, str _]) rfl rfl rfl rfl (by repeat (first | exact Put.nil | apply Put.put | apply Put.skip)) .nil) fun w b80 hst => ?_)
  refine RunL.cons (Op1.append (news := [.int .u8 _, .int .u32 _, str _]) hst ty22 ty26 rfl rfl (.there (.here)) rfl rfl rfl (cells_of_obj (n := 3) (hst.objL (.head _)) _ rfl) rfl rfl (by omega) fun w ao39 cp40 hst => ?_)
  replace hst := hst.drop (.there (.here))
  refine RunL.cons (Op1.assign (v := .slice _ _ _) rfl ?_)
  refine RunL.nil ?_
  refine Run.forget [(1, .slice _ _ _)] ⟨rfl, trivial⟩ (fun f => ?_)
  refine run_seq ?_
  refine run_region ?_
  refine RunL.cons (Op1.move (v := .slice _ _ _) rfl ?_)
  refine RunL.cons (Op1.buildStruct ty26 stf26 (.cons rfl (v := .int .u8 _) rfl rfl rfl rfl (by repeat (first | exact Put.nil | apply Put.put | apply Put.skip)) (.cons rfl (v := .int .u32 _) rfl rfl rfl rfl (by repeat (first | exact Put.nil | apply Put.put | apply Put.skip)) (.cons rfl (v := str _) rfl rfl rfl rfl (by repeat (first | exact Put.nil | apply Put.put | apply Put.skip)) .nil))) ?_)
  refine RunL.cons (Op1.buildSl (z0 := [.int .u8 0, .int .u32 0, str []]) hst ty22 ty26 rfl rfl (by kernel_rfl) (.cons rfl (v := .agg #[.int .u8 _, .int .u32 _, str _]) rfl rfl rfl rfl (by repeat (first | exact Put.nil | apply Put.put | apply Put.skip)) .nil) fun w b84 hst => ?_)
  refine RunL.cons (Op1.append (news := [.int .u8 _, .int .u32 _, str _]) hst ty22 ty26 rfl rfl (.there (.here)) rfl rfl rfl (cells_of_obj (n := 3) (hst.objL (.head _)) _ rfl) rfl rfl (by omega) fun w ao41 cp42 hst => ?_)
  replace hst := hst.drop (.there (.here))
  refine RunL.cons (Op1.assign (v := .slice _ _ _) rfl ?_)
  refine RunL.nil ?_
  refine run_seq ?_
  refine run_region ?_
  refine RunL.cons (Op1.move (v := .slice _ _ _) rfl ?_)
  refine RunL.cons (Op1.buildStruct ty26 stf26 (.cons rfl (v := .int .u8 _) rfl rfl rfl rfl (by repeat (first | exact Put.nil | apply Put.put | apply Put.skip)) (.cons rfl (v := .int .u32 _) rfl rfl rfl rfl (by repeat (first | exact Put.nil | apply Put.put | apply Put.skip)) (.cons rfl (v := str _) rfl rfl rfl rfl (by repeat (first | exact Put.nil | apply Put.put | apply Put.skip)) .nil))) ?_)
  refine RunL.cons (Op1.buildSl (z0 := [.int .u8 0, .int .u32 0, str []]) hst ty22 ty26 rfl rfl (by kernel_rfl) (.cons rfl (v := .agg #[.int .u8 _, .int .u32 _, str _]) rfl rfl rfl rfl (by repeat (first | exact Put.nil | apply Put.put | apply Put.skip)) .nil) fun w b88 hst => ?_)
  refine RunL.cons (Op1.append (news := [.int .u8 _, .int .u32 _, str _]) hst ty22 ty26 rfl rfl (.there (.here)) rfl rfl rfl (cells_of_obj (n := 3) (hst.objL (.head _)) _ rfl) rfl rfl (by omega) fun w ao43 cp44 hst => ?_)
  replace hst := hst.drop (.there (.here))
  refine RunL.cons (Op1.assign (v := .slice _ _ _) rfl ?_)
  refine RunL.nil ?_
  refine run_seq ?_
  refine run_region ?_
  refine RunL.cons (Op1.move (v := .slice _ _ _) rfl ?_)
  refine RunL.cons (Op1.buildStruct ty26 stf26 (.cons rfl (v := .int .u8 _) rfl rfl rfl rfl (by repeat (first | exact Put.nil | apply Put.put | apply Put.skip)) (.cons rfl (v := .int .u32 _) rfl rfl rfl rfl (by repeat (first | exact Put.nil | apply Put.put | apply Put.skip)) (.cons rfl (v := str _) rfl rfl rfl rfl (by repeat (first | exact Put.nil | apply Put.put | apply Put.skip)) .nil))) ?_)
  refine RunL.cons (Op1.buildSl (z0 := [.int .u8 0, .int .u32 0, str []]) hst ty22 ty26 rfl rfl (by kernel_rfl) (.cons rfl (v := .agg #[.int .u8 _, .int .u32 _, str _]) rfl rfl rfl rfl (by repeat (first | exact Put.nil | apply Put.put | apply Put.skip)) .nil) fun w b92 hst => ?_)
  refine RunL.cons (Op1.append (news := [.int .u8 _, .int .u32 _, str _]) hst ty22 ty26 rfl rfl (.there (.here)) rfl rfl rfl (cells_of_obj (n := 3) (hst.objL (.head _)) _ rfl) rfl rfl (by omega) fun w ao45 cp46 hst => ?_)
  replace hst := hst.drop (.there (.here))
  refine RunL.cons (Op1.assign (v := .slice _ _ _) rfl ?_)
  refine RunL.nil ?_
  refine run_seq ?_
  refine run_region ?_
  refine RunL.cons (Op1.move (v := .slice _ _ _) rfl ?_)
  refine RunL.cons (Op1.buildStruct ty26 stf26 (.cons rfl (v := .int .u8 _) rfl rfl rfl rfl (by repeat (first | exact Put.nil | apply Put.put | apply Put.skip)) (.cons rfl (v := .int .u32 _) rfl rfl rfl rfl (by repeat (first | exact Put.nil | apply Put.put | apply Put.skip)) (.cons rfl (v := str _) rfl rfl rfl rfl (by repeat (first | exact Put.nil | apply Put.put | apply Put.skip)) .nil))) ?_)
  refine RunL.cons (Op1.buildSl (z0 := [.int .u8 0, .int .u32 0, str []]) hst ty22 ty26 rfl rfl (by kernel_rfl) (.cons rfl (v := .agg #[.int .u8 _, .int .u32 _, str _]) rfl rfl rfl rfl (by repeat (first | exact Put.nil | apply Put.put | apply Put.skip)) .nil) fun w b96 hst => ?_)
  refine RunL.cons (Op1.append (news := [.int .u8 _, .int .u32 _, str _]) hst ty22 ty26 rfl rfl (.there (.here)) rfl rfl rfl (cells_of_obj (n := 3) (hst.objL (.head _)) _ rfl) rfl rfl (by omega) fun w ao47 cp48 hst => ?_)
  replace hst := hst.drop (.there (.here))
  refine RunL.cons (Op1.assign (v := .slice _ _ _) rfl ?_)
  refine RunL.nil ?_
  refine Run.forget [(1, .slice _ _ _)] ⟨rfl, trivial⟩ (fun f => ?_)
  refine run_seq ?_
  refine run_region ?_
  refine RunL.cons (Op1.move (v := .slice _ _ _) rfl ?_)
  refine RunL.cons (Op1.buildStruct ty26 stf26 (.cons rfl (v := .int .u8 _) rfl rfl rfl rfl (by repeat (first | exact Put.nil | apply Put.put | apply Put.skip)) (.cons rfl (v := .int .u32 _) rfl rfl rfl rfl (by repeat (first | exact Put.nil | apply Put.put | apply Put.skip)) (.cons rfl (v := str _) rfl rfl rfl rfl (by repeat (first | exact Put.nil | apply Put.put | apply Put.skip)) .nil))) ?_)
  refine RunL.cons (Op1.buildSl (z0 := [.int .u8 0, .int .u32 0, str []]) hst ty22 ty26 rfl rfl (by kernel_rfl) (.cons rfl (v := .agg #[.int .u8 _, .int .u32 _, str _]) rfl rfl rfl rfl (by repeat (first | exact Put.nil | apply Put.put | apply Put.skip)) .nil) fun w b100 hst => ?_)
  refine RunL.cons (Op1.append (news := [.int .u8 _, .int .u32 _, str _]) hst ty22 ty26 rfl rfl (.there (.here)) rfl rfl rfl (cells_of_obj (n := 3) (hst.objL (.head _)) _ rfl) rfl rfl (by omega) fun w ao49 cp50 hst => ?_)
  replace hst := hst.drop (.there (.here))
  refine RunL.cons (Op1.assign (v := .slice _ _ _) rfl ?_)
  refine RunL.nil ?_
  refine run_seq ?_
  refine run_region ?_
  refine RunL.cons (Op1.move (v := .slice _ _ _) rfl ?_)
  refine RunL.cons (Op1.buildStruct ty26 stf26 (.cons rfl (v := .int .u8 _) rfl rfl rfl rfl (by repeat (first | exact Put.nil | apply Put.put | apply Put.skip)) (.cons rfl (v := .int .u32 _) rfl rfl rfl rfl (by repeat (first | exact Put.nil | apply Put.put | apply Put.skip)) (.cons rfl (v := str _) rfl rfl rfl rfl (by repeat (first | exact Put.nil | apply Put.put | apply Put.skip)) .nil))) ?_)
  refine RunL.cons (Op1.buildSl (z0 := [.int .u8 0, .int .u32 0, str []]) hst ty22 ty26 rfl rfl (by kernel_rfl) (.cons rfl (v := .agg #[.int .u8 _, .int .u32 _, str _]) rfl rfl rfl rfl (by repeat (first | exact Put.nil | apply Put.put | apply Put.skip)) .nil) fun w b104 hst => ?_)
  refine RunL.cons (Op1.append (news := [.int .u8 _, .int .u32 _, str _]) hst ty22 ty26 rfl rfl (.there (.here)) rfl rfl rfl (cells_of_obj (n := 3) (hst.objL (.head _)) _ rfl) rfl rfl (by omega) fun w ao51 cp52 hst => ?_)
  replace hst := hst.drop (.there (.here))
  refine RunL.cons (Op1.assign (v := .slice _ _ _) rfl ?_)
  refine RunL.nil ?_
  refine run_seq ?_
  refine run_region ?_
  refine RunL.cons (Op1.move (v := .slice _ _ _) rfl ?_)
  refine RunL.cons (Op1.buildStruct ty26 stf26 (.cons rfl (v := .int .u8 _) rfl rfl rfl rfl (by repeat (first | exact Put.nil | apply Put.put | apply Put.skip)) (.cons rfl (v := .int .u32 _) rfl rfl rfl rfl (by repeat (first | exact Put.nil | apply Put.put | apply Put.skip)) (.cons rfl (v := str _) rfl rfl rfl rfl (by repeat (first | exact Put.nil | apply Put.put | apply Put.skip)) .nil))) ?_)
  refine RunL.cons (Op1.buildSl (z0 := [.int .u8 0, .int .u32 0, str []]) hst ty22 ty26 rfl rfl (by kernel_rfl) (.cons rfl (v := .agg #[.int .u8 _, .int .u32 _, str _]) rfl rfl rfl rfl (by repeat (first | exact Put.nil | apply Put.put | apply Put.skip)) .nil) fun w b108 hst => ?_)
  refine RunL.cons (Op1.append (news := [.int .u8 _, .int .u32 _, str _]) hst ty22 ty26 rfl rfl (.there (.here)) rfl rfl rfl (cells_of_obj (n := 3) (hst.objL (.head _)) _ rfl) rfl rfl (by omega) fun w ao53 cp54 hst => ?_)
  replace hst := hst.drop (.there (.here))
  refine RunL.cons (Op1.assign (v := .slice _ _ _) rfl ?_)
  refine RunL.nil ?_
  refine run_seq ?_
  refine run_region ?_
  refine RunL.cons (Op1.move (v := .slice _ _ _) rfl ?_)
  refine RunL.cons (Op1.buildStruct ty26 stf26 (.cons rfl (v := .int .u8 _) rfl rfl rfl rfl (by repeat (first | exact Put.nil | apply Put.put | apply Put.skip)) (.cons rfl (v := .int .u32 _) rfl rfl rfl rfl (by repeat (first | exact Put.nil | apply Put.put | apply Put.skip)) (.cons rfl (v := str _) rfl rfl rfl rfl (by repeat (first | exact Put.nil | apply Put.put | apply Put.skip)) .nil))) ?_)
  refine RunL.cons (Op1.buildSl (z0 := [.int .u8 0, .int .u32 0, str []]) hst ty22 ty26 rfl rfl (by kernel_rfl) (.cons rfl (v := .agg #[.int .u8 _, .int .u32 _, str _]) rfl rfl rfl rfl (by repeat (first | exact Put.nil | apply Put.put | apply Put.skip)) .nil) fun w b112 hst => ?_)
  refine RunL.cons (Op1.append (news := [.int .u8 _, .int .u32 _, str _]) hst ty22 ty26 rfl rfl (.there (.here)) rfl rfl rfl (cells_of_obj (n := 3) (hst.objL (.head _)) _ rfl) rfl rfl (by omega) fun w ao55 cp56 hst => ?_)
  replace hst := hst.drop (.there (.here))
  refine RunL.cons (Op1.assign (v := .slice _ _ _) rfl ?_)
  refine RunL.nil ?_
  refine Run.forget [(1, .slice _ _ _)] ⟨rfl, trivial⟩ (fun f => ?_)
  refine run_seq ?_
  refine run_region ?_
  refine RunL.cons (Op1.move (v := .slice _ _ _) rfl ?_)
  refine RunL.cons (Op1.buildStruct ty26 stf26 (.cons rfl (v := .int .u8 _) rfl rfl rfl rfl (by repeat (first | exact Put.nil | apply Put.put | apply Put.skip)) (.cons rfl (v := .int .u32 _) rfl rfl rfl rfl (by repeat (first | exact Put.nil | apply Put.put | apply Put.skip)) (.cons rfl (v := str _) rfl rfl rfl rfl (by repeat (first | exact Put.nil | apply Put.put | apply Put.skip)) .nil))) ?_)
  refine RunL.cons (Op1.buildSl (z0 := [.int .u8 0, .int .u32 0, str []]) hst ty22 ty26 rfl rfl (by kernel_rfl) (.cons rfl (v := .agg #[.int .u8 _, .int .u32 _, str _]) rfl rfl rfl rfl (by repeat (first | exact Put.nil | apply Put.put | apply Put.skip)) .nil) fun w b116 hst => ?_)
  refine RunL.cons (Op1.append (news := [.int .u8 _, .int .u32 _, str _]) hst ty22 ty26 rfl rfl (.there (.here)) rfl rfl rfl (cells_of_obj (n := 3) (hst.objL (.head _)) _ rfl) rfl rfl (by omega) fun w ao57 cp58 hst => ?_)
  replace hst := hst.drop (.there (.here))
  refine RunL.cons (Op1.assign (v := .slice _ _ _) rfl ?_)
  refine RunL.nil ?_
  refine run_seq ?_
  refine run_region ?_
  refine RunL.cons (Op1.move (v := .slice _ _ _) rfl ?_)
  refine RunL.cons (Op1.buildStruct ty26 stf26 (.cons rfl (v := .int .u8 _) rfl rfl rfl rfl (by repeat (first | exact Put.nil | apply Put.put | apply Put.skip)) (.cons rfl (v := .int .u32 _) rfl rfl rfl rfl (by repeat (first | exact Put.nil | apply Put.put | apply Put.skip)) (.cons rfl (v := str _) rfl rfl rfl rfl (by repeat (first | exact Put.nil | apply Put.put | apply Put.skip)) .nil))) ?_)
  refine RunL.cons (Op1.buildSl (z0 := [.int .u8 0, .int .u32 0, str []]) hst ty22 ty26 rfl rfl (by kernel_rfl) (.cons rfl (v := .agg #[.int .u8 _, .int .u32 _, str _]) rfl rfl rfl rfl (by repeat (first | exact Put.nil | apply Put.put | apply Put.skip)) .nil) fun w b120 hst => ?_)
  refine RunL.cons (Op1.append (news := [.int .u8 _, .int .u32 _, str _]) hst ty22 ty26 rfl rfl (.there (.here)) rfl rfl rfl (cells_of_obj (n := 3) (hst.objL (.head _)) _ rfl) rfl rfl (by omega) fun w ao59 cp60 hst => ?_)
  replace hst := hst.drop (.there (.here))
  refine RunL.cons (Op1.assign (v := .slice _ _ _) rfl ?_)
  refine RunL.nil ?_
  refine run_seq ?_
  refine run_region ?_
  refine RunL.cons (Op1.move (v := .slice _ _ _) rfl ?_)
  refine RunL.cons (Op1.assign (v := .slice _ _ _) rfl ?_)
  refine RunL.nil ?_
  refine run_ret1 Try.func12 rfl (RV.tmp (v := .slice _ _ _) rfl) ?_
  exact ⟨_, _, rfl, hst⟩

theorem R2ref_Enum (c n : Int) (w : World) : Ret Try.prog 14 #[.int .u8 c, .int .u32 n] w (fun v w' => v = nameV (namesL.find? (enN c n)) ∧ St w NoM [] [] w') := by
  refine Ret.enter (args := [.int .u8 c, .int .u32 n]) Try.func14 rfl rfl rfl ?_
  have hst := St.init w
  have hnl : namesL.length = 30 := by decide +kernel
  refine run_seq ?_
  refine run_region ?_
  refine RunL.cons (Op1.assign (v := str _) rfl ?_)
  refine RunL.cons (Op1.assign (v := .bool _) rfl ?_)
  refine RunL.nil ?_
  refine run_seq ?_
  refine run_region ?_
  refine RunL.cons (Op1.call0  ent12 rfl  ((R2ref_Names _).mono fun v w hp => ?_))
  obtain ⟨aoN, cpN, rfl, hp⟩ := hp
  replace hst := hst.call0 hp
  clear hp
  refine RunL.cons (Op1.assign (v := .slice _ _ _) rfl ?_)
  refine RunL.nil ?_
  refine run_seq ?_
  refine run_seq ?_
  refine run_region ?_
  refine RunL.cons (Op1.assign (v := .int .i64 _) rfl ?_)
  refine RunL.nil ?_
  refine run_block ?_
  refine run_loop ?_
  refine Run.indW [(0, .int .u8 _), (1, .int .u32 _), (6, .slice _ _ _)] ⟨rfl, rfl, rfl, trivial⟩ (fun (i : Nat) => [(7, .int .i64 (i : Int))]) (fun (i : Nat) => []) (fun (i : Nat) => i ≤ namesL.length ∧ (namesL.drop i).find? (enN c n) = namesL.find? (enN c n)) (fun (i : Nat) => namesL.length - i) (0) hst ⟨Nat.zero_le _, rfl⟩ ⟨rfl, trivial⟩ ?_
  intro i f w hst hJ ih1
  refine run_seq ?_
  refine run_seq ?_
  refine run_region ?_
  refine RunL.cons (Op1.move (v := .int .i64 _) rfl ?_)
  refine RunL.cons (Op1.move (v := .slice _ _ _) rfl ?_)
  refine RunL.cons (Op1.lenSl (rest := []) ty22 rfl ?_)
  refine RunL.cons (Op1.lss rfl rfl ?_)
  refine RunL.nil ?_
  refine run_cond_dec rfl (fun g2 => ?_) (fun g2 => ?_)
  · skip
    refine run_skip ?_
    refine run_seq ?_
    refine run_block ?_
    refine run_seq ?_
    refine run_region ?_
    refine RunL.cons (Op1.move (v := .slice _ _ _) rfl ?_)
    refine RunL.cons (Op1.move (v := .int .i64 _) rfl ?_)
    obtain ⟨bs3, rfl⟩ := Res.sl_some (hst.hL _ (.head _)) (by omega)
    refine RunL.cons (Op1.indexSl ty22 ty26 rfl rfl (by omega) (by omega) ?_)
    refine RunL.cons (Op1.fieldAddr fld26_0 rfl ?_)
    refine RunL.cons (Op1.load1 (v := .int .u8 _) ty5 rfl rfl (Res.sl_cell (hst.hL _ (.head _)) (flat_cell (g := nameC) (d := zeroN) nameC_len rfl (by omega))) ?_)
    refine RunL.cons (Op1.move (v := .int .u8 _) rfl ?_)
    refine RunL.cons (Op1.eql rfl rfl ?_)
    refine RunL.cons (Op1.move (v := .bool _) rfl ?_)
    refine RunL.splitD (d := 22) rfl (fun g4 => ?_) (fun g4 => ?_)
    · skip
      refine RunL.take (t := 22) rfl (congrArg Value.bool (decide_eq_true g4)) (Op1.move (v := .slice _ _ _) rfl ?_)
      refine RunL.take (t := 22) rfl (congrArg Value.bool (decide_eq_true g4)) (Op1.move (v := .int .i64 _) rfl ?_)
      refine RunL.take (t := 22) rfl (congrArg Value.bool (decide_eq_true g4)) (Op1.indexSl ty22 ty26 rfl rfl (by omega) (by omega) ?_)
      refine RunL.take (t := 22) rfl (congrArg Value.bool (decide_eq_true g4)) (Op1.fieldAddr fld26_1 rfl ?_)
      refine RunL.take (t := 22) rfl (congrArg Value.bool (decide_eq_true g4)) (Op1.load1 (v := .int .u32 _) ty24 rfl rfl (Res.sl_cell (hst.hL _ (.head _)) (flat_cell (g := nameC) (d := zeroN) nameC_len rfl (by omega))) ?_)
      refine RunL.take (t := 22) rfl (congrArg Value.bool (decide_eq_true g4)) (Op1.move (v := .int .u32 _) rfl ?_)
      refine RunL.take (t := 22) rfl (congrArg Value.bool (decide_eq_true g4)) (Op1.eql rfl rfl ?_)
      refine RunL.cons (Op1.pickT (u := .bool _) (congrArg Value.bool (decide_eq_true g4)) rfl ?_)
      refine RunL.nil ?_
      refine Run.forget [(0, .int .u8 _), (1, .int .u32 _), (6, .slice _ _ _), (7, .int .i64 _), (30, .bool _)] ⟨rfl, rfl, rfl, rfl, rfl, trivial⟩ (fun f => ?_)
      refine run_cond_dec rfl (fun g5 => ?_) (fun g5 => ?_)
      · skip
        refine run_seq ?_
        refine run_region ?_
        refine RunL.cons (Op1.move (v := .slice _ _ _) rfl ?_)
        refine RunL.cons (Op1.move (v := .int .i64 _) rfl ?_)
        refine RunL.cons (Op1.indexSl ty22 ty26 rfl rfl (by omega) (by omega) ?_)
        refine RunL.cons (Op1.fieldAddr fld26_2 rfl ?_)
        refine RunL.cons (Op1.load1 (v := str _) ty9 rfl rfl (Res.sl_cell (hst.hL _ (.head _)) (flat_cell (g := nameC) (d := zeroN) nameC_len rfl (by omega))) ?_)
        refine RunL.cons (Op1.assign (v := str _) rfl ?_)
        refine RunL.cons (Op1.assign (v := .bool _) rfl ?_)
        refine RunL.nil ?_
        refine run_ret2 Try.func14 rfl (RV.tmp (v := str _) rfl) (RV.tmp (v := .bool _) rfl) ?_
        rw [find_hit (d := zeroN) hJ.2 (by omega) (decide_eq_true ⟨g4, g5⟩)]
        exact ⟨rfl, hst.pure⟩
      refine run_skip ?_
      refine run_inBlock ?_
      refine run_region ?_
      refine RunL.cons (Op1.move (v := .int .i64 _) rfl ?_)
      refine RunL.cons (Op1.addN rfl rfl rfl (wrap_i64 (by omega) (by omega)) ?_)
      refine RunL.cons (Op1.assign (v := .int .i64 _) rfl ?_)
      refine RunL.nil ?_
      refine run_inLoop ?_
      exact ih1 (i + 1) _ w (by omega) hst (⟨by omega, find_miss (d := zeroN) hJ.2 (by omega) (decide_eq_false (fun h => g5 h.2))⟩) ⟨rfl, rfl, rfl, trivial⟩ ⟨(congrArg (Value.int .i64) (by omega)), trivial⟩
    refine RunL.omit (t := 22) rfl (congrArg Value.bool (decide_eq_false g4)) rfl ?_
    refine RunL.omit (t := 22) rfl (congrArg Value.bool (decide_eq_false g4)) rfl ?_
    refine RunL.omit (t := 22) rfl (congrArg Value.bool (decide_eq_false g4)) rfl ?_
    refine RunL.omit (t := 22) rfl (congrArg Value.bool (decide_eq_false g4)) rfl ?_
    refine RunL.omit (t := 22) rfl (congrArg Value.bool (decide_eq_false g4)) rfl ?_
    refine RunL.omit (t := 22) rfl (congrArg Value.bool (decide_eq_false g4)) rfl ?_
    refine RunL.omit (t := 22) rfl (congrArg Value.bool (decide_eq_false g4)) rfl ?_
    refine RunL.cons (Op1.pickF (u := .bool _) (congrArg Value.bool (decide_eq_false g4)) rfl ?_)
    refine RunL.nil ?_
    refine run_cond_false (congrArg Value.bool (rfl : false = _)) ?_
    refine run_skip ?_
    refine run_inBlock ?_
    refine run_region ?_
    refine RunL.cons (Op1.move (v := .int .i64 _) rfl ?_)
    refine RunL.cons (Op1.addN rfl rfl rfl (wrap_i64 (by omega) (by omega)) ?_)
    refine RunL.cons (Op1.assign (v := .int .i64 _) rfl ?_)
    refine RunL.nil ?_
    refine run_inLoop ?_
    exact ih1 (i + 1) _ w (by omega) hst (⟨by omega, find_miss (d := zeroN) hJ.2 (by omega) (decide_eq_false (fun h => g4 h.1))⟩) ⟨rfl, rfl, rfl, trivial⟩ ⟨(congrArg (Value.int .i64) (by omega)), trivial⟩
  refine run_exit (id := 0) rfl ?_
  refine run_seq ?_
  refine run_region ?_
  refine RunL.cons (Op1.assign (v := str _) rfl ?_)
  refine RunL.cons (Op1.assign (v := .bool _) rfl ?_)
  refine RunL.nil ?_
  refine run_ret2 Try.func14 rfl (RV.tmp (v := str _) rfl) (RV.tmp (v := .bool _) rfl) ?_
  rw [find_end hJ.2 (by omega)]
  exact ⟨rfl, hst.pure⟩

theorem R2ref_EnumNamed (c : Int) (q : Byts) (w : World) : Ret Try.prog 16 #[.int .u8 c, str q] w (fun v w' => v = numV (namesL.find? (enS c q)) ∧ St w NoM [] [] w') := by
  refine Ret.enter (args := [.int .u8 c, str q]) Try.func16 rfl rfl rfl ?_
  have hst := St.init w
  have hnl : namesL.length = 30 := by decide +kernel
  refine run_seq ?_
  refine run_region ?_
  refine RunL.cons (Op1.assign (v := .int .u32 _) rfl ?_)
  refine RunL.cons (Op1.assign (v := .bool _) rfl ?_)
  refine RunL.nil ?_
  refine run_seq ?_
  refine run_region ?_
  refine RunL.cons (Op1.call0  ent12 rfl  ((R2ref_Names _).mono fun v w hp => ?_))
  obtain ⟨aoN, cpN, rfl, hp⟩ := hp
  replace hst := hst.call0 hp
  clear hp
  refine RunL.cons (Op1.assign (v := .slice _ _ _) rfl ?_)
  refine RunL.nil ?_
  refine run_seq ?_
  refine run_seq ?_
  refine run_region ?_
  refine RunL.cons (Op1.assign (v := .int .i64 _) rfl ?_)
  refine RunL.nil ?_
  refine run_block ?_
  refine run_loop ?_
  refine Run.indW [(0, .int .u8 _), (1, str _), (6, .slice _ _ _)] ⟨rfl, rfl, rfl, trivial⟩ (fun (i : Nat) => [(7, .int .i64 (i : Int))]) (fun (i : Nat) => []) (fun (i : Nat) => i ≤ namesL.length ∧ (namesL.drop i).find? (enS c q) = namesL.find? (enS c q)) (fun (i : Nat) => namesL.length - i) (0) hst ⟨Nat.zero_le _, rfl⟩ ⟨rfl, trivial⟩ ?_
  intro i f w hst hJ ih1
  refine run_seq ?_
  refine run_seq ?_
  refine run_region ?_
  refine RunL.cons (Op1.move (v := .int .i64 _) rfl ?_)
  refine RunL.cons (Op1.move (v := .slice _ _ _) rfl ?_)
  refine RunL.cons (Op1.lenSl (rest := []) ty22 rfl ?_)
  refine RunL.cons (Op1.lss rfl rfl ?_)
  refine RunL.nil ?_
  refine run_cond_dec rfl (fun g2 => ?_) (fun g2 => ?_)
  · skip
    refine run_skip ?_
    refine run_seq ?_
    refine run_block ?_
    refine run_seq ?_
    refine run_region ?_
    refine RunL.cons (Op1.move (v := .slice _ _ _) rfl ?_)
    refine RunL.cons (Op1.move (v := .int .i64 _) rfl ?_)
    obtain ⟨bs3, rfl⟩ := Res.sl_some (hst.hL _ (.head _)) (by omega)
    refine RunL.cons (Op1.indexSl ty22 ty26 rfl rfl (by omega) (by omega) ?_)
    refine RunL.cons (Op1.fieldAddr fld26_0 rfl ?_)
    refine RunL.cons (Op1.load1 (v := .int .u8 _) ty5 rfl rfl (Res.sl_cell (hst.hL _ (.head _)) (flat_cell (g := nameC) (d := zeroN) nameC_len rfl (by omega))) ?_)
    refine RunL.cons (Op1.move (v := .int .u8 _) rfl ?_)
    refine RunL.cons (Op1.eql rfl rfl ?_)
    refine RunL.cons (Op1.move (v := .bool _) rfl ?_)
    refine RunL.splitD (d := 22) rfl (fun g4 => ?_) (fun g4 => ?_)
    · skip
      refine RunL.take (t := 22) rfl (congrArg Value.bool (decide_eq_true g4)) (Op1.move (v := .slice _ _ _) rfl ?_)
      refine RunL.take (t := 22) rfl (congrArg Value.bool (decide_eq_true g4)) (Op1.move (v := .int .i64 _) rfl ?_)
      refine RunL.take (t := 22) rfl (congrArg Value.bool (decide_eq_true g4)) (Op1.indexSl ty22 ty26 rfl rfl (by omega) (by omega) ?_)
      refine RunL.take (t := 22) rfl (congrArg Value.bool (decide_eq_true g4)) (Op1.fieldAddr fld26_2 rfl ?_)
      refine RunL.take (t := 22) rfl (congrArg Value.bool (decide_eq_true g4)) (Op1.load1 (v := str _) ty9 rfl rfl (Res.sl_cell (hst.hL _ (.head _)) (flat_cell (g := nameC) (d := zeroN) nameC_len rfl (by omega))) ?_)
      refine RunL.take (t := 22) rfl (congrArg Value.bool (decide_eq_true g4)) (Op1.move (v := str _) rfl ?_)
      refine RunL.take (t := 22) rfl (congrArg Value.bool (decide_eq_true g4)) (Op1.eqlS rfl rfl ?_)
      refine RunL.cons (Op1.pickT (u := .bool _) (congrArg Value.bool (decide_eq_true g4)) rfl ?_)
      refine RunL.nil ?_
      refine Run.forget [(0, .int .u8 _), (1, str _), (6, .slice _ _ _), (7, .int .i64 _), (30, .bool _)] ⟨rfl, rfl, rfl, rfl, rfl, trivial⟩ (fun f => ?_)
      refine run_cond_dec rfl (fun g5 => ?_) (fun g5 => ?_)
      · skip
        refine run_seq ?_
        refine run_region ?_
        refine RunL.cons (Op1.move (v := .slice _ _ _) rfl ?_)
        refine RunL.cons (Op1.move (v := .int .i64 _) rfl ?_)
        refine RunL.cons (Op1.indexSl ty22 ty26 rfl rfl (by omega) (by omega) ?_)
        refine RunL.cons (Op1.fieldAddr fld26_1 rfl ?_)
        refine RunL.cons (Op1.load1 (v := .int .u32 _) ty24 rfl rfl (Res.sl_cell (hst.hL _ (.head _)) (flat_cell (g := nameC) (d := zeroN) nameC_len rfl (by omega))) ?_)
        refine RunL.cons (Op1.assign (v := .int .u32 _) rfl ?_)
        refine RunL.cons (Op1.assign (v := .bool _) rfl ?_)
        refine RunL.nil ?_
        refine run_ret2 Try.func16 rfl (RV.tmp (v := .int .u32 _) rfl) (RV.tmp (v := .bool _) rfl) ?_
        rw [find_hit (d := zeroN) hJ.2 (by omega) (decide_eq_true ⟨g4, g5⟩)]
        exact ⟨rfl, hst.pure⟩
      refine run_skip ?_
      refine run_inBlock ?_
      refine run_region ?_
      refine RunL.cons (Op1.move (v := .int .i64 _) rfl ?_)
      refine RunL.cons (Op1.addN rfl rfl rfl (wrap_i64 (by omega) (by omega)) ?_)
      refine RunL.cons (Op1.assign (v := .int .i64 _) rfl ?_)
      refine RunL.nil ?_
      refine run_inLoop ?_
      exact ih1 (i + 1) _ w (by omega) hst (⟨by omega, find_miss (d := zeroN) hJ.2 (by omega) (decide_eq_false (fun h => g5 h.2))⟩) ⟨rfl, rfl, rfl, trivial⟩ ⟨(congrArg (Value.int .i64) (by omega)), trivial⟩
    refine RunL.omit (t := 22) rfl (congrArg Value.bool (decide_eq_false g4)) rfl ?_
    refine RunL.omit (t := 22) rfl (congrArg Value.bool (decide_eq_false g4)) rfl ?_
    refine RunL.omit (t := 22) rfl (congrArg Value.bool (decide_eq_false g4)) rfl ?_
    refine RunL.omit (t := 22) rfl (congrArg Value.bool (decide_eq_false g4)) rfl ?_
    refine RunL.omit (t := 22) rfl (congrArg Value.bool (decide_eq_false g4)) rfl ?_
    refine RunL.omit (t := 22) rfl (congrArg Value.bool (decide_eq_false g4)) rfl ?_
    refine RunL.omit (t := 22) rfl (congrArg Value.bool (decide_eq_false g4)) rfl ?_
    refine RunL.cons (Op1.pickF (u := .bool _) (congrArg Value.bool (decide_eq_false g4)) rfl ?_)
    refine RunL.nil ?_
    refine run_cond_false (congrArg Value.bool (rfl : false = _)) ?_
    refine run_skip ?_
    refine run_inBlock ?_
    refine run_region ?_
    refine RunL.cons (Op1.move (v := .int .i64 _) rfl ?_)
    refine RunL.cons (Op1.addN rfl rfl rfl (wrap_i64 (by omega) (by omega)) ?_)
    refine RunL.cons (Op1.assign (v := .int .i64 _) rfl ?_)
    refine RunL.nil ?_
    refine run_inLoop ?_
    exact ih1 (i + 1) _ w (by omega) hst (⟨by omega, find_miss (d := zeroN) hJ.2 (by omega) (decide_eq_false (fun h => g4 h.1))⟩) ⟨rfl, rfl, rfl, trivial⟩ ⟨(congrArg (Value.int .i64) (by omega)), trivial⟩
  refine run_exit (id := 0) rfl ?_
  refine run_seq ?_
  refine run_region ?_
  refine RunL.cons (Op1.assign (v := .int .u32 _) rfl ?_)
  refine RunL.cons (Op1.assign (v := .bool _) rfl ?_)
  refine RunL.nil ?_
  refine run_ret2 Try.func16 rfl (RV.tmp (v := .int .u32 _) rfl) (RV.tmp (v := .bool _) rfl) ?_
  rw [find_end hJ.2 (by omega)]
  exact ⟨rfl, hst.pure⟩

theorem R2gr_Enums (c : Int) (w : World) : Ret Try.prog 13 #[.int .u8 c] w (fun v w' => ∃ b, v = .func (.func 30) #[] #[.pointer (some ⟨b, 0, none⟩)] ∧ St w NoM [Res.row b 5 [.int .u8 c]] [] w') := by
  refine Ret.enter (args := [.int .u8 c]) Try.func13 rfl rfl rfl ?_
  have hst := St.init w
  refine run_seq ?_
  refine run_region ?_
  refine RunL.cons (Op1.box (v := .int .u8 _) hst rfl rfl fun w b1 hst => ?_)
  refine RunL.cons (Op1.assign (v := _) rfl ?_)
  refine RunL.nil ?_
  refine run_seq ?_
  refine run_region ?_
  refine RunL.cons (Op1.makeFunc ?_)
  refine RunL.cons (Op1.assign (v := .func _ _ _) rfl ?_)
  refine RunL.nil ?_
  refine run_ret1 Try.func13 rfl (RV.tmp (v := .func _ _ _) rfl) ?_
  exact ⟨_, rfl, hst⟩

theorem R2gr_names2 {c : Int} {s : Byts} (hs : look namesT c = s) (w : World) : Ret Try.prog 31 #[.int .u8 c] w fun v w' => v = str s ∧ St w NoM [] [] w' := by
  subst hs; exact R2gr_names c w
theorem R2enums_iter (c : Int) (h0 : 0 ≤ c) (h1 : c ≤ 255) (bc : Nat) (w : World) (hb : (Res.row bc 5 [.int .u8 c]).holds w) : IterOk Try.prog 30 [.pointer (some ⟨bc, 0, none⟩)] (enumsL c).length (fun j => [.int .u32 ((enumsL c).getD j zeroN).n, str ((enumsL c).getD j zeroN).name]) (· = bc) w := by
  intro yv R S hR hFD hy
  obtain ⟨s, hs⟩ : ∃ s, look namesT c = s := ⟨_, rfl⟩
  obtain ⟨hasc, hlen, hl⟩ := names_all h0 h1
  rw [hs] at hasc hlen hl
  have hout : (enF s).out.length = (enumsL c).length := by rw [hl]; simp
  have hlt : ∀ i (hi : i < s.length), s[i] = 32 → (enF (s.take i)).num = true → (enF (s.take i)).out.length < (enumsL c).length := fun i hi h2 h3 => by
    have := (enF_told hl hi h2 h3).1; simpa using this
  have hyx : ∀ i (hi : i < s.length), s[i] = 32 → (enF (s.take i)).num = true → ∀ w1, St w (R 0).foot [R (enF (s.take i)).out.length] [] w1 → CallV Try.prog yv [.int .u32 (enF (s.take i)).n, str (enF (s.take i)).word] w1 fun v w2 => (v = .bool true ∧ St w1 (R (enF (s.take i)).out.length).foot [R ((enF (s.take i)).out.length + 1)] [] w2) ∨ (v = .bool false ∧ St w1 (R (enF (s.take i)).out.length).foot [S (enF (s.take i)).out.length] [] w2) := fun i hi h2 h3 w1 hw1 => by
    have t := hy _ (hlt i hi h2 h3) w1 hw1
    have ht := (enF_told hl hi h2 h3).2
    have hk := hlt i hi h2 h3
    rw [map_getD (d := zeroN) hk] at ht
    dsimp only at t
    injection ht with e1 e2
    rwa [e1, e2] at t
  refine Ret.enter (args := [yv, .pointer (some ⟨bc, 0, none⟩)]) Try.func30 rfl rfl rfl ?_
  have hst : St w (R 0).foot [R 0] [Res.row bc 5 [.int .u8 c]] w := St.enter1 hR (fun d hd => by cases hd with | head => exact hb | tail _ h => cases h) (fun d hd => by cases hd with | head => exact fun b hb hb2 => hFD b hb hb2 | tail _ h => cases h)
  refine run_seq ?_
  refine run_region ?_
  refine RunL.cons (Op1.assign (v := .int .u32 _) rfl ?_)
  refine RunL.cons (Op1.assign (v := str _) rfl ?_)
  refine RunL.nil ?_
  refine run_seq ?_
  refine run_region ?_
  refine RunL.cons (Op1.assign (v := str _) rfl ?_)
  refine RunL.nil ?_
  refine run_seq ?_
  refine run_region ?_
  refine RunL.cons (Op1.assign (v := .bool _) rfl ?_)
  refine RunL.nil ?_
  refine run_seq ?_
  refine run_region ?_
  refine RunL.cons (Op1.load1 (v := .int .u8 _) ty5 rfl rfl (hst.cellD (.head _) rfl) ?_)
  refine RunL.cons (Op1.call1 (v1 := .int .u8 _) ent31 rfl rfl ((R2gr_names2 hs _).mono fun v w hp => ?_))
  obtain ⟨rfl, hp⟩ := hp
  replace hst := hst.keepc hp
  clear hp
  refine RunL.cons (Op1.rangeS hst ty9 rfl fun w it11 hst => ?_)
  refine RunL.nil ?_
  refine run_block ?_
  refine run_loop ?_
  refine Run.indW [(0, _), (11, .pointer (some ⟨_, 0, none⟩))] ⟨rfl, rfl, trivial⟩ (fun (i : Nat) => [(3, .int .u32 (enF (s.take i)).n), (5, str (enF (s.take i)).word), (6, .bool (enF (s.take i)).num)]) (fun (i : Nat) => [Res.iter it11 s i, R (enF (s.take i)).out.length]) (fun (i : Nat) => i ≤ s.length) (fun (i : Nat) => s.length - i) (0) hst (Nat.zero_le _) ⟨rfl, rfl, rfl, trivial⟩ ?_
  intro i f w hst hJ ih1
  refine run_seq ?_
  refine run_region ?_
  rcases Nat.lt_or_ge i s.length with g2 | g2
  · skip
    have hc := hasc _ (List.getElem_mem g2)
    have hwl := (enF_inv s hasc i (by omega)).1
    refine RunL.cons (Op1.nextS hst rfl (.here) (List.getElem?_eq_getElem g2) (hc) fun w hst => ?_)
    refine RunL.cons (Op1.extract (v := .bool _) rfl rfl ?_)
    refine RunL.nil ?_
    refine run_seq ?_
    refine run_cond_true (congrArg Value.bool (rfl : true = _)) ?_
    refine run_skip ?_
    refine run_block ?_
    refine run_seq ?_
    refine run_region ?_
    refine RunL.cons (Op1.extract (v := .int .i32 _) rfl rfl ?_)
    refine RunL.cons (Op1.assign (v := .int .i32 _) rfl ?_)
    refine RunL.nil ?_
    refine run_seq ?_
    refine run_block ?_
    refine run_seq ?_
    refine run_region ?_
    refine RunL.cons (Op1.move (v := .int .i32 _) rfl ?_)
    refine RunL.cons (Op1.neq rfl rfl ?_)
    refine RunL.cons (Op1.assign (v := .bool _) rfl ?_)
    refine RunL.nil ?_
    refine run_cond_dec rfl (fun g3 => ?_) (fun g3 => ?_)
    · skip
      refine run_seq ?_
      refine run_region ?_
      refine RunL.cons (Op1.move (v := str _) rfl ?_)
      refine RunL.cons (Op1.move (v := .int .i32 _) rfl ?_)
      refine RunL.cons (Op1.runeStr ty21 ty9 rfl (by omega) (by omega) ?_)
      refine RunL.cons (Op1.addS rfl rfl (by first | omega | (simp only [List.length_cons, List.length_nil, List.length_append]; omega) | (simp; omega)) ?_)
      refine RunL.cons (Op1.assign (v := str _) rfl ?_)
      refine RunL.nil ?_
      refine run_exit (id := 1) rfl ?_
      refine run_inLoop ?_
      have hstep := enF_step g2
      have hsp : enF (s.take (i + 1)) = ⟨(enF (s.take i)).n, (enF (s.take i)).word ++ [s[i]], (enF (s.take i)).num, (enF (s.take i)).out⟩ := by rw [hstep]; unfold enStep; rw [if_pos (fun he => g3 (by rw [he]; rfl))]
      exact ih1 (i + 1) _ w (by omega) (by (try dsimp only); rw [hsp]; exact hst) (by omega) ⟨rfl, rfl, trivial⟩ ⟨(congrArg (Value.int .u32) (by rw [hsp])), (congrArg str (by rw [hsp]; simp)), (congrArg Value.bool (by rw [hsp])), trivial⟩
    refine run_seq ?_
    refine run_region ?_
    refine RunL.cons (Op1.move (v := .bool _) rfl ?_)
    refine RunL.cons (Op1.not rfl ?_)
    refine RunL.cons (Op1.assign (v := .bool _) rfl ?_)
    refine RunL.nil ?_
    refine run_cond_split rfl (fun g4 => ?_) (fun g4 => ?_)
    · skip
      refine run_region ?_
      refine RunL.cons (Op1.move (v := str _) rfl ?_)
      refine RunL.cons (Op1.call1 (v1 := str _) ent32 rfl rfl ((R2gr_number _ (enF_inv s hasc i (by omega)).2 _).mono fun v w hp => ?_))
      obtain ⟨rfl, hp⟩ := hp
      replace hst := hst.keepc hp
      clear hp
      refine RunL.cons (Op1.assign (v := .int .u32 _) rfl ?_)
      refine RunL.nil ?_
      refine run_inBlock ?_
      refine run_seq ?_
      refine run_region ?_
      refine RunL.cons (Op1.move (v := .bool _) rfl ?_)
      refine RunL.cons (Op1.not rfl ?_)
      refine RunL.cons (Op1.assign (v := .bool _) rfl ?_)
      refine RunL.nil ?_
      refine run_region ?_
      refine RunL.cons (Op1.assign (v := str _) rfl ?_)
      refine RunL.nil ?_
      refine run_inBlock ?_
      refine run_inLoop ?_
      have hstep := enF_step g2
      have hd32 : s[i] = 32 := UInt8.toNat_inj.1 (by have : (32 : UInt8).toNat = 32 := rfl; omega)
      have hnu : (enF (s.take i)).num = false := by simpa using g4
      have hsp : enF (s.take (i + 1)) = ⟨numF (enF (s.take i)).word, [], true, (enF (s.take i)).out⟩ := by rw [hstep]; unfold enStep; rw [if_neg (by simp [hd32]), if_neg (by simp [hnu])]
      exact ih1 (i + 1) _ w (by omega) (by (try dsimp only); rw [hsp]; exact hst) (by omega) ⟨rfl, rfl, trivial⟩ ⟨(congrArg (Value.int .u32) (by rw [hsp])), (congrArg str (by rw [hsp])), (congrArg Value.bool (by rw [hsp, hnu]; rfl)), trivial⟩
    refine run_seq ?_
    refine run_region ?_
    refine RunL.cons (Op1.move (v := str _) rfl ?_)
    refine RunL.cons (Op1.assign (v := str _) rfl ?_)
    refine RunL.nil ?_
    refine run_seq ?_
    refine run_region ?_
    refine RunL.cons (Op1.move (v := _) rfl ?_)
    refine RunL.cons (Op1.move (v := .int .u32 _) rfl ?_)
    refine RunL.cons (Op1.move (v := str _) rfl ?_)
    replace hst := hst.pick (.cons (.there (.here)) (.cons (.here) .nil))
    have hc32 : s[i] = 32 := UInt8.toNat_inj.1 (by have : (32 : UInt8).toNat = 32 := rfl; omega)
    have hnum : (enF (s.take i)).num = true := by simpa using g4
    refine RunL.cons (Op1.callV2 (v1 := .int .u32 _) (v2 := str _) rfl rfl rfl ((hyx i (by omega) hc32 hnum _ hst.one).mono fun v w hp => ?_))
    rcases hp with ⟨rfl, hp⟩ | ⟨rfl, hp⟩
    · skip
      replace hst := hst.call1 hp
      clear hp
      refine RunL.cons (Op1.not rfl ?_)
      refine RunL.nil ?_
      refine run_cond_false (congrArg Value.bool (congrArg not (rfl : true = _))) ?_
      refine run_skip ?_
      refine run_inBlock ?_
      refine run_seq ?_
      refine run_region ?_
      refine RunL.cons (Op1.move (v := .bool _) rfl ?_)
      refine RunL.cons (Op1.not rfl ?_)
      refine RunL.cons (Op1.assign (v := .bool _) rfl ?_)
      refine RunL.nil ?_
      refine Run.forget [(0, _), (3, .int .u32 _), (6, .bool _), (11, .pointer (some ⟨_, 0, none⟩))] ⟨rfl, rfl, rfl, rfl, trivial⟩ (fun f => ?_)
      refine run_region ?_
      refine RunL.cons (Op1.assign (v := str _) rfl ?_)
      refine RunL.nil ?_
      refine run_inBlock ?_
      refine run_inLoop ?_
      have hstep := enF_step g2
      have hd32 : s[i] = 32 := UInt8.toNat_inj.1 (by have : (32 : UInt8).toNat = 32 := rfl; omega)
      have hnu : (enF (s.take i)).num = true := by simpa using g4
      have hsp : enF (s.take (i + 1)) = ⟨(enF (s.take i)).n, [], false, (enF (s.take i)).out ++ [((enF (s.take i)).n, (enF (s.take i)).word)]⟩ := by rw [hstep]; unfold enStep; rw [if_neg (by simp [hd32]), if_pos hnu]
      replace hst := hst.pick (.cons (.there (.here)) (.cons (.here) .nil))
      exact ih1 (i + 1) _ w (by omega) (by (try dsimp only); rw [hsp]; simp only [List.length_append, List.length_cons, List.length_nil]; exact hst) (by omega) ⟨rfl, rfl, trivial⟩ ⟨(congrArg (Value.int .u32) (by rw [hsp])), (congrArg str (by rw [hsp])), (congrArg Value.bool (by rw [hsp, hnu]; rfl)), trivial⟩
    · skip
      replace hst := hst.call1 hp
      clear hp
      refine RunL.cons (Op1.not rfl ?_)
      refine RunL.nil ?_
      refine run_cond_true (congrArg Value.bool (congrArg not (rfl : false = _))) ?_
      refine run_ret0 Try.func30 rfl  ?_
      replace hst := hst.pick (.cons (.here) (.cons (.here) .nil))
      exact .inr ⟨(enF (s.take i)).out.length, hlt i (by omega) hc32 hnum, hst.one⟩
  obtain rfl : i = s.length := by omega
  refine RunL.cons (Op1.nextE hst rfl (.head _) g2 ?_)
  refine RunL.cons (Op1.extract (v := .bool _) rfl rfl ?_)
  refine RunL.nil ?_
  refine run_seq ?_
  refine run_cond_false (congrArg Value.bool (rfl : false = _)) ?_
  refine run_exit (id := 0) rfl ?_
  refine run_end0 Try.func30 rfl  ?_
  replace hst := hst.pick (.cons (.there (.here)) (.cons (.here) .nil))
  rw [List.take_length, hout] at hst
  exact .inl hst.one

end Go.SK
