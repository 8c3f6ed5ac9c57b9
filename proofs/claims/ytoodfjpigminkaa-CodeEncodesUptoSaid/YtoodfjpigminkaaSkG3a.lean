/-
  Steps of functions, plain law, and walks of functions: what the laws rest on.
-/
import Derived.Test.YtoodfjpigminkaaSkG0d
set_option linter.unusedVariables false
set_option linter.unusedSimpArgs false
set_option linter.unusedSectionVars false
namespace Go.SK
open Go Go.Proofs
theorem ent31 : Enters Try.prog 31 := ⟨Try.f31, _, Try.func31, by kernel_rfl, rfl⟩
end Go.SK
namespace Go.SK
open Go Go.Proofs
open Go.RowKit
theorem R3md_CopyInst (p : InstP) (w : World) (hA : (Res.rargs p).holds w) (hl : p.args.length ≤ 5864062014806) : Ret Try.prog 31 #[.agg #[.int .u16 p.op, .int .u32 p.ty, .int .u32 p.res, .slice p.ao p.args.length p.cap]] w (fun v w' => ∃ bC, v = .agg #[.int .u16 p.op, .int .u32 p.ty, .int .u32 p.res, .slice (some ⟨bC, 0, none⟩) p.args.length p.args.length] ∧ St w NoM [Res.sl (some ⟨bC, 0, none⟩) p.args.length p.args.length 71 3 (p.args.flatMap argC)] [] w') := by
 refine Ret.enter (args := [.agg #[.int .u16 p.op, .int .u32 p.ty, .int .u32 p.res, .slice p.ao p.args.length p.cap]]) Try.func31 rfl rfl rfl ?_
 have hst : St w NoM [] [Res.rargs p] w := St.init_D hA
 clear hA
 refine SR <| CN <| Op1.box (v := .agg #[.int .u16 _, .int .u32 _, .int .u32 _, .slice _ _ _]) hst rfl rfl fun w b1 hst => CN <| Op1.alloc hst ty48 fun w b2 hst => NSR <| CN <| Op1.fieldAddr fld48_3 rfl <| CN <| Op1.load1 (v := .slice _ _ _) ty46 rfl rfl (hst.cellL (.tail _ (.head _)) rfl) <| CN <| Op1.lenSl (rest := []) ty46 rfl <| CN (Op1.makeSlV hst ty46 ty71 rfl rfl rfl (by decide) (by omega) (by omega) fun w bC hst => ?_)
 rw [cpG_zero (g := argC) (d := zeroA) (ez := [.int .u8 0, .int .u32 0, str []]) rfl p.args] at hst
 refine AL rfl <| NL <| SQ <| SR <| AI rfl <| NL <| run_block <| run_loop <| Run.indW [(1, .pointer (some ⟨_, _, none⟩)), (2, .pointer (some ⟨_, _, none⟩)), (3, .slice _ _ _)] ⟨rfl, rfl, rfl, trivial⟩ (fun (i : Nat) => [(4, .int .i64 (i : Int))]) (fun (i : Nat) => [Res.sl (some ⟨bC, 0, none⟩) p.args.length p.args.length 71 3 ((cpG zeroA p.args p.args.length i).flatMap argC)]) (fun (i : Nat) => i ≤ p.args.length) (fun (i : Nat) => p.args.length - i) (0) hst (Nat.zero_le _) ⟨rfl, trivial⟩ ?_
 intro i f w hst hJ ih1
 refine SQ <| SR <| MI rfl <| CN <| Op1.fieldAddr fld48_3 rfl <| CN <| Op1.load1 (v := .slice _ _ _) ty46 rfl rfl (hst.cellL (.tail _ (.tail _ (.head _))) rfl) <| CN <| Op1.lenSl (rest := []) ty46 rfl <| CN <| Op1.lss rfl rfl <| NL <| run_cond_dec rfl (fun g2 => ?_) (fun g2 => ?_)
 · skip
   refine run_skip <| SQ <| run_block <| RG <| ML rfl <| MI rfl <| CN <| Op1.fieldAddr fld48_3 rfl <| CN <| Op1.load1 (v := .slice _ _ _) ty46 rfl rfl (hst.cellL (.tail _ (.tail _ (.head _))) rfl) <| MI rfl <| CN <| Op1.indexRs ty46 ty71 (hst.hD _ (.head _)) rfl rfl (by omega) (by omega) <| CN <| Op1.loadA (vs := [.int .u8 _, .int .u32 _, str _]) ty71 rfl rfl rfl (Res.rs2_cells (m := 3) (hst.hD _ (.head _)) _ (flat_seg (g := argC) (d := zeroA) argC_len _ _ (by omega))) <| CN <| Op1.indexSl ty46 ty71 rfl rfl (by omega) (by omega) <| CN <| Op1.storeSl (v := .agg #[.int .u8 _, .int .u32 _, str _]) hst ty71 rfl rfl rfl rfl rfl (.here) (by simp only [List.length_cons, List.length_nil]; omega) fun w hst => NL <| run_inBlock ?_
   refine RG <| MI rfl <| CN <| Op1.addN rfl rfl rfl (wrap_i64 (by omega) (by omega)) <| AI rfl <| NL <| run_inLoop ?_
   exact ih1 (i + 1) _ w (by omega) (by (try dsimp only); rw [← cpG_step (g := argC) (es := 3) argC_len (i := i) (x := argC (p.args.getD i zeroA)) (by omega) rfl]; exact hst) (by omega) ⟨rfl, rfl, rfl, trivial⟩ ⟨(congrArg (Value.int .i64) (by omega)), trivial⟩
 obtain rfl : i = p.args.length := by omega
 rw [cpG_all] at hst
 refine run_exit (id := 0) rfl <| SR <| ML rfl <| CN <| Op1.fieldAddr fld48_3 rfl <| CN (SO (v := .slice _ _ _) hst ty46 rfl rfl (.there (.there (.here))) fun w hst => ?_)
 refine NSR <| CN <| Op1.loadA (vs := [.int .u16 _, .int .u32 _, .int .u32 _, .slice _ _ _]) ty48 rfl rfl rfl (cells_of_obj (n := 4) (hst.objL (.tail _ (.tail _ (.head _)))) _ rfl) <| CN (SO (v := .agg #[.int .u16 _, .int .u32 _, .int .u32 _, .slice _ _ _]) hst ty48 rfl rfl (.there (.here)) fun w hst => ?_)
 refine NL <| run_ret1 Try.func31 rfl (RV.cellA (vs := [.int .u16 _, .int .u32 _, .int .u32 _, .slice _ _ _]) rfl ty48 rfl rfl (cells_of_obj (n := 4) (hst.objL (.tail _ (.head _))) _ rfl)) ?_
 replace hst := hst.pick (.cons (.here) .nil)
 exact ⟨bC, rfl, hst.noD⟩
end Go.SK
