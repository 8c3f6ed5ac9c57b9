/-
  Steps of functions, plain law, and walks of functions: what the laws rest on.
-/
import Derived.Test.YtoodfjpigminkaaSkG0d
import Derived.Test.YtoodfjpigminkaaSkG2a
import Derived.Test.YtoodfjpigminkaaSkG4a
import Derived.Test.YtoodfjpigminkaaSkG5a
import Derived.Test.YtoodfjpigminkaaSkG9a
import Derived.Test.YtoodfjpigminkaaSkG12a
import Derived.Test.YtoodfjpigminkaaSkG20a
set_option linter.unusedVariables false
set_option linter.unusedSimpArgs false
set_option linter.unusedSectionVars false
namespace Go.SK
open Go Go.Proofs
open Go.RowKit
theorem R3wd_CopyWords (l : List Int) (ao : Option Addr) (cp : Nat) (w : World) (hA : (Res.rs ao l.length 1 (l.flatMap u32C)).holds w) (hl : l.length ≤ 35184372088832) : Ret Try.prog 25 #[.slice ao l.length cp] w (fun v w' => ∃ bC, v = .slice (some ⟨bC, 0, none⟩) l.length l.length ∧ St w NoM [Res.sl (some ⟨bC, 0, none⟩) l.length l.length 23 1 (l.flatMap u32C)] [] w') := by
 refine Ret.enter (args := [.slice ao l.length cp]) Try.func25 rfl rfl rfl ?_
 have hst : St w NoM [] [Res.rs ao l.length 1 (l.flatMap u32C)] w := St.init_D hA
 clear hA
 refine SR <| AL rfl <| NSR <| ML rfl <| CN <| Op1.lenSl (rest := []) ty43 rfl <| CN (Op1.makeSlV hst ty43 ty23 rfl rfl rfl (by decide) (by omega) (by omega) fun w bC hst => ?_)
 rw [cpG_zero (g := u32C) (d := (0 : Int)) (ez := [.int .u32 0]) rfl l] at hst
 refine AL rfl <| NL <| SQ <| SR <| AI rfl <| NL <| run_block <| run_loop <| Run.indW [(0, .slice _ _ _), (3, .slice _ _ _)] ⟨rfl, rfl, trivial⟩ (fun (i : Nat) => [(4, .int .i64 (i : Int))]) (fun (i : Nat) => [Res.sl (some ⟨bC, 0, none⟩) l.length l.length 23 1 ((cpG (0 : Int) l l.length i).flatMap u32C)]) (fun (i : Nat) => i ≤ l.length) (fun (i : Nat) => l.length - i) (0) hst (Nat.zero_le _) ⟨rfl, trivial⟩ ?_
 intro i f w hst hJ ih1
 refine SQ <| SR <| MI rfl <| ML rfl <| CN <| Op1.lenSl (rest := []) ty43 rfl <| CN <| Op1.lss rfl rfl <| NL <| run_cond_dec rfl (fun g2 => ?_) (fun g2 => ?_)
 · skip
   refine run_skip <| SQ <| run_block <| RG <| ML rfl <| MI rfl <| ML rfl <| MI rfl <| CN <| Op1.indexRs ty43 ty23 (hst.hD _ (.head _)) rfl rfl (by omega) (by omega) <| CN <| Op1.load1 (v := .int .u32 _) ty23 rfl rfl (Res.rs2_cell (hst.hD _ (.head _)) (flat_cell0 (g := u32C) (d := 0) u32C_len rfl (by omega))) <| CN <| Op1.indexSl ty43 ty23 rfl rfl (by omega) (by omega) <| CN <| Op1.storeSl (v := .int .u32 _) hst ty23 rfl rfl rfl rfl rfl (.here) (by simp only [List.length_cons, List.length_nil]; omega) fun w hst => NL <| run_inBlock <| RG ?_
   refine MI rfl <| CN <| Op1.addN rfl rfl rfl (wrap_i64 (by omega) (by omega)) <| AI rfl <| NL <| run_inLoop ?_
   exact ih1 (i + 1) _ w (by omega) (by (try dsimp only); rw [← cpG_step (g := u32C) (es := 1) u32C_len (i := i) (x := u32C (l.getD i 0)) (by omega) rfl]; exact hst) (by omega) ⟨rfl, rfl, trivial⟩ ⟨(congrArg (Value.int .i64) (by omega)), trivial⟩
 obtain rfl : i = l.length := by omega
 rw [cpG_all] at hst
 refine run_exit (id := 0) rfl <| SR <| ML rfl <| AL rfl <| NL <| run_ret1 Try.func25 rfl (TP (v := .slice _ _ _) rfl) ?_
 replace hst := hst.pick (.cons (.here) .nil)
 exact ⟨bC, rfl, hst.noD⟩
end Go.SK
namespace Go.SK
open Go Go.Proofs
theorem ent25 : Enters Try.prog 25 := ⟨Try.f25, _, Try.func25, by kernel_rfl, rfl⟩
end Go.SK
