/-
  Steps of functions, plain law, and walks of functions: what the laws rest on.
-/
import Derived.Test.YtoodfjpigminkaaSkG0d
import Derived.Test.YtoodfjpigminkaaSkG2a
import Derived.Test.YtoodfjpigminkaaSkG9a
import Derived.Test.YtoodfjpigminkaaSkG18a
set_option linter.unusedVariables false
set_option linter.unusedSimpArgs false
set_option linter.unusedSectionVars false
namespace Go.SK
open Go.RowKit
theorem wrap_u8 {n : Int} (h1 : 0 ≤ n) (h2 : n ≤ 255) : IntKind.u8.wrap n = n := by
  simp [IntKind.wrap, IntKind.bits, IntKind.signed]; omega
end Go.SK
namespace Go.SK
open Go Go.Proofs
open Go.RowKit
theorem R3ref1_Byte (l : List Int) (hw : Wd l) (k : Nat) (hk : k < 4 * l.length) (ao : Option Addr) (cp : Nat) (w : World) (hA : (Res.rs ao l.length 1 (l.flatMap u32C)).holds w) (hl : l.length ≤ 35184372088832) : Ret Try.prog 73 #[.slice ao l.length cp, .int .i64 (k : Int)] w (fun v w' => v = .int .u8 ((byteAt l k).toNat : Int) ∧ St w NoM [] [] w') := by
 refine Ret.enter (args := [.slice ao l.length cp, .int .i64 (k : Int)]) Try.func73 rfl rfl rfl ?_
 have hst : St w NoM [] [Res.rs ao l.length 1 (l.flatMap u32C)] w := St.init_D hA
 clear hA
 refine SR <| AC rfl <| NSR <| ML rfl <| MI rfl ?_
 first | refine CN (Op1.quoN rfl rfl (by omega) (by omega) rfl (wrap_i64 (by omega) (by omega)) ?_) | refine CN (Op1.quo rfl rfl (by omega) ?_)
 refine CN <| Op1.indexRs ty43 ty23 (hst.hD _ (.head _)) rfl rfl (by omega) (by omega) <| CN <| Op1.load1 (v := .int .u32 _) ty23 rfl rfl (Res.rs2_cell (hst.hD _ (.head _)) (flat_cell0 (g := u32C) (d := 0) u32C_len rfl (by omega))) <| AU rfl <| NL <| SQ <| SR <| AI rfl <| NL <| run_block <| run_loop <| Run.indW [(1, .int .i64 _)] ⟨rfl, trivial⟩ (fun (q : Nat × Int) => [(5, .int .u32 q.2), (6, .int .i64 (q.1 : Int))]) (fun (q : Nat × Int) => []) (fun (q : Nat × Int) => q.1 ≤ k % 4 ∧ q.2 = l.getD (k / 4) 0 / 256 ^ q.1 ∧ 0 ≤ q.2 ∧ q.2 < 4294967296) (fun (q : Nat × Int) => k % 4 - q.1) ((0, l.getD (k / 4) 0)) hst ⟨Nat.zero_le _, (by (try dsimp only); rw [Int.pow_zero, Int.ediv_one]), (hw.get _).1, (hw.get _).2⟩ ⟨rfl, rfl, trivial⟩ ?_
 intro ⟨i, y⟩ f w hst hJ ih1
 replace hst : St _ _ ([] ++ []) _ _ := hst
 replace hJ : i ≤ k % 4 ∧ y = l.getD (k / 4) 0 / 256 ^ i ∧ 0 ≤ y ∧ y < 4294967296 := hJ
 refine Run.slots (sl := [(5, .int .u32 y), (6, .int .i64 (i : Int))]) ⟨rfl, rfl, trivial⟩ <| SQ <| SR <| MI rfl <| MI rfl ?_
 first | refine CN (Op1.remN rfl rfl (by omega) (by omega) rfl ?_) | refine CN (Op1.rem rfl rfl (by omega) ?_)
 refine CN <| Op1.lss rfl rfl <| NL <| run_cond_dec rfl (fun g2 => ?_) (fun g2 => ?_)
 · skip
   refine run_skip <| SQ <| run_block <| RG <| MU rfl ?_
   first | refine CN (Op1.quoN rfl rfl (by omega) (by omega) rfl (wrap_u32 (by omega) (by omega)) ?_) | refine CN (Op1.quo rfl rfl (by omega) ?_)
   refine AU rfl <| NL <| run_inBlock <| RG <| MI rfl <| CN <| Op1.addN rfl rfl rfl (wrap_i64 (by omega) (by omega)) <| AI rfl <| NL <| run_inLoop ?_
   exact ih1 ((i + 1, y / 256)) _ w (by (try dsimp only); omega) hst (⟨by (try dsimp only); omega, (by (try dsimp only); rw [hJ.2.1]; exact div_step _ _), by (try dsimp only); omega, by (try dsimp only); omega⟩) ⟨rfl, trivial⟩ ⟨rfl, (congrArg (Value.int .i64) (by (try dsimp only); omega)), trivial⟩
 refine run_exit (id := 0) rfl <| SR <| MU rfl ?_
 first | refine CN (Op1.remN rfl rfl (by omega) (by omega) rfl ?_) | refine CN (Op1.rem rfl rfl (by omega) ?_)
 first | refine CN (Op1.convN ty23 ty5 rfl (wrap_u8 (by omega) (by omega)) ?_) | refine CN (Op1.conv ty23 ty5 rfl ?_)
 refine AC rfl <| NL <| run_ret1 Try.func73 rfl (TP (v := .int .u8 _) rfl) <| ⟨congrArg (Value.int .u8) ?_, hst.pure⟩
 obtain rfl : i = k % 4 := by omega
 rw [byteAt, byteU_nat, ← hJ.2.1]
end Go.SK
namespace Go.SK
open Go Go.Proofs
theorem ent73 : Enters Try.prog 73 := ⟨Try.f73, _, Try.func73, by kernel_rfl, rfl⟩
end Go.SK
