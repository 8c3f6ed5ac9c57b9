/-
  Steps of functions, plain law, and walks of functions: what the laws rest on.
-/
import Derived.Test.YtoodfjpigminkaaSkG0d
import Derived.Test.YtoodfjpigminkaaSkG1a
import Derived.Test.YtoodfjpigminkaaSkG2a
set_option linter.unusedVariables false
set_option linter.unusedSimpArgs false
set_option linter.unusedSectionVars false
namespace Go.SK
open Go Go.Proofs
open Go.RowKit
theorem R3wd_Bytes (l m : List UInt8) (ao bo : Option Addr) (cp cq : Nat) (w : World) (hA : (Res.rs ao l.length 1 (l.flatMap byC)).holds w) (hB : (Res.rs bo m.length 1 (m.flatMap byC)).holds w) (hl : l.length ≤ 9000000000000000000) : Ret Try.prog 17 #[.slice ao l.length cp, .slice bo m.length cq] w (fun v w' => v = .bool (decide (l = m)) ∧ St w NoM [] [] w') := by
 refine Ret.enter (args := [.slice ao l.length cp, .slice bo m.length cq]) Try.func17 rfl rfl rfl ?_
 have hst : St w NoM [] [Res.rs ao l.length 1 (l.flatMap byC), Res.rs bo m.length 1 (m.flatMap byC)] w := St.init_Ds (fun d hd => by cases hd with | head => exact hA | tail _ hd => cases hd with | head => exact hB | tail _ h => cases h)
 clear hA hB
 refine SR <| AB rfl <| NL <| SQ <| SR <| ML rfl <| CN <| Op1.lenSl (rest := []) ty22 rfl <| ML rfl <| CN <| Op1.lenSl (rest := []) ty22 rfl <| CN <| Op1.neq rfl rfl <| NL <| run_cond_dec rfl (fun g1 => ?_) (fun g1 => ?_)
 · skip
   refine SR <| AB rfl <| NL <| run_ret1 Try.func17 rfl (TP (v := .bool _) rfl) ?_
   exact ⟨congrArg Value.bool (decide_eq_false (fun h => by have := congrArg List.length h; omega)).symm, hst.pure⟩
 refine run_skip <| SQ <| SR <| AI rfl <| NL <| run_block <| run_loop <| Run.indW [(0, .slice _ _ _), (1, .slice _ _ _)] ⟨rfl, rfl, trivial⟩ (fun (i : Nat) => [(5, .int .i64 (i : Int))]) (fun (i : Nat) => []) (fun (i : Nat) => i ≤ l.length ∧ ∀ j, j < i → l.getD j 0 = m.getD j 0) (fun (i : Nat) => l.length - i) (0) hst ⟨Nat.zero_le _, fun j hj => absurd hj (by omega)⟩ ⟨rfl, trivial⟩ ?_
 intro i f w hst hJ ih2
 refine SQ <| SR <| MI rfl <| ML rfl <| CN <| Op1.lenSl (rest := []) ty22 rfl <| CN <| Op1.lss rfl rfl <| NL <| run_cond_dec rfl (fun g3 => ?_) (fun g3 => ?_)
 · skip
   refine run_skip <| SQ <| run_block <| SQ <| RunD.start [] hst (bs := [0, 0, 3, 7, 0, 0, 48, 112, 255]) (ds := [some 17, some 18, some 19, some 20, some 21, some 22, some 23, some 24, some 25]) ⟨by kernel_rfl, by kernel_rfl, by kernel_rfl⟩ (fun tab4 => ?_)
   refine RunD.op (det _) tab4 1 (fun f' L' w' hc => Op1.move (v := .slice _ _ _) (hc.old (v := .slice _ _ _) rfl rfl rfl) ⟨[], ⟨rfl, rfl⟩, hc.st⟩) <| RunD.op (det _) tab4 2 (fun f' L' w' hc => Op1.move (v := .int .i64 _) (hc.old (v := .int .i64 _) rfl rfl rfl) ⟨[], ⟨rfl, rfl⟩, hc.st⟩) <| RunD.op (det _) tab4 3 (fun f' L' w' hc => Op1.indexRs ty22 ty5 (hc.st.hD _ (.head _)) (hc.det (j := 0) rfl rfl rfl rfl) (hc.det (j := 1) rfl rfl rfl rfl) (by omega) (by omega) ⟨[], ⟨rfl, rfl⟩, hc.st⟩) <| RunD.op (det _) tab4 4 (fun f' L' w' hc => Op1.load1 (v := .int .u8 _) ty5 rfl (hc.det (j := 2) rfl rfl rfl rfl) (Res.rs2_cell (hc.st.hD _ (.head _)) (flat_cell0 (g := byC) (d := 0) byC_len rfl (by omega))) ⟨[], ⟨rfl, rfl⟩, hc.st⟩) <| RunD.op (det _) tab4 5 (fun f' L' w' hc => Op1.move (v := .slice _ _ _) (hc.old (v := .slice _ _ _) rfl rfl rfl) ⟨[], ⟨rfl, rfl⟩, hc.st⟩) <| RunD.op (det _) tab4 6 (fun f' L' w' hc => Op1.move (v := .int .i64 _) (hc.old (v := .int .i64 _) rfl rfl rfl) ⟨[], ⟨rfl, rfl⟩, hc.st⟩) <| RunD.op (det _) tab4 7 (fun f' L' w' hc => Op1.indexRs ty22 ty5 (hc.st.hD _ (.tail _ (.head _))) (hc.det (j := 4) rfl rfl rfl rfl) (hc.det (j := 5) rfl rfl rfl rfl) (by omega) (by omega) ⟨[], ⟨rfl, rfl⟩, hc.st⟩) <| RunD.op (det _) tab4 8 (fun f' L' w' hc => Op1.load1 (v := .int .u8 _) ty5 rfl (hc.det (j := 6) rfl rfl rfl rfl) (Res.rs2_cell (hc.st.hD _ (.tail _ (.head _))) (flat_cell0 (g := byC) (d := 0) byC_len rfl (by omega))) ⟨[], ⟨rfl, rfl⟩, hc.st⟩) <| RunD.fin followsMixed tab4 hst rfl (fun f5 w R8 hs6 hd7 hr9 hst => ?_)
   obtain ⟨h17_, r0⟩ := hd7 0 17 rfl rfl
   obtain ⟨h18_, r1⟩ := hd7 1 18 rfl rfl
   obtain ⟨h19_, r2⟩ := hd7 2 19 rfl rfl
   obtain ⟨h20_, r3⟩ := hd7 3 20 rfl rfl
   obtain ⟨h21_, r4⟩ := hd7 4 21 rfl rfl
   obtain ⟨h22_, r5⟩ := hd7 5 22 rfl rfl
   obtain ⟨h23_, r6⟩ := hd7 6 23 rfl rfl
   obtain ⟨h24_, r7⟩ := hd7 7 24 rfl rfl
   simp only [show List.range 8 = [0, 1, 2, 3, 4, 5, 6, 7] from rfl, List.flatMap_cons, List.flatMap_nil, List.map_cons, List.map_nil, r0, r1, r2, r3, r4, r5, r6, r7, List.nil_append, List.append_nil, List.cons_append] at hst
   refine RunL.slots (sl := [(0, .slice _ _ _), (1, .slice _ _ _), (5, .int .i64 _), (20, .int .u8 _), (24, .int .u8 _)]) ⟨(hs6 0 rfl).trans rfl, (hs6 1 rfl).trans rfl, (hs6 5 rfl).trans rfl, h20_, h24_, trivial⟩ ?_
   clear hs6 hd7 hr9 tab4
   refine CN <| Op1.neq rfl rfl <| NL <| run_cond_dec rfl (fun g10 => ?_) (fun g10 => ?_)
   · skip
     refine SR <| AB rfl <| NL <| run_ret1 Try.func17 rfl (TP (v := .bool _) rfl) ?_
     exact ⟨congrArg Value.bool (decide_eq_false (fun h => by have hg := g10; rw [h] at hg; simp at hg)).symm, hst.pure⟩
   refine run_skip <| run_inBlock <| RG <| MI rfl <| CN <| Op1.addN rfl rfl rfl (wrap_i64 (by omega) (by omega)) <| AI rfl <| NL <| run_inLoop ?_
   exact ih2 (i + 1) _ w (by omega) hst (⟨by omega, step_all hJ.2 (u8_ext (by have hg := g10; simpa using hg))⟩) ⟨rfl, rfl, trivial⟩ ⟨(congrArg (Value.int .i64) (by omega)), trivial⟩
 refine run_exit (id := 0) rfl <| SR <| AB rfl <| NL <| run_ret1 Try.func17 rfl (TP (v := .bool _) rfl) ?_
 exact ⟨congrArg Value.bool (decide_eq_true (list_ext_getD2 0 (by omega) (fun j hj => hJ.2 j (by omega)))).symm, hst.pure⟩
end Go.SK
namespace Go.SK
open Go Go.Proofs
theorem ent17 : Enters Try.prog 17 := ⟨Try.f17, _, Try.func17, by kernel_rfl, rfl⟩
end Go.SK
