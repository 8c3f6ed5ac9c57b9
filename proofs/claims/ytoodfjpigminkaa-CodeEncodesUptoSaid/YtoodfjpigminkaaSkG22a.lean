/-
  Steps of functions, plain law, and walks of functions: what the laws rest on.
-/
import Derived.Test.YtoodfjpigminkaaSkG0d
import Derived.Test.YtoodfjpigminkaaSkG1a
import Derived.Test.YtoodfjpigminkaaSkG17a
import Derived.Test.YtoodfjpigminkaaSkG18a
set_option linter.unusedVariables false
set_option linter.unusedSimpArgs false
set_option linter.unusedSectionVars false
namespace Go.SK
open Go Go.Proofs
open Go.RowKit
theorem R3ref1_Split (b : List UInt8) (ao : Option Addr) (cp : Nat) (w : World) (hA : (Res.rs ao b.length 1 (b.flatMap byC)).holds w) (hl : b.length ≤ 240000000000000) : Ret Try.prog 37 #[.slice ao b.length cp] w (fun v w' => ∃ ro rc, v = .tuple #[.slice ro (splitL b).length rc, .int .i64 (splitE b)] ∧ St w NoM [Res.sl ro (splitL b).length rc 23 1 ((splitL b).flatMap u32C)] [] w') := by
 refine Ret.enter (args := [.slice ao b.length cp]) Try.func37 rfl rfl rfl ?_
 have hst : St w NoM [] [Res.rs ao b.length 1 (b.flatMap byC)] w := St.init_D hA
 clear hA
 refine SR <| AL rfl <| AI rfl <| NL <| SQ <| SR <| ML rfl <| CN <| Op1.lenSl (rest := []) ty22 rfl <| CN <| Op1.gtr rfl rfl <| NL <| run_cond_dec rfl (fun g1 => ?_) (fun g1 => ?_)
 · skip
   refine SR <| AL rfl <| AI rfl <| NL <| run_ret2 Try.func37 rfl (TP (v := .slice _ _ _) rfl) (TP (v := .int .i64 _) rfl) ?_
   replace hst := hst.pick .nil
   have he := splitE_large (b := b) (by omega)
   rw [splitL_err (by rw [he]; decide), he]
   exact ⟨none, 0, rfl, (hst.pushNil 23 1).noD⟩
 refine run_skip <| SQ <| SR <| ML rfl <| CN (Op1.lenSl (rest := []) ty22 rfl ?_)
 first | refine CN (Op1.remN rfl rfl (by omega) (by omega) rfl ?_) | refine CN (Op1.rem rfl rfl (by omega) ?_)
 refine CN <| Op1.neq rfl rfl <| NL <| run_cond_dec rfl (fun g2 => ?_) (fun g2 => ?_)
 · skip
   refine SR <| AL rfl <| AI rfl <| NL <| run_ret2 Try.func37 rfl (TP (v := .slice _ _ _) rfl) (TP (v := .int .i64 _) rfl) ?_
   replace hst := hst.pick .nil
   have he := splitE_odd (b := b) (by omega) (by omega)
   rw [splitL_err (by rw [he]; decide), he]
   exact ⟨none, 0, rfl, (hst.pushNil 23 1).noD⟩
 refine run_skip <| SR <| ML rfl <| CN (Op1.lenSl (rest := []) ty22 rfl ?_)
 first | refine CN (Op1.quoN rfl rfl (by omega) (by omega) rfl (wrap_i64 (by omega) (by omega)) ?_) | refine CN (Op1.quo rfl rfl (by omega) ?_)
 refine CN (Op1.makeSlV (k := b.length / 4) hst ty43 ty23 rfl rfl rfl (by decide) (by omega) (by omega) fun w bC hst => ?_)
 rw [cpG_zero (g := u32C) (d := (0 : Int)) (ez := [.int .u32 0]) rfl (splitW b)] at hst
 have hWl := splitW_len b
 refine AL rfl <| NL <| SQ <| SR <| AI rfl <| NL <| run_block <| run_loop <| Run.indW [(0, .slice _ _ _), (4, .slice _ _ _)] ⟨rfl, rfl, trivial⟩ (fun (i : Nat) => [(5, .int .i64 (i : Int))]) (fun (i : Nat) => [Res.sl (some ⟨bC, 0, none⟩) (b.length / 4) (b.length / 4) 23 1 ((cpG (0 : Int) (splitW b) (b.length / 4) i).flatMap u32C)]) (fun (i : Nat) => i ≤ b.length / 4) (fun (i : Nat) => b.length / 4 - i) (0) hst (Nat.zero_le _) ⟨rfl, trivial⟩ ?_
 intro i f w hst hJ ih3
 have hB0 := bget b (4 * (i : Int)).toNat
 have hB1 := bget b (4 * (i : Int) + 1).toNat
 have hB2 := bget b (4 * (i : Int) + 2).toNat
 have hB3 := bget b (4 * (i : Int) + 3).toNat
 refine SQ <| SR <| MI rfl <| ML rfl <| CN <| Op1.lenSl (rest := []) ty43 rfl <| CN <| Op1.lss rfl rfl <| NL <| run_cond_dec rfl (fun g4 => ?_) (fun g4 => ?_)
 · skip
   refine run_skip <| SQ <| run_block <| RunD.start [] hst (bs := [0, 0, 0, 0, 8, 28, 60, 124, 0, 0, 512, 1536, 3840, 7936, 16128, 32512, 65532, 0, 0, 262144, 786432, 1966080, 4063232, 8257536, 16646144, 33554428, 0, 0, 134217728, 402653184, 1006632960, 2080374784, 4227858432, 8522825728, 17179869180, 34359738367, 68719476735]) (ds := [some 23, some 24, some 25, some 26, some 27, some 28, some 29, some 30, some 31, some 32, some 33, some 34, some 35, some 36, some 37, some 38, some 39, some 40, some 41, some 42, some 43, some 44, some 45, some 46, some 47, some 48, some 49, some 50, some 51, some 52, some 53, some 54, some 55, some 56, some 57, some 58, none]) ⟨by kernel_rfl, by kernel_rfl, by kernel_rfl⟩ (fun tab5 => ?_)
   refine RunD.op (det _) tab5 1 (fun f' L' w' hc => Op1.move (v := .slice _ _ _) (hc.old (v := .slice _ _ _) rfl rfl rfl) ⟨[], ⟨rfl, rfl⟩, hc.st⟩) <| RunD.op (det _) tab5 2 (fun f' L' w' hc => Op1.move (v := .int .i64 _) (hc.old (v := .int .i64 _) rfl rfl rfl) ⟨[], ⟨rfl, rfl⟩, hc.st⟩) <| RunD.op (det _) tab5 3 (fun f' L' w' hc => Op1.move (v := .slice _ _ _) (hc.old (v := .slice _ _ _) rfl rfl rfl) ⟨[], ⟨rfl, rfl⟩, hc.st⟩) <| RunD.op (det _) tab5 4 (fun f' L' w' hc => Op1.move (v := .int .i64 _) (hc.old (v := .int .i64 _) rfl rfl rfl) ⟨[], ⟨rfl, rfl⟩, hc.st⟩) <| RunD.op (det _) tab5 5 (fun f' L' w' hc => Op1.mulN rfl (hc.det (j := 3) rfl rfl rfl rfl) rfl (wrap_i64 (by omega) (by omega)) ⟨[], ⟨rfl, rfl⟩, hc.st⟩) <| RunD.op (det _) tab5 6 (fun f' L' w' hc => Op1.indexRs ty22 ty5 (hc.st.hD _ (.head _)) (hc.det (j := 2) rfl rfl rfl rfl) (hc.det (j := 4) rfl rfl rfl rfl) (by omega) (by omega) ⟨[], ⟨rfl, rfl⟩, hc.st⟩) <| RunD.op (det _) tab5 7 (fun f' L' w' hc => Op1.load1 (v := .int .u8 _) ty5 rfl (hc.det (j := 5) rfl rfl rfl rfl) (Res.rs2_cell (hc.st.hD _ (.head _)) (flat_cell0 (g := byC) (d := 0) byC_len rfl (by omega))) ⟨[], ⟨rfl, rfl⟩, hc.st⟩) ?_
   first | refine RunD.op (det _) tab5 8 (fun f' L' w' hc => Op1.convN ty5 ty23 (hc.det (j := 6) rfl rfl rfl rfl) (wrap_u32 (by omega) (by omega)) ⟨[], ⟨rfl, rfl⟩, hc.st⟩) ?_ | refine RunD.op (det _) tab5 8 (fun f' L' w' hc => Op1.convN ty5 ty23 (hc.det (j := 6) rfl rfl rfl rfl) (wrapB_u32 _) ⟨[], ⟨rfl, rfl⟩, hc.st⟩) ?_ | refine RunD.op (det _) tab5 8 (fun f' L' w' hc => Op1.conv ty5 ty23 (hc.det (j := 6) rfl rfl rfl rfl) ⟨[], ⟨rfl, rfl⟩, hc.st⟩) ?_
   refine RunD.op (det _) tab5 9 (fun f' L' w' hc => Op1.move (v := .slice _ _ _) (hc.old (v := .slice _ _ _) rfl rfl rfl) ⟨[], ⟨rfl, rfl⟩, hc.st⟩) <| RunD.op (det _) tab5 10 (fun f' L' w' hc => Op1.move (v := .int .i64 _) (hc.old (v := .int .i64 _) rfl rfl rfl) ⟨[], ⟨rfl, rfl⟩, hc.st⟩) <| RunD.op (det _) tab5 11 (fun f' L' w' hc => Op1.mulN rfl (hc.det (j := 9) rfl rfl rfl rfl) rfl (wrap_i64 (by omega) (by omega)) ⟨[], ⟨rfl, rfl⟩, hc.st⟩) <| RunD.op (det _) tab5 12 (fun f' L' w' hc => Op1.addN (hc.det (j := 10) rfl rfl rfl rfl) rfl rfl (wrap_i64 (by omega) (by omega)) ⟨[], ⟨rfl, rfl⟩, hc.st⟩) <| RunD.op (det _) tab5 13 (fun f' L' w' hc => Op1.indexRs ty22 ty5 (hc.st.hD _ (.head _)) (hc.det (j := 8) rfl rfl rfl rfl) (hc.det (j := 11) rfl rfl rfl rfl) (by omega) (by omega) ⟨[], ⟨rfl, rfl⟩, hc.st⟩) <| RunD.op (det _) tab5 14 (fun f' L' w' hc => Op1.load1 (v := .int .u8 _) ty5 rfl (hc.det (j := 12) rfl rfl rfl rfl) (Res.rs2_cell (hc.st.hD _ (.head _)) (flat_cell0 (g := byC) (d := 0) byC_len rfl (by omega))) ⟨[], ⟨rfl, rfl⟩, hc.st⟩) ?_
   first | refine RunD.op (det _) tab5 15 (fun f' L' w' hc => Op1.convN ty5 ty23 (hc.det (j := 13) rfl rfl rfl rfl) (wrap_u32 (by omega) (by omega)) ⟨[], ⟨rfl, rfl⟩, hc.st⟩) ?_ | refine RunD.op (det _) tab5 15 (fun f' L' w' hc => Op1.convN ty5 ty23 (hc.det (j := 13) rfl rfl rfl rfl) (wrapB_u32 _) ⟨[], ⟨rfl, rfl⟩, hc.st⟩) ?_ | refine RunD.op (det _) tab5 15 (fun f' L' w' hc => Op1.conv ty5 ty23 (hc.det (j := 13) rfl rfl rfl rfl) ⟨[], ⟨rfl, rfl⟩, hc.st⟩) ?_
   refine RunD.op (det _) tab5 16 (fun f' L' w' hc => Op1.mulN rfl (hc.det (j := 14) rfl rfl rfl rfl) rfl (wrap_u32 (by omega) (by omega)) ⟨[], ⟨rfl, rfl⟩, hc.st⟩) <| RunD.op (det _) tab5 17 (fun f' L' w' hc => Op1.addN (hc.det (j := 7) rfl rfl rfl rfl) (hc.det (j := 15) rfl rfl rfl rfl) rfl (wrap_u32 (by omega) (by omega)) ⟨[], ⟨rfl, rfl⟩, hc.st⟩) <| RunD.op (det _) tab5 18 (fun f' L' w' hc => Op1.move (v := .slice _ _ _) (hc.old (v := .slice _ _ _) rfl rfl rfl) ⟨[], ⟨rfl, rfl⟩, hc.st⟩) <| RunD.op (det _) tab5 19 (fun f' L' w' hc => Op1.move (v := .int .i64 _) (hc.old (v := .int .i64 _) rfl rfl rfl) ⟨[], ⟨rfl, rfl⟩, hc.st⟩) <| RunD.op (det _) tab5 20 (fun f' L' w' hc => Op1.mulN rfl (hc.det (j := 18) rfl rfl rfl rfl) rfl (wrap_i64 (by omega) (by omega)) ⟨[], ⟨rfl, rfl⟩, hc.st⟩) <| RunD.op (det _) tab5 21 (fun f' L' w' hc => Op1.addN (hc.det (j := 19) rfl rfl rfl rfl) rfl rfl (wrap_i64 (by omega) (by omega)) ⟨[], ⟨rfl, rfl⟩, hc.st⟩) <| RunD.op (det _) tab5 22 (fun f' L' w' hc => Op1.indexRs ty22 ty5 (hc.st.hD _ (.head _)) (hc.det (j := 17) rfl rfl rfl rfl) (hc.det (j := 20) rfl rfl rfl rfl) (by omega) (by omega) ⟨[], ⟨rfl, rfl⟩, hc.st⟩) <| RunD.op (det _) tab5 23 (fun f' L' w' hc => Op1.load1 (v := .int .u8 _) ty5 rfl (hc.det (j := 21) rfl rfl rfl rfl) (Res.rs2_cell (hc.st.hD _ (.head _)) (flat_cell0 (g := byC) (d := 0) byC_len rfl (by omega))) ⟨[], ⟨rfl, rfl⟩, hc.st⟩) ?_
   first | refine RunD.op (det _) tab5 24 (fun f' L' w' hc => Op1.convN ty5 ty23 (hc.det (j := 22) rfl rfl rfl rfl) (wrap_u32 (by omega) (by omega)) ⟨[], ⟨rfl, rfl⟩, hc.st⟩) ?_ | refine RunD.op (det _) tab5 24 (fun f' L' w' hc => Op1.convN ty5 ty23 (hc.det (j := 22) rfl rfl rfl rfl) (wrapB_u32 _) ⟨[], ⟨rfl, rfl⟩, hc.st⟩) ?_ | refine RunD.op (det _) tab5 24 (fun f' L' w' hc => Op1.conv ty5 ty23 (hc.det (j := 22) rfl rfl rfl rfl) ⟨[], ⟨rfl, rfl⟩, hc.st⟩) ?_
   refine RunD.op (det _) tab5 25 (fun f' L' w' hc => Op1.mulN rfl (hc.det (j := 23) rfl rfl rfl rfl) rfl (wrap_u32 (by omega) (by omega)) ⟨[], ⟨rfl, rfl⟩, hc.st⟩) <| RunD.op (det _) tab5 26 (fun f' L' w' hc => Op1.addN (hc.det (j := 16) rfl rfl rfl rfl) (hc.det (j := 24) rfl rfl rfl rfl) rfl (wrap_u32 (by omega) (by omega)) ⟨[], ⟨rfl, rfl⟩, hc.st⟩) <| RunD.op (det _) tab5 27 (fun f' L' w' hc => Op1.move (v := .slice _ _ _) (hc.old (v := .slice _ _ _) rfl rfl rfl) ⟨[], ⟨rfl, rfl⟩, hc.st⟩) <| RunD.op (det _) tab5 28 (fun f' L' w' hc => Op1.move (v := .int .i64 _) (hc.old (v := .int .i64 _) rfl rfl rfl) ⟨[], ⟨rfl, rfl⟩, hc.st⟩) <| RunD.op (det _) tab5 29 (fun f' L' w' hc => Op1.mulN rfl (hc.det (j := 27) rfl rfl rfl rfl) rfl (wrap_i64 (by omega) (by omega)) ⟨[], ⟨rfl, rfl⟩, hc.st⟩) <| RunD.op (det _) tab5 30 (fun f' L' w' hc => Op1.addN (hc.det (j := 28) rfl rfl rfl rfl) rfl rfl (wrap_i64 (by omega) (by omega)) ⟨[], ⟨rfl, rfl⟩, hc.st⟩) <| RunD.op (det _) tab5 31 (fun f' L' w' hc => Op1.indexRs ty22 ty5 (hc.st.hD _ (.head _)) (hc.det (j := 26) rfl rfl rfl rfl) (hc.det (j := 29) rfl rfl rfl rfl) (by omega) (by omega) ⟨[], ⟨rfl, rfl⟩, hc.st⟩) <| RunD.op (det _) tab5 32 (fun f' L' w' hc => Op1.load1 (v := .int .u8 _) ty5 rfl (hc.det (j := 30) rfl rfl rfl rfl) (Res.rs2_cell (hc.st.hD _ (.head _)) (flat_cell0 (g := byC) (d := 0) byC_len rfl (by omega))) ⟨[], ⟨rfl, rfl⟩, hc.st⟩) ?_
   first | refine RunD.op (det _) tab5 33 (fun f' L' w' hc => Op1.convN ty5 ty23 (hc.det (j := 31) rfl rfl rfl rfl) (wrap_u32 (by omega) (by omega)) ⟨[], ⟨rfl, rfl⟩, hc.st⟩) ?_ | refine RunD.op (det _) tab5 33 (fun f' L' w' hc => Op1.convN ty5 ty23 (hc.det (j := 31) rfl rfl rfl rfl) (wrapB_u32 _) ⟨[], ⟨rfl, rfl⟩, hc.st⟩) ?_ | refine RunD.op (det _) tab5 33 (fun f' L' w' hc => Op1.conv ty5 ty23 (hc.det (j := 31) rfl rfl rfl rfl) ⟨[], ⟨rfl, rfl⟩, hc.st⟩) ?_
   refine RunD.op (det _) tab5 34 (fun f' L' w' hc => Op1.mulN rfl (hc.det (j := 32) rfl rfl rfl rfl) rfl (wrap_u32 (by omega) (by omega)) ⟨[], ⟨rfl, rfl⟩, hc.st⟩) <| RunD.op (det _) tab5 35 (fun f' L' w' hc => Op1.addN (hc.det (j := 25) rfl rfl rfl rfl) (hc.det (j := 33) rfl rfl rfl rfl) rfl (wrap_u32 (by omega) (by omega)) ⟨[], ⟨rfl, rfl⟩, hc.st⟩) <| RunD.fin followsMixed tab5 hst rfl (fun f6 w R9 hs7 hd8 hr10 hst => ?_)
   obtain ⟨h23_, r0⟩ := hd8 0 23 rfl rfl
   obtain ⟨h24_, r1⟩ := hd8 1 24 rfl rfl
   obtain ⟨h25_, r2⟩ := hd8 2 25 rfl rfl
   obtain ⟨h26_, r3⟩ := hd8 3 26 rfl rfl
   obtain ⟨h27_, r4⟩ := hd8 4 27 rfl rfl
   obtain ⟨h28_, r5⟩ := hd8 5 28 rfl rfl
   obtain ⟨h29_, r6⟩ := hd8 6 29 rfl rfl
   obtain ⟨h30_, r7⟩ := hd8 7 30 rfl rfl
   obtain ⟨h31_, r8⟩ := hd8 8 31 rfl rfl
   obtain ⟨h32_, r9⟩ := hd8 9 32 rfl rfl
   obtain ⟨h33_, r10⟩ := hd8 10 33 rfl rfl
   obtain ⟨h34_, r11⟩ := hd8 11 34 rfl rfl
   obtain ⟨h35_, r12⟩ := hd8 12 35 rfl rfl
   obtain ⟨h36_, r13⟩ := hd8 13 36 rfl rfl
   obtain ⟨h37_, r14⟩ := hd8 14 37 rfl rfl
   obtain ⟨h38_, r15⟩ := hd8 15 38 rfl rfl
   obtain ⟨h39_, r16⟩ := hd8 16 39 rfl rfl
   obtain ⟨h40_, r17⟩ := hd8 17 40 rfl rfl
   obtain ⟨h41_, r18⟩ := hd8 18 41 rfl rfl
   obtain ⟨h42_, r19⟩ := hd8 19 42 rfl rfl
   obtain ⟨h43_, r20⟩ := hd8 20 43 rfl rfl
   obtain ⟨h44_, r21⟩ := hd8 21 44 rfl rfl
   obtain ⟨h45_, r22⟩ := hd8 22 45 rfl rfl
   obtain ⟨h46_, r23⟩ := hd8 23 46 rfl rfl
   obtain ⟨h47_, r24⟩ := hd8 24 47 rfl rfl
   obtain ⟨h48_, r25⟩ := hd8 25 48 rfl rfl
   obtain ⟨h49_, r26⟩ := hd8 26 49 rfl rfl
   obtain ⟨h50_, r27⟩ := hd8 27 50 rfl rfl
   obtain ⟨h51_, r28⟩ := hd8 28 51 rfl rfl
   obtain ⟨h52_, r29⟩ := hd8 29 52 rfl rfl
   obtain ⟨h53_, r30⟩ := hd8 30 53 rfl rfl
   obtain ⟨h54_, r31⟩ := hd8 31 54 rfl rfl
   obtain ⟨h55_, r32⟩ := hd8 32 55 rfl rfl
   obtain ⟨h56_, r33⟩ := hd8 33 56 rfl rfl
   obtain ⟨h57_, r34⟩ := hd8 34 57 rfl rfl
   simp only [show List.range 35 = [0, 1, 2, 3, 4, 5, 6, 7, 8, 9, 10, 11, 12, 13, 14, 15, 16, 17, 18, 19, 20, 21, 22, 23, 24, 25, 26, 27, 28, 29, 30, 31, 32, 33, 34] from rfl, List.flatMap_cons, List.flatMap_nil, List.map_cons, List.map_nil, r0, r1, r2, r3, r4, r5, r6, r7, r8, r9, r10, r11, r12, r13, r14, r15, r16, r17, r18, r19, r20, r21, r22, r23, r24, r25, r26, r27, r28, r29, r30, r31, r32, r33, r34, List.nil_append, List.append_nil, List.cons_append] at hst
   refine RunL.slots (sl := [(0, .slice _ _ _), (4, .slice _ _ _), (5, .int .i64 _), (23, .slice _ _ _), (24, .int .i64 _), (57, .int .u32 _)]) ⟨(hs7 0 rfl).trans rfl, (hs7 4 rfl).trans rfl, (hs7 5 rfl).trans rfl, h23_, h24_, h57_, trivial⟩ ?_
   clear hs7 hd8 hr10 tab5
   refine CN <| Op1.indexSl ty43 ty23 rfl rfl (by omega) (by omega) <| CN <| Op1.storeSl (v := .int .u32 _) hst ty23 rfl rfl rfl rfl rfl (.here) (by simp only [List.length_cons, List.length_nil]; omega) fun w hst => NL <| run_inBlock <| Run.forget [(0, .slice _ _ _), (4, .slice _ _ _), (5, .int .i64 _)] ⟨rfl, rfl, rfl, trivial⟩ fun f => RG <| MI rfl <| CN <| Op1.addN rfl rfl rfl (wrap_i64 (by omega) (by omega)) <| AI rfl <| NL <| run_inLoop ?_
   exact ih3 (i + 1) _ w (by omega) (by (try dsimp only); rw [← cpG_stepN (g := u32C) (es := 1) u32C_len (i := i) (x := u32C (wordAt b i)) hWl.symm (by omega) (by rw [splitW_get (by omega)])]; exact hst) (by omega) ⟨rfl, rfl, trivial⟩ ⟨(congrArg (Value.int .i64) (by omega)), trivial⟩
 obtain rfl : i = b.length / 4 := by omega
 rw [cpG_allN _ hWl.symm] at hst
 refine run_exit (id := 0) rfl <| SR <| ML rfl <| AL rfl <| AI rfl <| NL <| run_ret2 Try.func37 rfl (TP (v := .slice _ _ _) rfl) (TP (v := .int .i64 _) rfl) ?_
 replace hst := hst.pick (.cons (.here) .nil)
 have he := splitE_ok (b := b) (by omega) (by omega)
 rw [splitL_ok he, he, splitW_len]
 exact ⟨_, _, rfl, hst.noD⟩
end Go.SK
namespace Go.SK
open Go Go.Proofs
theorem ent37 : Enters Try.prog 37 := ⟨Try.f37, _, Try.func37, by kernel_rfl, rfl⟩
end Go.SK
