/-
  Steps of functions, plain law, and walks of functions: what the laws rest on.
-/
import Derived.Test.YtalnjboddfedjaaDoorSkG0b
import Derived.Test.YtalnjboddfedjaaDoorSkG1a
import Derived.Test.YtalnjboddfedjaaDoorSkG4a
import Derived.Test.YtalnjboddfedjaaDoorSkG6a
set_option linter.unusedVariables false
set_option linter.unusedSimpArgs false
set_option linter.unusedSectionVars false
namespace Go.SK
open Go.RowKit
section
variable {ao : Option Addr} {n es : Nat} {xs : List Value} {w : World}
theorem Res.rs2_cellF {k f : Nat} {v : Value} (h : (Res.rs ao n es xs).holds w) (hv : xs[0 + k + f]? = some v) : w.cell? ⟨Rb ao, Ro ao + k + f, none⟩ = some v := by
  rw [Nat.zero_add] at hv
  have := Res.rs_all2 h (k + f) v hv
  rwa [← Nat.add_assoc] at this
end
end Go.SK
namespace Go.SK
def likeB (a b : TokL) : Bool := decide (a.kind = b.kind ∧ a.text = b.text)
def allLx (p : TokL → TokL → Bool) (a b : List TokL) : Bool := decide (a.length = b.length) && (List.range a.length).all fun i => p (a.getD i tok0) (b.getD i tok0)
theorem allL_yes {p : TokL → TokL → Bool} {a b : List TokL} (hl : a.length = b.length) (h : ∀ j, j < a.length → p (a.getD j tok0) (b.getD j tok0) = true) : allLx p a b = true := by
  unfold allLx; rw [decide_eq_true hl, Bool.true_and, List.all_eq_true]
  intro i hi; exact h i (List.mem_range.1 hi)
theorem allL_len {p : TokL → TokL → Bool} {a b : List TokL} (hl : ¬ a.length = b.length) : allLx p a b = false := by
  unfold allLx; rw [decide_eq_false hl, Bool.false_and]
theorem allL_no {p : TokL → TokL → Bool} {a b : List TokL} {i : Nat} (hi : i < a.length) (h : p (a.getD i tok0) (b.getD i tok0) = false) : allLx p a b = false := by
  unfold allLx
  rw [Bool.and_eq_false_iff]; right
  rw [List.all_eq_false]
  exact ⟨i, List.mem_range.2 hi, by rw [h]; decide⟩
end Go.SK
namespace Go.SK
open Go Go.Proofs
open Go.RowKit
theorem R4lx_alike (l l2 : List TokL) (ao ao2 : Option Addr) (cp cp2 : Nat) (w : World) (hA0 : (Res.rs ao l.length 3 (l.flatMap tokC)).holds w) (hA1 : (Res.rs ao2 l2.length 3 (l2.flatMap tokC)).holds w) (hl : l.length ≤ 1099511627776) : Ret Tryd.prog 24 #[.slice ao l.length cp, .slice ao2 l2.length cp2] w (fun v w' => v = .bool (allLx likeB l l2) ∧ St w NoM [] [] w') := by
 refine Ret.enter (args := [.slice ao l.length cp, .slice ao2 l2.length cp2]) Tryd.func24 rfl rfl rfl ?_
 have hst : St w NoM [] [Res.rs ao l.length 3 (l.flatMap tokC), Res.rs ao2 l2.length 3 (l2.flatMap tokC)] w := St.init_Ds (by simp only [List.forall_mem_cons]; exact ⟨hA0, hA1, fun _ h => absurd h List.not_mem_nil⟩)
 refine SR <| AB rfl <| NL <| SQ <| SR <| ML rfl <| CN <| Op1.lenSl (rest := []) ty22 rfl <| ML rfl <| CN <| Op1.lenSl (rest := []) ty22 rfl <| CN <| Op1.neq rfl rfl <| NL <| run_cond_dec rfl (fun g1 => ?_) (fun g1 => ?_)
 · skip
   refine SR <| AB rfl <| NL <| run_ret1 Tryd.func24 rfl (TP (v := .bool _) rfl) ?_
   rw [allL_len (fun e => g1 (by rw [e]))]
   exact ⟨rfl, hst.pure⟩
 refine run_skip <| SQ <| SR <| AI rfl <| NL <| run_block <| run_loop <| Run.indW [(0, .slice _ _ _), (1, .slice _ _ _)] ⟨rfl, rfl, trivial⟩ (fun (qq : Nat) => [(5, .int .i64 (qq : Int))]) (fun (qq : Nat) => []) (fun (qq : Nat) => qq ≤ l.length ∧ l.length = l2.length ∧ ∀ j, j < qq → likeB (l.getD j tok0) (l2.getD j tok0) = true) (fun (qq : Nat) => l.length - qq) (0) hst ⟨Nat.zero_le _, by omega, fun j hj => absurd hj (Nat.not_lt_zero _)⟩ ⟨rfl, trivial⟩ ?_
 intro i f w hst hJ ih2
 replace hst : St _ _ ([] ++ []) _ _ := hst
 replace hJ : i ≤ l.length ∧ l.length = l2.length ∧ ∀ j, j < i → likeB (l.getD j tok0) (l2.getD j tok0) = true := hJ
 refine Run.slots (sl := [(5, .int .i64 (i : Int))]) ⟨rfl, trivial⟩ ?_
 have hj1 := hJ.1
 have hj2 := hJ.2.1
 refine SQ <| SR <| MI rfl <| ML rfl <| CN <| Op1.lenSl (rest := []) ty22 rfl <| CN <| Op1.lss rfl rfl <| NL <| run_cond_dec rfl (fun g3 => ?_) (fun g3 => ?_)
 · skip
   refine run_skip <| SQ <| run_block <| SQ <| RunD.start [] hst (bs := [0, 0, 3, 7, 15, 0, 0, 96, 224, 480, 1023, 2047, 4095, 4095, 16383, 32767, 65535, 4095, 4095, 397311, 921599, 1970175, 4194303, 8388607]) (ds := [some 17, some 18, some 19, some 20, some 21, some 22, some 23, some 24, some 25, some 26, some 27, some 28, some 29, some 30, some 31, some 32, some 33, some 34, some 35, some 36, some 37, some 38, some 39, some 40]) ⟨by kernel_rfl, by kernel_rfl, by kernel_rfl⟩ (fun tab4 => ?_)
   refine RunD.op (det _) tab4 1 (fun f' L' w' hc => Op1.move (v := .slice _ _ _) (hc.old (v := .slice _ _ _) rfl rfl rfl) ⟨[], ⟨rfl, rfl⟩, hc.st⟩) <| RunD.op (det _) tab4 2 (fun f' L' w' hc => Op1.move (v := .int .i64 _) (hc.old (v := .int .i64 _) rfl rfl rfl) ⟨[], ⟨rfl, rfl⟩, hc.st⟩) <| RunD.op (det _) tab4 3 (fun f' L' w' hc => Op1.indexRs ty22 ty30 (hc.st.hD _ (.head _)) (hc.det (j := 0) rfl rfl rfl rfl) (hc.det (j := 1) rfl rfl rfl rfl) (by omega) (by omega) ⟨[], ⟨rfl, rfl⟩, hc.st⟩) <| RunD.op (det _) tab4 4 (fun f' L' w' hc => Op1.fieldAddr fld30_0 (hc.det (j := 2) rfl rfl rfl rfl) ⟨[], ⟨rfl, rfl⟩, hc.st⟩) <| RunD.op (det _) tab4 5 (fun f' L' w' hc => Op1.load1 (v := .int .u8 _) ty5 rfl (hc.det (j := 3) rfl rfl rfl rfl) (Res.rs2_cellF (hc.st.hD _ (.head _)) (flat_cell (g := tokC) (d := tok0) tokC_len rfl (by omega))) ⟨[], ⟨rfl, rfl⟩, hc.st⟩) <| RunD.op (det _) tab4 6 (fun f' L' w' hc => Op1.move (v := .slice _ _ _) (hc.old (v := .slice _ _ _) rfl rfl rfl) ⟨[], ⟨rfl, rfl⟩, hc.st⟩) <| RunD.op (det _) tab4 7 (fun f' L' w' hc => Op1.move (v := .int .i64 _) (hc.old (v := .int .i64 _) rfl rfl rfl) ⟨[], ⟨rfl, rfl⟩, hc.st⟩) <| RunD.op (det _) tab4 8 (fun f' L' w' hc => Op1.indexRs ty22 ty30 (hc.st.hD _ (.tail _ (.head _))) (hc.det (j := 5) rfl rfl rfl rfl) (hc.det (j := 6) rfl rfl rfl rfl) (by omega) (by omega) ⟨[], ⟨rfl, rfl⟩, hc.st⟩) <| RunD.op (det _) tab4 9 (fun f' L' w' hc => Op1.fieldAddr fld30_0 (hc.det (j := 7) rfl rfl rfl rfl) ⟨[], ⟨rfl, rfl⟩, hc.st⟩) <| RunD.op (det _) tab4 10 (fun f' L' w' hc => Op1.load1 (v := .int .u8 _) ty5 rfl (hc.det (j := 8) rfl rfl rfl rfl) (Res.rs2_cellF (hc.st.hD _ (.tail _ (.head _))) (flat_cell (g := tokC) (d := tok0) tokC_len rfl (by omega))) ⟨[], ⟨rfl, rfl⟩, hc.st⟩) <| RunD.op (det _) tab4 11 (fun f' L' w' hc => Op1.neq (hc.det (j := 4) rfl rfl rfl rfl) (hc.det (j := 9) rfl rfl rfl rfl) ⟨[], ⟨rfl, rfl⟩, hc.st⟩) <| RunD.op (det _) tab4 12 (fun f' L' w' hc => Op1.move (v := .bool _) (hc.det (j := 10) rfl rfl rfl rfl) ⟨[], ⟨rfl, rfl⟩, hc.st⟩) <| RunD.splitD (j := 11) rfl (fun g5 => ?_) (fun g5 => ?_)
   · skip
     refine RunD.omit tab4 13 rfl rfl (fun f' L' w' hc => (hc.det (j := 11) rfl rfl rfl rfl).trans (congrArg Value.bool (decide_eq_true g5))) <| RunD.omit tab4 14 rfl rfl (fun f' L' w' hc => (hc.det (j := 11) rfl rfl rfl rfl).trans (congrArg Value.bool (decide_eq_true g5))) <| RunD.omit tab4 15 rfl rfl (fun f' L' w' hc => (hc.det (j := 11) rfl rfl rfl rfl).trans (congrArg Value.bool (decide_eq_true g5))) <| RunD.omit tab4 16 rfl rfl (fun f' L' w' hc => (hc.det (j := 11) rfl rfl rfl rfl).trans (congrArg Value.bool (decide_eq_true g5))) <| RunD.omit tab4 17 rfl rfl (fun f' L' w' hc => (hc.det (j := 11) rfl rfl rfl rfl).trans (congrArg Value.bool (decide_eq_true g5))) <| RunD.omit tab4 18 rfl rfl (fun f' L' w' hc => (hc.det (j := 11) rfl rfl rfl rfl).trans (congrArg Value.bool (decide_eq_true g5))) <| RunD.omit tab4 19 rfl rfl (fun f' L' w' hc => (hc.det (j := 11) rfl rfl rfl rfl).trans (congrArg Value.bool (decide_eq_true g5))) <| RunD.omit tab4 20 rfl rfl (fun f' L' w' hc => (hc.det (j := 11) rfl rfl rfl rfl).trans (congrArg Value.bool (decide_eq_true g5))) <| RunD.omit tab4 21 rfl rfl (fun f' L' w' hc => (hc.det (j := 11) rfl rfl rfl rfl).trans (congrArg Value.bool (decide_eq_true g5))) <| RunD.omit tab4 22 rfl rfl (fun f' L' w' hc => (hc.det (j := 11) rfl rfl rfl rfl).trans (congrArg Value.bool (decide_eq_true g5))) <| RunD.fin followsMixed tab4 hst rfl (fun f6 w R9 hs7 hd8 hr10 hst => ?_)
     obtain ⟨h17_, r0⟩ := hd8 0 17 rfl rfl
     obtain ⟨h18_, r1⟩ := hd8 1 18 rfl rfl
     obtain ⟨h19_, r2⟩ := hd8 2 19 rfl rfl
     obtain ⟨h20_, r3⟩ := hd8 3 20 rfl rfl
     obtain ⟨h21_, r4⟩ := hd8 4 21 rfl rfl
     obtain ⟨h22_, r5⟩ := hd8 5 22 rfl rfl
     obtain ⟨h23_, r6⟩ := hd8 6 23 rfl rfl
     obtain ⟨h24_, r7⟩ := hd8 7 24 rfl rfl
     obtain ⟨h25_, r8⟩ := hd8 8 25 rfl rfl
     obtain ⟨h26_, r9⟩ := hd8 9 26 rfl rfl
     obtain ⟨h27_, r10⟩ := hd8 10 27 rfl rfl
     obtain ⟨h28_, r11⟩ := hd8 11 28 rfl rfl
     obtain ⟨h29_, r12⟩ := hd8 12 29 rfl rfl
     obtain ⟨h30_, r13⟩ := hd8 13 30 rfl rfl
     obtain ⟨h31_, r14⟩ := hd8 14 31 rfl rfl
     obtain ⟨h32_, r15⟩ := hd8 15 32 rfl rfl
     obtain ⟨h33_, r16⟩ := hd8 16 33 rfl rfl
     obtain ⟨h34_, r17⟩ := hd8 17 34 rfl rfl
     obtain ⟨h35_, r18⟩ := hd8 18 35 rfl rfl
     obtain ⟨h36_, r19⟩ := hd8 19 36 rfl rfl
     obtain ⟨h37_, r20⟩ := hd8 20 37 rfl rfl
     obtain ⟨h38_, r21⟩ := hd8 21 38 rfl rfl
     simp only [show List.range 22 = [0, 1, 2, 3, 4, 5, 6, 7, 8, 9, 10, 11, 12, 13, 14, 15, 16, 17, 18, 19, 20, 21] from rfl, List.flatMap_cons, List.flatMap_nil, List.map_cons, List.map_nil, r0, r1, r2, r3, r4, r5, r6, r7, r8, r9, r10, r11, r12, r13, r14, r15, r16, r17, r18, r19, r20, r21, List.nil_append, List.append_nil, List.cons_append] at hst
     refine RunL.slots (sl := [(0, .slice _ _ _), (1, .slice _ _ _), (5, .int .i64 _), (28, .bool _), (33, _), (38, _)]) ⟨(hs7 0 rfl).trans rfl, (hs7 1 rfl).trans rfl, (hs7 5 rfl).trans rfl, h28_, h33_, h38_, trivial⟩ ?_
     clear hs7 hd8 hr10 tab4
     refine OM (t := 28) rfl (congrArg Value.bool (decide_eq_true g5)) rfl <| CN <| Op1.pickT (u := .bool _) (congrArg Value.bool (decide_eq_true g5)) rfl <| NL ?_
     have hne : likeB (l.getD i tok0) (l2.getD i tok0) = false := decide_eq_false (fun q => g5 q.1)
     refine run_cond_true (congrArg Value.bool (rfl : true = _)) <| SR <| AB rfl <| NL <| run_ret1 Tryd.func24 rfl (TP (v := .bool _) rfl) ?_
     rw [allL_no (by omega) hne]
     exact ⟨rfl, hst.pure⟩
   refine RunD.take (det _) tab4 13 rfl (fun f' L' w' hc => (hc.det (j := 11) rfl rfl rfl rfl).trans (congrArg Value.bool (decide_eq_false g5))) (fun f' L' w' hc => Op1.move (v := .slice _ _ _) (hc.old (v := .slice _ _ _) rfl rfl rfl) ⟨[], ⟨rfl, rfl⟩, hc.st⟩) <| RunD.take (det _) tab4 14 rfl (fun f' L' w' hc => (hc.det (j := 11) rfl rfl rfl rfl).trans (congrArg Value.bool (decide_eq_false g5))) (fun f' L' w' hc => Op1.move (v := .int .i64 _) (hc.old (v := .int .i64 _) rfl rfl rfl) ⟨[], ⟨rfl, rfl⟩, hc.st⟩) <| RunD.take (det _) tab4 15 rfl (fun f' L' w' hc => (hc.det (j := 11) rfl rfl rfl rfl).trans (congrArg Value.bool (decide_eq_false g5))) (fun f' L' w' hc => Op1.indexRs ty22 ty30 (hc.st.hD _ (.head _)) (hc.det (j := 12) rfl rfl rfl rfl) (hc.det (j := 13) rfl rfl rfl rfl) (by omega) (by omega) ⟨[], ⟨rfl, rfl⟩, hc.st⟩) <| RunD.take (det _) tab4 16 rfl (fun f' L' w' hc => (hc.det (j := 11) rfl rfl rfl rfl).trans (congrArg Value.bool (decide_eq_false g5))) (fun f' L' w' hc => Op1.fieldAddr fld30_1 (hc.det (j := 14) rfl rfl rfl rfl) ⟨[], ⟨rfl, rfl⟩, hc.st⟩) <| RunD.take (det _) tab4 17 rfl (fun f' L' w' hc => (hc.det (j := 11) rfl rfl rfl rfl).trans (congrArg Value.bool (decide_eq_false g5))) (fun f' L' w' hc => Op1.load1 (v := str _) ty9 rfl (hc.det (j := 15) rfl rfl rfl rfl) (Res.rs2_cellF (hc.st.hD _ (.head _)) (flat_cell (g := tokC) (d := tok0) tokC_len rfl (by omega))) ⟨[], ⟨rfl, rfl⟩, hc.st⟩) <| RunD.take (det _) tab4 18 rfl (fun f' L' w' hc => (hc.det (j := 11) rfl rfl rfl rfl).trans (congrArg Value.bool (decide_eq_false g5))) (fun f' L' w' hc => Op1.move (v := .slice _ _ _) (hc.old (v := .slice _ _ _) rfl rfl rfl) ⟨[], ⟨rfl, rfl⟩, hc.st⟩) <| RunD.take (det _) tab4 19 rfl (fun f' L' w' hc => (hc.det (j := 11) rfl rfl rfl rfl).trans (congrArg Value.bool (decide_eq_false g5))) (fun f' L' w' hc => Op1.move (v := .int .i64 _) (hc.old (v := .int .i64 _) rfl rfl rfl) ⟨[], ⟨rfl, rfl⟩, hc.st⟩) <| RunD.take (det _) tab4 20 rfl (fun f' L' w' hc => (hc.det (j := 11) rfl rfl rfl rfl).trans (congrArg Value.bool (decide_eq_false g5))) (fun f' L' w' hc => Op1.indexRs ty22 ty30 (hc.st.hD _ (.tail _ (.head _))) (hc.det (j := 17) rfl rfl rfl rfl) (hc.det (j := 18) rfl rfl rfl rfl) (by omega) (by omega) ⟨[], ⟨rfl, rfl⟩, hc.st⟩) <| RunD.take (det _) tab4 21 rfl (fun f' L' w' hc => (hc.det (j := 11) rfl rfl rfl rfl).trans (congrArg Value.bool (decide_eq_false g5))) (fun f' L' w' hc => Op1.fieldAddr fld30_1 (hc.det (j := 19) rfl rfl rfl rfl) ⟨[], ⟨rfl, rfl⟩, hc.st⟩) <| RunD.take (det _) tab4 22 rfl (fun f' L' w' hc => (hc.det (j := 11) rfl rfl rfl rfl).trans (congrArg Value.bool (decide_eq_false g5))) (fun f' L' w' hc => Op1.load1 (v := str _) ty9 rfl (hc.det (j := 20) rfl rfl rfl rfl) (Res.rs2_cellF (hc.st.hD _ (.tail _ (.head _))) (flat_cell (g := tokC) (d := tok0) tokC_len rfl (by omega))) ⟨[], ⟨rfl, rfl⟩, hc.st⟩) <| RunD.fin followsMixed tab4 hst rfl (fun f11 w R14 hs12 hd13 hr15 hst => ?_)
   obtain ⟨h17_, r0⟩ := hd13 0 17 rfl rfl
   obtain ⟨h18_, r1⟩ := hd13 1 18 rfl rfl
   obtain ⟨h19_, r2⟩ := hd13 2 19 rfl rfl
   obtain ⟨h20_, r3⟩ := hd13 3 20 rfl rfl
   obtain ⟨h21_, r4⟩ := hd13 4 21 rfl rfl
   obtain ⟨h22_, r5⟩ := hd13 5 22 rfl rfl
   obtain ⟨h23_, r6⟩ := hd13 6 23 rfl rfl
   obtain ⟨h24_, r7⟩ := hd13 7 24 rfl rfl
   obtain ⟨h25_, r8⟩ := hd13 8 25 rfl rfl
   obtain ⟨h26_, r9⟩ := hd13 9 26 rfl rfl
   obtain ⟨h27_, r10⟩ := hd13 10 27 rfl rfl
   obtain ⟨h28_, r11⟩ := hd13 11 28 rfl rfl
   obtain ⟨h29_, r12⟩ := hd13 12 29 rfl rfl
   obtain ⟨h30_, r13⟩ := hd13 13 30 rfl rfl
   obtain ⟨h31_, r14⟩ := hd13 14 31 rfl rfl
   obtain ⟨h32_, r15⟩ := hd13 15 32 rfl rfl
   obtain ⟨h33_, r16⟩ := hd13 16 33 rfl rfl
   obtain ⟨h34_, r17⟩ := hd13 17 34 rfl rfl
   obtain ⟨h35_, r18⟩ := hd13 18 35 rfl rfl
   obtain ⟨h36_, r19⟩ := hd13 19 36 rfl rfl
   obtain ⟨h37_, r20⟩ := hd13 20 37 rfl rfl
   obtain ⟨h38_, r21⟩ := hd13 21 38 rfl rfl
   simp only [show List.range 22 = [0, 1, 2, 3, 4, 5, 6, 7, 8, 9, 10, 11, 12, 13, 14, 15, 16, 17, 18, 19, 20, 21] from rfl, List.flatMap_cons, List.flatMap_nil, List.map_cons, List.map_nil, r0, r1, r2, r3, r4, r5, r6, r7, r8, r9, r10, r11, r12, r13, r14, r15, r16, r17, r18, r19, r20, r21, List.nil_append, List.append_nil, List.cons_append] at hst
   refine RunL.slots (sl := [(0, .slice _ _ _), (1, .slice _ _ _), (5, .int .i64 _), (28, .bool _), (33, str _), (38, str _)]) ⟨(hs12 0 rfl).trans rfl, (hs12 1 rfl).trans rfl, (hs12 5 rfl).trans rfl, h28_, h33_, h38_, trivial⟩ ?_
   clear hs12 hd13 hr15 tab4
   refine TK (t := 28) rfl (congrArg Value.bool (decide_eq_false g5)) <| Op1.neqS rfl rfl <| CN <| Op1.pickF (u := .bool _) (congrArg Value.bool (decide_eq_false g5)) rfl <| NL <| Run.forget [(0, .slice _ _ _), (1, .slice _ _ _), (5, .int .i64 _), (40, .bool _)] ⟨rfl, rfl, rfl, rfl, trivial⟩ fun f => run_cond_dec rfl (fun g16 => ?_) (fun g16 => ?_)
   · skip
     have hne : likeB (l.getD i tok0) (l2.getD i tok0) = false := decide_eq_false (fun q => g16 q.2)
     refine SR <| AB rfl <| NL <| run_ret1 Tryd.func24 rfl (TP (v := .bool _) rfl) ?_
     rw [allL_no (by omega) hne]
     exact ⟨rfl, hst.pure⟩
   have heq : likeB (l.getD i tok0) (l2.getD i tok0) = true := decide_eq_true ⟨Classical.not_not.1 g5, Classical.not_not.1 g16⟩
   refine run_skip <| run_inBlock <| RG <| MI rfl <| CN <| Op1.addN rfl rfl rfl (wrap_i64 (by omega) (by omega)) <| AI rfl <| NL <| run_inLoop ?_
   exact ih2 (i + 1) _ w ((by omega)) hst (⟨by omega, by omega, lt_succ_all hJ.2.2 heq⟩) ⟨rfl, rfl, trivial⟩ ⟨(congrArg (Value.int .i64) (by omega)), trivial⟩
 refine run_exit (id := 0) rfl <| SR <| AB rfl <| NL <| run_ret1 Tryd.func24 rfl (TP (v := .bool _) rfl) ?_
 rw [allL_yes hJ.2.1 (fun j hj => hJ.2.2 j (by omega))]
 exact ⟨rfl, hst.pure⟩
end Go.SK
namespace Go.SK
open Go Go.Proofs
theorem ent24 : Enters Tryd.prog 24 := ⟨Tryd.f24, _, Tryd.func24, by kernel_rfl, rfl⟩
end Go.SK
