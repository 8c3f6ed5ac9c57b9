/-
  Walks of functions, and of the laws over them.
-/
import Derived.Test.YtnbapjkldjhjoaaSkMdP
import Derived.Test.YtnbapjkldjhjoaaSkR1MdAF
set_option linter.unusedVariables false
set_option linter.unusedSimpArgs false
namespace Go.SK
open Go Go.Proofs
open Go.RowKit
theorem R1md_Inst (p q : InstP) (w : World) (hA : (Res.rargs p).holds w) (hB : (Res.rargs q).holds w) (hl : p.args.length ≤ 9000000000000000000) : Ret Try.prog 60 #[.agg #[.int .u16 p.op, .int .u32 p.ty, .int .u32 p.res, .slice p.ao p.args.length p.cap], .agg #[.int .u16 q.op, .int .u32 q.ty, .int .u32 q.res, .slice q.ao q.args.length q.cap]] w (fun v w' => v = .bool (decide (p.L = q.L)) ∧ St w NoM [] [] w') := by
  refine Ret.enter (args := [.agg #[.int .u16 p.op, .int .u32 p.ty, .int .u32 p.res, .slice p.ao p.args.length p.cap], .agg #[.int .u16 q.op, .int .u32 q.ty, .int .u32 q.res, .slice q.ao q.args.length q.cap]]) Try.func60 rfl rfl rfl ?_
  have hst : St w NoM [] [Res.rargs p, Res.rargs q] w := St.init_Ds (fun d hd => by cases hd with | head => exact hA | tail _ hd => cases hd with | head => exact hB | tail _ h => cases h)
  clear hA hB
  refine run_seq ?_
  refine run_region ?_
  refine RunL.cons (Op1.box (v := .agg #[.int .u16 _, .int .u32 _, .int .u32 _, .slice _ _ _]) hst rfl rfl fun w b2 hst => ?_)
  refine RunL.cons (Op1.box (v := .agg #[.int .u16 _, .int .u32 _, .int .u32 _, .slice _ _ _]) hst rfl rfl fun w b3 hst => ?_)
  refine RunL.cons (Op1.assign (v := .bool _) rfl ?_)
  refine RunL.nil ?_
  refine run_seq ?_
  refine run_seq ?_
  refine run_region ?_
  refine RunL.cons (Op1.fieldAddr fld84_0 rfl ?_)
  refine RunL.cons (Op1.load1 (v := .int .u16 _) ty22 rfl rfl (hst.cellL (.tail _ (.head _)) rfl) ?_)
  refine RunL.cons (Op1.fieldAddr fld84_0 rfl ?_)
  refine RunL.cons (Op1.load1 (v := .int .u16 _) ty22 rfl rfl (hst.cellL (.head _) rfl) ?_)
  refine RunL.cons (Op1.neq rfl rfl ?_)
  refine RunL.cons (Op1.move (v := .bool _) rfl ?_)
  refine RunL.splitD (d := 11) rfl (fun g1 => ?_) (fun g1 => ?_)
  · skip
    refine RunL.omit (t := 11) rfl (congrArg Value.bool (decide_eq_true g1)) rfl ?_
    refine RunL.omit (t := 11) rfl (congrArg Value.bool (decide_eq_true g1)) rfl ?_
    refine RunL.omit (t := 11) rfl (congrArg Value.bool (decide_eq_true g1)) rfl ?_
    refine RunL.omit (t := 11) rfl (congrArg Value.bool (decide_eq_true g1)) rfl ?_
    refine RunL.omit (t := 11) rfl (congrArg Value.bool (decide_eq_true g1)) rfl ?_
    refine RunL.cons (Op1.pickT (u := .bool _) (congrArg Value.bool (decide_eq_true g1)) rfl ?_)
    refine RunL.cons (Op1.move (v := .bool _) rfl ?_)
    refine RunL.omit (t := 18) rfl (congrArg Value.bool (rfl : true = _)) rfl ?_
    refine RunL.omit (t := 18) rfl (congrArg Value.bool (rfl : true = _)) rfl ?_
    refine RunL.omit (t := 18) rfl (congrArg Value.bool (rfl : true = _)) rfl ?_
    refine RunL.omit (t := 18) rfl (congrArg Value.bool (rfl : true = _)) rfl ?_
    refine RunL.omit (t := 18) rfl (congrArg Value.bool (rfl : true = _)) rfl ?_
    refine RunL.cons (Op1.pickT (u := .bool _) (congrArg Value.bool (rfl : true = _)) rfl ?_)
    refine RunL.cons (Op1.move (v := .bool _) rfl ?_)
    refine RunL.omit (t := 25) rfl (congrArg Value.bool (rfl : true = _)) rfl ?_
    refine RunL.omit (t := 25) rfl (congrArg Value.bool (rfl : true = _)) rfl ?_
    refine RunL.omit (t := 25) rfl (congrArg Value.bool (rfl : true = _)) rfl ?_
    refine RunL.omit (t := 25) rfl (congrArg Value.bool (rfl : true = _)) rfl ?_
    refine RunL.omit (t := 25) rfl (congrArg Value.bool (rfl : true = _)) rfl ?_
    refine RunL.omit (t := 25) rfl (congrArg Value.bool (rfl : true = _)) rfl ?_
    refine RunL.omit (t := 25) rfl (congrArg Value.bool (rfl : true = _)) rfl ?_
    refine RunL.cons (Op1.pickT (u := .bool _) (congrArg Value.bool (rfl : true = _)) rfl ?_)
    refine RunL.nil ?_
    refine run_cond_true (congrArg Value.bool (rfl : true = _)) ?_
    refine run_seq ?_
    refine run_region ?_
    refine RunL.cons (Op1.assign (v := .bool _) rfl ?_)
    refine RunL.nil ?_
    refine run_ret1 Try.func60 rfl (RV.tmp (v := .bool _) rfl) ?_
    exact ⟨congrArg Value.bool (decide_eq_false (fun h => by obtain ⟨h1, h2, h3, h4⟩ := InstP.L_eq.1 h; exact g1 h1)).symm, hst.pure⟩
  refine RunL.take (t := 11) rfl (congrArg Value.bool (decide_eq_false g1)) (Op1.fieldAddr fld84_1 rfl ?_)
  refine RunL.take (t := 11) rfl (congrArg Value.bool (decide_eq_false g1)) (Op1.load1 (v := .int .u32 _) ty34 rfl rfl (hst.cellL (.tail _ (.head _)) rfl) ?_)
  refine RunL.take (t := 11) rfl (congrArg Value.bool (decide_eq_false g1)) (Op1.fieldAddr fld84_1 rfl ?_)
  refine RunL.take (t := 11) rfl (congrArg Value.bool (decide_eq_false g1)) (Op1.load1 (v := .int .u32 _) ty34 rfl rfl (hst.cellL (.head _) rfl) ?_)
  refine RunL.take (t := 11) rfl (congrArg Value.bool (decide_eq_false g1)) (Op1.neq rfl rfl ?_)
  refine RunL.cons (Op1.pickF (u := .bool _) (congrArg Value.bool (decide_eq_false g1)) rfl ?_)
  refine RunL.cons (Op1.move (v := .bool _) rfl ?_)
  refine RunL.splitD (d := 18) rfl (fun g2 => ?_) (fun g2 => ?_)
  · skip
    refine RunL.omit (t := 18) rfl (congrArg Value.bool (decide_eq_true g2)) rfl ?_
    refine RunL.omit (t := 18) rfl (congrArg Value.bool (decide_eq_true g2)) rfl ?_
    refine RunL.omit (t := 18) rfl (congrArg Value.bool (decide_eq_true g2)) rfl ?_
    refine RunL.omit (t := 18) rfl (congrArg Value.bool (decide_eq_true g2)) rfl ?_
    refine RunL.omit (t := 18) rfl (congrArg Value.bool (decide_eq_true g2)) rfl ?_
    refine RunL.cons (Op1.pickT (u := .bool _) (congrArg Value.bool (decide_eq_true g2)) rfl ?_)
    refine RunL.cons (Op1.move (v := .bool _) rfl ?_)
    refine RunL.omit (t := 25) rfl (congrArg Value.bool (rfl : true = _)) rfl ?_
    refine RunL.omit (t := 25) rfl (congrArg Value.bool (rfl : true = _)) rfl ?_
    refine RunL.omit (t := 25) rfl (congrArg Value.bool (rfl : true = _)) rfl ?_
    refine RunL.omit (t := 25) rfl (congrArg Value.bool (rfl : true = _)) rfl ?_
    refine RunL.omit (t := 25) rfl (congrArg Value.bool (rfl : true = _)) rfl ?_
    refine RunL.omit (t := 25) rfl (congrArg Value.bool (rfl : true = _)) rfl ?_
    refine RunL.omit (t := 25) rfl (congrArg Value.bool (rfl : true = _)) rfl ?_
    refine RunL.cons (Op1.pickT (u := .bool _) (congrArg Value.bool (rfl : true = _)) rfl ?_)
    refine RunL.nil ?_
    refine Run.forget [(2, .pointer (some ⟨_, _, none⟩)), (3, .pointer (some ⟨_, _, none⟩)), (33, .bool _)] ⟨rfl, rfl, rfl, trivial⟩ (fun f => ?_)
    refine run_cond_true (congrArg Value.bool (rfl : true = _)) ?_
    refine run_seq ?_
    refine run_region ?_
    refine RunL.cons (Op1.assign (v := .bool _) rfl ?_)
    refine RunL.nil ?_
    refine run_ret1 Try.func60 rfl (RV.tmp (v := .bool _) rfl) ?_
    exact ⟨congrArg Value.bool (decide_eq_false (fun h => by obtain ⟨h1, h2, h3, h4⟩ := InstP.L_eq.1 h; exact g2 h2)).symm, hst.pure⟩
  refine RunL.take (t := 18) rfl (congrArg Value.bool (decide_eq_false g2)) (Op1.fieldAddr fld84_2 rfl ?_)
  refine RunL.take (t := 18) rfl (congrArg Value.bool (decide_eq_false g2)) (Op1.load1 (v := .int .u32 _) ty34 rfl rfl (hst.cellL (.tail _ (.head _)) rfl) ?_)
  refine RunL.take (t := 18) rfl (congrArg Value.bool (decide_eq_false g2)) (Op1.fieldAddr fld84_2 rfl ?_)
  refine RunL.take (t := 18) rfl (congrArg Value.bool (decide_eq_false g2)) (Op1.load1 (v := .int .u32 _) ty34 rfl rfl (hst.cellL (.head _) rfl) ?_)
  refine RunL.take (t := 18) rfl (congrArg Value.bool (decide_eq_false g2)) (Op1.neq rfl rfl ?_)
  refine RunL.cons (Op1.pickF (u := .bool _) (congrArg Value.bool (decide_eq_false g2)) rfl ?_)
  refine RunL.cons (Op1.move (v := .bool _) rfl ?_)
  refine RunL.splitD (d := 25) rfl (fun g3 => ?_) (fun g3 => ?_)
  · skip
    refine RunL.omit (t := 25) rfl (congrArg Value.bool (decide_eq_true g3)) rfl ?_
    refine RunL.omit (t := 25) rfl (congrArg Value.bool (decide_eq_true g3)) rfl ?_
    refine RunL.omit (t := 25) rfl (congrArg Value.bool (decide_eq_true g3)) rfl ?_
    refine RunL.omit (t := 25) rfl (congrArg Value.bool (decide_eq_true g3)) rfl ?_
    refine RunL.omit (t := 25) rfl (congrArg Value.bool (decide_eq_true g3)) rfl ?_
    refine RunL.omit (t := 25) rfl (congrArg Value.bool (decide_eq_true g3)) rfl ?_
    refine RunL.omit (t := 25) rfl (congrArg Value.bool (decide_eq_true g3)) rfl ?_
    refine RunL.cons (Op1.pickT (u := .bool _) (congrArg Value.bool (decide_eq_true g3)) rfl ?_)
    refine RunL.nil ?_
    refine Run.forget [(2, .pointer (some ⟨_, _, none⟩)), (3, .pointer (some ⟨_, _, none⟩)), (33, .bool _)] ⟨rfl, rfl, rfl, trivial⟩ (fun f => ?_)
    refine run_cond_true (congrArg Value.bool (rfl : true = _)) ?_
    refine run_seq ?_
    refine run_region ?_
    refine RunL.cons (Op1.assign (v := .bool _) rfl ?_)
    refine RunL.nil ?_
    refine run_ret1 Try.func60 rfl (RV.tmp (v := .bool _) rfl) ?_
    exact ⟨congrArg Value.bool (decide_eq_false (fun h => by obtain ⟨h1, h2, h3, h4⟩ := InstP.L_eq.1 h; exact g3 h3)).symm, hst.pure⟩
  refine RunL.take (t := 25) rfl (congrArg Value.bool (decide_eq_false g3)) (Op1.fieldAddr fld84_3 rfl ?_)
  refine RunL.take (t := 25) rfl (congrArg Value.bool (decide_eq_false g3)) (Op1.load1 (v := .slice _ _ _) ty82 rfl rfl (hst.cellL (.tail _ (.head _)) rfl) ?_)
  refine RunL.take (t := 25) rfl (congrArg Value.bool (decide_eq_false g3)) (Op1.lenSl (rest := []) ty82 rfl ?_)
  refine RunL.take (t := 25) rfl (congrArg Value.bool (decide_eq_false g3)) (Op1.fieldAddr fld84_3 rfl ?_)
  refine RunL.take (t := 25) rfl (congrArg Value.bool (decide_eq_false g3)) (Op1.load1 (v := .slice _ _ _) ty82 rfl rfl (hst.cellL (.head _) rfl) ?_)
  refine RunL.take (t := 25) rfl (congrArg Value.bool (decide_eq_false g3)) (Op1.lenSl (rest := []) ty82 rfl ?_)
  refine RunL.take (t := 25) rfl (congrArg Value.bool (decide_eq_false g3)) (Op1.neq rfl rfl ?_)
  refine RunL.cons (Op1.pickF (u := .bool _) (congrArg Value.bool (decide_eq_false g3)) rfl ?_)
  refine RunL.nil ?_
  refine Run.forget [(2, .pointer (some ⟨_, _, none⟩)), (3, .pointer (some ⟨_, _, none⟩)), (33, .bool _)] ⟨rfl, rfl, rfl, trivial⟩ (fun f => ?_)
  refine run_cond_dec rfl (fun g4 => ?_) (fun g4 => ?_)
  · skip
    refine run_seq ?_
    refine run_region ?_
    refine RunL.cons (Op1.assign (v := .bool _) rfl ?_)
    refine RunL.nil ?_
    refine run_ret1 Try.func60 rfl (RV.tmp (v := .bool _) rfl) ?_
    exact ⟨congrArg Value.bool (decide_eq_false (fun h => by obtain ⟨h1, h2, h3, h4⟩ := InstP.L_eq.1 h; have := congrArg List.length h4; omega)).symm, hst.pure⟩
  refine run_skip ?_
  refine run_seq ?_
  refine run_seq ?_
  refine run_region ?_
  refine RunL.cons (Op1.assign (v := .int .i64 _) rfl ?_)
  refine RunL.nil ?_
  refine run_block ?_
  refine run_loop ?_
  refine Run.indW [(2, .pointer (some ⟨_, _, none⟩)), (3, .pointer (some ⟨_, _, none⟩))] ⟨rfl, rfl, trivial⟩ (fun (i : Nat) => [(5, .int .i64 (i : Int))]) (fun (i : Nat) => []) (fun (i : Nat) => i ≤ p.args.length ∧ ∀ j, j < i → p.args.getD j zeroA = q.args.getD j zeroA) (fun (i : Nat) => p.args.length - i) (0) hst ⟨Nat.zero_le _, fun j hj => absurd hj (by omega)⟩ ⟨rfl, trivial⟩ ?_
  intro i f w hst hJ ih5
  refine run_seq ?_
  refine run_seq ?_
  refine run_region ?_
  refine RunL.cons (Op1.move (v := .int .i64 _) rfl ?_)
  refine RunL.cons (Op1.fieldAddr fld84_3 rfl ?_)
  refine RunL.cons (Op1.load1 (v := .slice _ _ _) ty82 rfl rfl (hst.cellL (.tail _ (.head _)) rfl) ?_)
  refine RunL.cons (Op1.lenSl (rest := []) ty82 rfl ?_)
  refine RunL.cons (Op1.lss rfl rfl ?_)
  refine RunL.nil ?_
  refine run_cond_dec rfl (fun g6 => ?_) (fun g6 => ?_)
  · skip
    refine run_skip ?_
    refine run_seq ?_
    refine run_block ?_
    refine run_seq ?_
    refine RunD.start [] hst (bs := [0, 1, 0, 7, 15, 0, 32, 0, 224, 480, 1023]) (ds := [some 41, some 42, some 43, some 44, some 45, some 46, some 47, some 48, some 49, some 50, some 51]) ⟨by kernel_rfl, by kernel_rfl, by kernel_rfl⟩ (fun tab7 => ?_)
    refine RunD.op (det _) tab7 1 (fun f' L' w' hc => Op1.fieldAddr fld84_3 (hc.old (v := .pointer (some ⟨_, _, none⟩)) rfl rfl rfl) ⟨[], ⟨rfl, rfl⟩, hc.st⟩) ?_
    refine RunD.op (det _) tab7 2 (fun f' L' w' hc => Op1.load1 (v := .slice _ _ _) ty82 rfl (hc.det (j := 0) rfl rfl rfl rfl) (hc.st.cellL (List.mem_append_right _ (.tail _ (.head _))) rfl) ⟨[], ⟨rfl, rfl⟩, hc.st⟩) ?_
    refine RunD.op (det _) tab7 3 (fun f' L' w' hc => Op1.move (v := .int .i64 _) (hc.old (v := .int .i64 _) rfl rfl rfl) ⟨[], ⟨rfl, rfl⟩, hc.st⟩) ?_
    refine RunD.op (det _) tab7 4 (fun f' L' w' hc => Op1.indexRs ty82 ty89 (hc.st.hD _ (.head _)) (hc.det (j := 1) rfl rfl rfl rfl) (hc.det (j := 2) rfl rfl rfl rfl) (by omega) (by omega) ⟨[], ⟨rfl, rfl⟩, hc.st⟩) ?_
    refine RunD.op (det _) tab7 5 (fun f' L' w' hc => Op1.loadA (vs := [.int .u8 _, .int .u32 _, str _]) ty89 rfl (hc.det (j := 3) rfl rfl rfl rfl) rfl (Res.rs2_cells (m := 3) (hc.st.hD _ (.head _)) _ (flat_seg (g := argC) (d := zeroA) argC_len _ _ (by omega))) ⟨[], ⟨rfl, rfl⟩, hc.st⟩) ?_
    refine RunD.op (det _) tab7 6 (fun f' L' w' hc => Op1.fieldAddr fld84_3 (hc.old (v := .pointer (some ⟨_, _, none⟩)) rfl rfl rfl) ⟨[], ⟨rfl, rfl⟩, hc.st⟩) ?_
    refine RunD.op (det _) tab7 7 (fun f' L' w' hc => Op1.load1 (v := .slice _ _ _) ty82 rfl (hc.det (j := 5) rfl rfl rfl rfl) (hc.st.cellL (List.mem_append_right _ (.head _)) rfl) ⟨[], ⟨rfl, rfl⟩, hc.st⟩) ?_
    refine RunD.op (det _) tab7 8 (fun f' L' w' hc => Op1.move (v := .int .i64 _) (hc.old (v := .int .i64 _) rfl rfl rfl) ⟨[], ⟨rfl, rfl⟩, hc.st⟩) ?_
    refine RunD.op (det _) tab7 9 (fun f' L' w' hc => Op1.indexRs ty82 ty89 (hc.st.hD _ (.tail _ (.head _))) (hc.det (j := 6) rfl rfl rfl rfl) (hc.det (j := 7) rfl rfl rfl rfl) (by omega) (by omega) ⟨[], ⟨rfl, rfl⟩, hc.st⟩) ?_
    refine RunD.op (det _) tab7 10 (fun f' L' w' hc => Op1.loadA (vs := [.int .u8 _, .int .u32 _, str _]) ty89 rfl (hc.det (j := 8) rfl rfl rfl rfl) rfl (Res.rs2_cells (m := 3) (hc.st.hD _ (.tail _ (.head _))) _ (flat_seg (g := argC) (d := zeroA) argC_len _ _ (by omega))) ⟨[], ⟨rfl, rfl⟩, hc.st⟩) ?_
    refine RunD.fin followsMixed tab7 hst rfl (fun f8 w R11 hs9 hd10 hr12 hst => ?_)
    obtain ⟨h41_, r0⟩ := hd10 0 41 rfl rfl
    obtain ⟨h42_, r1⟩ := hd10 1 42 rfl rfl
    obtain ⟨h43_, r2⟩ := hd10 2 43 rfl rfl
    obtain ⟨h44_, r3⟩ := hd10 3 44 rfl rfl
    obtain ⟨h45_, r4⟩ := hd10 4 45 rfl rfl
    obtain ⟨h46_, r5⟩ := hd10 5 46 rfl rfl
    obtain ⟨h47_, r6⟩ := hd10 6 47 rfl rfl
    obtain ⟨h48_, r7⟩ := hd10 7 48 rfl rfl
    obtain ⟨h49_, r8⟩ := hd10 8 49 rfl rfl
    obtain ⟨h50_, r9⟩ := hd10 9 50 rfl rfl
    simp only [show List.range 10 = [0, 1, 2, 3, 4, 5, 6, 7, 8, 9] from rfl, List.flatMap_cons, List.flatMap_nil, List.map_cons, List.map_nil, r0, r1, r2, r3, r4, r5, r6, r7, r8, r9, List.nil_append, List.append_nil, List.cons_append] at hst
    refine RunL.slots (sl := [(2, .pointer (some ⟨_, _, none⟩)), (3, .pointer (some ⟨_, _, none⟩)), (5, .int .i64 _), (45, .agg #[.int .u8 _, .int .u32 _, str _]), (50, .agg #[.int .u8 _, .int .u32 _, str _])]) ⟨(hs9 2 rfl).trans rfl, (hs9 3 rfl).trans rfl, (hs9 5 rfl).trans rfl, h45_, h50_, trivial⟩ ?_
    clear hs9 hd10 hr12 tab7
    refine RunL.cons (Op1.neqA (xs := [.int .u8 _, .int .u32 _, str _]) (ys := [.int .u8 _, .int .u32 _, str _]) rfl rfl (by kernel_rfl) (EqOk.struct Try.underlying89 (by kernel_rfl) (.cons (by decide) (PartOk.one ty5 rfl rfl) (PartOk.one ty5 rfl rfl) (EqOk.int ty5) (.cons (by decide) (PartOk.one ty34 rfl rfl) (PartOk.one ty34 rfl rfl) (EqOk.int ty34) (.cons (by decide) (PartOk.one ty9 rfl rfl) (PartOk.one ty9 rfl rfl) (EqOk.str ty9) .nil)))) ?_)
    refine RunL.nil ?_
    refine run_cond_split rfl (fun g13 => ?_) (fun g13 => ?_)
    · skip
      refine run_seq ?_
      refine run_region ?_
      refine RunL.cons (Op1.assign (v := .bool _) rfl ?_)
      refine RunL.nil ?_
      refine run_ret1 Try.func60 rfl (RV.tmp (v := .bool _) rfl) ?_
      exact ⟨congrArg Value.bool (decide_eq_false (fun h => by obtain ⟨h1, h2, h3, h4⟩ := InstP.L_eq.1 h; have hg := g13; rw [arg_eq, h4] at hg; simp at hg)).symm, hst.pure⟩
    refine run_skip ?_
    refine run_inBlock ?_
    refine run_region ?_
    refine RunL.cons (Op1.move (v := .int .i64 _) rfl ?_)
    refine RunL.cons (Op1.addN rfl rfl rfl (wrap_i64 (by omega) (by omega)) ?_)
    refine RunL.cons (Op1.assign (v := .int .i64 _) rfl ?_)
    refine RunL.nil ?_
    refine run_inLoop ?_
    exact ih5 (i + 1) _ w (by omega) hst (⟨by omega, step_all hJ.2 (by have hg := g13; rw [arg_eq] at hg; simpa using hg)⟩) ⟨rfl, rfl, trivial⟩ ⟨(congrArg (Value.int .i64) (by omega)), trivial⟩
  refine run_exit (id := 0) rfl ?_
  refine run_seq ?_
  refine run_region ?_
  refine RunL.cons (Op1.assign (v := .bool _) rfl ?_)
  refine RunL.nil ?_
  refine run_ret1 Try.func60 rfl (RV.tmp (v := .bool _) rfl) ?_
  exact ⟨congrArg Value.bool (decide_eq_true (InstP.L_eq.2 ⟨Classical.not_not.1 g1, Classical.not_not.1 g2, Classical.not_not.1 g3, list_ext_getD2 zeroA (by omega) (fun j hj => hJ.2 j (by omega))⟩)).symm, hst.pure⟩

theorem R1md_Equal (l m : List ArgP) (ao bo : Option Addr) (cp cq : Nat) (w : World) (hA : (Res.rs ao l.length 3 (l.flatMap argC)).holds w) (hB : (Res.rs bo m.length 3 (m.flatMap argC)).holds w) (hl : l.length ≤ 9000000000000000000) : Ret Try.prog 59 #[.slice ao l.length cp, .slice bo m.length cq] w (fun v w' => v = .bool (decide (l = m)) ∧ St w NoM [] [] w') := by
  refine Ret.enter (args := [.slice ao l.length cp, .slice bo m.length cq]) Try.func59 rfl rfl rfl ?_
  have hst : St w NoM [] [Res.rs ao l.length 3 (l.flatMap argC), Res.rs bo m.length 3 (m.flatMap argC)] w := St.init_Ds (fun d hd => by cases hd with | head => exact hA | tail _ hd => cases hd with | head => exact hB | tail _ h => cases h)
  clear hA hB
  refine run_seq ?_
  refine run_region ?_
  refine RunL.cons (Op1.assign (v := .bool _) rfl ?_)
  refine RunL.nil ?_
  refine run_seq ?_
  refine run_seq ?_
  refine run_region ?_
  refine RunL.cons (Op1.move (v := .slice _ _ _) rfl ?_)
  refine RunL.cons (Op1.lenSl (rest := []) ty82 rfl ?_)
  refine RunL.cons (Op1.move (v := .slice _ _ _) rfl ?_)
  refine RunL.cons (Op1.lenSl (rest := []) ty82 rfl ?_)
  refine RunL.cons (Op1.neq rfl rfl ?_)
  refine RunL.nil ?_
  refine run_cond_dec rfl (fun g1 => ?_) (fun g1 => ?_)
  · skip
    refine run_seq ?_
    refine run_region ?_
    refine RunL.cons (Op1.assign (v := .bool _) rfl ?_)
    refine RunL.nil ?_
    refine run_ret1 Try.func59 rfl (RV.tmp (v := .bool _) rfl) ?_
    exact ⟨congrArg Value.bool (decide_eq_false (fun h => by have := congrArg List.length h; omega)).symm, hst.pure⟩
  refine run_skip ?_
  refine run_seq ?_
  refine run_seq ?_
  refine run_region ?_
  refine RunL.cons (Op1.move (v := .slice _ _ _) rfl ?_)
  refine RunL.cons (Op1.lenSl (rest := []) ty82 rfl ?_)
  refine RunL.cons (Op1.move (v := .int .i64 _) rfl ?_)
  refine RunL.nil ?_
  refine run_block ?_
  refine run_loop ?_
  refine Run.indW [(0, .slice _ _ _), (1, .slice _ _ _), (12, .int .i64 _)] ⟨rfl, rfl, rfl, trivial⟩ (fun (i : Nat) => [(13, .int .i64 (i : Int))]) (fun (i : Nat) => []) (fun (i : Nat) => i ≤ l.length ∧ ∀ j, j < i → l.getD j zeroA = m.getD j zeroA) (fun (i : Nat) => l.length - i) (0) hst ⟨Nat.zero_le _, fun j hj => absurd hj (by omega)⟩ ⟨rfl, trivial⟩ ?_
  intro i f w hst hJ ih2
  refine run_seq ?_
  refine run_region ?_
  refine RunL.cons (Op1.lss rfl rfl ?_)
  refine RunL.nil ?_
  refine run_seq ?_
  refine run_cond_dec rfl (fun g3 => ?_) (fun g3 => ?_)
  · skip
    refine run_skip ?_
    refine run_seq ?_
    refine run_block ?_
    refine run_seq ?_
    refine run_region ?_
    refine RunL.cons (Op1.move (v := .int .i64 _) rfl ?_)
    refine RunL.cons (Op1.assign (v := .int .i64 _) rfl ?_)
    refine RunL.nil ?_
    refine run_seq ?_
    refine RunD.start [] hst (bs := [0, 0, 3, 7, 0, 0, 48, 112, 255]) (ds := [some 16, some 17, some 18, some 19, some 20, some 21, some 22, some 23, some 24]) ⟨by kernel_rfl, by kernel_rfl, by kernel_rfl⟩ (fun tab4 => ?_)
    refine RunD.op (det _) tab4 1 (fun f' L' w' hc => Op1.move (v := .slice _ _ _) (hc.old (v := .slice _ _ _) rfl rfl rfl) ⟨[], ⟨rfl, rfl⟩, hc.st⟩) ?_
    refine RunD.op (det _) tab4 2 (fun f' L' w' hc => Op1.move (v := .int .i64 _) (hc.old (v := .int .i64 _) rfl rfl rfl) ⟨[], ⟨rfl, rfl⟩, hc.st⟩) ?_
    refine RunD.op (det _) tab4 3 (fun f' L' w' hc => Op1.indexRs ty82 ty89 (hc.st.hD _ (.head _)) (hc.det (j := 0) rfl rfl rfl rfl) (hc.det (j := 1) rfl rfl rfl rfl) (by omega) (by omega) ⟨[], ⟨rfl, rfl⟩, hc.st⟩) ?_
    refine RunD.op (det _) tab4 4 (fun f' L' w' hc => Op1.loadA (vs := [.int .u8 _, .int .u32 _, str _]) ty89 rfl (hc.det (j := 2) rfl rfl rfl rfl) rfl (Res.rs2_cells (m := 3) (hc.st.hD _ (.head _)) _ (flat_seg (g := argC) (d := zeroA) argC_len _ _ (by omega))) ⟨[], ⟨rfl, rfl⟩, hc.st⟩) ?_
    refine RunD.op (det _) tab4 5 (fun f' L' w' hc => Op1.move (v := .slice _ _ _) (hc.old (v := .slice _ _ _) rfl rfl rfl) ⟨[], ⟨rfl, rfl⟩, hc.st⟩) ?_
    refine RunD.op (det _) tab4 6 (fun f' L' w' hc => Op1.move (v := .int .i64 _) (hc.old (v := .int .i64 _) rfl rfl rfl) ⟨[], ⟨rfl, rfl⟩, hc.st⟩) ?_
    refine RunD.op (det _) tab4 7 (fun f' L' w' hc => Op1.indexRs ty82 ty89 (hc.st.hD _ (.tail _ (.head _))) (hc.det (j := 4) rfl rfl rfl rfl) (hc.det (j := 5) rfl rfl rfl rfl) (by omega) (by omega) ⟨[], ⟨rfl, rfl⟩, hc.st⟩) ?_
    refine RunD.op (det _) tab4 8 (fun f' L' w' hc => Op1.loadA (vs := [.int .u8 _, .int .u32 _, str _]) ty89 rfl (hc.det (j := 6) rfl rfl rfl rfl) rfl (Res.rs2_cells (m := 3) (hc.st.hD _ (.tail _ (.head _))) _ (flat_seg (g := argC) (d := zeroA) argC_len _ _ (by omega))) ⟨[], ⟨rfl, rfl⟩, hc.st⟩) ?_
    refine RunD.fin followsMixed tab4 hst rfl (fun f5 w R8 hs6 hd7 hr9 hst => ?_)
    obtain ⟨h16_, r0⟩ := hd7 0 16 rfl rfl
    obtain ⟨h17_, r1⟩ := hd7 1 17 rfl rfl
    obtain ⟨h18_, r2⟩ := hd7 2 18 rfl rfl
    obtain ⟨h19_, r3⟩ := hd7 3 19 rfl rfl
    obtain ⟨h20_, r4⟩ := hd7 4 20 rfl rfl
    obtain ⟨h21_, r5⟩ := hd7 5 21 rfl rfl
    obtain ⟨h22_, r6⟩ := hd7 6 22 rfl rfl
    obtain ⟨h23_, r7⟩ := hd7 7 23 rfl rfl
    simp only [show List.range 8 = [0, 1, 2, 3, 4, 5, 6, 7] from rfl, List.flatMap_cons, List.flatMap_nil, List.map_cons, List.map_nil, r0, r1, r2, r3, r4, r5, r6, r7, List.nil_append, List.append_nil, List.cons_append] at hst
    refine RunL.slots (sl := [(0, .slice _ _ _), (1, .slice _ _ _), (12, .int .i64 _), (13, .int .i64 _), (19, .agg #[.int .u8 _, .int .u32 _, str _]), (23, .agg #[.int .u8 _, .int .u32 _, str _])]) ⟨(hs6 0 rfl).trans rfl, (hs6 1 rfl).trans rfl, (hs6 12 rfl).trans rfl, (hs6 13 rfl).trans rfl, h19_, h23_, trivial⟩ ?_
    clear hs6 hd7 hr9 tab4
    refine RunL.cons (Op1.neqA (xs := [.int .u8 _, .int .u32 _, str _]) (ys := [.int .u8 _, .int .u32 _, str _]) rfl rfl (by kernel_rfl) (EqOk.struct Try.underlying89 (by kernel_rfl) (.cons (by decide) (PartOk.one ty5 rfl rfl) (PartOk.one ty5 rfl rfl) (EqOk.int ty5) (.cons (by decide) (PartOk.one ty34 rfl rfl) (PartOk.one ty34 rfl rfl) (EqOk.int ty34) (.cons (by decide) (PartOk.one ty9 rfl rfl) (PartOk.one ty9 rfl rfl) (EqOk.str ty9) .nil)))) ?_)
    refine RunL.nil ?_
    refine run_cond_split rfl (fun g10 => ?_) (fun g10 => ?_)
    · skip
      refine run_seq ?_
      refine run_region ?_
      refine RunL.cons (Op1.assign (v := .bool _) rfl ?_)
      refine RunL.nil ?_
      refine run_ret1 Try.func59 rfl (RV.tmp (v := .bool _) rfl) ?_
      exact ⟨congrArg Value.bool (decide_eq_false (fun h => by have hg := g10; rw [arg_eq, h] at hg; simp at hg)).symm, hst.pure⟩
    refine run_skip ?_
    refine run_inBlock ?_
    refine run_region ?_
    refine RunL.cons (Op1.addN rfl rfl rfl (wrap_i64 (by omega) (by omega)) ?_)
    refine RunL.cons (Op1.move (v := .int .i64 _) rfl ?_)
    refine RunL.nil ?_
    refine run_inLoop ?_
    exact ih2 (i + 1) _ w (by omega) hst (⟨by omega, step_all hJ.2 (by have hg := g10; rw [arg_eq] at hg; simpa using hg)⟩) ⟨rfl, rfl, rfl, trivial⟩ ⟨(congrArg (Value.int .i64) (by omega)), trivial⟩
  refine run_exit (id := 0) rfl ?_
  refine run_seq ?_
  refine run_region ?_
  refine RunL.cons (Op1.assign (v := .bool _) rfl ?_)
  refine RunL.nil ?_
  refine run_ret1 Try.func59 rfl (RV.tmp (v := .bool _) rfl) ?_
  exact ⟨congrArg Value.bool (decide_eq_true (list_ext_getD2 zeroA (by omega) (fun j hj => hJ.2 j (by omega)))).symm, hst.pure⟩

theorem R1md_Same1 (p q : InstP) (w : World) (hA : (Res.rargs p).holds w) (hB : (Res.rargs q).holds w) (hl : p.args.length ≤ 9000000000000000000) : Ret Try.prog 58 #[.agg #[.int .u16 p.op, .int .u32 p.ty, .int .u32 p.res, .slice p.ao p.args.length p.cap], .agg #[.int .u16 q.op, .int .u32 q.ty, .int .u32 q.res, .slice q.ao q.args.length q.cap]] w (fun v w' => v = .bool (decide (p.L = q.L)) ∧ St w NoM [] [] w') := by
  refine Ret.enter (args := [.agg #[.int .u16 p.op, .int .u32 p.ty, .int .u32 p.res, .slice p.ao p.args.length p.cap], .agg #[.int .u16 q.op, .int .u32 q.ty, .int .u32 q.res, .slice q.ao q.args.length q.cap]]) Try.func58 rfl rfl rfl ?_
  have hst : St w NoM [] [Res.rargs p, Res.rargs q] w := St.init_Ds (fun d hd => by cases hd with | head => exact hA | tail _ hd => cases hd with | head => exact hB | tail _ h => cases h)
  clear hA hB
  refine run_seq ?_
  refine run_region ?_
  refine RunL.cons (Op1.box (v := .agg #[.int .u16 _, .int .u32 _, .int .u32 _, .slice _ _ _]) hst rfl rfl fun w b2 hst => ?_)
  refine RunL.cons (Op1.box (v := .agg #[.int .u16 _, .int .u32 _, .int .u32 _, .slice _ _ _]) hst rfl rfl fun w b3 hst => ?_)
  refine RunL.cons (Op1.assign (v := .bool _) rfl ?_)
  refine RunL.nil ?_
  refine run_seq ?_
  refine run_region ?_
  refine RunL.cons (Op1.fieldAddr fld84_0 rfl ?_)
  refine RunL.cons (Op1.load1 (v := .int .u16 _) ty22 rfl rfl (hst.cellL (.tail _ (.head _)) rfl) ?_)
  refine RunL.cons (Op1.fieldAddr fld84_0 rfl ?_)
  refine RunL.cons (Op1.load1 (v := .int .u16 _) ty22 rfl rfl (hst.cellL (.head _) rfl) ?_)
  refine RunL.cons (Op1.eql rfl rfl ?_)
  refine RunL.cons (Op1.move (v := .bool _) rfl ?_)
  refine RunL.splitD (d := 10) rfl (fun g1 => ?_) (fun g1 => ?_)
  · skip
    refine RunL.take (t := 10) rfl (congrArg Value.bool (decide_eq_true g1)) (Op1.fieldAddr fld84_1 rfl ?_)
    refine RunL.take (t := 10) rfl (congrArg Value.bool (decide_eq_true g1)) (Op1.load1 (v := .int .u32 _) ty34 rfl rfl (hst.cellL (.tail _ (.head _)) rfl) ?_)
    refine RunL.take (t := 10) rfl (congrArg Value.bool (decide_eq_true g1)) (Op1.fieldAddr fld84_1 rfl ?_)
    refine RunL.take (t := 10) rfl (congrArg Value.bool (decide_eq_true g1)) (Op1.load1 (v := .int .u32 _) ty34 rfl rfl (hst.cellL (.head _) rfl) ?_)
    refine RunL.take (t := 10) rfl (congrArg Value.bool (decide_eq_true g1)) (Op1.eql rfl rfl ?_)
    refine RunL.cons (Op1.pickT (u := .bool _) (congrArg Value.bool (decide_eq_true g1)) rfl ?_)
    refine RunL.cons (Op1.move (v := .bool _) rfl ?_)
    refine RunL.splitD (d := 17) rfl (fun g2 => ?_) (fun g2 => ?_)
    · skip
      refine RunL.take (t := 17) rfl (congrArg Value.bool (decide_eq_true g2)) (Op1.fieldAddr fld84_2 rfl ?_)
      refine RunL.take (t := 17) rfl (congrArg Value.bool (decide_eq_true g2)) (Op1.load1 (v := .int .u32 _) ty34 rfl rfl (hst.cellL (.tail _ (.head _)) rfl) ?_)
      refine RunL.take (t := 17) rfl (congrArg Value.bool (decide_eq_true g2)) (Op1.fieldAddr fld84_2 rfl ?_)
      refine RunL.take (t := 17) rfl (congrArg Value.bool (decide_eq_true g2)) (Op1.load1 (v := .int .u32 _) ty34 rfl rfl (hst.cellL (.head _) rfl) ?_)
      refine RunL.take (t := 17) rfl (congrArg Value.bool (decide_eq_true g2)) (Op1.eql rfl rfl ?_)
      refine RunL.cons (Op1.pickT (u := .bool _) (congrArg Value.bool (decide_eq_true g2)) rfl ?_)
      refine RunL.cons (Op1.move (v := .bool _) rfl ?_)
      refine RunL.splitD (d := 24) rfl (fun g3 => ?_) (fun g3 => ?_)
      · skip
        refine RunL.take (t := 24) rfl (congrArg Value.bool (decide_eq_true g3)) (Op1.fieldAddr fld84_3 rfl ?_)
        refine RunL.take (t := 24) rfl (congrArg Value.bool (decide_eq_true g3)) (Op1.load1 (v := .slice _ _ _) ty82 rfl rfl (hst.cellL (.tail _ (.head _)) rfl) ?_)
        refine RunL.take (t := 24) rfl (congrArg Value.bool (decide_eq_true g3)) (Op1.fieldAddr fld84_3 rfl ?_)
        refine RunL.take (t := 24) rfl (congrArg Value.bool (decide_eq_true g3)) (Op1.load1 (v := .slice _ _ _) ty82 rfl rfl (hst.cellL (.head _) rfl) ?_)
        refine RunL.take (t := 24) rfl (congrArg Value.bool (decide_eq_true g3)) (Op1.call2 (v1 := .slice _ _ _) (v2 := .slice _ _ _) ent59 rfl rfl rfl ((R1md_Equal _ _ _ _ _ _ _ (hst.hD _ (.head _)) (hst.hD _ (.tail _ (.head _))) hl).mono fun v w hp => ?_))
        obtain ⟨rfl, hp⟩ := hp
        replace hst := hst.keepc hp
        clear hp
        refine RunL.cons (Op1.pickT (u := .bool _) (congrArg Value.bool (decide_eq_true g3)) rfl ?_)
        refine RunL.cons (Op1.assign (v := .bool _) rfl ?_)
        refine RunL.nil ?_
        refine run_ret1 Try.func58 rfl (RV.tmp (v := .bool _) rfl) ?_
        exact ⟨congrArg Value.bool (by rw [decide_eq_decide, InstP.L_eq]; exact ⟨fun h => ⟨g1, g2, g3, h⟩, fun h => h.2.2.2⟩), hst.pure⟩
      refine RunL.omit (t := 24) rfl (congrArg Value.bool (decide_eq_false g3)) rfl ?_
      refine RunL.omit (t := 24) rfl (congrArg Value.bool (decide_eq_false g3)) rfl ?_
      refine RunL.omit (t := 24) rfl (congrArg Value.bool (decide_eq_false g3)) rfl ?_
      refine RunL.omit (t := 24) rfl (congrArg Value.bool (decide_eq_false g3)) rfl ?_
      refine RunL.omit (t := 24) rfl (congrArg Value.bool (decide_eq_false g3)) rfl ?_
      refine RunL.cons (Op1.pickF (u := .bool _) (congrArg Value.bool (decide_eq_false g3)) rfl ?_)
      refine RunL.cons (Op1.assign (v := .bool _) rfl ?_)
      refine RunL.nil ?_
      refine run_ret1 Try.func58 rfl (RV.tmp (v := .bool _) rfl) ?_
      exact ⟨congrArg Value.bool (decide_eq_false (fun h => by obtain ⟨h1, h2, h3, h4⟩ := InstP.L_eq.1 h; exact g3 h3)).symm, hst.pure⟩
    refine RunL.omit (t := 17) rfl (congrArg Value.bool (decide_eq_false g2)) rfl ?_
    refine RunL.omit (t := 17) rfl (congrArg Value.bool (decide_eq_false g2)) rfl ?_
    refine RunL.omit (t := 17) rfl (congrArg Value.bool (decide_eq_false g2)) rfl ?_
    refine RunL.omit (t := 17) rfl (congrArg Value.bool (decide_eq_false g2)) rfl ?_
    refine RunL.omit (t := 17) rfl (congrArg Value.bool (decide_eq_false g2)) rfl ?_
    refine RunL.cons (Op1.pickF (u := .bool _) (congrArg Value.bool (decide_eq_false g2)) rfl ?_)
    refine RunL.cons (Op1.move (v := .bool _) rfl ?_)
    refine RunL.omit (t := 24) rfl (congrArg Value.bool (rfl : false = _)) rfl ?_
    refine RunL.omit (t := 24) rfl (congrArg Value.bool (rfl : false = _)) rfl ?_
    refine RunL.omit (t := 24) rfl (congrArg Value.bool (rfl : false = _)) rfl ?_
    refine RunL.omit (t := 24) rfl (congrArg Value.bool (rfl : false = _)) rfl ?_
    refine RunL.omit (t := 24) rfl (congrArg Value.bool (rfl : false = _)) rfl ?_
    refine RunL.cons (Op1.pickF (u := .bool _) (congrArg Value.bool (rfl : false = _)) rfl ?_)
    refine RunL.cons (Op1.assign (v := .bool _) rfl ?_)
    refine RunL.nil ?_
    refine run_ret1 Try.func58 rfl (RV.tmp (v := .bool _) rfl) ?_
    exact ⟨congrArg Value.bool (decide_eq_false (fun h => by obtain ⟨h1, h2, h3, h4⟩ := InstP.L_eq.1 h; exact g2 h2)).symm, hst.pure⟩
  refine RunL.omit (t := 10) rfl (congrArg Value.bool (decide_eq_false g1)) rfl ?_
  refine RunL.omit (t := 10) rfl (congrArg Value.bool (decide_eq_false g1)) rfl ?_
  refine RunL.omit (t := 10) rfl (congrArg Value.bool (decide_eq_false g1)) rfl ?_
  refine RunL.omit (t := 10) rfl (congrArg Value.bool (decide_eq_false g1)) rfl ?_
  refine RunL.omit (t := 10) rfl (congrArg Value.bool (decide_eq_false g1)) rfl ?_
  refine RunL.cons (Op1.pickF (u := .bool _) (congrArg Value.bool (decide_eq_false g1)) rfl ?_)
  refine RunL.cons (Op1.move (v := .bool _) rfl ?_)
  refine RunL.omit (t := 17) rfl (congrArg Value.bool (rfl : false = _)) rfl ?_
  refine RunL.omit (t := 17) rfl (congrArg Value.bool (rfl : false = _)) rfl ?_
  refine RunL.omit (t := 17) rfl (congrArg Value.bool (rfl : false = _)) rfl ?_
  refine RunL.omit (t := 17) rfl (congrArg Value.bool (rfl : false = _)) rfl ?_
  refine RunL.omit (t := 17) rfl (congrArg Value.bool (rfl : false = _)) rfl ?_
  refine RunL.cons (Op1.pickF (u := .bool _) (congrArg Value.bool (rfl : false = _)) rfl ?_)
  refine RunL.cons (Op1.move (v := .bool _) rfl ?_)
  refine RunL.omit (t := 24) rfl (congrArg Value.bool (rfl : false = _)) rfl ?_
  refine RunL.omit (t := 24) rfl (congrArg Value.bool (rfl : false = _)) rfl ?_
  refine RunL.omit (t := 24) rfl (congrArg Value.bool (rfl : false = _)) rfl ?_
  refine RunL.omit (t := 24) rfl (congrArg Value.bool (rfl : false = _)) rfl ?_
  refine RunL.omit (t := 24) rfl (congrArg Value.bool (rfl : false = _)) rfl ?_
  refine RunL.cons (Op1.pickF (u := .bool _) (congrArg Value.bool (rfl : false = _)) rfl ?_)
  refine RunL.cons (Op1.assign (v := .bool _) rfl ?_)
  refine RunL.nil ?_
  refine run_ret1 Try.func58 rfl (RV.tmp (v := .bool _) rfl) ?_
  exact ⟨congrArg Value.bool (decide_eq_false (fun h => by obtain ⟨h1, h2, h3, h4⟩ := InstP.L_eq.1 h; exact g1 h1)).symm, hst.pure⟩

theorem R1md_EqualFunc (l m : List InstP) (ao bo : Option Addr) (cp cq : Nat) (w : World) (hA : (Res.rmod ao l).holds w) (hB : (Res.rmod bo m).holds w) (hl : l.length ≤ 9000000000000000000) (hla : ∀ i ∈ l, i.args.length ≤ 9000000000000000000) : Ret Try.prog 57 #[.slice ao l.length cp, .slice bo m.length cq, .func (.func 58) #[] #[]] w (fun v w' => v = .bool (decide (l.map InstP.L = m.map InstP.L)) ∧ St w NoM [] [] w') := by
  refine Ret.enter (args := [.slice ao l.length cp, .slice bo m.length cq, .func (.func 58) #[] #[]]) Try.func57 rfl rfl rfl ?_
  have hst : St w NoM [] [Res.rmod ao l, Res.rmod bo m] w := St.init_Ds (fun d hd => by cases hd with | head => exact hA | tail _ hd => cases hd with | head => exact hB | tail _ h => cases h)
  clear hA hB
  refine run_seq ?_
  refine run_region ?_
  refine RunL.cons (Op1.assign (v := .bool _) rfl ?_)
  refine RunL.nil ?_
  refine run_seq ?_
  refine run_seq ?_
  refine run_region ?_
  refine RunL.cons (Op1.move (v := .slice _ _ _) rfl ?_)
  refine RunL.cons (Op1.lenSl (rest := []) ty35 rfl ?_)
  refine RunL.cons (Op1.move (v := .slice _ _ _) rfl ?_)
  refine RunL.cons (Op1.lenSl (rest := []) ty35 rfl ?_)
  refine RunL.cons (Op1.neq rfl rfl ?_)
  refine RunL.nil ?_
  refine run_cond_dec rfl (fun g1 => ?_) (fun g1 => ?_)
  · skip
    refine run_seq ?_
    refine run_region ?_
    refine RunL.cons (Op1.assign (v := .bool _) rfl ?_)
    refine RunL.nil ?_
    refine run_ret1 Try.func57 rfl (RV.tmp (v := .bool _) rfl) ?_
    exact ⟨congrArg Value.bool (decide_eq_false (fun h => by have := insts_len h; omega)).symm, hst.pure⟩
  refine run_skip ?_
  refine run_seq ?_
  refine run_seq ?_
  refine run_region ?_
  refine RunL.cons (Op1.move (v := .slice _ _ _) rfl ?_)
  refine RunL.cons (Op1.lenSl (rest := []) ty35 rfl ?_)
  refine RunL.cons (Op1.move (v := .int .i64 _) rfl ?_)
  refine RunL.nil ?_
  refine run_block ?_
  refine run_loop ?_
  refine Run.indW [(1, .slice _ _ _), (2, .func _ _ _), (15, .slice _ _ _), (16, .int .i64 _)] ⟨rfl, rfl, rfl, rfl, trivial⟩ (fun (i : Nat) => [(17, .int .i64 (i : Int))]) (fun (i : Nat) => []) (fun (i : Nat) => i ≤ l.length ∧ ∀ j, j < i → (l.getD j zeroI).L = (m.getD j zeroI).L) (fun (i : Nat) => l.length - i) (0) hst ⟨Nat.zero_le _, fun j hj => absurd hj (by omega)⟩ ⟨rfl, trivial⟩ ?_
  intro i f w hst hJ ih2
  refine run_seq ?_
  refine run_region ?_
  refine RunL.cons (Op1.lss rfl rfl ?_)
  refine RunL.nil ?_
  refine run_seq ?_
  refine run_cond_dec rfl (fun g3 => ?_) (fun g3 => ?_)
  · skip
    refine run_skip ?_
    refine run_seq ?_
    refine run_block ?_
    refine run_seq ?_
    refine run_region ?_
    refine RunL.cons (Op1.move (v := .int .i64 _) rfl ?_)
    refine RunL.cons (Op1.indexRs ty35 ty84 (Res.rmod_insts (hst.hD _ (.head _))) rfl rfl (by omega) (by omega) ?_)
    refine RunL.cons (Op1.loadA (vs := [.int .u16 _, .int .u32 _, .int .u32 _, .slice _ _ _]) ty84 rfl rfl rfl (Res.rs2_cells (m := 4) (Res.rmod_insts (hst.hD _ (.head _))) _ (flat_seg (g := instC) (d := zeroI) instC_len _ _ (by omega))) ?_)
    refine RunL.cons (Op1.alloc hst ty84 fun w b8 hst => ?_)
    refine RunL.cons (Op1.assign (v := .int .i64 _) rfl ?_)
    refine RunL.cons (Op1.store (v := .agg #[.int .u16 _, .int .u32 _, .int .u32 _, .slice _ _ _]) hst ty84 rfl rfl rfl rfl rfl (.here) (by repeat (first | exact Put.nil | apply Put.put | apply Put.skip)) fun w hst => ?_)
    refine RunL.nil ?_
    refine run_seq ?_
    refine run_region ?_
    refine RunL.cons (Op1.move (v := .slice _ _ _) rfl ?_)
    refine RunL.cons (Op1.move (v := .int .i64 _) rfl ?_)
    refine RunL.cons (Op1.indexRs ty35 ty84 (Res.rmod_insts (hst.hD _ (.tail _ (.head _)))) rfl rfl (by omega) (by omega) ?_)
    refine RunL.cons (Op1.loadA (vs := [.int .u16 _, .int .u32 _, .int .u32 _, .slice _ _ _]) ty84 rfl rfl rfl (Res.rs2_cells (m := 4) (Res.rmod_insts (hst.hD _ (.tail _ (.head _)))) _ (flat_seg (g := instC) (d := zeroI) instC_len _ _ (by omega))) ?_)
    refine RunL.cons (Op1.alloc hst ty84 fun w b9 hst => ?_)
    refine RunL.cons (Op1.store (v := .agg #[.int .u16 _, .int .u32 _, .int .u32 _, .slice _ _ _]) hst ty84 rfl rfl rfl rfl rfl (.here) (by repeat (first | exact Put.nil | apply Put.put | apply Put.skip)) fun w hst => ?_)
    refine RunL.nil ?_
    refine run_seq ?_
    refine run_region ?_
    refine RunL.cons (Op1.move (v := .func _ _ _) rfl ?_)
    refine RunL.cons (Op1.loadA (vs := [.int .u16 _, .int .u32 _, .int .u32 _, .slice _ _ _]) ty84 rfl rfl rfl (cells_of_obj (n := 4) (hst.objL (.tail _ (.head _))) _ rfl) ?_)
    refine RunL.cons (Op1.loadA (vs := [.int .u16 _, .int .u32 _, .int .u32 _, .slice _ _ _]) ty84 rfl rfl rfl (cells_of_obj (n := 4) (hst.objL (.head _)) _ rfl) ?_)
    refine RunL.cons (Op1.callV2 (v1 := .agg #[.int .u16 _, .int .u32 _, .int .u32 _, .slice _ _ _]) (v2 := .agg #[.int .u16 _, .int .u32 _, .int .u32 _, .slice _ _ _]) rfl rfl rfl (CallV.func ent58 ((R1md_Same1 _ _ _ (Res.rmod_argsI (hst.hD _ (.head _)) (by omega)) (Res.rmod_argsI (hst.hD _ (.tail _ (.head _))) (by omega)) (hla _ (getD_memD (by omega)))).mono fun v w hp => ?_)))
    obtain ⟨rfl, hp⟩ := hp
    replace hst := hst.keepc hp
    clear hp
    refine RunL.cons (Op1.not rfl ?_)
    refine RunL.nil ?_
    refine run_cond_split rfl (fun g4 => ?_) (fun g4 => ?_)
    · skip
      refine run_seq ?_
      refine run_region ?_
      refine RunL.cons (Op1.assign (v := .bool _) rfl ?_)
      refine RunL.nil ?_
      refine run_ret1 Try.func57 rfl (RV.tmp (v := .bool _) rfl) ?_
      exact ⟨congrArg Value.bool (decide_eq_false (fun h => by have hg := g4; rw [decide_eq_true (insts_getD h (by omega))] at hg; simp at hg)).symm, hst.pure⟩
    refine run_skip ?_
    refine run_inBlock ?_
    refine run_region ?_
    refine RunL.cons (Op1.addN rfl rfl rfl (wrap_i64 (by omega) (by omega)) ?_)
    refine RunL.cons (Op1.move (v := .int .i64 _) rfl ?_)
    refine RunL.nil ?_
    refine run_inLoop ?_
    replace hst := hst.pick .nil
    exact ih2 (i + 1) _ w (by omega) hst (⟨by omega, step_all hJ.2 (by simpa using g4)⟩) ⟨rfl, rfl, rfl, rfl, trivial⟩ ⟨(congrArg (Value.int .i64) (by omega)), trivial⟩
  refine run_exit (id := 0) rfl ?_
  refine run_seq ?_
  refine run_region ?_
  refine RunL.cons (Op1.assign (v := .bool _) rfl ?_)
  refine RunL.nil ?_
  refine run_ret1 Try.func57 rfl (RV.tmp (v := .bool _) rfl) ?_
  exact ⟨congrArg Value.bool (decide_eq_true (insts_ext (by omega) (fun j hj => hJ.2 j (by omega)))).symm, hst.pure⟩

theorem R1md_Module (ga ba gb bb : Int) (l m : List InstP) (ao bo : Option Addr) (cp cq : Nat) (w : World) (hA : (Res.rmod ao l).holds w) (hB : (Res.rmod bo m).holds w) (hl : l.length ≤ 9000000000000000000) (hla : ∀ i ∈ l, i.args.length ≤ 9000000000000000000) : Ret Try.prog 33 #[.agg #[.int .u32 ga, .int .u32 ba, .slice ao l.length cp], .agg #[.int .u32 gb, .int .u32 bb, .slice bo m.length cq]] w (fun v w' => v = .bool (sameM ga ba l gb bb m) ∧ St w NoM [] [] w') := by
  refine Ret.enter (args := [.agg #[.int .u32 ga, .int .u32 ba, .slice ao l.length cp], .agg #[.int .u32 gb, .int .u32 bb, .slice bo m.length cq]]) Try.func33 rfl rfl rfl ?_
  have hst : St w NoM [] [Res.rmod ao l, Res.rmod bo m] w := St.init_Ds (fun d hd => by cases hd with | head => exact hA | tail _ hd => cases hd with | head => exact hB | tail _ h => cases h)
  clear hA hB
  refine run_seq ?_
  refine run_region ?_
  refine RunL.cons (Op1.box (v := .agg #[.int .u32 _, .int .u32 _, .slice _ _ _]) hst rfl rfl fun w b2 hst => ?_)
  refine RunL.cons (Op1.box (v := .agg #[.int .u32 _, .int .u32 _, .slice _ _ _]) hst rfl rfl fun w b3 hst => ?_)
  refine RunL.cons (Op1.assign (v := .bool _) rfl ?_)
  refine RunL.nil ?_
  refine run_seq ?_
  refine run_seq ?_
  refine run_region ?_
  refine RunL.cons (Op1.fieldAddr fld37_0 rfl ?_)
  refine RunL.cons (Op1.load1 (v := .int .u32 _) ty34 rfl rfl (hst.cellL (.tail _ (.head _)) rfl) ?_)
  refine RunL.cons (Op1.fieldAddr fld37_0 rfl ?_)
  refine RunL.cons (Op1.load1 (v := .int .u32 _) ty34 rfl rfl (hst.cellL (.head _) rfl) ?_)
  refine RunL.cons (Op1.neq rfl rfl ?_)
  refine RunL.cons (Op1.move (v := .bool _) rfl ?_)
  refine RunL.splitD (d := 11) rfl (fun g1 => ?_) (fun g1 => ?_)
  · skip
    refine RunL.omit (t := 11) rfl (congrArg Value.bool (decide_eq_true g1)) rfl ?_
    refine RunL.omit (t := 11) rfl (congrArg Value.bool (decide_eq_true g1)) rfl ?_
    refine RunL.omit (t := 11) rfl (congrArg Value.bool (decide_eq_true g1)) rfl ?_
    refine RunL.omit (t := 11) rfl (congrArg Value.bool (decide_eq_true g1)) rfl ?_
    refine RunL.omit (t := 11) rfl (congrArg Value.bool (decide_eq_true g1)) rfl ?_
    refine RunL.cons (Op1.pickT (u := .bool _) (congrArg Value.bool (decide_eq_true g1)) rfl ?_)
    refine RunL.cons (Op1.move (v := .bool _) rfl ?_)
    refine RunL.omit (t := 18) rfl (congrArg Value.bool (rfl : true = _)) rfl ?_
    refine RunL.omit (t := 18) rfl (congrArg Value.bool (rfl : true = _)) rfl ?_
    refine RunL.omit (t := 18) rfl (congrArg Value.bool (rfl : true = _)) rfl ?_
    refine RunL.omit (t := 18) rfl (congrArg Value.bool (rfl : true = _)) rfl ?_
    refine RunL.omit (t := 18) rfl (congrArg Value.bool (rfl : true = _)) rfl ?_
    refine RunL.omit (t := 18) rfl (congrArg Value.bool (rfl : true = _)) rfl ?_
    refine RunL.omit (t := 18) rfl (congrArg Value.bool (rfl : true = _)) rfl ?_
    refine RunL.cons (Op1.pickT (u := .bool _) (congrArg Value.bool (rfl : true = _)) rfl ?_)
    refine RunL.nil ?_
    refine run_cond_true (congrArg Value.bool (rfl : true = _)) ?_
    refine run_seq ?_
    refine run_region ?_
    refine RunL.cons (Op1.assign (v := .bool _) rfl ?_)
    refine RunL.nil ?_
    refine run_ret1 Try.func33 rfl (RV.tmp (v := .bool _) rfl) ?_
    exact ⟨congrArg Value.bool (decide_eq_false (fun h => g1 h.1)).symm, hst.pure⟩
  refine RunL.take (t := 11) rfl (congrArg Value.bool (decide_eq_false g1)) (Op1.fieldAddr fld37_1 rfl ?_)
  refine RunL.take (t := 11) rfl (congrArg Value.bool (decide_eq_false g1)) (Op1.load1 (v := .int .u32 _) ty34 rfl rfl (hst.cellL (.tail _ (.head _)) rfl) ?_)
  refine RunL.take (t := 11) rfl (congrArg Value.bool (decide_eq_false g1)) (Op1.fieldAddr fld37_1 rfl ?_)
  refine RunL.take (t := 11) rfl (congrArg Value.bool (decide_eq_false g1)) (Op1.load1 (v := .int .u32 _) ty34 rfl rfl (hst.cellL (.head _) rfl) ?_)
  refine RunL.take (t := 11) rfl (congrArg Value.bool (decide_eq_false g1)) (Op1.neq rfl rfl ?_)
  refine RunL.cons (Op1.pickF (u := .bool _) (congrArg Value.bool (decide_eq_false g1)) rfl ?_)
  refine RunL.cons (Op1.move (v := .bool _) rfl ?_)
  refine RunL.splitD (d := 18) rfl (fun g2 => ?_) (fun g2 => ?_)
  · skip
    refine RunL.omit (t := 18) rfl (congrArg Value.bool (decide_eq_true g2)) rfl ?_
    refine RunL.omit (t := 18) rfl (congrArg Value.bool (decide_eq_true g2)) rfl ?_
    refine RunL.omit (t := 18) rfl (congrArg Value.bool (decide_eq_true g2)) rfl ?_
    refine RunL.omit (t := 18) rfl (congrArg Value.bool (decide_eq_true g2)) rfl ?_
    refine RunL.omit (t := 18) rfl (congrArg Value.bool (decide_eq_true g2)) rfl ?_
    refine RunL.omit (t := 18) rfl (congrArg Value.bool (decide_eq_true g2)) rfl ?_
    refine RunL.omit (t := 18) rfl (congrArg Value.bool (decide_eq_true g2)) rfl ?_
    refine RunL.cons (Op1.pickT (u := .bool _) (congrArg Value.bool (decide_eq_true g2)) rfl ?_)
    refine RunL.nil ?_
    refine run_cond_true (congrArg Value.bool (rfl : true = _)) ?_
    refine run_seq ?_
    refine run_region ?_
    refine RunL.cons (Op1.assign (v := .bool _) rfl ?_)
    refine RunL.nil ?_
    refine run_ret1 Try.func33 rfl (RV.tmp (v := .bool _) rfl) ?_
    exact ⟨congrArg Value.bool (decide_eq_false (fun h => g2 h.2.1)).symm, hst.pure⟩
  refine RunL.take (t := 18) rfl (congrArg Value.bool (decide_eq_false g2)) (Op1.fieldAddr fld37_2 rfl ?_)
  refine RunL.take (t := 18) rfl (congrArg Value.bool (decide_eq_false g2)) (Op1.load1 (v := .slice _ _ _) ty35 rfl rfl (hst.cellL (.tail _ (.head _)) rfl) ?_)
  refine RunL.take (t := 18) rfl (congrArg Value.bool (decide_eq_false g2)) (Op1.lenSl (rest := []) ty35 rfl ?_)
  refine RunL.take (t := 18) rfl (congrArg Value.bool (decide_eq_false g2)) (Op1.fieldAddr fld37_2 rfl ?_)
  refine RunL.take (t := 18) rfl (congrArg Value.bool (decide_eq_false g2)) (Op1.load1 (v := .slice _ _ _) ty35 rfl rfl (hst.cellL (.head _) rfl) ?_)
  refine RunL.take (t := 18) rfl (congrArg Value.bool (decide_eq_false g2)) (Op1.lenSl (rest := []) ty35 rfl ?_)
  refine RunL.take (t := 18) rfl (congrArg Value.bool (decide_eq_false g2)) (Op1.neq rfl rfl ?_)
  refine RunL.cons (Op1.pickF (u := .bool _) (congrArg Value.bool (decide_eq_false g2)) rfl ?_)
  refine RunL.nil ?_
  refine Run.forget [(2, .pointer (some ⟨_, _, none⟩)), (3, .pointer (some ⟨_, _, none⟩)), (26, .bool _)] ⟨rfl, rfl, rfl, trivial⟩ (fun f => ?_)
  refine run_cond_dec rfl (fun g3 => ?_) (fun g3 => ?_)
  · skip
    refine run_seq ?_
    refine run_region ?_
    refine RunL.cons (Op1.assign (v := .bool _) rfl ?_)
    refine RunL.nil ?_
    refine run_ret1 Try.func33 rfl (RV.tmp (v := .bool _) rfl) ?_
    exact ⟨congrArg Value.bool (decide_eq_false (fun h => by have := insts_len h.2.2; omega)).symm, hst.pure⟩
  refine run_skip ?_
  refine run_seq ?_
  refine run_seq ?_
  refine run_region ?_
  refine RunL.cons (Op1.assign (v := .int .i64 _) rfl ?_)
  refine RunL.nil ?_
  refine run_block ?_
  refine run_loop ?_
  refine Run.indW [(2, .pointer (some ⟨_, _, none⟩)), (3, .pointer (some ⟨_, _, none⟩))] ⟨rfl, rfl, trivial⟩ (fun (i : Nat) => [(5, .int .i64 (i : Int))]) (fun (i : Nat) => []) (fun (i : Nat) => i ≤ l.length ∧ ∀ j, j < i → (l.getD j zeroI).L = (m.getD j zeroI).L) (fun (i : Nat) => l.length - i) (0) hst ⟨Nat.zero_le _, fun j hj => absurd hj (by omega)⟩ ⟨rfl, trivial⟩ ?_
  intro i f w hst hJ ih4
  refine run_seq ?_
  refine run_seq ?_
  refine run_region ?_
  refine RunL.cons (Op1.move (v := .int .i64 _) rfl ?_)
  refine RunL.cons (Op1.fieldAddr fld37_2 rfl ?_)
  refine RunL.cons (Op1.load1 (v := .slice _ _ _) ty35 rfl rfl (hst.cellL (.tail _ (.head _)) rfl) ?_)
  refine RunL.cons (Op1.lenSl (rest := []) ty35 rfl ?_)
  refine RunL.cons (Op1.lss rfl rfl ?_)
  refine RunL.nil ?_
  refine run_cond_dec rfl (fun g5 => ?_) (fun g5 => ?_)
  · skip
    refine run_skip ?_
    refine run_seq ?_
    refine run_block ?_
    refine run_seq ?_
    refine RunD.start [] hst (bs := [0, 1, 0, 7, 15, 0, 32, 0, 224, 480, 1023, 2047]) (ds := [some 34, some 35, some 36, some 37, some 38, some 39, some 40, some 41, some 42, some 43, some 44, some 45]) ⟨by kernel_rfl, by kernel_rfl, by kernel_rfl⟩ (fun tab6 => ?_)
    refine RunD.op (det _) tab6 1 (fun f' L' w' hc => Op1.fieldAddr fld37_2 (hc.old (v := .pointer (some ⟨_, _, none⟩)) rfl rfl rfl) ⟨[], ⟨rfl, rfl⟩, hc.st⟩) ?_
    refine RunD.op (det _) tab6 2 (fun f' L' w' hc => Op1.load1 (v := .slice _ _ _) ty35 rfl (hc.det (j := 0) rfl rfl rfl rfl) (hc.st.cellL (List.mem_append_right _ (.tail _ (.head _))) rfl) ⟨[], ⟨rfl, rfl⟩, hc.st⟩) ?_
    refine RunD.op (det _) tab6 3 (fun f' L' w' hc => Op1.move (v := .int .i64 _) (hc.old (v := .int .i64 _) rfl rfl rfl) ⟨[], ⟨rfl, rfl⟩, hc.st⟩) ?_
    refine RunD.op (det _) tab6 4 (fun f' L' w' hc => Op1.indexRs ty35 ty84 (Res.rmod_insts (hc.st.hD _ (.head _))) (hc.det (j := 1) rfl rfl rfl rfl) (hc.det (j := 2) rfl rfl rfl rfl) (by omega) (by omega) ⟨[], ⟨rfl, rfl⟩, hc.st⟩) ?_
    refine RunD.op (det _) tab6 5 (fun f' L' w' hc => Op1.loadA (vs := [.int .u16 _, .int .u32 _, .int .u32 _, .slice _ _ _]) ty84 rfl (hc.det (j := 3) rfl rfl rfl rfl) rfl (Res.rs2_cells (m := 4) (Res.rmod_insts (hc.st.hD _ (.head _))) _ (flat_seg (g := instC) (d := zeroI) instC_len _ _ (by omega))) ⟨[], ⟨rfl, rfl⟩, hc.st⟩) ?_
    refine RunD.op (det _) tab6 6 (fun f' L' w' hc => Op1.fieldAddr fld37_2 (hc.old (v := .pointer (some ⟨_, _, none⟩)) rfl rfl rfl) ⟨[], ⟨rfl, rfl⟩, hc.st⟩) ?_
    refine RunD.op (det _) tab6 7 (fun f' L' w' hc => Op1.load1 (v := .slice _ _ _) ty35 rfl (hc.det (j := 5) rfl rfl rfl rfl) (hc.st.cellL (List.mem_append_right _ (.head _)) rfl) ⟨[], ⟨rfl, rfl⟩, hc.st⟩) ?_
    refine RunD.op (det _) tab6 8 (fun f' L' w' hc => Op1.move (v := .int .i64 _) (hc.old (v := .int .i64 _) rfl rfl rfl) ⟨[], ⟨rfl, rfl⟩, hc.st⟩) ?_
    refine RunD.op (det _) tab6 9 (fun f' L' w' hc => Op1.indexRs ty35 ty84 (Res.rmod_insts (hc.st.hD _ (.tail _ (.head _)))) (hc.det (j := 6) rfl rfl rfl rfl) (hc.det (j := 7) rfl rfl rfl rfl) (by omega) (by omega) ⟨[], ⟨rfl, rfl⟩, hc.st⟩) ?_
    refine RunD.op (det _) tab6 10 (fun f' L' w' hc => Op1.loadA (vs := [.int .u16 _, .int .u32 _, .int .u32 _, .slice _ _ _]) ty84 rfl (hc.det (j := 8) rfl rfl rfl rfl) rfl (Res.rs2_cells (m := 4) (Res.rmod_insts (hc.st.hD _ (.tail _ (.head _)))) _ (flat_seg (g := instC) (d := zeroI) instC_len _ _ (by omega))) ⟨[], ⟨rfl, rfl⟩, hc.st⟩) ?_
    refine RunD.fin followsMixed tab6 hst rfl (fun f7 w R10 hs8 hd9 hr11 hst => ?_)
    obtain ⟨h34_, r0⟩ := hd9 0 34 rfl rfl
    obtain ⟨h35_, r1⟩ := hd9 1 35 rfl rfl
    obtain ⟨h36_, r2⟩ := hd9 2 36 rfl rfl
    obtain ⟨h37_, r3⟩ := hd9 3 37 rfl rfl
    obtain ⟨h38_, r4⟩ := hd9 4 38 rfl rfl
    obtain ⟨h39_, r5⟩ := hd9 5 39 rfl rfl
    obtain ⟨h40_, r6⟩ := hd9 6 40 rfl rfl
    obtain ⟨h41_, r7⟩ := hd9 7 41 rfl rfl
    obtain ⟨h42_, r8⟩ := hd9 8 42 rfl rfl
    obtain ⟨h43_, r9⟩ := hd9 9 43 rfl rfl
    simp only [show List.range 10 = [0, 1, 2, 3, 4, 5, 6, 7, 8, 9] from rfl, List.flatMap_cons, List.flatMap_nil, List.map_cons, List.map_nil, r0, r1, r2, r3, r4, r5, r6, r7, r8, r9, List.nil_append, List.append_nil, List.cons_append] at hst
    refine RunL.slots (sl := [(2, .pointer (some ⟨_, _, none⟩)), (3, .pointer (some ⟨_, _, none⟩)), (5, .int .i64 _), (38, .agg #[.int .u16 _, .int .u32 _, .int .u32 _, .slice _ _ _]), (43, .agg #[.int .u16 _, .int .u32 _, .int .u32 _, .slice _ _ _])]) ⟨(hs8 2 rfl).trans rfl, (hs8 3 rfl).trans rfl, (hs8 5 rfl).trans rfl, h38_, h43_, trivial⟩ ?_
    clear hs8 hd9 hr11 tab6
    refine RunL.cons (Op1.call2 (v1 := .agg #[.int .u16 _, .int .u32 _, .int .u32 _, .slice _ _ _]) (v2 := .agg #[.int .u16 _, .int .u32 _, .int .u32 _, .slice _ _ _]) ent60 rfl rfl rfl ((R1md_Inst _ _ _ (Res.rmod_argsI (hst.hD _ (.head _)) (by omega)) (Res.rmod_argsI (hst.hD _ (.tail _ (.head _))) (by omega)) (hla _ (getD_memD (by omega)))).mono fun v w hp => ?_))
    obtain ⟨rfl, hp⟩ := hp
    replace hst := hst.keepc hp
    clear hp
    refine RunL.cons (Op1.not rfl ?_)
    refine RunL.nil ?_
    refine run_cond_split rfl (fun g12 => ?_) (fun g12 => ?_)
    · skip
      refine run_seq ?_
      refine run_region ?_
      refine RunL.cons (Op1.assign (v := .bool _) rfl ?_)
      refine RunL.nil ?_
      refine run_ret1 Try.func33 rfl (RV.tmp (v := .bool _) rfl) ?_
      exact ⟨congrArg Value.bool (decide_eq_false (fun h => by have hg := g12; rw [decide_eq_true (insts_getD h.2.2 (by omega))] at hg; simp at hg)).symm, hst.pure⟩
    refine run_skip ?_
    refine run_inBlock ?_
    refine run_region ?_
    refine RunL.cons (Op1.move (v := .int .i64 _) rfl ?_)
    refine RunL.cons (Op1.addN rfl rfl rfl (wrap_i64 (by omega) (by omega)) ?_)
    refine RunL.cons (Op1.assign (v := .int .i64 _) rfl ?_)
    refine RunL.nil ?_
    refine run_inLoop ?_
    exact ih4 (i + 1) _ w (by omega) hst (⟨by omega, step_all hJ.2 (by simpa using g12)⟩) ⟨rfl, rfl, trivial⟩ ⟨(congrArg (Value.int .i64) (by omega)), trivial⟩
  refine run_exit (id := 0) rfl ?_
  refine run_seq ?_
  refine run_region ?_
  refine RunL.cons (Op1.assign (v := .bool _) rfl ?_)
  refine RunL.nil ?_
  refine run_ret1 Try.func33 rfl (RV.tmp (v := .bool _) rfl) ?_
  exact ⟨congrArg Value.bool (decide_eq_true (⟨Classical.not_not.1 g1, Classical.not_not.1 g2, insts_ext (by omega) (fun j hj => hJ.2 j (by omega))⟩)).symm, hst.pure⟩

theorem R1md_Same (ga ba gb bb : Int) (l m : List InstP) (ao bo : Option Addr) (cp cq : Nat) (w : World) (hA : (Res.rmod ao l).holds w) (hB : (Res.rmod bo m).holds w) (hl : l.length ≤ 9000000000000000000) (hla : ∀ i ∈ l, i.args.length ≤ 9000000000000000000) : Ret Try.prog 32 #[.agg #[.int .u32 ga, .int .u32 ba, .slice ao l.length cp], .agg #[.int .u32 gb, .int .u32 bb, .slice bo m.length cq]] w (fun v w' => v = .bool (sameM ga ba l gb bb m) ∧ St w NoM [] [] w') := by
  refine Ret.enter (args := [.agg #[.int .u32 ga, .int .u32 ba, .slice ao l.length cp], .agg #[.int .u32 gb, .int .u32 bb, .slice bo m.length cq]]) Try.func32 rfl rfl rfl ?_
  have hst : St w NoM [] [Res.rmod ao l, Res.rmod bo m] w := St.init_Ds (fun d hd => by cases hd with | head => exact hA | tail _ hd => cases hd with | head => exact hB | tail _ h => cases h)
  clear hA hB
  refine run_seq ?_
  refine run_region ?_
  refine RunL.cons (Op1.box (v := .agg #[.int .u32 _, .int .u32 _, .slice _ _ _]) hst rfl rfl fun w b2 hst => ?_)
  refine RunL.cons (Op1.box (v := .agg #[.int .u32 _, .int .u32 _, .slice _ _ _]) hst rfl rfl fun w b3 hst => ?_)
  refine RunL.cons (Op1.assign (v := .bool _) rfl ?_)
  refine RunL.nil ?_
  refine run_seq ?_
  refine run_region ?_
  refine RunL.cons (Op1.fieldAddr fld37_0 rfl ?_)
  refine RunL.cons (Op1.load1 (v := .int .u32 _) ty34 rfl rfl (hst.cellL (.tail _ (.head _)) rfl) ?_)
  refine RunL.cons (Op1.fieldAddr fld37_0 rfl ?_)
  refine RunL.cons (Op1.load1 (v := .int .u32 _) ty34 rfl rfl (hst.cellL (.head _) rfl) ?_)
  refine RunL.cons (Op1.eql rfl rfl ?_)
  refine RunL.cons (Op1.move (v := .bool _) rfl ?_)
  refine RunL.splitD (d := 10) rfl (fun g1 => ?_) (fun g1 => ?_)
  · skip
    refine RunL.take (t := 10) rfl (congrArg Value.bool (decide_eq_true g1)) (Op1.fieldAddr fld37_1 rfl ?_)
    refine RunL.take (t := 10) rfl (congrArg Value.bool (decide_eq_true g1)) (Op1.load1 (v := .int .u32 _) ty34 rfl rfl (hst.cellL (.tail _ (.head _)) rfl) ?_)
    refine RunL.take (t := 10) rfl (congrArg Value.bool (decide_eq_true g1)) (Op1.fieldAddr fld37_1 rfl ?_)
    refine RunL.take (t := 10) rfl (congrArg Value.bool (decide_eq_true g1)) (Op1.load1 (v := .int .u32 _) ty34 rfl rfl (hst.cellL (.head _) rfl) ?_)
    refine RunL.take (t := 10) rfl (congrArg Value.bool (decide_eq_true g1)) (Op1.eql rfl rfl ?_)
    refine RunL.cons (Op1.pickT (u := .bool _) (congrArg Value.bool (decide_eq_true g1)) rfl ?_)
    refine RunL.cons (Op1.move (v := .bool _) rfl ?_)
    refine RunL.splitD (d := 17) rfl (fun g2 => ?_) (fun g2 => ?_)
    · skip
      refine RunL.take (t := 17) rfl (congrArg Value.bool (decide_eq_true g2)) (Op1.fieldAddr fld37_2 rfl ?_)
      refine RunL.take (t := 17) rfl (congrArg Value.bool (decide_eq_true g2)) (Op1.load1 (v := .slice _ _ _) ty35 rfl rfl (hst.cellL (.tail _ (.head _)) rfl) ?_)
      refine RunL.take (t := 17) rfl (congrArg Value.bool (decide_eq_true g2)) (Op1.fieldAddr fld37_2 rfl ?_)
      refine RunL.take (t := 17) rfl (congrArg Value.bool (decide_eq_true g2)) (Op1.load1 (v := .slice _ _ _) ty35 rfl rfl (hst.cellL (.head _) rfl) ?_)
      refine RunL.take (t := 17) rfl (congrArg Value.bool (decide_eq_true g2)) (Op1.call3 (v1 := .slice _ _ _) (v2 := .slice _ _ _) (v3 := .func _ _ _) ent57 rfl rfl rfl rfl ((R1md_EqualFunc _ _ _ _ _ _ _ (hst.hD _ (.head _)) (hst.hD _ (.tail _ (.head _))) hl hla).mono fun v w hp => ?_))
      obtain ⟨rfl, hp⟩ := hp
      replace hst := hst.keepc hp
      clear hp
      refine RunL.cons (Op1.pickT (u := .bool _) (congrArg Value.bool (decide_eq_true g2)) rfl ?_)
      refine RunL.cons (Op1.assign (v := .bool _) rfl ?_)
      refine RunL.nil ?_
      refine run_ret1 Try.func32 rfl (RV.tmp (v := .bool _) rfl) ?_
      exact ⟨congrArg Value.bool (by unfold sameM; rw [decide_eq_decide]; exact ⟨fun h => ⟨g1, g2, h⟩, fun h => h.2.2⟩), hst.pure⟩
    refine RunL.omit (t := 17) rfl (congrArg Value.bool (decide_eq_false g2)) rfl ?_
    refine RunL.omit (t := 17) rfl (congrArg Value.bool (decide_eq_false g2)) rfl ?_
    refine RunL.omit (t := 17) rfl (congrArg Value.bool (decide_eq_false g2)) rfl ?_
    refine RunL.omit (t := 17) rfl (congrArg Value.bool (decide_eq_false g2)) rfl ?_
    refine RunL.omit (t := 17) rfl (congrArg Value.bool (decide_eq_false g2)) rfl ?_
    refine RunL.cons (Op1.pickF (u := .bool _) (congrArg Value.bool (decide_eq_false g2)) rfl ?_)
    refine RunL.cons (Op1.assign (v := .bool _) rfl ?_)
    refine RunL.nil ?_
    refine run_ret1 Try.func32 rfl (RV.tmp (v := .bool _) rfl) ?_
    exact ⟨congrArg Value.bool (decide_eq_false (fun h => g2 h.2.1)).symm, hst.pure⟩
  refine RunL.omit (t := 10) rfl (congrArg Value.bool (decide_eq_false g1)) rfl ?_
  refine RunL.omit (t := 10) rfl (congrArg Value.bool (decide_eq_false g1)) rfl ?_
  refine RunL.omit (t := 10) rfl (congrArg Value.bool (decide_eq_false g1)) rfl ?_
  refine RunL.omit (t := 10) rfl (congrArg Value.bool (decide_eq_false g1)) rfl ?_
  refine RunL.omit (t := 10) rfl (congrArg Value.bool (decide_eq_false g1)) rfl ?_
  refine RunL.cons (Op1.pickF (u := .bool _) (congrArg Value.bool (decide_eq_false g1)) rfl ?_)
  refine RunL.cons (Op1.move (v := .bool _) rfl ?_)
  refine RunL.omit (t := 17) rfl (congrArg Value.bool (rfl : false = _)) rfl ?_
  refine RunL.omit (t := 17) rfl (congrArg Value.bool (rfl : false = _)) rfl ?_
  refine RunL.omit (t := 17) rfl (congrArg Value.bool (rfl : false = _)) rfl ?_
  refine RunL.omit (t := 17) rfl (congrArg Value.bool (rfl : false = _)) rfl ?_
  refine RunL.omit (t := 17) rfl (congrArg Value.bool (rfl : false = _)) rfl ?_
  refine RunL.cons (Op1.pickF (u := .bool _) (congrArg Value.bool (rfl : false = _)) rfl ?_)
  refine RunL.cons (Op1.assign (v := .bool _) rfl ?_)
  refine RunL.nil ?_
  refine run_ret1 Try.func32 rfl (RV.tmp (v := .bool _) rfl) ?_
  exact ⟨congrArg Value.bool (decide_eq_false (fun h => g1 h.1)).symm, hst.pure⟩

end Go.SK
