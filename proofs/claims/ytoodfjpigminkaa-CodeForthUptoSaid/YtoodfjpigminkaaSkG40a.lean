/-
  Steps of functions, plain law, and walks of functions: what the laws rest on.
-/
import Derived.Test.YtoodfjpigminkaaSkG0d
import Derived.Test.YtoodfjpigminkaaSkG1a
import Derived.Test.YtoodfjpigminkaaSkG2a
import Derived.Test.YtoodfjpigminkaaSkG3a
import Derived.Test.YtoodfjpigminkaaSkG4a
import Derived.Test.YtoodfjpigminkaaSkG5a
import Derived.Test.YtoodfjpigminkaaSkG6a
import Derived.Test.YtoodfjpigminkaaSkG7a
import Derived.Test.YtoodfjpigminkaaSkG8a
import Derived.Test.YtoodfjpigminkaaSkG10a
import Derived.Test.YtoodfjpigminkaaSkG11a
import Derived.Test.YtoodfjpigminkaaSkG15a
import Derived.Test.YtoodfjpigminkaaSkG16a
import Derived.Test.YtoodfjpigminkaaSkG19a
import Derived.Test.YtoodfjpigminkaaSkG23a
import Derived.Test.YtoodfjpigminkaaSkG24a
import Derived.Test.YtoodfjpigminkaaSkG31a
import Derived.Test.YtoodfjpigminkaaSkG34a
set_option linter.unusedVariables false
set_option linter.unusedSimpArgs false
set_option linter.unusedSectionVars false
namespace Go.SK
open Go Go.Proofs
theorem ent65 : Enters Try.prog 65 := ⟨Try.f65, _, Try.func65, by kernel_rfl, rfl⟩
theorem ent64 : Enters Try.prog 64 := ⟨Try.f64, _, Try.func64, by kernel_rfl, rfl⟩
theorem ent63 : Enters Try.prog 63 := ⟨Try.f63, _, Try.func63, by kernel_rfl, rfl⟩
end Go.SK
namespace Go.SK
open Go Go.Proofs
open Go.RowKit
theorem R3md_Equal (l m : List ArgP) (ao bo : Option Addr) (cp cq : Nat) (w : World) (hA : (Res.rs ao l.length 3 (l.flatMap argC)).holds w) (hB : (Res.rs bo m.length 3 (m.flatMap argC)).holds w) (hl : l.length ≤ 9000000000000000000) : Ret Try.prog 65 #[.slice ao l.length cp, .slice bo m.length cq] w (fun v w' => v = .bool (decide (l = m)) ∧ St w NoM [] [] w') := by
 refine Ret.enter (args := [.slice ao l.length cp, .slice bo m.length cq]) Try.func65 rfl rfl rfl ?_
 have hst : St w NoM [] [Res.rs ao l.length 3 (l.flatMap argC), Res.rs bo m.length 3 (m.flatMap argC)] w := St.init_Ds (fun d hd => by cases hd with | head => exact hA | tail _ hd => cases hd with | head => exact hB | tail _ h => cases h)
 clear hA hB
 refine SR <| AB rfl <| NL <| SQ <| SR <| ML rfl <| CN <| Op1.lenSl (rest := []) ty46 rfl <| ML rfl <| CN <| Op1.lenSl (rest := []) ty46 rfl <| CN <| Op1.neq rfl rfl <| NL <| run_cond_dec rfl (fun g1 => ?_) (fun g1 => ?_)
 · skip
   refine SR <| AB rfl <| NL <| run_ret1 Try.func65 rfl (TP (v := .bool _) rfl) ?_
   exact ⟨congrArg Value.bool (decide_eq_false (fun h => by have := congrArg List.length h; omega)).symm, hst.pure⟩
 refine run_skip <| SQ <| SR <| ML rfl <| CN <| Op1.lenSl (rest := []) ty46 rfl <| MI rfl <| NL <| run_block <| run_loop <| Run.indW [(0, .slice _ _ _), (1, .slice _ _ _), (12, .int .i64 _)] ⟨rfl, rfl, rfl, trivial⟩ (fun (i : Nat) => [(13, .int .i64 (i : Int))]) (fun (i : Nat) => []) (fun (i : Nat) => i ≤ l.length ∧ ∀ j, j < i → l.getD j zeroA = m.getD j zeroA) (fun (i : Nat) => l.length - i) (0) hst ⟨Nat.zero_le _, fun j hj => absurd hj (by omega)⟩ ⟨rfl, trivial⟩ ?_
 intro i f w hst hJ ih2
 refine SR <| CN <| Op1.lss rfl rfl <| NL <| SQ <| run_cond_dec rfl (fun g3 => ?_) (fun g3 => ?_)
 · skip
   refine run_skip <| SQ <| run_block <| SR <| MI rfl <| AI rfl <| NL <| SQ <| RunD.start [] hst (bs := [0, 0, 3, 7, 0, 0, 48, 112, 255]) (ds := [some 16, some 17, some 18, some 19, some 20, some 21, some 22, some 23, some 24]) ⟨by kernel_rfl, by kernel_rfl, by kernel_rfl⟩ (fun tab4 => ?_)
   refine RunD.op (det _) tab4 1 (fun f' L' w' hc => Op1.move (v := .slice _ _ _) (hc.old (v := .slice _ _ _) rfl rfl rfl) ⟨[], ⟨rfl, rfl⟩, hc.st⟩) <| RunD.op (det _) tab4 2 (fun f' L' w' hc => Op1.move (v := .int .i64 _) (hc.old (v := .int .i64 _) rfl rfl rfl) ⟨[], ⟨rfl, rfl⟩, hc.st⟩) <| RunD.op (det _) tab4 3 (fun f' L' w' hc => Op1.indexRs ty46 ty71 (hc.st.hD _ (.head _)) (hc.det (j := 0) rfl rfl rfl rfl) (hc.det (j := 1) rfl rfl rfl rfl) (by omega) (by omega) ⟨[], ⟨rfl, rfl⟩, hc.st⟩) <| RunD.op (det _) tab4 4 (fun f' L' w' hc => Op1.loadA (vs := [.int .u8 _, .int .u32 _, str _]) ty71 rfl (hc.det (j := 2) rfl rfl rfl rfl) rfl (Res.rs2_cells (m := 3) (hc.st.hD _ (.head _)) _ (flat_seg (g := argC) (d := zeroA) argC_len _ _ (by omega))) ⟨[], ⟨rfl, rfl⟩, hc.st⟩) <| RunD.op (det _) tab4 5 (fun f' L' w' hc => Op1.move (v := .slice _ _ _) (hc.old (v := .slice _ _ _) rfl rfl rfl) ⟨[], ⟨rfl, rfl⟩, hc.st⟩) <| RunD.op (det _) tab4 6 (fun f' L' w' hc => Op1.move (v := .int .i64 _) (hc.old (v := .int .i64 _) rfl rfl rfl) ⟨[], ⟨rfl, rfl⟩, hc.st⟩) <| RunD.op (det _) tab4 7 (fun f' L' w' hc => Op1.indexRs ty46 ty71 (hc.st.hD _ (.tail _ (.head _))) (hc.det (j := 4) rfl rfl rfl rfl) (hc.det (j := 5) rfl rfl rfl rfl) (by omega) (by omega) ⟨[], ⟨rfl, rfl⟩, hc.st⟩) <| RunD.op (det _) tab4 8 (fun f' L' w' hc => Op1.loadA (vs := [.int .u8 _, .int .u32 _, str _]) ty71 rfl (hc.det (j := 6) rfl rfl rfl rfl) rfl (Res.rs2_cells (m := 3) (hc.st.hD _ (.tail _ (.head _))) _ (flat_seg (g := argC) (d := zeroA) argC_len _ _ (by omega))) ⟨[], ⟨rfl, rfl⟩, hc.st⟩) <| RunD.fin followsMixed tab4 hst rfl (fun f5 w R8 hs6 hd7 hr9 hst => ?_)
   obtain ⟨h16_, r0⟩ := hd7 0 16 rfl rfl
   obtain ⟨h17_, r1⟩ := hd7 1 17 rfl rfl
   obtain ⟨h18_, r2⟩ := hd7 2 18 rfl rfl
   obtain ⟨h19_, r3⟩ := hd7 3 19 rfl rfl
   obtain ⟨h20_, r4⟩ := hd7 4 20 rfl rfl
   obtain ⟨h21_, r5⟩ := hd7 5 21 rfl rfl
   obtain ⟨h22_, r6⟩ := hd7 6 22 rfl rfl
   obtain ⟨h23_, r7⟩ := hd7 7 23 rfl rfl
   simp only [show List.range 8 = [0, 1, 2, 3, 4, 5, 6, 7] from rfl, List.flatMap_cons, List.flatMap_nil, List.map_cons, List.map_nil, r0, r1, r2, r3, r4, r5, r6, r7, List.nil_append, List.append_nil, List.cons_append] at hst
   refine RunL.slots (sl := [(0, .slice _ _ _), (1, .slice _ _ _), (12, .int .i64 _), (13, .int .i64 _), (19, .agg #[.int .u8 _, .int .u32 _, str _]), (23, .agg #[.int .u8 _, .int .u32 _, str _])]) ⟨(hs6 0 rfl).trans rfl, (hs6 1 rfl).trans rfl, (hs6 12 rfl).trans rfl, (hs6 13 rfl).trans rfl, h19_, h23_, trivial⟩ ?_
   clear hs6 hd7 hr9 tab4
   refine CN <| Op1.neqA (xs := [.int .u8 _, .int .u32 _, str _]) (ys := [.int .u8 _, .int .u32 _, str _]) rfl rfl (by kernel_rfl) (EqOk.struct Try.underlying71 (by kernel_rfl) (.cons (by decide) (PartOk.one ty5 rfl rfl) (PartOk.one ty5 rfl rfl) (EqOk.int ty5) (.cons (by decide) (PartOk.one ty23 rfl rfl) (PartOk.one ty23 rfl rfl) (EqOk.int ty23) (.cons (by decide) (PartOk.one ty9 rfl rfl) (PartOk.one ty9 rfl rfl) (EqOk.str ty9) .nil)))) <| NL <| run_cond_split rfl (fun g10 => ?_) (fun g10 => ?_)
   · skip
     refine SR <| AB rfl <| NL <| run_ret1 Try.func65 rfl (TP (v := .bool _) rfl) ?_
     exact ⟨congrArg Value.bool (decide_eq_false (fun h => by have hg := g10; rw [arg_eq, h] at hg; simp at hg)).symm, hst.pure⟩
   refine run_skip <| run_inBlock <| RG <| CN <| Op1.addN rfl rfl rfl (wrap_i64 (by omega) (by omega)) <| MI rfl <| NL <| run_inLoop ?_
   exact ih2 (i + 1) _ w (by omega) hst (⟨by omega, step_all hJ.2 (by have hg := g10; rw [arg_eq] at hg; simpa using hg)⟩) ⟨rfl, rfl, rfl, trivial⟩ ⟨(congrArg (Value.int .i64) (by omega)), trivial⟩
 refine run_exit (id := 0) rfl <| SR <| AB rfl <| NL <| run_ret1 Try.func65 rfl (TP (v := .bool _) rfl) ?_
 exact ⟨congrArg Value.bool (decide_eq_true (list_ext_getD2 zeroA (by omega) (fun j hj => hJ.2 j (by omega)))).symm, hst.pure⟩
theorem R3md_Same1 (p q : InstP) (w : World) (hA : (Res.rargs p).holds w) (hB : (Res.rargs q).holds w) (hl : p.args.length ≤ 9000000000000000000) : Ret Try.prog 64 #[.agg #[.int .u16 p.op, .int .u32 p.ty, .int .u32 p.res, .slice p.ao p.args.length p.cap], .agg #[.int .u16 q.op, .int .u32 q.ty, .int .u32 q.res, .slice q.ao q.args.length q.cap]] w (fun v w' => v = .bool (decide (p.L = q.L)) ∧ St w NoM [] [] w') := by
 refine Ret.enter (args := [.agg #[.int .u16 p.op, .int .u32 p.ty, .int .u32 p.res, .slice p.ao p.args.length p.cap], .agg #[.int .u16 q.op, .int .u32 q.ty, .int .u32 q.res, .slice q.ao q.args.length q.cap]]) Try.func64 rfl rfl rfl ?_
 have hst : St w NoM [] [Res.rargs p, Res.rargs q] w := St.init_Ds (fun d hd => by cases hd with | head => exact hA | tail _ hd => cases hd with | head => exact hB | tail _ h => cases h)
 clear hA hB
 refine SR <| CN <| Op1.box (v := .agg #[.int .u16 _, .int .u32 _, .int .u32 _, .slice _ _ _]) hst rfl rfl fun w b2 hst => CN <| Op1.box (v := .agg #[.int .u16 _, .int .u32 _, .int .u32 _, .slice _ _ _]) hst rfl rfl fun w b3 hst => AB rfl <| NSR <| CN <| Op1.fieldAddr fld48_0 rfl <| CN <| Op1.load1 (v := .int .u16 _) ty42 rfl rfl (hst.cellL (.tail _ (.head _)) rfl) <| CN <| Op1.fieldAddr fld48_0 rfl <| CN <| Op1.load1 (v := .int .u16 _) ty42 rfl rfl (hst.cellL (.head _) rfl) <| CN <| Op1.eql rfl rfl <| MB rfl <| RunL.splitD (d := 10) rfl (fun g1 => ?_) (fun g1 => ?_)
 · skip
   refine TK (t := 10) rfl (congrArg Value.bool (decide_eq_true g1)) <| Op1.fieldAddr fld48_1 rfl <| TK (t := 10) rfl (congrArg Value.bool (decide_eq_true g1)) <| Op1.load1 (v := .int .u32 _) ty23 rfl rfl (hst.cellL (.tail _ (.head _)) rfl) <| TK (t := 10) rfl (congrArg Value.bool (decide_eq_true g1)) <| Op1.fieldAddr fld48_1 rfl <| TK (t := 10) rfl (congrArg Value.bool (decide_eq_true g1)) <| Op1.load1 (v := .int .u32 _) ty23 rfl rfl (hst.cellL (.head _) rfl) <| TK (t := 10) rfl (congrArg Value.bool (decide_eq_true g1)) <| Op1.eql rfl rfl <| CN <| Op1.pickT (u := .bool _) (congrArg Value.bool (decide_eq_true g1)) rfl <| MB rfl <| RunL.splitD (d := 17) rfl (fun g2 => ?_) (fun g2 => ?_)
   · skip
     refine TK (t := 17) rfl (congrArg Value.bool (decide_eq_true g2)) <| Op1.fieldAddr fld48_2 rfl <| TK (t := 17) rfl (congrArg Value.bool (decide_eq_true g2)) <| Op1.load1 (v := .int .u32 _) ty23 rfl rfl (hst.cellL (.tail _ (.head _)) rfl) <| TK (t := 17) rfl (congrArg Value.bool (decide_eq_true g2)) <| Op1.fieldAddr fld48_2 rfl <| TK (t := 17) rfl (congrArg Value.bool (decide_eq_true g2)) <| Op1.load1 (v := .int .u32 _) ty23 rfl rfl (hst.cellL (.head _) rfl) <| TK (t := 17) rfl (congrArg Value.bool (decide_eq_true g2)) <| Op1.eql rfl rfl <| CN <| Op1.pickT (u := .bool _) (congrArg Value.bool (decide_eq_true g2)) rfl <| MB rfl <| RunL.splitD (d := 24) rfl (fun g3 => ?_) (fun g3 => ?_)
     · skip
       refine TK (t := 24) rfl (congrArg Value.bool (decide_eq_true g3)) <| Op1.fieldAddr fld48_3 rfl <| TK (t := 24) rfl (congrArg Value.bool (decide_eq_true g3)) <| Op1.load1 (v := .slice _ _ _) ty46 rfl rfl (hst.cellL (.tail _ (.head _)) rfl) <| TK (t := 24) rfl (congrArg Value.bool (decide_eq_true g3)) <| Op1.fieldAddr fld48_3 rfl <| TK (t := 24) rfl (congrArg Value.bool (decide_eq_true g3)) <| Op1.load1 (v := .slice _ _ _) ty46 rfl rfl (hst.cellL (.head _) rfl) <| TK (t := 24) rfl (congrArg Value.bool (decide_eq_true g3)) (Op1.call2 (v1 := .slice _ _ _) (v2 := .slice _ _ _) ent65 rfl rfl rfl ((R3md_Equal _ _ _ _ _ _ _ (hst.hD _ (.head _)) (hst.hD _ (.tail _ (.head _))) hl).mono fun v w hp => ?_))
       obtain ⟨rfl, hp⟩ := hp
       replace hst := hst.keepc hp
       clear hp
       refine CN <| Op1.pickT (u := .bool _) (congrArg Value.bool (decide_eq_true g3)) rfl <| AB rfl <| NL <| run_ret1 Try.func64 rfl (TP (v := .bool _) rfl) ?_
       exact ⟨congrArg Value.bool (by rw [decide_eq_decide, InstP.L_eq]; exact ⟨fun h => ⟨g1, g2, g3, h⟩, fun h => h.2.2.2⟩), hst.pure⟩
     refine OM (t := 24) rfl (congrArg Value.bool (decide_eq_false g3)) rfl <| OM (t := 24) rfl (congrArg Value.bool (decide_eq_false g3)) rfl <| OM (t := 24) rfl (congrArg Value.bool (decide_eq_false g3)) rfl <| OM (t := 24) rfl (congrArg Value.bool (decide_eq_false g3)) rfl <| OM (t := 24) rfl (congrArg Value.bool (decide_eq_false g3)) rfl <| CN <| Op1.pickF (u := .bool _) (congrArg Value.bool (decide_eq_false g3)) rfl <| AB rfl <| NL <| run_ret1 Try.func64 rfl (TP (v := .bool _) rfl) ?_
     exact ⟨congrArg Value.bool (decide_eq_false (fun h => by obtain ⟨h1, h2, h3, h4⟩ := InstP.L_eq.1 h; exact g3 h3)).symm, hst.pure⟩
   refine OM (t := 17) rfl (congrArg Value.bool (decide_eq_false g2)) rfl <| OM (t := 17) rfl (congrArg Value.bool (decide_eq_false g2)) rfl <| OM (t := 17) rfl (congrArg Value.bool (decide_eq_false g2)) rfl <| OM (t := 17) rfl (congrArg Value.bool (decide_eq_false g2)) rfl <| OM (t := 17) rfl (congrArg Value.bool (decide_eq_false g2)) rfl <| CN <| Op1.pickF (u := .bool _) (congrArg Value.bool (decide_eq_false g2)) rfl <| MB rfl <| OM (t := 24) rfl (congrArg Value.bool (rfl : false = _)) rfl <| OM (t := 24) rfl (congrArg Value.bool (rfl : false = _)) rfl <| OM (t := 24) rfl (congrArg Value.bool (rfl : false = _)) rfl <| OM (t := 24) rfl (congrArg Value.bool (rfl : false = _)) rfl <| OM (t := 24) rfl (congrArg Value.bool (rfl : false = _)) rfl <| CN <| Op1.pickF (u := .bool _) (congrArg Value.bool (rfl : false = _)) rfl <| AB rfl <| NL ?_
   refine run_ret1 Try.func64 rfl (TP (v := .bool _) rfl) ?_
   exact ⟨congrArg Value.bool (decide_eq_false (fun h => by obtain ⟨h1, h2, h3, h4⟩ := InstP.L_eq.1 h; exact g2 h2)).symm, hst.pure⟩
 refine OM (t := 10) rfl (congrArg Value.bool (decide_eq_false g1)) rfl <| OM (t := 10) rfl (congrArg Value.bool (decide_eq_false g1)) rfl <| OM (t := 10) rfl (congrArg Value.bool (decide_eq_false g1)) rfl <| OM (t := 10) rfl (congrArg Value.bool (decide_eq_false g1)) rfl <| OM (t := 10) rfl (congrArg Value.bool (decide_eq_false g1)) rfl <| CN <| Op1.pickF (u := .bool _) (congrArg Value.bool (decide_eq_false g1)) rfl <| MB rfl <| OM (t := 17) rfl (congrArg Value.bool (rfl : false = _)) rfl <| OM (t := 17) rfl (congrArg Value.bool (rfl : false = _)) rfl <| OM (t := 17) rfl (congrArg Value.bool (rfl : false = _)) rfl <| OM (t := 17) rfl (congrArg Value.bool (rfl : false = _)) rfl <| OM (t := 17) rfl (congrArg Value.bool (rfl : false = _)) rfl <| CN <| Op1.pickF (u := .bool _) (congrArg Value.bool (rfl : false = _)) rfl <| MB rfl <| OM (t := 24) rfl (congrArg Value.bool (rfl : false = _)) rfl ?_
 refine OM (t := 24) rfl (congrArg Value.bool (rfl : false = _)) rfl <| OM (t := 24) rfl (congrArg Value.bool (rfl : false = _)) rfl <| OM (t := 24) rfl (congrArg Value.bool (rfl : false = _)) rfl <| OM (t := 24) rfl (congrArg Value.bool (rfl : false = _)) rfl <| CN <| Op1.pickF (u := .bool _) (congrArg Value.bool (rfl : false = _)) rfl <| AB rfl <| NL <| run_ret1 Try.func64 rfl (TP (v := .bool _) rfl) ?_
 exact ⟨congrArg Value.bool (decide_eq_false (fun h => by obtain ⟨h1, h2, h3, h4⟩ := InstP.L_eq.1 h; exact g1 h1)).symm, hst.pure⟩
theorem R3md_EqualFunc (l m : List InstP) (ao bo : Option Addr) (cp cq : Nat) (w : World) (hA : (Res.rmod ao l).holds w) (hB : (Res.rmod bo m).holds w) (hl : l.length ≤ 9000000000000000000) (hla : ∀ i ∈ l, i.args.length ≤ 9000000000000000000) : Ret Try.prog 63 #[.slice ao l.length cp, .slice bo m.length cq, .func (.func 64) #[] #[]] w (fun v w' => v = .bool (decide (l.map InstP.L = m.map InstP.L)) ∧ St w NoM [] [] w') := by
 refine Ret.enter (args := [.slice ao l.length cp, .slice bo m.length cq, .func (.func 64) #[] #[]]) Try.func63 rfl rfl rfl ?_
 have hst : St w NoM [] [Res.rmod ao l, Res.rmod bo m] w := St.init_Ds (fun d hd => by cases hd with | head => exact hA | tail _ hd => cases hd with | head => exact hB | tail _ h => cases h)
 clear hA hB
 refine SR <| AB rfl <| NL <| SQ <| SR <| ML rfl <| CN <| Op1.lenSl (rest := []) ty24 rfl <| ML rfl <| CN <| Op1.lenSl (rest := []) ty24 rfl <| CN <| Op1.neq rfl rfl <| NL <| run_cond_dec rfl (fun g1 => ?_) (fun g1 => ?_)
 · skip
   refine SR <| AB rfl <| NL <| run_ret1 Try.func63 rfl (TP (v := .bool _) rfl) ?_
   exact ⟨congrArg Value.bool (decide_eq_false (fun h => by have := insts_len h; omega)).symm, hst.pure⟩
 refine run_skip <| SQ <| SR <| ML rfl <| CN <| Op1.lenSl (rest := []) ty24 rfl <| MI rfl <| NL <| run_block <| run_loop <| Run.indW [(1, .slice _ _ _), (2, .func _ _ _), (15, .slice _ _ _), (16, .int .i64 _)] ⟨rfl, rfl, rfl, rfl, trivial⟩ (fun (i : Nat) => [(17, .int .i64 (i : Int))]) (fun (i : Nat) => []) (fun (i : Nat) => i ≤ l.length ∧ ∀ j, j < i → (l.getD j zeroI).L = (m.getD j zeroI).L) (fun (i : Nat) => l.length - i) (0) hst ⟨Nat.zero_le _, fun j hj => absurd hj (by omega)⟩ ⟨rfl, trivial⟩ ?_
 intro i f w hst hJ ih2
 refine SR <| CN <| Op1.lss rfl rfl <| NL <| SQ <| run_cond_dec rfl (fun g3 => ?_) (fun g3 => ?_)
 · skip
   refine run_skip <| SQ <| run_block <| SR <| MI rfl <| CN <| Op1.indexRs ty24 ty48 (Res.rmod_insts (hst.hD _ (.head _))) rfl rfl (by omega) (by omega) <| CN <| Op1.loadA (vs := [.int .u16 _, .int .u32 _, .int .u32 _, .slice _ _ _]) ty48 rfl rfl rfl (Res.rs2_cells (m := 4) (Res.rmod_insts (hst.hD _ (.head _))) _ (flat_seg (g := instC) (d := zeroI) instC_len _ _ (by omega))) <| CN <| Op1.alloc hst ty48 fun w b8 hst => AI rfl <| CN (SO (v := .agg #[.int .u16 _, .int .u32 _, .int .u32 _, .slice _ _ _]) hst ty48 rfl rfl (.here) fun w hst => ?_)
   refine NSR <| ML rfl <| MI rfl <| CN <| Op1.indexRs ty24 ty48 (Res.rmod_insts (hst.hD _ (.tail _ (.head _)))) rfl rfl (by omega) (by omega) <| CN <| Op1.loadA (vs := [.int .u16 _, .int .u32 _, .int .u32 _, .slice _ _ _]) ty48 rfl rfl rfl (Res.rs2_cells (m := 4) (Res.rmod_insts (hst.hD _ (.tail _ (.head _)))) _ (flat_seg (g := instC) (d := zeroI) instC_len _ _ (by omega))) <| CN <| Op1.alloc hst ty48 fun w b9 hst => CN (SO (v := .agg #[.int .u16 _, .int .u32 _, .int .u32 _, .slice _ _ _]) hst ty48 rfl rfl (.here) fun w hst => ?_)
   refine NSR <| CN <| Op1.move (v := .func _ _ _) rfl <| CN <| Op1.loadA (vs := [.int .u16 _, .int .u32 _, .int .u32 _, .slice _ _ _]) ty48 rfl rfl rfl (cells_of_obj (n := 4) (hst.objL (.tail _ (.head _))) _ rfl) <| CN <| Op1.loadA (vs := [.int .u16 _, .int .u32 _, .int .u32 _, .slice _ _ _]) ty48 rfl rfl rfl (cells_of_obj (n := 4) (hst.objL (.head _)) _ rfl) <| CN (Op1.callV2 (v1 := .agg #[.int .u16 _, .int .u32 _, .int .u32 _, .slice _ _ _]) (v2 := .agg #[.int .u16 _, .int .u32 _, .int .u32 _, .slice _ _ _]) rfl rfl rfl (CallV.func ent64 ((R3md_Same1 _ _ _ (Res.rmod_argsI (hst.hD _ (.head _)) (by omega)) (Res.rmod_argsI (hst.hD _ (.tail _ (.head _))) (by omega)) (hla _ (getD_memD (by omega)))).mono fun v w hp => ?_)))
   obtain ⟨rfl, hp⟩ := hp
   replace hst := hst.keepc hp
   clear hp
   refine CN <| Op1.not rfl <| NL <| run_cond_split rfl (fun g4 => ?_) (fun g4 => ?_)
   · skip
     refine SR <| AB rfl <| NL <| run_ret1 Try.func63 rfl (TP (v := .bool _) rfl) ?_
     exact ⟨congrArg Value.bool (decide_eq_false (fun h => by have hg := g4; rw [decide_eq_true (insts_getD h (by omega))] at hg; simp at hg)).symm, hst.pure⟩
   refine run_skip <| run_inBlock <| RG <| CN <| Op1.addN rfl rfl rfl (wrap_i64 (by omega) (by omega)) <| MI rfl <| NL <| run_inLoop ?_
   replace hst := hst.pick .nil
   exact ih2 (i + 1) _ w (by omega) hst (⟨by omega, step_all hJ.2 (by simpa using g4)⟩) ⟨rfl, rfl, rfl, rfl, trivial⟩ ⟨(congrArg (Value.int .i64) (by omega)), trivial⟩
 refine run_exit (id := 0) rfl <| SR <| AB rfl <| NL <| run_ret1 Try.func63 rfl (TP (v := .bool _) rfl) ?_
 exact ⟨congrArg Value.bool (decide_eq_true (insts_ext (by omega) (fun j hj => hJ.2 j (by omega)))).symm, hst.pure⟩
theorem R3md_Same (ga ba gb bb : Int) (l m : List InstP) (ao bo : Option Addr) (cp cq : Nat) (w : World) (hA : (Res.rmod ao l).holds w) (hB : (Res.rmod bo m).holds w) (hl : l.length ≤ 9000000000000000000) (hla : ∀ i ∈ l, i.args.length ≤ 9000000000000000000) : Ret Try.prog 36 #[.agg #[.int .u32 ga, .int .u32 ba, .slice ao l.length cp], .agg #[.int .u32 gb, .int .u32 bb, .slice bo m.length cq]] w (fun v w' => v = .bool (sameM ga ba l gb bb m) ∧ St w NoM [] [] w') := by
 refine Ret.enter (args := [.agg #[.int .u32 ga, .int .u32 ba, .slice ao l.length cp], .agg #[.int .u32 gb, .int .u32 bb, .slice bo m.length cq]]) Try.func36 rfl rfl rfl ?_
 have hst : St w NoM [] [Res.rmod ao l, Res.rmod bo m] w := St.init_Ds (fun d hd => by cases hd with | head => exact hA | tail _ hd => cases hd with | head => exact hB | tail _ h => cases h)
 clear hA hB
 refine SR <| CN <| Op1.box (v := .agg #[.int .u32 _, .int .u32 _, .slice _ _ _]) hst rfl rfl fun w b2 hst => CN <| Op1.box (v := .agg #[.int .u32 _, .int .u32 _, .slice _ _ _]) hst rfl rfl fun w b3 hst => AB rfl <| NSR <| CN <| Op1.fieldAddr fld26_0 rfl <| CN <| Op1.load1 (v := .int .u32 _) ty23 rfl rfl (hst.cellL (.tail _ (.head _)) rfl) <| CN <| Op1.fieldAddr fld26_0 rfl <| CN <| Op1.load1 (v := .int .u32 _) ty23 rfl rfl (hst.cellL (.head _) rfl) <| CN <| Op1.eql rfl rfl <| MB rfl <| RunL.splitD (d := 10) rfl (fun g1 => ?_) (fun g1 => ?_)
 · skip
   refine TK (t := 10) rfl (congrArg Value.bool (decide_eq_true g1)) <| Op1.fieldAddr fld26_1 rfl <| TK (t := 10) rfl (congrArg Value.bool (decide_eq_true g1)) <| Op1.load1 (v := .int .u32 _) ty23 rfl rfl (hst.cellL (.tail _ (.head _)) rfl) <| TK (t := 10) rfl (congrArg Value.bool (decide_eq_true g1)) <| Op1.fieldAddr fld26_1 rfl <| TK (t := 10) rfl (congrArg Value.bool (decide_eq_true g1)) <| Op1.load1 (v := .int .u32 _) ty23 rfl rfl (hst.cellL (.head _) rfl) <| TK (t := 10) rfl (congrArg Value.bool (decide_eq_true g1)) <| Op1.eql rfl rfl <| CN <| Op1.pickT (u := .bool _) (congrArg Value.bool (decide_eq_true g1)) rfl <| MB rfl <| RunL.splitD (d := 17) rfl (fun g2 => ?_) (fun g2 => ?_)
   · skip
     refine TK (t := 17) rfl (congrArg Value.bool (decide_eq_true g2)) <| Op1.fieldAddr fld26_2 rfl <| TK (t := 17) rfl (congrArg Value.bool (decide_eq_true g2)) <| Op1.load1 (v := .slice _ _ _) ty24 rfl rfl (hst.cellL (.tail _ (.head _)) rfl) <| TK (t := 17) rfl (congrArg Value.bool (decide_eq_true g2)) <| Op1.fieldAddr fld26_2 rfl <| TK (t := 17) rfl (congrArg Value.bool (decide_eq_true g2)) <| Op1.load1 (v := .slice _ _ _) ty24 rfl rfl (hst.cellL (.head _) rfl) <| TK (t := 17) rfl (congrArg Value.bool (decide_eq_true g2)) (Op1.call3 (v1 := .slice _ _ _) (v2 := .slice _ _ _) (v3 := .func _ _ _) ent63 rfl rfl rfl rfl ((R3md_EqualFunc _ _ _ _ _ _ _ (hst.hD _ (.head _)) (hst.hD _ (.tail _ (.head _))) hl hla).mono fun v w hp => ?_))
     obtain ⟨rfl, hp⟩ := hp
     replace hst := hst.keepc hp
     clear hp
     refine CN <| Op1.pickT (u := .bool _) (congrArg Value.bool (decide_eq_true g2)) rfl <| AB rfl <| NL <| run_ret1 Try.func36 rfl (TP (v := .bool _) rfl) ?_
     exact ⟨congrArg Value.bool (by unfold sameM; rw [decide_eq_decide]; exact ⟨fun h => ⟨g1, g2, h⟩, fun h => h.2.2⟩), hst.pure⟩
   refine OM (t := 17) rfl (congrArg Value.bool (decide_eq_false g2)) rfl <| OM (t := 17) rfl (congrArg Value.bool (decide_eq_false g2)) rfl <| OM (t := 17) rfl (congrArg Value.bool (decide_eq_false g2)) rfl <| OM (t := 17) rfl (congrArg Value.bool (decide_eq_false g2)) rfl <| OM (t := 17) rfl (congrArg Value.bool (decide_eq_false g2)) rfl <| CN <| Op1.pickF (u := .bool _) (congrArg Value.bool (decide_eq_false g2)) rfl <| AB rfl <| NL <| run_ret1 Try.func36 rfl (TP (v := .bool _) rfl) ?_
   exact ⟨congrArg Value.bool (decide_eq_false (fun h => g2 h.2.1)).symm, hst.pure⟩
 refine OM (t := 10) rfl (congrArg Value.bool (decide_eq_false g1)) rfl <| OM (t := 10) rfl (congrArg Value.bool (decide_eq_false g1)) rfl <| OM (t := 10) rfl (congrArg Value.bool (decide_eq_false g1)) rfl <| OM (t := 10) rfl (congrArg Value.bool (decide_eq_false g1)) rfl <| OM (t := 10) rfl (congrArg Value.bool (decide_eq_false g1)) rfl <| CN <| Op1.pickF (u := .bool _) (congrArg Value.bool (decide_eq_false g1)) rfl <| MB rfl <| OM (t := 17) rfl (congrArg Value.bool (rfl : false = _)) rfl <| OM (t := 17) rfl (congrArg Value.bool (rfl : false = _)) rfl <| OM (t := 17) rfl (congrArg Value.bool (rfl : false = _)) rfl <| OM (t := 17) rfl (congrArg Value.bool (rfl : false = _)) rfl <| OM (t := 17) rfl (congrArg Value.bool (rfl : false = _)) rfl <| CN <| Op1.pickF (u := .bool _) (congrArg Value.bool (rfl : false = _)) rfl <| AB rfl <| NL ?_
 refine run_ret1 Try.func36 rfl (TP (v := .bool _) rfl) ?_
 exact ⟨congrArg Value.bool (decide_eq_false (fun h => g1 h.1)).symm, hst.pure⟩
end Go.SK
namespace Go.SK
theorem enc_back {gn bd se sa : Int} {l : List InstL} {bs : List UInt8} (hg : 0 ≤ gn ∧ gn < 4294967296) (hb : 0 ≤ bd ∧ bd < 4294967296) (ho : ∀ i ∈ l, i.Okay) (h : encodeF gn bd l = (bs, (se, sa))) (he : se = 0) : decodeF bs = ((gn, bd, l), (0, 0)) ∧ 20 ≤ bs.length ∧ bs.length ≤ 4194304 := by
  have h1 := (enc_shape h).1
  have h2 := decode_encode hg hb ho (by rw [h1]; exact he)
  rw [h] at h2
  exact ⟨h2.1, h2.2.2.1, h2.2.2.2⟩
end Go.SK
namespace Go.SK
open Go Go.Proofs
theorem ent36 : Enters Try.prog 36 := ⟨Try.f36, _, Try.func36, by kernel_rfl, rfl⟩
end Go.SK
namespace Go.SK
open Go Go.Proofs
open Go.RowKit
theorem R3law_CodeForth (ga ba : Int) (l : List InstP) (ao : Option Addr) (cp : Nat) (w : World) (hA : (Res.rmod ao l).holds w) (hs : Small l) (hgn : 0 ≤ ga ∧ ga < 4294967296) (hbd : 0 ≤ ba ∧ ba < 4294967296) (hok : ∀ i ∈ l.map InstP.L, i.Okay) : Ret Try.prog 12 #[.agg #[.int .u32 ga, .int .u32 ba, .slice ao l.length cp]] w (fun v w' => v = .bool true ∧ St w NoM [] [] w') := by
 refine Ret.enter (args := [.agg #[.int .u32 ga, .int .u32 ba, .slice ao l.length cp]]) Try.func12 rfl rfl rfl ?_
 have hst : St w NoM [] [Res.rmod ao l] w := St.init_D hA
 clear hA
 obtain ⟨bs, se, sa, hE⟩ : ∃ bs se sa, encodeF ga ba (l.map InstP.L) = (bs, (se, sa)) := ⟨_, _, _, rfl⟩
 have hsh := enc_shape hE
 refine SR <| CN <| Op1.box (v := .agg #[.int .u32 _, .int .u32 _, .slice _ _ _]) hst rfl rfl fun w b1 hst => AB rfl <| NSR <| CN <| Op1.loadA (vs := [.int .u32 _, .int .u32 _, .slice _ _ _]) ty26 rfl rfl rfl (cells_of_obj (n := 3) (hst.objL (.head _)) _ rfl) <| CN (Op1.call1 (v1 := .agg #[.int .u32 _, .int .u32 _, .slice _ _ _]) ent21 rfl rfl ((R3md_CopyModule _ _ l _ _ _ (hst.hD _ (.head _)) hs.lenC hs.laC).mono fun v w hp => ?_))
 obtain ⟨bM1, dM1, rfl, hdM1, hp⟩ := hp
 replace hst : St _ _ (_ :: _) _ _ := hst.call0 hp
 clear hp
 refine CN <| Op1.call1 (v1 := .agg #[.int .u32 _, .int .u32 _, .slice _ _ _]) ent23 rfl rfl <| Ret.det (R3cd_ShapeD (se := se) (sa := sa) (by rw [hdM1]; exact hsh.1) _ _ _ (Res.rmod_of_omod (hst.hL _ (.head _))) (Small.of hdM1 hs)) hst fun w hst => CN <| Op1.alloc hst ty29 fun w b3 hst => CN (SO (v := .agg #[.int .i64 _, .int .i64 _]) hst ty29 rfl rfl (.here) fun w hst => ?_)
 refine NSR <| CN <| Op1.loadA (vs := [.int .u32 _, .int .u32 _, .slice _ _ _]) ty26 rfl rfl rfl (cells_of_obj (n := 3) (hst.objL (.tail _ (.tail _ (.head _)))) _ rfl) <| CN (Op1.call1 (v1 := .agg #[.int .u32 _, .int .u32 _, .slice _ _ _]) ent21 rfl rfl ((R3md_CopyModule _ _ l _ _ _ (hst.hD _ (.head _)) hs.lenC hs.laC).mono fun v w hp => ?_))
 obtain ⟨bM2, dM2, rfl, hdM2, hp⟩ := hp
 replace hst : St _ _ (_ :: _) _ _ := hst.call0 hp
 clear hp
 refine CN (Op1.call1 (v1 := .agg #[.int .u32 _, .int .u32 _, .slice _ _ _]) ent22 rfl rfl ((R3cd_EncodeD (bs := bs) (se := se) (sa := sa) (by rw [hdM2]; exact hE) _ _ _ (Res.rmod_of_omod (hst.hL _ (.head _))) (Small.of hdM2 hs)).mono fun v w hp => ?_))
 obtain ⟨asB, rsB, rfl, hp⟩ := hp
 replace hst : St _ _ (_ :: _) _ _ := hst.call0 hp
 clear hp
 refine CN <| Op1.move (v := .tuple #[.slice _ _ _, .agg #[.int .i64 _, .int .i64 _]]) rfl <| CN <| Op1.extract (v := .slice _ _ _) rfl rfl <| CN <| Op1.extract (v := .agg #[.int .i64 _, .int .i64 _]) rfl rfl <| CN <| Op1.alloc hst ty29 fun w b5 hst => AL rfl <| CN (SO (v := .agg #[.int .i64 _, .int .i64 _]) hst ty29 rfl rfl (.here) fun w hst => ?_)
 refine NL <| SQ <| SR <| CN <| Op1.fieldAddr fld29_0 rfl <| CN <| Op1.load1 (v := .int .i64 _) ty27 rfl rfl (hst.cellL (.tail _ (.tail _ (.tail _ (.head _)))) rfl) <| CN <| Op1.neq rfl rfl <| NL <| run_cond_dec rfl (fun g1 => ?_) (fun g1 => ?_)
 · skip
   have hbs := hsh.2 g1
   have hb0 : bs.length = 0 := by rw [hbs]; rfl
   refine SR <| CN <| Op1.loadA (vs := [.int .i64 _, .int .i64 _]) ty29 rfl rfl rfl (cells_of_obj (n := 2) (hst.objL (.head _)) _ rfl) <| CN <| Op1.loadA (vs := [.int .i64 _, .int .i64 _]) ty29 rfl rfl rfl (cells_of_obj (n := 2) (hst.objL (.tail _ (.tail _ (.tail _ (.head _))))) _ rfl) <| CN <| Op1.eqlA (xs := [.int .i64 _, .int .i64 _]) (ys := [.int .i64 _, .int .i64 _]) rfl rfl (by kernel_rfl) (EqOk.struct Try.underlying29 (by kernel_rfl) (.cons (by decide) (PartOk.one ty27 rfl rfl) (PartOk.one ty27 rfl rfl) (EqOk.int ty27) (.cons (by decide) (PartOk.one ty3 rfl rfl) (PartOk.one ty3 rfl rfl) (EqOk.int ty3) .nil))) <| MB rfl <| RunL.split (d := 23) rfl (fun g2 => ?_) (fun g2 => ?_)
   · skip
     refine TK (t := 23) rfl (congrArg Value.bool g2) <| Op1.move (v := .slice _ _ _) rfl <| TK (t := 23) rfl (congrArg Value.bool g2) <| Op1.lenSl (rest := []) ty22 rfl <| TK (t := 23) rfl (congrArg Value.bool g2) <| Op1.eql rfl rfl <| CN <| Op1.pickT (u := .bool _) (congrArg Value.bool g2) rfl <| MB rfl <| RunL.splitD (d := 28) rfl (fun g3 => ?_) (fun g3 => ?_)
     · skip
       refine TK (t := 28) rfl (congrArg Value.bool (decide_eq_true g3)) (Op1.call0  ent19 rfl  ((R3law_awake _).mono fun v w hp => ?_))
       obtain ⟨rfl, hp⟩ := hp
       replace hst := hst.keepc hp
       clear hp
       refine CN <| Op1.pickT (u := .bool _) (congrArg Value.bool (decide_eq_true g3)) rfl <| AB rfl <| NL <| run_ret1 Try.func12 rfl (TP (v := .bool _) rfl) ?_
       exact ⟨rfl, hst.pure⟩
     exfalso
     omega
   exfalso
   simp at g2
 have hse : se = 0 := Classical.not_not.1 g1
 obtain ⟨hD, hb20, hb4⟩ := enc_back hgn hbd hok hE hse
 refine run_skip <| SR <| ML rfl <| CN (Op1.call1 (v1 := .slice _ _ _) ent15 rfl rfl ((R3cd_DecodeD hD _ _ _ (Res.rs_of_sl (hst.hL _ (.tail _ (.head _)))) (by omega)).mono fun v w hp => ?_))
 obtain ⟨aO2, cO2, dO2, rfl, hdO2, hp⟩ := hp
 replace hst : St _ _ (_ :: _) _ _ := hst.call0 hp
 clear hp
 refine CN <| Op1.move (v := .tuple #[.agg #[.int .u32 _, .int .u32 _, .slice _ _ _], .agg #[.int .i64 _, .int .i64 _]]) rfl <| CN <| Op1.extract (v := .agg #[.int .u32 _, .int .u32 _, .slice _ _ _]) rfl rfl <| CN <| Op1.extract (v := .agg #[.int .i64 _, .int .i64 _]) rfl rfl <| CN <| Op1.alloc hst ty26 fun w b6 hst => CN <| Op1.alloc hst ty29 fun w b7 hst => CN (SO (v := .agg #[.int .u32 _, .int .u32 _, .slice _ _ _]) hst ty26 rfl rfl (.there (.here)) fun w hst => ?_)
 refine CN (SO (v := .agg #[.int .i64 _, .int .i64 _]) hst ty29 rfl rfl (.here) fun w hst => ?_)
 refine NL <| Run.forget [(1, .pointer (some ⟨_, _, none⟩)), (4, .slice _ _ _), (5, .pointer (some ⟨_, _, none⟩)), (6, .pointer (some ⟨_, _, none⟩)), (7, .pointer (some ⟨_, _, none⟩))] ⟨rfl, rfl, rfl, rfl, rfl, trivial⟩ fun f => SQ ?_
 have hs2 : Small dO2 := Small.of hdO2 hs
 refine RunD.start [] hst (bs := [0, 1, 3, 7, 15, 31, 63, 127, 255, 511, 1023, 2047, 4095, 8191, 16383, 16383, 65535, 131071, 262143, 524287, 524287, 1572863, 4194303, 8388607, 16777215, 33554431, 67108863, 134217727]) (ds := [some 36, some 37, some 38, some 39, some 40, some 41, some 42, some 43, some 44, some 45, some 46, some 47, some 48, some 49, some 50, some 51, some 52, some 53, some 54, some 55, some 56, some 57, some 58, some 59, some 60, some 61, some 62, some 2]) ⟨by kernel_rfl, by kernel_rfl, by kernel_rfl⟩ (fun tab4 => ?_)
 refine RunD.op (det _) tab4 1 (fun f' L' w' hc => Op1.fieldAddr fld29_0 (hc.old (v := .pointer (some ⟨_, _, none⟩)) rfl rfl rfl) ⟨[], ⟨rfl, rfl⟩, hc.st⟩) <| RunD.op (det _) tab4 2 (fun f' L' w' hc => Op1.load1 (v := .int .i64 _) ty27 rfl (hc.det (j := 0) rfl rfl rfl rfl) (hc.st.cellL (List.mem_append_right _ (.tail _ (.tail _ (.tail _ (.head _))))) rfl) ⟨[], ⟨rfl, rfl⟩, hc.st⟩) <| RunD.op (det _) tab4 3 (fun f' L' w' hc => Op1.eql (hc.det (j := 1) rfl rfl rfl rfl) rfl ⟨[], ⟨rfl, rfl⟩, hc.st⟩) <| RunD.op (det _) tab4 4 (fun f' L' w' hc => Op1.move (v := .bool _) (hc.det (j := 2) rfl rfl rfl rfl) ⟨[], ⟨rfl, rfl⟩, hc.st⟩) <| RunD.splitD (j := 3) rfl (fun g5 => ?_) (fun g5 => ?_)
 · skip
   refine RunD.take (det _) tab4 5 rfl (fun f' L' w' hc => (hc.det (j := 3) rfl rfl rfl rfl).trans (congrArg Value.bool (decide_eq_true g5))) (fun f' L' w' hc => Op1.move (v := .slice _ _ _) (hc.old (v := .slice _ _ _) rfl rfl rfl) ⟨[], ⟨rfl, rfl⟩, hc.st⟩) <| RunD.take (det _) tab4 6 rfl (fun f' L' w' hc => (hc.det (j := 3) rfl rfl rfl rfl).trans (congrArg Value.bool (decide_eq_true g5))) (fun f' L' w' hc => Op1.lenSl (rest := []) ty22 (hc.det (j := 4) rfl rfl rfl rfl) ⟨[], ⟨rfl, rfl⟩, hc.st⟩) <| RunD.take (det _) tab4 7 rfl (fun f' L' w' hc => (hc.det (j := 3) rfl rfl rfl rfl).trans (congrArg Value.bool (decide_eq_true g5))) (fun f' L' w' hc => Op1.geq (hc.det (j := 5) rfl rfl rfl rfl) rfl ⟨[], ⟨rfl, rfl⟩, hc.st⟩) <| RunD.op (det _) tab4 8 (fun f' L' w' hc => Op1.pickT (u := .bool _) (((hc.det (j := 3) rfl rfl rfl rfl)).trans (congrArg Value.bool (decide_eq_true g5))) (hc.det (j := 6) rfl rfl rfl rfl) ⟨[], ⟨rfl, rfl⟩, hc.st⟩) <| RunD.op (det _) tab4 9 (fun f' L' w' hc => Op1.move (v := .bool _) (hc.det (j := 7) rfl rfl rfl rfl) ⟨[], ⟨rfl, rfl⟩, hc.st⟩) <| RunD.splitD (j := 8) rfl (fun g6 => ?_) (fun g6 => ?_)
   · skip
     refine RunD.take (det _) tab4 10 rfl (fun f' L' w' hc => (hc.det (j := 8) rfl rfl rfl rfl).trans (congrArg Value.bool (decide_eq_true g6))) (fun f' L' w' hc => Op1.fieldAddr fld29_0 (hc.old (v := .pointer (some ⟨_, _, none⟩)) rfl rfl rfl) ⟨[], ⟨rfl, rfl⟩, hc.st⟩) <| RunD.take (det _) tab4 11 rfl (fun f' L' w' hc => (hc.det (j := 8) rfl rfl rfl rfl).trans (congrArg Value.bool (decide_eq_true g6))) (fun f' L' w' hc => Op1.load1 (v := .int .i64 _) ty27 rfl (hc.det (j := 9) rfl rfl rfl rfl) (hc.st.cellL (List.mem_append_right _ (.head _)) rfl) ⟨[], ⟨rfl, rfl⟩, hc.st⟩) <| RunD.take (det _) tab4 12 rfl (fun f' L' w' hc => (hc.det (j := 8) rfl rfl rfl rfl).trans (congrArg Value.bool (decide_eq_true g6))) (fun f' L' w' hc => Op1.eql (hc.det (j := 10) rfl rfl rfl rfl) rfl ⟨[], ⟨rfl, rfl⟩, hc.st⟩) <| RunD.op (det _) tab4 13 (fun f' L' w' hc => Op1.pickT (u := .bool _) (((hc.det (j := 8) rfl rfl rfl rfl)).trans (congrArg Value.bool (decide_eq_true g6))) (hc.det (j := 11) rfl rfl rfl rfl) ⟨[], ⟨rfl, rfl⟩, hc.st⟩) <| RunD.op (det _) tab4 14 (fun f' L' w' hc => Op1.move (v := .bool _) (hc.det (j := 12) rfl rfl rfl rfl) ⟨[], ⟨rfl, rfl⟩, hc.st⟩) <| RunD.splitD (j := 13) rfl (fun g7 => ?_) (fun g7 => ?_)
     · skip
       refine RunD.take (det _) tab4 15 rfl (fun f' L' w' hc => (hc.det (j := 13) rfl rfl rfl rfl).trans (congrArg Value.bool (decide_eq_true g7))) (fun f' L' w' hc => Op1.loadA (vs := [.int .u32 _, .int .u32 _, .slice _ _ _]) ty26 rfl (hc.old (v := .pointer (some ⟨_, _, none⟩)) rfl rfl rfl) rfl (cells_of_obj (n := 3) (hc.st.objL (List.mem_append_right _ (.tail _ (.head _)))) _ rfl) ⟨[], ⟨rfl, rfl⟩, hc.st⟩) <| RunD.take (det _) tab4 16 rfl (fun f' L' w' hc => (hc.det (j := 13) rfl rfl rfl rfl).trans (congrArg Value.bool (decide_eq_true g7))) (fun f' L' w' hc => Op1.loadA (vs := [.int .u32 _, .int .u32 _, .slice _ _ _]) ty26 rfl (hc.old (v := .pointer (some ⟨_, _, none⟩)) rfl rfl rfl) rfl (cells_of_obj (n := 3) (hc.st.objL (List.mem_append_right _ (.tail _ (.tail _ (.tail _ (.tail _ (.tail _ (.tail _ (.tail _ (.tail _ (.head _))))))))))) _ rfl) ⟨[], ⟨rfl, rfl⟩, hc.st⟩) <| RunD.take (det _) tab4 17 rfl (fun f' L' w' hc => (hc.det (j := 13) rfl rfl rfl rfl).trans (congrArg Value.bool (decide_eq_true g7))) (fun f' L' w' hc => Op1.call2 (v1 := .agg #[.int .u32 _, .int .u32 _, .slice _ _ _]) (v2 := .agg #[.int .u32 _, .int .u32 _, .slice _ _ _]) ent16 rfl (hc.det (j := 14) rfl rfl rfl rfl) (hc.det (j := 15) rfl rfl rfl rfl) ((R3md_Module _ _ _ _ dO2 l _ _ _ _ _ (Res.rmod_of_omod (hc.st.hL _ (List.mem_append_right _ (.tail _ (.tail _ (.head _)))))) (hc.st.hD _ (.head _)) hs2.len9 hs2.la9).mono fun v w hp => ⟨[], ⟨hp.1.trans (congrArg Value.bool (sameM_self hdO2)), rfl⟩, hc.st.keepc hp.2⟩)) <| RunD.op (det _) tab4 18 (fun f' L' w' hc => Op1.pickT (u := .bool _) (((hc.det (j := 13) rfl rfl rfl rfl)).trans (congrArg Value.bool (decide_eq_true g7))) (hc.det (j := 16) rfl rfl rfl rfl) ⟨[], ⟨rfl, rfl⟩, hc.st⟩) <| RunD.op (det _) tab4 19 (fun f' L' w' hc => Op1.move (v := .bool _) (hc.det (j := 17) rfl rfl rfl rfl) ⟨[], ⟨rfl, rfl⟩, hc.st⟩) <| RunD.take (det _) tab4 20 rfl (fun f' L' w' hc => (hc.det (j := 18) rfl rfl rfl rfl).trans (congrArg Value.bool (rfl : true = _))) (fun f' L' w' hc => Op1.loadA (vs := [.int .u32 _, .int .u32 _, .slice _ _ _]) ty26 rfl (hc.old (v := .pointer (some ⟨_, _, none⟩)) rfl rfl rfl) rfl (cells_of_obj (n := 3) (hc.st.objL (List.mem_append_right _ (.tail _ (.head _)))) _ rfl) ⟨[], ⟨rfl, rfl⟩, hc.st⟩) <| RunD.take (det _) tab4 21 rfl (fun f' L' w' hc => (hc.det (j := 18) rfl rfl rfl rfl).trans (congrArg Value.bool (rfl : true = _))) (fun f' L' w' hc => Op1.loadA (vs := [.int .u32 _, .int .u32 _, .slice _ _ _]) ty26 rfl (hc.old (v := .pointer (some ⟨_, _, none⟩)) rfl rfl rfl) rfl (cells_of_obj (n := 3) (hc.st.objL (List.mem_append_right _ (.tail _ (.tail _ (.tail _ (.tail _ (.tail _ (.tail _ (.tail _ (.tail _ (.head _))))))))))) _ rfl) ⟨[], ⟨rfl, rfl⟩, hc.st⟩) <| RunD.take (fun v rs => ∃ bE lE, v = .agg #[.int .u32 ga, .int .u32 ba, .slice (some ⟨bE, 0, none⟩) lE.length lE.length] ∧ lE.map InstP.L = l.map InstP.L ∧ rs = [Res.omod 48 71 (some ⟨bE, 0, none⟩) lE.length lE]) tab4 22 rfl (fun f' L' w' hc => (hc.det (j := 18) rfl rfl rfl rfl).trans (congrArg Value.bool (rfl : true = _))) (fun f' L' w' hc => Op1.call1 (v1 := .agg #[.int .u32 _, .int .u32 _, .slice _ _ _]) ent21 rfl (hc.det (j := 20) rfl rfl rfl rfl) ((R3md_CopyModule _ _ _ _ _ _ (hc.st.hD _ (.head _)) hs.lenC hs.laC).mono fun v w hp => (by obtain ⟨bE, lE, rfl, hdE, hp⟩ := hp; exact ⟨_, ⟨bE, lE, rfl, hdE, rfl⟩, hc.st.call0 hp⟩))) <| RunD.fin followsMixed tab4 hst rfl (fun f8 w R11 hs9 hd10 hr12 hst => ?_)
       obtain ⟨h36_, r0⟩ := hd10 0 36 rfl rfl
       obtain ⟨h37_, r1⟩ := hd10 1 37 rfl rfl
       obtain ⟨h38_, r2⟩ := hd10 2 38 rfl rfl
       obtain ⟨h39_, r3⟩ := hd10 3 39 rfl rfl
       obtain ⟨h40_, r4⟩ := hd10 4 40 rfl rfl
       obtain ⟨h41_, r5⟩ := hd10 5 41 rfl rfl
       obtain ⟨h42_, r6⟩ := hd10 6 42 rfl rfl
       obtain ⟨h43_, r7⟩ := hd10 7 43 rfl rfl
       obtain ⟨h44_, r8⟩ := hd10 8 44 rfl rfl
       obtain ⟨h45_, r9⟩ := hd10 9 45 rfl rfl
       obtain ⟨h46_, r10⟩ := hd10 10 46 rfl rfl
       obtain ⟨h47_, r11⟩ := hd10 11 47 rfl rfl
       obtain ⟨h48_, r12⟩ := hd10 12 48 rfl rfl
       obtain ⟨h49_, r13⟩ := hd10 13 49 rfl rfl
       obtain ⟨h50_, r14⟩ := hd10 14 50 rfl rfl
       obtain ⟨h51_, r15⟩ := hd10 15 51 rfl rfl
       obtain ⟨h52_, r16⟩ := hd10 16 52 rfl rfl
       obtain ⟨h53_, r17⟩ := hd10 17 53 rfl rfl
       obtain ⟨h54_, r18⟩ := hd10 18 54 rfl rfl
       obtain ⟨h55_, r19⟩ := hd10 19 55 rfl rfl
       obtain ⟨h56_, r20⟩ := hd10 20 56 rfl rfl
       obtain ⟨bE, lE, h57_, hdE, r21⟩ := hd10 21 57 rfl rfl
       simp only [show List.range 22 = [0, 1, 2, 3, 4, 5, 6, 7, 8, 9, 10, 11, 12, 13, 14, 15, 16, 17, 18, 19, 20, 21] from rfl, List.flatMap_cons, List.flatMap_nil, List.map_cons, List.map_nil, r0, r1, r2, r3, r4, r5, r6, r7, r8, r9, r10, r11, r12, r13, r14, r15, r16, r17, r18, r19, r20, r21, List.nil_append, List.append_nil, List.cons_append] at hst
       refine RunL.slots (sl := [(54, .bool _), (55, .agg #[.int .u32 _, .int .u32 _, .slice _ _ _]), (57, .agg #[.int .u32 _, .int .u32 _, .slice _ _ _])]) ⟨h54_, h55_, h57_, trivial⟩ ?_
       clear hs9 hd10 hr12 tab4
       refine TK (t := 54) rfl (congrArg Value.bool (rfl : true = _)) (Op1.call2 (v1 := .agg #[.int .u32 _, .int .u32 _, .slice _ _ _]) (v2 := .agg #[.int .u32 _, .int .u32 _, .slice _ _ _]) ent36 rfl rfl rfl ((R3md_Same _ _ _ _ dO2 lE _ _ _ _ _ (Res.rmod_of_omod (hst.hL _ (.tail _ (.tail _ (.tail _ (.head _)))))) (Res.rmod_of_omod (hst.hL _ (.head _))) hs2.len9 hs2.la9).mono fun v w hp => ?_))
       obtain ⟨he, hp⟩ := hp
       replace he := he.trans (congrArg Value.bool (sameM_self (hdO2.trans hdE.symm)))
       subst he
       replace hst := hst.keepc hp
       clear hp
       refine CN <| Op1.pickT (u := .bool _) (congrArg Value.bool (rfl : true = _)) rfl <| MB rfl <| TK (t := 60) rfl (congrArg Value.bool (rfl : true = _)) (Op1.call0  ent19 rfl  ((R3law_awake _).mono fun v w hp => ?_))
       obtain ⟨rfl, hp⟩ := hp
       replace hst := hst.keepc hp
       clear hp
       refine CN <| Op1.pickT (u := .bool _) (congrArg Value.bool (rfl : true = _)) rfl <| AB rfl <| NL <| run_ret1 Try.func12 rfl (TP (v := .bool _) rfl) ?_
       exact ⟨rfl, hst.pure⟩
     exfalso
     exact g7 rfl
   exfalso
   omega
 exfalso
 exact g5 hse
end Go.SK
