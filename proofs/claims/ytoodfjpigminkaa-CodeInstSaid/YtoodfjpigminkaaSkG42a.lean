/-
  Steps of functions, plain law, and walks of functions: what the laws rest on.
-/
import Derived.Test.YtoodfjpigminkaaSkG0d
import Derived.Test.YtoodfjpigminkaaSkG2a
import Derived.Test.YtoodfjpigminkaaSkG4a
import Derived.Test.YtoodfjpigminkaaSkG5a
import Derived.Test.YtoodfjpigminkaaSkG6a
import Derived.Test.YtoodfjpigminkaaSkG9a
import Derived.Test.YtoodfjpigminkaaSkG10a
import Derived.Test.YtoodfjpigminkaaSkG12a
import Derived.Test.YtoodfjpigminkaaSkG14a
import Derived.Test.YtoodfjpigminkaaSkG18a
import Derived.Test.YtoodfjpigminkaaSkG20a
import Derived.Test.YtoodfjpigminkaaSkG21a
import Derived.Test.YtoodfjpigminkaaSkG25a
import Derived.Test.YtoodfjpigminkaaSkG26a
import Derived.Test.YtoodfjpigminkaaSkG28a
import Derived.Test.YtoodfjpigminkaaSkG30a
import Derived.Test.YtoodfjpigminkaaSkG35a
set_option linter.unusedVariables false
set_option linter.unusedSimpArgs false
set_option linter.unusedSectionVars false
namespace Go.SK
open Go Go.Proofs
open Go.RowKit
theorem R3law_CodeInst (op : Int) (l : List Int) (ao : Option Addr) (cp : Nat) (bound : Int) (w : World) (hw : Wd l) (hcp : l.length ≤ cp) (h0 : 0 ≤ op) (hA : (Res.rs ao l.length 1 (l.flatMap u32C)).holds w) (hl : l.length ≤ 35184372088832) : Ret Try.prog 5 #[.agg #[.int .u16 op, .slice ao l.length cp], .int .u32 bound] w (fun v w' => v = .bool true ∧ St w NoM [] [] w') := by
 refine Ret.enter (args := [.agg #[.int .u16 op, .slice ao l.length cp], .int .u32 bound]) Try.func5 rfl rfl rfl ?_
 have hst : St w NoM [] [Res.rs ao l.length 1 (l.flatMap u32C)] w := St.init_D hA
 clear hA
 obtain ⟨I, ie, hI⟩ : ∃ I ie, instF bound op l = (I, ie) := ⟨_, _, rfl⟩
 have hia := inst_args hw hI
 refine SR <| CN <| Op1.box (v := .agg #[.int .u16 _, .slice _ _ _]) hst rfl rfl fun w b2 hst => AB rfl <| NSR <| CN <| Op1.loadA (vs := [.int .u16 _, .slice _ _ _]) ty45 rfl rfl rfl (cells_of_obj (n := 2) (hst.objL (.head _)) _ rfl) <| MU rfl <| CN (Op1.call2 (v1 := .agg #[.int .u16 _, .slice _ _ _]) (v2 := .int .u32 _) ent24 rfl rfl rfl ((R3ref4_InstD hI hw _ _ hcp h0 _ (hst.hD _ (.head _)) hl).mono fun v w hp => ?_))
 obtain ⟨aI, cI, rfl, hp⟩ := hp
 replace hst : St _ _ (_ :: _) _ _ := hst.call0 hp
 clear hp
 refine CN <| Op1.move (v := .tuple #[.agg #[.int .u16 _, .int .u32 _, .int .u32 _, .slice _ _ _], .int .i64 _]) rfl <| CN <| Op1.extract (v := .agg #[.int .u16 _, .int .u32 _, .int .u32 _, .slice _ _ _]) rfl rfl <| CN <| Op1.extract (v := .int .i64 _) rfl rfl <| CN <| Op1.alloc hst ty48 fun w b5 hst => CN (SO (v := .agg #[.int .u16 _, .int .u32 _, .int .u32 _, .slice _ _ _]) hst ty48 rfl rfl (.here) fun w hst => ?_)
 refine AI rfl <| NL <| SQ <| RunD.start [] hst (bs := [0, 1, 0, 4, 12, 31, 0, 127]) (ds := [some 16, some 17, some 18, some 19, some 20, some 21, some 7, none]) ⟨by kernel_rfl, by kernel_rfl, by kernel_rfl⟩ (fun tab1 => ?_)
 refine RunD.op (det _) tab1 1 (fun f' L' w' hc => Op1.fieldAddr fld45_0 (hc.old (v := .pointer (some ⟨_, _, none⟩)) rfl rfl rfl) ⟨[], ⟨rfl, rfl⟩, hc.st⟩) <| RunD.op (det _) tab1 2 (fun f' L' w' hc => Op1.load1 (v := .int .u16 _) ty42 rfl (hc.det (j := 0) rfl rfl rfl rfl) (hc.st.cellL (List.mem_append_right _ (.tail _ (.tail _ (.head _)))) rfl) ⟨[], ⟨rfl, rfl⟩, hc.st⟩) <| RunD.op (det _) tab1 3 (fun f' L' w' hc => Op1.fieldAddr fld45_1 (hc.old (v := .pointer (some ⟨_, _, none⟩)) rfl rfl rfl) ⟨[], ⟨rfl, rfl⟩, hc.st⟩) <| RunD.op (det _) tab1 4 (fun f' L' w' hc => Op1.load1 (v := .slice _ _ _) ty43 rfl (hc.det (j := 2) rfl rfl rfl rfl) (hc.st.cellL (List.mem_append_right _ (.tail _ (.tail _ (.head _)))) rfl) ⟨[], ⟨rfl, rfl⟩, hc.st⟩) <| RunD.op (fun v rs => ∃ bC, v = .slice (some ⟨bC, 0, none⟩) l.length l.length ∧ rs = [Res.sl (some ⟨bC, 0, none⟩) l.length l.length 23 1 (l.flatMap u32C)]) tab1 5 (fun f' L' w' hc => Op1.call1 (v1 := .slice _ _ _) ent25 rfl (hc.det (j := 3) rfl rfl rfl rfl) ((R3wd_CopyWords l _ _ _ (hc.st.hD _ (.head _)) (by omega)).mono fun v w hp => (by obtain ⟨bC, rfl, hp⟩ := hp; exact ⟨_, ⟨bC, rfl, rfl⟩, hc.st.call0 hp⟩))) <| RunD.opR (fun g v rs => (∀ b, g 20 = .slice (some ⟨b, 0, none⟩) l.length l.length → v = .agg #[.int .u16 op, .slice (some ⟨b, 0, none⟩) l.length l.length]) ∧ rs = []) tab1 6 (fun f' L' w' hc => by obtain ⟨_, _, q1, _⟩ := hc.dep 4 20 rfl rfl; obtain ⟨b, h4, _⟩ := q1; exact Op1.buildStruct ty45 stf45 (.c (v := .int .u16 _) (hc.det (j := 1) rfl rfl rfl rfl) (h := (.c (v := .slice _ _ _) (evs h4 rfl) (h := .nil)))) ⟨[], fun g hg => ⟨fun b2 e => (by rw [hg 4 20 rfl rfl, h4] at e; cases e; rfl), rfl⟩, hc.st⟩) ?_
 refine RunD.op (fun v rs => ∃ b, v = .pointer (some ⟨b, 0, none⟩) ∧ rs = [Res.row b 45 [.int .u16 0, .slice none 0 0]]) tab1 7 (fun f' L' w' hc => Op1.alloc hc.st ty45 fun w b hst => ⟨[_], ⟨b, rfl, rfl⟩, hst⟩) <| RunD.fin followsMixed tab1 hst rfl (fun f2 w R5 hs3 hd4 hr6 hst => ?_)
 obtain ⟨h16_, r0⟩ := hd4 0 16 rfl rfl
 obtain ⟨h17_, r1⟩ := hd4 1 17 rfl rfl
 obtain ⟨h18_, r2⟩ := hd4 2 18 rfl rfl
 obtain ⟨h19_, r3⟩ := hd4 3 19 rfl rfl
 obtain ⟨bW, h20_, r4⟩ := hd4 4 20 rfl rfl
 obtain ⟨h21_, r5⟩ := hd4 5 21 rfl rfl
 replace h21_ := h21_ bW ((DrawTab.mask tab1 _ (j := 5) (l := 4) (t := 20) rfl rfl).trans h20_)
 obtain ⟨b7, h7_, r6⟩ := hd4 6 7 rfl rfl
 simp only [show List.range 7 = [0, 1, 2, 3, 4, 5, 6] from rfl, List.flatMap_cons, List.flatMap_nil, List.map_cons, List.map_nil, r0, r1, r2, r3, r4, r5, r6, List.nil_append, List.append_nil, List.cons_append] at hst
 refine RunL.slots (sl := [(1, .int .u32 _), (2, .pointer (some ⟨_, _, none⟩)), (5, .pointer (some ⟨_, _, none⟩)), (6, .int .i64 _), (7, .pointer (some ⟨_, _, none⟩)), (21, .agg #[.int .u16 _, .slice _ _ _])]) ⟨(hs3 1 rfl).trans rfl, (hs3 2 rfl).trans rfl, (hs3 5 rfl).trans rfl, (hs3 6 rfl).trans rfl, h7_, h21_, trivial⟩ ?_
 clear hs3 hd4 hr6 tab1
 refine CN (SO (v := .agg #[.int .u16 _, .slice _ _ _]) hst ty45 rfl rfl (.there (.here)) fun w hst => ?_)
 refine NSR <| CN <| Op1.loadA (vs := [.int .u16 _, .slice _ _ _]) ty45 rfl rfl rfl (cells_of_obj (n := 2) (hst.objL (.tail _ (.head _))) _ rfl) <| MU rfl <| CN (Op1.call2 (v1 := .agg #[.int .u16 _, .slice _ _ _]) (v2 := .int .u32 _) ent26 rfl rfl rfl ((R3cd_InstD hI _ _ h0 _ (Res.rs_of_sl (hst.hL _ (.head _))) (by omega)).mono fun v w hp => ?_))
 obtain ⟨aX, cX, rfl, hp⟩ := hp
 replace hst : St _ _ (_ :: _) _ _ := hst.call0 hp
 clear hp
 refine CN <| Op1.move (v := .tuple #[.agg #[.int .u16 _, .int .u32 _, .int .u32 _, .slice _ _ _], .int .i64 _]) rfl <| CN <| Op1.extract (v := .agg #[.int .u16 _, .int .u32 _, .int .u32 _, .slice _ _ _]) rfl rfl <| CN <| Op1.extract (v := .int .i64 _) rfl rfl <| CN <| Op1.alloc hst ty48 fun w b8 hst => CN (SO (v := .agg #[.int .u16 _, .int .u32 _, .int .u32 _, .slice _ _ _]) hst ty48 rfl rfl (.here) fun w hst => ?_)
 refine AI rfl <| NL <| Run.forget [(2, .pointer (some ⟨_, _, none⟩)), (5, .pointer (some ⟨_, _, none⟩)), (6, .int .i64 _), (7, .pointer (some ⟨_, _, none⟩)), (8, .pointer (some ⟨_, _, none⟩)), (9, .int .i64 _)] ⟨rfl, rfl, rfl, rfl, rfl, rfl, trivial⟩ fun f => SQ <| SR <| MI rfl <| MI rfl <| CN <| Op1.neq rfl rfl <| MB rfl <| RunL.splitD (d := 31) rfl (fun g7 => ?_) (fun g7 => ?_)
 · skip
   exfalso
   exact g7 rfl
 refine TK (t := 31) rfl (congrArg Value.bool (decide_eq_false g7)) <| Op1.loadA (vs := [.int .u16 _, .int .u32 _, .int .u32 _, .slice _ _ _]) ty48 rfl rfl rfl (cells_of_obj (n := 4) (hst.objL (.head _)) _ rfl) <| TK (t := 31) rfl (congrArg Value.bool (decide_eq_false g7)) <| Op1.loadA (vs := [.int .u16 _, .int .u32 _, .int .u32 _, .slice _ _ _]) ty48 rfl rfl rfl (cells_of_obj (n := 4) (hst.objL (.tail _ (.tail _ (.tail _ (.tail _ (.head _)))))) _ rfl) <| TK (t := 31) rfl (congrArg Value.bool (decide_eq_false g7)) (Op1.call2 (v1 := .agg #[.int .u16 _, .int .u32 _, .int .u32 _, .slice _ _ _]) (v2 := .agg #[.int .u16 _, .int .u32 _, .int .u32 _, .slice _ _ _]) ent27 rfl rfl rfl ((R3md_Inst (⟨I.op, I.ty, I.res, aX, cX, I.args⟩ : InstP) (⟨I.op, I.ty, I.res, aI, cI, I.args⟩ : InstP) _ (Res.rs_of_sl (hst.hL _ (.tail _ (.head _)))) (Res.rs_of_sl (hst.hL _ (.tail _ (.tail _ (.tail _ (.tail _ (.tail _ (.head _)))))))) (by (try dsimp only); omega)).mono fun v w hp => ?_))
 obtain ⟨he, hp⟩ := hp
 replace he := he.trans (congrArg Value.bool (decide_eq_true rfl))
 subst he
 replace hst := hst.keepc hp
 clear hp
 refine TK (t := 31) rfl (congrArg Value.bool (decide_eq_false g7)) <| Op1.not rfl <| CN <| Op1.pickF (u := .bool _) (congrArg Value.bool (decide_eq_false g7)) rfl <| MB rfl <| TK (t := 37) rfl (congrArg Value.bool (congrArg not (rfl : true = _))) <| Op1.fieldAddr fld45_1 rfl <| TK (t := 37) rfl (congrArg Value.bool (congrArg not (rfl : true = _))) <| Op1.load1 (v := .slice _ _ _) ty43 rfl rfl (hst.cellL (.tail _ (.tail _ (.tail _ (.head _)))) rfl) <| TK (t := 37) rfl (congrArg Value.bool (congrArg not (rfl : true = _))) <| Op1.fieldAddr fld45_1 rfl <| TK (t := 37) rfl (congrArg Value.bool (congrArg not (rfl : true = _))) <| Op1.load1 (v := .slice _ _ _) ty43 rfl rfl (hst.cellL (.tail _ (.tail _ (.tail _ (.tail _ (.tail _ (.tail _ (.head _))))))) rfl) <| TK (t := 37) rfl (congrArg Value.bool (congrArg not (rfl : true = _))) (Op1.call2 (v1 := .slice _ _ _) (v2 := .slice _ _ _) ent28 rfl rfl rfl ((R3wd_Words l l _ _ _ _ _ (Res.rs_of_sl (hst.hL _ (.tail _ (.tail _ (.head _))))) (hst.hD _ (.head _)) (by omega)).mono fun v w hp => ?_))
 obtain ⟨he, hp⟩ := hp
 replace he := he.trans (congrArg Value.bool (decide_eq_true rfl))
 subst he
 replace hst := hst.keepc hp
 clear hp
 refine TK (t := 37) rfl (congrArg Value.bool (congrArg not (rfl : true = _))) <| Op1.not rfl <| CN <| Op1.pickF (u := .bool _) (congrArg Value.bool (congrArg not (rfl : true = _))) rfl <| NL <| run_cond_false (congrArg Value.bool (congrArg not (rfl : true = _))) <| run_skip <| SR <| CN <| Op1.fieldAddr fld45_1 rfl <| CN (Op1.load1 (v := .slice _ _ _) ty43 rfl rfl (hst.cellL (.tail _ (.tail _ (.tail _ (.head _)))) rfl) ?_)
 replace hst := hst.pick (.cons (.there (.there (.here))) (.cons (.here) (.cons (.here) (.cons (.here) (.cons (.here) (.cons (.here) (.cons (.here) .nil)))))))
 refine CN (Op1.call1 (v1 := .slice _ _ _) ent29 rfl rfl ((R3wd_SpoilWords2 l _ _ _ (hst.hL _ (.head _)) (by omega)).mono fun v w hp => ?_))
 obtain ⟨l', hl', hp⟩ := hp
 replace hst : St _ _ (_ :: _) _ _ := hst.call1 hp
 clear hp
 refine NL <| Run.forget [(5, .pointer (some ⟨_, _, none⟩)), (8, .pointer (some ⟨_, _, none⟩))] ⟨rfl, rfl, trivial⟩ fun f => SR <| CN <| Op1.loadA (vs := [.int .u16 _, .int .u32 _, .int .u32 _, .slice _ _ _]) ty48 rfl rfl rfl (cells_of_obj (n := 4) (hst.objL (.tail _ (.head _))) _ rfl) <| CN <| Op1.loadA (vs := [.int .u16 _, .int .u32 _, .int .u32 _, .slice _ _ _]) ty48 rfl rfl rfl (cells_of_obj (n := 4) (hst.objL (.tail _ (.tail _ (.tail _ (.tail _ (.head _)))))) _ rfl) <| CN <| Op1.call2 (v1 := .agg #[.int .u16 _, .int .u32 _, .int .u32 _, .slice _ _ _]) (v2 := .agg #[.int .u16 _, .int .u32 _, .int .u32 _, .slice _ _ _]) ent27 rfl rfl rfl <| Ret.detE (R3md_Inst (⟨I.op, I.ty, I.res, aX, cX, I.args⟩ : InstP) (⟨I.op, I.ty, I.res, aI, cI, I.args⟩ : InstP) _ (Res.rs_of_sl (hst.hL _ (.tail _ (.tail _ (.head _))))) (Res.rs_of_sl (hst.hL _ (.tail _ (.tail _ (.tail _ (.tail _ (.tail _ (.head _)))))))) (by (try dsimp only); omega)) (congrArg Value.bool (decide_eq_true rfl)) hst fun w hst => MB rfl <| TK (t := 51) rfl (congrArg Value.bool (rfl : true = _)) (Op1.call0  ent19 rfl  ((R3law_awake _).mono fun v w hp => ?_))
 obtain ⟨rfl, hp⟩ := hp
 replace hst := hst.keepc hp
 clear hp
 refine CN <| Op1.pickT (u := .bool _) (congrArg Value.bool (rfl : true = _)) rfl <| AB rfl <| NL <| run_ret1 Try.func5 rfl (TP (v := .bool _) rfl) ?_
 exact ⟨rfl, hst.pure⟩
end Go.SK
