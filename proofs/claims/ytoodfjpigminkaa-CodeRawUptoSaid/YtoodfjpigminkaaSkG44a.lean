/-
  Steps of functions, plain law, and walks of functions: what the laws rest on.
-/
import Derived.Test.YtoodfjpigminkaaSkG0d
import Derived.Test.YtoodfjpigminkaaSkG1a
import Derived.Test.YtoodfjpigminkaaSkG3a
import Derived.Test.YtoodfjpigminkaaSkG4a
import Derived.Test.YtoodfjpigminkaaSkG7a
import Derived.Test.YtoodfjpigminkaaSkG11a
import Derived.Test.YtoodfjpigminkaaSkG12a
import Derived.Test.YtoodfjpigminkaaSkG17a
import Derived.Test.YtoodfjpigminkaaSkG18a
import Derived.Test.YtoodfjpigminkaaSkG20a
import Derived.Test.YtoodfjpigminkaaSkG22a
import Derived.Test.YtoodfjpigminkaaSkG25a
import Derived.Test.YtoodfjpigminkaaSkG27a
import Derived.Test.YtoodfjpigminkaaSkG32a
import Derived.Test.YtoodfjpigminkaaSkG36a
set_option linter.unusedVariables false
set_option linter.unusedSimpArgs false
set_option linter.unusedSectionVars false
namespace Go.SK
open Go Go.Proofs
open Go.RowKit
theorem R3law_CodeRaw (p : InstP) (bound : Int) (w : World) (hg : p.L.Okay) (ht : p.Tiny) (hA : (Res.rargs p).holds w) : Ret Try.prog 6 #[.agg #[.int .u16 p.op, .int .u32 p.ty, .int .u32 p.res, .slice p.ao p.args.length p.cap], .int .u32 bound] w (fun v w' => v = .bool true ∧ St w NoM [] [] w') := by
 refine Ret.enter (args := [.agg #[.int .u16 p.op, .int .u32 p.ty, .int .u32 p.res, .slice p.ao p.args.length p.cap], .int .u32 bound]) Try.func6 rfl rfl rfl ?_
 have hst : St w NoM [] [Res.rargs p] w := St.init_D hA
 clear hA
 obtain ⟨rop, rws, re, hR⟩ : ∃ rop rws re, rawF bound p.L = ((rop, rws), re) := ⟨_, _, _, rfl⟩
 have hal := ht.args
 have hsm : (p.args.map argRoom).sum ≤ 900000000 := by have := ht.sum; omega
 have htx : ∀ a ∈ p.args, a.s.length ≤ 100000000000 := fun a ha => by have := ht.txt a ha; omega
 have hop := hg.op.1
 have hwl := raw_short hR
 refine SR <| CN <| Op1.box (v := .agg #[.int .u16 _, .int .u32 _, .int .u32 _, .slice _ _ _]) hst rfl rfl fun w b2 hst => AB rfl <| NSR <| CN <| Op1.loadA (vs := [.int .u16 _, .int .u32 _, .int .u32 _, .slice _ _ _]) ty48 rfl rfl rfl (cells_of_obj (n := 4) (hst.objL (.head _)) _ rfl) <| MU rfl <| CN (Op1.call2 (v1 := .agg #[.int .u16 _, .int .u32 _, .int .u32 _, .slice _ _ _]) (v2 := .int .u32 _) ent30 rfl rfl rfl ((R3ref4_Raw2 hR hop _ (hst.hD _ (.head _)) hsm htx).mono fun v w hp => ?_))
 obtain ⟨aR, cR, rfl, hp⟩ := hp
 replace hst : St _ _ (_ :: _) _ _ := hst.call0 hp
 clear hp
 refine CN <| Op1.move (v := .tuple #[.agg #[.int .u16 _, .slice _ _ _], .int .i64 _]) rfl <| CN <| Op1.extract (v := .agg #[.int .u16 _, .slice _ _ _]) rfl rfl <| CN <| Op1.extract (v := .int .i64 _) rfl rfl <| CN <| Op1.alloc hst ty45 fun w b5 hst => CN (SO (v := .agg #[.int .u16 _, .slice _ _ _]) hst ty45 rfl rfl (.here) fun w hst => ?_)
 refine AI rfl <| NSR <| CN <| Op1.loadA (vs := [.int .u16 _, .int .u32 _, .int .u32 _, .slice _ _ _]) ty48 rfl rfl rfl (cells_of_obj (n := 4) (hst.objL (.tail _ (.tail _ (.head _)))) _ rfl) <| CN (Op1.call1 (v1 := .agg #[.int .u16 _, .int .u32 _, .int .u32 _, .slice _ _ _]) ent31 rfl rfl ((R3md_CopyInst p _ (hst.hD _ (.head _)) (by omega)).mono fun v w hp => ?_))
 obtain ⟨bC, rfl, hp⟩ := hp
 replace hst : St _ _ (_ :: _) _ _ := hst.call0 hp
 clear hp
 refine CN <| Op1.alloc hst ty48 fun w b7 hst => CN (SO (v := .agg #[.int .u16 _, .int .u32 _, .int .u32 _, .slice _ _ _]) hst ty48 rfl rfl (.here) fun w hst => ?_)
 refine NSR <| CN <| Op1.loadA (vs := [.int .u16 _, .int .u32 _, .int .u32 _, .slice _ _ _]) ty48 rfl rfl rfl (cells_of_obj (n := 4) (hst.objL (.head _)) _ rfl) <| MU rfl <| CN (Op1.call2 (v1 := .agg #[.int .u16 _, .int .u32 _, .int .u32 _, .slice _ _ _]) (v2 := .int .u32 _) ent32 rfl rfl rfl ((R3cd_Raw2 (p := (⟨p.op, p.ty, p.res, some ⟨bC, 0, none⟩, p.args.length, p.args⟩ : InstP)) hR hop _ (Res.rs_of_sl (hst.hL _ (.tail _ (.head _)))) hsm htx).mono fun v w hp => ?_))
 obtain ⟨asX, csX, rfl, hp⟩ := hp
 replace hst : St _ _ (_ :: _) _ _ := hst.call0 hp
 clear hp
 refine CN <| Op1.move (v := .tuple #[.agg #[.int .u16 _, .slice _ _ _], .int .i64 _]) rfl <| CN <| Op1.extract (v := .agg #[.int .u16 _, .slice _ _ _]) rfl rfl <| CN <| Op1.extract (v := .int .i64 _) rfl rfl <| CN <| Op1.alloc hst ty45 fun w b8 hst => CN (SO (v := .agg #[.int .u16 _, .slice _ _ _]) hst ty45 rfl rfl (.here) fun w hst => ?_)
 refine AI rfl <| NL <| Run.forget [(2, .pointer (some ⟨_, _, none⟩)), (5, .pointer (some ⟨_, _, none⟩)), (6, .int .i64 _), (7, .pointer (some ⟨_, _, none⟩)), (8, .pointer (some ⟨_, _, none⟩)), (9, .int .i64 _)] ⟨rfl, rfl, rfl, rfl, rfl, rfl, trivial⟩ fun f => SQ <| SR <| MI rfl <| MI rfl <| CN <| Op1.neq rfl rfl <| MB rfl <| RunL.splitD (d := 27) rfl (fun g1 => ?_) (fun g1 => ?_)
 · skip
   exfalso
   exact g1 rfl
 refine TK (t := 27) rfl (congrArg Value.bool (decide_eq_false g1)) <| Op1.fieldAddr fld45_0 rfl <| TK (t := 27) rfl (congrArg Value.bool (decide_eq_false g1)) <| Op1.load1 (v := .int .u16 _) ty42 rfl rfl (hst.cellL (.head _) rfl) <| TK (t := 27) rfl (congrArg Value.bool (decide_eq_false g1)) <| Op1.fieldAddr fld45_0 rfl <| TK (t := 27) rfl (congrArg Value.bool (decide_eq_false g1)) <| Op1.load1 (v := .int .u16 _) ty42 rfl rfl (hst.cellL (.tail _ (.tail _ (.tail _ (.tail _ (.head _))))) rfl) <| TK (t := 27) rfl (congrArg Value.bool (decide_eq_false g1)) <| Op1.neq rfl rfl <| CN <| Op1.pickF (u := .bool _) (congrArg Value.bool (decide_eq_false g1)) rfl <| MB rfl <| RunL.splitD (d := 34) rfl (fun g2 => ?_) (fun g2 => ?_)
 · skip
   exfalso
   exact g2 rfl
 refine TK (t := 34) rfl (congrArg Value.bool (decide_eq_false g2)) <| Op1.fieldAddr fld45_1 rfl <| TK (t := 34) rfl (congrArg Value.bool (decide_eq_false g2)) <| Op1.load1 (v := .slice _ _ _) ty43 rfl rfl (hst.cellL (.head _) rfl) <| TK (t := 34) rfl (congrArg Value.bool (decide_eq_false g2)) <| Op1.fieldAddr fld45_1 rfl <| TK (t := 34) rfl (congrArg Value.bool (decide_eq_false g2)) <| Op1.load1 (v := .slice _ _ _) ty43 rfl rfl (hst.cellL (.tail _ (.tail _ (.tail _ (.tail _ (.head _))))) rfl) <| TK (t := 34) rfl (congrArg Value.bool (decide_eq_false g2)) (Op1.call2 (v1 := .slice _ _ _) (v2 := .slice _ _ _) ent28 rfl rfl rfl ((R3wd_Words rws rws _ _ _ _ _ (Res.rs_of_sl (hst.hL _ (.tail _ (.head _)))) (Res.rs_of_sl (hst.hL _ (.tail _ (.tail _ (.tail _ (.tail _ (.tail _ (.head _)))))))) (by omega)).mono fun v w hp => ?_))
 obtain ⟨he, hp⟩ := hp
 replace he := he.trans (congrArg Value.bool (decide_eq_true rfl))
 subst he
 replace hst := hst.keepc hp
 clear hp
 refine TK (t := 34) rfl (congrArg Value.bool (decide_eq_false g2)) <| Op1.not rfl <| CN <| Op1.pickF (u := .bool _) (congrArg Value.bool (decide_eq_false g2)) rfl <| NL <| run_cond_false (congrArg Value.bool (congrArg not (rfl : true = _))) <| run_skip <| SR <| CN <| Op1.fieldAddr fld45_1 rfl <| CN (Op1.load1 (v := .slice _ _ _) ty43 rfl rfl (hst.cellL (.head _) rfl) ?_)
 replace hst := hst.pick (.cons (.there (.here)) (.cons (.here) (.cons (.here) (.cons (.here) (.cons (.here) (.cons (.here) (.cons (.here) .nil)))))))
 refine CN (Op1.call1 (v1 := .slice _ _ _) ent29 rfl rfl ((R3wd_SpoilWords2 rws _ _ _ (hst.hL _ (.head _)) (by omega)).mono fun v w hp => ?_))
 obtain ⟨l', hl', hp⟩ := hp
 replace hst : St _ _ (_ :: _) _ _ := hst.call1 hp
 clear hp
 refine NL <| Run.forget [(2, .pointer (some ⟨_, _, none⟩)), (7, .pointer (some ⟨_, _, none⟩))] ⟨rfl, rfl, trivial⟩ fun f => SR <| CN <| Op1.loadA (vs := [.int .u16 _, .int .u32 _, .int .u32 _, .slice _ _ _]) ty48 rfl rfl rfl (cells_of_obj (n := 4) (hst.objL (.tail _ (.tail _ (.head _)))) _ rfl) <| CN <| Op1.loadA (vs := [.int .u16 _, .int .u32 _, .int .u32 _, .slice _ _ _]) ty48 rfl rfl rfl (cells_of_obj (n := 4) (hst.objL (.tail _ (.tail _ (.tail _ (.tail _ (.tail _ (.tail _ (.head _)))))))) _ rfl) <| CN <| Op1.call2 (v1 := .agg #[.int .u16 _, .int .u32 _, .int .u32 _, .slice _ _ _]) (v2 := .agg #[.int .u16 _, .int .u32 _, .int .u32 _, .slice _ _ _]) ent27 rfl rfl rfl <| Ret.detE (R3md_Inst (⟨p.op, p.ty, p.res, some ⟨bC, 0, none⟩, p.args.length, p.args⟩ : InstP) p _ (Res.rs_of_sl (hst.hL _ (.tail _ (.tail _ (.tail _ (.head _)))))) (hst.hD _ (.head _)) (by (try dsimp only); omega)) (congrArg Value.bool (decide_eq_true rfl)) hst fun w hst => MB rfl <| TK (t := 48) rfl (congrArg Value.bool (rfl : true = _)) (Op1.call0  ent19 rfl  ((R3law_awake _).mono fun v w hp => ?_))
 obtain ⟨rfl, hp⟩ := hp
 replace hst := hst.keepc hp
 clear hp
 refine CN <| Op1.pickT (u := .bool _) (congrArg Value.bool (rfl : true = _)) rfl <| AB rfl <| NL <| run_ret1 Try.func6 rfl (TP (v := .bool _) rfl) ?_
 exact ⟨rfl, hst.pure⟩
end Go.SK
