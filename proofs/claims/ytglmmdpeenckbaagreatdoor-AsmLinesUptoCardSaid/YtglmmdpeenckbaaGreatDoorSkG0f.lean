/-
  Steps of functions, plain law, and walks of functions: what the laws rest on.
-/
import Derived.Test.YtglmmdpeenckbaaGreatDoorSkG0e
set_option linter.unusedVariables false
set_option linter.unusedSimpArgs false
set_option linter.unusedSectionVars false
namespace Go.SK
open Go Go.Proofs
open Go.RowKit
theorem R7as_Line (s : Tx) (bound : Int) (w : World) (hG : LxG.holds w) (hl : s.length ≤ 1099511627776) (hl24 : s.length ≤ 16777216) (hbd : 0 ≤ bound ∧ bound < 4294967296) : Ret Tryz.prog 36 #[str s, .int .u32 bound] w (fun v w' => ∃ xo xc, (lineF s bound).1.Sm ∧ v = .tuple #[.agg #[.int .u16 (lineF s bound).1.op, .int .u32 (lineF s bound).1.ty, .int .u32 (lineF s bound).1.res, .slice xo (lineF s bound).1.args.length xc], .bool (lineF s bound).2.1, .agg #[.int .i64 (lineF s bound).2.2.1, .int .i64 (lineF s bound).2.2.2]] ∧ St w NoM [Res.sl xo (lineF s bound).1.args.length xc 110 3 ((lineF s bound).1.args.flatMap argC)] [] w') := by
 refine Ret.enter (args := [str s, .int .u32 bound]) Tryz.func36 rfl rfl rfl ?_
 have hst : St w NoM [] [LxG] w := St.init_Ds (by simp only [List.forall_mem_cons]; exact ⟨hG, fun _ h => absurd h List.not_mem_nil⟩)
 refine SR <| CN <| Op1.alloc hst ty44 fun w b4 hst => AB rfl <| CN <| Op1.alloc hst ty28 fun w b6 hst => NSR <| MS rfl <| MU rfl <| CN (Op1.call2 (v1 := str _) (v2 := .int .u32 _) ent72 rfl rfl rfl ((R7as_read s bound _ (hst.hD _ (.head _)) hl).mono fun v w hp => ?_))
 obtain ⟨bq, ao, cp, rfl, hp⟩ := hp
 replace hst := hst.call0 hp
 clear hp
 refine CN <| Op1.move (v := .tuple #[.pointer (some ⟨_, _, none⟩), .agg #[.int .i64 _, .int .i64 _]]) rfl <| CN <| Op1.extract (v := .pointer (some ⟨_, _, none⟩)) rfl rfl <| CN <| Op1.extract (v := .agg #[.int .i64 _, .int .i64 _]) rfl rfl <| CN <| Op1.alloc hst ty28 fun w b8 hst => AP rfl <| CN (SO (v := .agg #[.int .i64 _, .int .i64 _]) hst ty28 rfl rfl (.here) fun w hst => ?_)
 refine NL <| SQ <| SQ ?_
 replace hst := hst.pick (.cons (.here) (.cons (.here) (.cons (.there (.here)) (.cons (.there (.here)) (.cons (.here) .nil)))))
 replace hst := hst.toD (L1 := [_, _, _, _]) (L2 := [_])
 refine RG <| CN <| Op1.fieldAddr fld28_0 rfl <| CN <| Op1.load1 (v := .int .i64 _) ty26 rfl rfl (hst.cellL (.head _) rfl) <| CN <| Op1.neq rfl rfl <| MB rfl <| RunL.splitD (d := 20) rfl (fun g1 => ?_) (fun g1 => ?_)
 · skip
   refine OM (t := 20) rfl (congrArg Value.bool (decide_eq_true g1)) rfl <| OM (t := 20) rfl (congrArg Value.bool (decide_eq_true g1)) rfl <| OM (t := 20) rfl (congrArg Value.bool (decide_eq_true g1)) rfl <| CN <| Op1.pickT (u := .bool _) (congrArg Value.bool (decide_eq_true g1)) rfl <| NL <| run_cond_true (congrArg Value.bool (rfl : true = _)) <| SQ ?_
   replace hst := hst.pick (.cons (.there (.there (.there (.here)))) (.cons (.here) (.cons (.here) (.cons (.here) .nil))))
   apply RunD.start [(2, Res.row b4 44 _, Res.row b4 44 _)] hst (bs := [0, 0, 1, 5, 15]) (ds := [some 25, some 26, none, some 5, none]) (htab := ⟨by kernel_rfl, by kernel_rfl, by kernel_rfl⟩)
   intro tab2
   refine RunD.op (det _) tab2 1 (fun f' L' w' hc => Op1.buildStruct ty44 stf44 .nil ⟨[], ⟨rfl, rfl⟩, hc.st⟩) ?_
   refine RunD.op (det _) tab2 2 (fun f' L' w' hc => Op1.loadA (vs := [.int .i64 _, .int .i64 _]) ty28 rfl (hc.old (v := .pointer (some ⟨_, _, none⟩)) rfl rfl rfl) rfl (cells_of_obj (n := 2) (hc.st.objL (List.mem_append_right _ (.head _))) _ rfl) ⟨[], ⟨rfl, rfl⟩, hc.st⟩) <| RunD.own tab2 3 (.head _) (fun f' L' L2 w' hc hsel => Op1.store (v := .agg #[.int .u16 _, .int .u32 _, .int .u32 _, .slice _ _ _]) hc.st ty44 (hc.old (v := .pointer (some ⟨_, _, none⟩)) rfl rfl rfl) (hc.det (j := 0) rfl rfl rfl rfl) rfl rfl rfl hsel (by repeat (first | exact Put.nil | apply Put.put | apply Put.skip)) fun w hst => ⟨rfl, hst⟩) ?_
   refine RunD.op (det _) tab2 4 (fun f' L' w' hc => Op1.assign (v := .bool _) rfl ⟨[], ⟨rfl, rfl⟩, hc.st⟩) <| RunD.fin followsMixed tab2 hst rfl (fun f3 w R6 hs4 hd5 hr7 hst => ?_)
   obtain ⟨h25_, r0⟩ := hd5 0 25 rfl rfl
   obtain ⟨h26_, r1⟩ := hd5 1 26 rfl rfl
   obtain ⟨_, _, r2⟩ := hr7 2 rfl
   obtain ⟨h5_, r3⟩ := hd5 3 5 rfl rfl
   simp only [show List.range 4 = [0, 1, 2, 3] from rfl, List.flatMap_cons, List.flatMap_nil, List.map_cons, List.map_nil, r0, r1, r2, r3, List.nil_append, List.append_nil, List.cons_append] at hst
   refine RunL.slots (sl := [(4, .pointer (some ⟨_, _, none⟩)), (5, .bool _), (6, .pointer (some ⟨_, _, none⟩)), (26, .agg #[.int .i64 _, .int .i64 _])]) ⟨(hs4 4 rfl).trans rfl, h5_, (hs4 6 rfl).trans rfl, h26_, trivial⟩ ?_
   clear hs4 hd5 hr7 tab2
   refine CN (SO (v := .agg #[.int .i64 _, .int .i64 _]) hst ty28 rfl rfl (.there (.there (.there (.here)))) fun w hst => ?_)
   refine NL <| run_ret3 Tryz.func36 rfl (RV.cellA (vs := [.int .u16 _, .int .u32 _, .int .u32 _, .slice _ _ _]) rfl ty44 rfl rfl (cells_of_obj (n := 4) (hst.objL (.head _)) _ rfl)) (TP (v := .bool _) rfl) (RV.cellA (vs := [.int .i64 _, .int .i64 _]) rfl ty28 rfl rfl (cells_of_obj (n := 2) (hst.objL (.tail _ (.tail _ (.tail _ (.head _))))) _ rfl)) ?_
   replace hst := hst.pick .nil
   have he : lineF s bound = (zeroIL, false, (toksF s).2) := lineF_bad g1
   rw [he]
   exact ⟨none, 0, zeroIL_sm, rfl, (hst.pushNil 110 3).noD⟩
 refine TK (t := 20) rfl (congrArg Value.bool (decide_eq_false g1)) (Op1.move (v := .pointer (some ⟨_, _, none⟩)) rfl ?_)
 replace hst := hst.pick (.cons (.there (.here)) (.cons (.here) (.cons (.here) (.cons (.here) .nil))))
 refine TK (t := 20) rfl (congrArg Value.bool (decide_eq_false g1)) (Op1.call1 (v1 := .pointer (some ⟨_, _, none⟩)) ent73 rfl rfl ((R7as_more _ _ _ _ _ 0 _ _ _ _ (hst.hL _ (.head _))).mono fun v w hp => ?_))
 obtain ⟨rfl, hp⟩ := hp
 replace hst := hst.call1 hp
 clear hp
 refine TK (t := 20) rfl (congrArg Value.bool (decide_eq_false g1)) <| Op1.notD rfl <| CN <| Op1.pickF (u := .bool _) (congrArg Value.bool (decide_eq_false g1)) rfl <| NL <| Run.forget [(4, .pointer (some ⟨_, _, none⟩)), (6, .pointer (some ⟨_, _, none⟩)), (7, .pointer (some ⟨_, _, none⟩)), (8, .pointer (some ⟨_, _, none⟩)), (24, .bool _)] ⟨rfl, rfl, rfl, rfl, rfl, trivial⟩ fun f => run_cond_dec rfl (fun g8 => ?_) (fun g8 => ?_)
 · skip
   refine SQ ?_
   replace hst := hst.pick (.cons (.there (.there (.there (.here)))) (.cons (.here) (.cons (.here) (.cons (.here) .nil))))
   apply RunD.start [(2, Res.row b4 44 _, Res.row b4 44 _)] hst (bs := [0, 0, 1, 5, 15]) (ds := [some 25, some 26, none, some 5, none]) (htab := ⟨by kernel_rfl, by kernel_rfl, by kernel_rfl⟩)
   intro tab9
   refine RunD.op (det _) tab9 1 (fun f' L' w' hc => Op1.buildStruct ty44 stf44 .nil ⟨[], ⟨rfl, rfl⟩, hc.st⟩) ?_
   refine RunD.op (det _) tab9 2 (fun f' L' w' hc => Op1.loadA (vs := [.int .i64 _, .int .i64 _]) ty28 rfl (hc.old (v := .pointer (some ⟨_, _, none⟩)) rfl rfl rfl) rfl (cells_of_obj (n := 2) (hc.st.objL (List.mem_append_right _ (.tail _ (.head _)))) _ rfl) ⟨[], ⟨rfl, rfl⟩, hc.st⟩) <| RunD.own tab9 3 (.head _) (fun f' L' L2 w' hc hsel => Op1.store (v := .agg #[.int .u16 _, .int .u32 _, .int .u32 _, .slice _ _ _]) hc.st ty44 (hc.old (v := .pointer (some ⟨_, _, none⟩)) rfl rfl rfl) (hc.det (j := 0) rfl rfl rfl rfl) rfl rfl rfl hsel (by repeat (first | exact Put.nil | apply Put.put | apply Put.skip)) fun w hst => ⟨rfl, hst⟩) ?_
   refine RunD.op (det _) tab9 4 (fun f' L' w' hc => Op1.assign (v := .bool _) rfl ⟨[], ⟨rfl, rfl⟩, hc.st⟩) <| RunD.fin followsMixed tab9 hst rfl (fun f10 w R13 hs11 hd12 hr14 hst => ?_)
   obtain ⟨h25_, r0⟩ := hd12 0 25 rfl rfl
   obtain ⟨h26_, r1⟩ := hd12 1 26 rfl rfl
   obtain ⟨_, _, r2⟩ := hr14 2 rfl
   obtain ⟨h5_, r3⟩ := hd12 3 5 rfl rfl
   simp only [show List.range 4 = [0, 1, 2, 3] from rfl, List.flatMap_cons, List.flatMap_nil, List.map_cons, List.map_nil, r0, r1, r2, r3, List.nil_append, List.append_nil, List.cons_append] at hst
   refine RunL.slots (sl := [(4, .pointer (some ⟨_, _, none⟩)), (5, .bool _), (6, .pointer (some ⟨_, _, none⟩)), (26, .agg #[.int .i64 _, .int .i64 _])]) ⟨(hs11 4 rfl).trans rfl, h5_, (hs11 6 rfl).trans rfl, h26_, trivial⟩ ?_
   clear hs11 hd12 hr14 tab9
   refine CN (SO (v := .agg #[.int .i64 _, .int .i64 _]) hst ty28 rfl rfl (.there (.there (.there (.here)))) fun w hst => ?_)
   refine NL <| run_ret3 Tryz.func36 rfl (RV.cellA (vs := [.int .u16 _, .int .u32 _, .int .u32 _, .slice _ _ _]) rfl ty44 rfl rfl (cells_of_obj (n := 4) (hst.objL (.head _)) _ rfl)) (TP (v := .bool _) rfl) (RV.cellA (vs := [.int .i64 _, .int .i64 _]) rfl ty28 rfl rfl (cells_of_obj (n := 2) (hst.objL (.tail _ (.tail _ (.tail _ (.head _))))) _ rfl)) ?_
   replace hst := hst.pick .nil
   have he : lineF s bound = (zeroIL, false, (toksF s).2) := lineF_idle g1 (by have := g8; simp at this; omega)
   rw [he]
   exact ⟨none, 0, zeroIL_sm, rfl, (hst.pushNil 110 3).noD⟩
 have h0 : 0 < (toksF s).1.length := by have := g8; simp at this; omega
 refine run_skip <| SR <| MP rfl <| CN (Op1.call1 (v1 := .pointer (some ⟨_, _, none⟩)) ent74 rfl rfl ((R7as_inst _ s _ _ (toksF s).1 bound _ _ _ (by omega) (hst.hL _ (.head _)) (hst.hD _ (.head _)) (hst.sepD _ (.head _) _ (.head _)) hl (toksF_len s) (toksF_wsz s) hl24 (hst.hD _ (.tail _ (.head _))) (hst.sepD _ (.head _) _ (.tail _ (.head _))) hbd (toksF_plain s)).mono fun v w hp => ?_))
 rcases hp with ⟨q1, q2, o1, t1, r1, xo, xn, xc, a2, hq, rfl, hp⟩ | ⟨x, a2, hq, hsm, hla, hxo, rfl, hp⟩
 · skip
   replace hst := hst.call1 hp
   clear hp
   refine CN <| Op1.move (v := .tuple #[.agg #[.int .u16 _, .int .u32 _, .int .u32 _, .slice _ _ _], .bool _]) rfl <| CN <| Op1.extract (v := .agg #[.int .u16 _, .int .u32 _, .int .u32 _, .slice _ _ _]) rfl rfl <| CN <| Op1.extract (v := .bool _) rfl rfl <| CN <| Op1.alloc hst ty44 fun w b9 hst => CN (SO (v := .agg #[.int .u16 _, .int .u32 _, .int .u32 _, .slice _ _ _]) hst ty44 rfl rfl (.here) fun w hst => ?_)
   refine AB rfl <| NL <| SQ <| SR <| MB rfl <| CN <| Op1.not rfl <| NL <| run_cond_true (congrArg Value.bool (congrArg not (rfl : false = _))) <| SQ ?_
   replace hst := hst.pick (.cons (.there (.there (.there (.there (.here))))) (.cons (.here) (.cons (.here) (.cons (.here) (.cons (.here) .nil)))))
   apply RunD.start [(5, Res.row b4 44 _, Res.row b4 44 _)] hst (bs := [0, 0, 2, 6, 14, 1, 33, 127]) (ds := [some 34, some 35, some 36, some 37, some 38, none, some 5, none]) (htab := ⟨by kernel_rfl, by kernel_rfl, by kernel_rfl⟩)
   intro tab15
   refine RunD.op (det _) tab15 1 (fun f' L' w' hc => Op1.buildStruct ty44 stf44 .nil ⟨[], ⟨rfl, rfl⟩, hc.st⟩) ?_
   refine RunD.op (det _) tab15 2 (fun f' L' w' hc => Op1.move (v := .pointer (some ⟨_, _, none⟩)) (hc.old (v := .pointer (some ⟨_, _, none⟩)) rfl rfl rfl) ⟨[], ⟨rfl, rfl⟩, hc.st⟩) <| RunD.op (det _) tab15 3 (fun f' L' w' hc => Op1.nilCheckP (hc.det (j := 1) rfl rfl rfl rfl) ⟨[], ⟨rfl, rfl⟩, hc.st⟩) <| RunD.op (det _) tab15 4 (fun f' L' w' hc => Op1.fieldAddr fld130_4 (hc.det (j := 2) rfl rfl rfl rfl) ⟨[], ⟨rfl, rfl⟩, hc.st⟩) <| RunD.op (det _) tab15 5 (fun f' L' w' hc => Op1.loadA (vs := [.int .i64 _, .int .i64 _]) ty28 rfl (hc.det (j := 3) rfl rfl rfl rfl) rfl (cells_of_obj (n := 2) (hc.st.objL (List.mem_append_right _ (.tail _ (.head _)))) _ rfl) ⟨[], ⟨rfl, rfl⟩, hc.st⟩) <| RunD.own tab15 6 (.head _) (fun f' L' L2 w' hc hsel => Op1.store (v := .agg #[.int .u16 _, .int .u32 _, .int .u32 _, .slice _ _ _]) hc.st ty44 (hc.old (v := .pointer (some ⟨_, _, none⟩)) rfl rfl rfl) (hc.det (j := 0) rfl rfl rfl rfl) rfl rfl rfl hsel (by repeat (first | exact Put.nil | apply Put.put | apply Put.skip)) fun w hst => ⟨rfl, hst⟩) ?_
   refine RunD.op (det _) tab15 7 (fun f' L' w' hc => Op1.assign (v := .bool _) rfl ⟨[], ⟨rfl, rfl⟩, hc.st⟩) <| RunD.fin followsMixed tab15 hst rfl (fun f16 w R19 hs17 hd18 hr20 hst => ?_)
   obtain ⟨h34_, r0⟩ := hd18 0 34 rfl rfl
   obtain ⟨h35_, r1⟩ := hd18 1 35 rfl rfl
   obtain ⟨h36_, r2⟩ := hd18 2 36 rfl rfl
   obtain ⟨h37_, r3⟩ := hd18 3 37 rfl rfl
   obtain ⟨h38_, r4⟩ := hd18 4 38 rfl rfl
   obtain ⟨_, _, r5⟩ := hr20 5 rfl
   obtain ⟨h5_, r6⟩ := hd18 6 5 rfl rfl
   simp only [show List.range 7 = [0, 1, 2, 3, 4, 5, 6] from rfl, List.flatMap_cons, List.flatMap_nil, List.map_cons, List.map_nil, r0, r1, r2, r3, r4, r5, r6, List.nil_append, List.append_nil, List.cons_append] at hst
   refine RunL.slots (sl := [(4, .pointer (some ⟨_, _, none⟩)), (5, .bool _), (6, .pointer (some ⟨_, _, none⟩)), (38, .agg #[.int .i64 _, .int .i64 _])]) ⟨(hs17 4 rfl).trans rfl, h5_, (hs17 6 rfl).trans rfl, h38_, trivial⟩ ?_
   clear hs17 hd18 hr20 tab15
   refine CN (SO (v := .agg #[.int .i64 _, .int .i64 _]) hst ty28 rfl rfl (.there (.there (.there (.there (.here))))) fun w hst => ?_)
   refine NL <| run_ret3 Tryz.func36 rfl (RV.cellA (vs := [.int .u16 _, .int .u32 _, .int .u32 _, .slice _ _ _]) rfl ty44 rfl rfl (cells_of_obj (n := 4) (hst.objL (.head _)) _ rfl)) (TP (v := .bool _) rfl) (RV.cellA (vs := [.int .i64 _, .int .i64 _]) rfl ty28 rfl rfl (cells_of_obj (n := 2) (hst.objL (.tail _ (.tail _ (.tail _ (.tail _ (.head _)))))) _ rfl)) ?_
   replace hst := hst.pick .nil
   have he := (lineF_of (bound := bound) g1).trans hq
   rw [he]
   exact ⟨none, 0, zeroIL_sm, rfl, (hst.pushNil 110 3).noD⟩
 · skip
   replace hst := hst.call1 hp
   clear hp
   refine CN <| Op1.move (v := .tuple #[.agg #[.int .u16 _, .int .u32 _, .int .u32 _, .slice _ _ _], .bool _]) rfl <| CN <| Op1.extract (v := .agg #[.int .u16 _, .int .u32 _, .int .u32 _, .slice _ _ _]) rfl rfl <| CN <| Op1.extract (v := .bool _) rfl rfl <| CN <| Op1.alloc hst ty44 fun w b9 hst => CN (SO (v := .agg #[.int .u16 _, .int .u32 _, .int .u32 _, .slice _ _ _]) hst ty44 rfl rfl (.here) fun w hst => ?_)
   refine AB rfl <| NL <| SQ <| SR <| MB rfl <| CN <| Op1.not rfl <| NL <| run_cond_false (congrArg Value.bool (congrArg not (rfl : true = _))) <| run_skip <| SR <| CN <| Op1.loadA (vs := [.int .u16 _, .int .u32 _, .int .u32 _, .slice _ _ _]) ty44 rfl rfl rfl (cells_of_obj (n := 4) (hst.objL (.head _)) _ rfl) <| CN (Op1.buildStruct ty28 stf28 .nil ?_)
   refine CN (SO (v := .agg #[.int .u16 _, .int .u32 _, .int .u32 _, .slice _ _ _]) hst ty44 rfl rfl (.there (.there (.there (.there (.there (.here)))))) fun w hst => ?_)
   refine AB rfl <| CN (SO (v := .agg #[.int .i64 _, .int .i64 _]) hst ty28 rfl rfl (.there (.there (.there (.there (.here))))) fun w hst => ?_)
   refine NL <| run_ret3 Tryz.func36 rfl (RV.cellA (vs := [.int .u16 _, .int .u32 _, .int .u32 _, .slice _ _ _]) rfl ty44 rfl rfl (cells_of_obj (n := 4) (hst.objL (.tail _ (.tail _ (.tail _ (.tail _ (.tail _ (.head _))))))) _ rfl)) (TP (v := .bool _) rfl) (RV.cellA (vs := [.int .i64 _, .int .i64 _]) rfl ty28 rfl rfl (cells_of_obj (n := 2) (hst.objL (.tail _ (.tail _ (.tail _ (.tail _ (.head _)))))) _ rfl)) ?_
   replace hst := hst.pick (.cons (.there (.there (.here))) .nil)
   have he := (lineF_of (bound := bound) g1).trans hq
   rw [he]
   exact ⟨x.ao, x.cap, ⟨hsm, hla, hxo⟩, rfl, hst.noD⟩
end Go.SK
namespace Go.SK
open Go Go.Proofs
theorem ent66 : Enters Tryz.prog 66 := ⟨Tryz.f66, _, Tryz.func66, by kernel_rfl, rfl⟩
theorem ent68 : Enters Tryz.prog 68 := ⟨Tryz.f68, _, Tryz.func68, by kernel_rfl, rfl⟩
theorem ent70 : Enters Tryz.prog 70 := ⟨Tryz.f70, _, Tryz.func70, by kernel_rfl, rfl⟩
end Go.SK
namespace Go.SK
open Go Go.Proofs
open Go.RowKit
theorem R7ref_LetterJ {fm : FormL} (hop : refD fm.op = fm) (h0 : 0 ≤ fm.op) (x : Int) (j : Nat) (hx : x = (j : Int)) (hb : j ≤ 9000000000000000000) (w : World) : Ret Tryz.prog 69 #[.int .u16 fm.op, .int .i64 x] w fun v w' => v = .int .u8 (letterS fm (j : Int)) ∧ St w NoM [] [] w' := by
 subst hx
 exact R7ref_Letter2 h0 hop (j : Int) (by omega) w
theorem R7ref7_Line (s : Tx) (bound : Int) (w : World) (hG : LxG.holds w) (hl : s.length ≤ 1099511627776) (hl24 : s.length ≤ 16777216) (hbd : 0 ≤ bound ∧ bound < 4294967296) : Ret Tryz.prog 35 #[str s, .int .u32 bound] w (fun v w' => ∃ xo xc, (lineF s bound).1.Sm ∧ v = .tuple #[.agg #[.int .u16 (lineF s bound).1.op, .int .u32 (lineF s bound).1.ty, .int .u32 (lineF s bound).1.res, .slice xo (lineF s bound).1.args.length xc], .bool (lineF s bound).2.1, .agg #[.int .i64 (lineF s bound).2.2.1, .int .i64 (lineF s bound).2.2.2]] ∧ St w NoM [Res.sl xo (lineF s bound).1.args.length xc 110 3 ((lineF s bound).1.args.flatMap argC)] [] w') := by
 refine Ret.enter (args := [str s, .int .u32 bound]) Tryz.func35 rfl rfl rfl ?_
 have hst : St w NoM [] [LxG] w := St.init_Ds (by simp only [List.forall_mem_cons]; exact ⟨hG, fun _ h => absurd h List.not_mem_nil⟩)
 have hll := toksF_len s
 have hts := toksF_wsz s
 refine SR <| CN <| Op1.alloc hst ty44 fun w b4 hst => AB rfl <| CN <| Op1.alloc hst ty28 fun w b6 hst => NSR <| CN <| Op1.alloc hst ty44 fun w b7 hst => NSR <| MS rfl <| CN (Op1.call1 (v1 := str _) ent64 rfl rfl ((R7lx_rTokens s _ hl).mono fun v w hp => ?_))
 obtain ⟨ao_x1, cp_x1, rfl, hp⟩ := hp
 replace hst := hst.call0 hp
 clear hp
 refine CN <| Op1.move (v := .tuple #[.slice _ _ _, .agg #[.int .i64 _, .int .i64 _]]) rfl <| CN <| Op1.extract (v := .slice _ _ _) rfl rfl <| CN <| Op1.extract (v := .agg #[.int .i64 _, .int .i64 _]) rfl rfl <| CN <| Op1.alloc hst ty28 fun w b9 hst => AL rfl <| CN (SO (v := .agg #[.int .i64 _, .int .i64 _]) hst ty28 rfl rfl (.here) fun w hst => ?_)
 refine NL <| SQ <| SR <| CN <| Op1.fieldAddr fld28_0 rfl <| CN <| Op1.load1 (v := .int .i64 _) ty26 rfl rfl (hst.cellL (.head _) rfl) <| CN <| Op1.neq rfl rfl <| MB rfl <| RunL.splitD (d := 34) rfl (fun g1 => ?_) (fun g1 => ?_)
 · skip
   refine OM (t := 34) rfl (congrArg Value.bool (decide_eq_true g1)) rfl <| OM (t := 34) rfl (congrArg Value.bool (decide_eq_true g1)) rfl <| OM (t := 34) rfl (congrArg Value.bool (decide_eq_true g1)) rfl <| CN <| Op1.pickT (u := .bool _) (congrArg Value.bool (decide_eq_true g1)) rfl <| NL <| run_cond_true (congrArg Value.bool (rfl : true = _)) <| SQ ?_
   replace hst := hst.pick (.cons (.there (.there (.there (.there (.here))))) (.cons (.here) (.cons (.here) (.cons (.here) (.cons (.here) .nil)))))
   apply RunD.start [(2, Res.row b4 44 _, Res.row b4 44 _)] hst (bs := [0, 0, 1, 5, 15]) (ds := [some 39, some 40, none, some 5, none]) (htab := ⟨by kernel_rfl, by kernel_rfl, by kernel_rfl⟩)
   intro tab2
   refine RunD.op (det _) tab2 1 (fun f' L' w' hc => Op1.loadA (vs := [.int .u16 _, .int .u32 _, .int .u32 _, .slice _ _ _]) ty44 rfl (hc.old (v := .pointer (some ⟨_, _, none⟩)) rfl rfl rfl) rfl (cells_of_obj (n := 4) (hc.st.objL (List.mem_append_right _ (.tail _ (.tail _ (.head _))))) _ rfl) ⟨[], ⟨rfl, rfl⟩, hc.st⟩) <| RunD.op (det _) tab2 2 (fun f' L' w' hc => Op1.loadA (vs := [.int .i64 _, .int .i64 _]) ty28 rfl (hc.old (v := .pointer (some ⟨_, _, none⟩)) rfl rfl rfl) rfl (cells_of_obj (n := 2) (hc.st.objL (List.mem_append_right _ (.head _))) _ rfl) ⟨[], ⟨rfl, rfl⟩, hc.st⟩) <| RunD.own tab2 3 (.head _) (fun f' L' L2 w' hc hsel => Op1.store (v := .agg #[.int .u16 _, .int .u32 _, .int .u32 _, .slice _ _ _]) hc.st ty44 (hc.old (v := .pointer (some ⟨_, _, none⟩)) rfl rfl rfl) (hc.det (j := 0) rfl rfl rfl rfl) rfl rfl rfl hsel (by repeat (first | exact Put.nil | apply Put.put | apply Put.skip)) fun w hst => ⟨rfl, hst⟩) ?_
   refine RunD.op (det _) tab2 4 (fun f' L' w' hc => Op1.assign (v := .bool _) rfl ⟨[], ⟨rfl, rfl⟩, hc.st⟩) <| RunD.fin followsMixed tab2 hst rfl (fun f3 w R6 hs4 hd5 hr7 hst => ?_)
   obtain ⟨h39_, r0⟩ := hd5 0 39 rfl rfl
   obtain ⟨h40_, r1⟩ := hd5 1 40 rfl rfl
   obtain ⟨_, _, r2⟩ := hr7 2 rfl
   obtain ⟨h5_, r3⟩ := hd5 3 5 rfl rfl
   simp only [show List.range 4 = [0, 1, 2, 3] from rfl, List.flatMap_cons, List.flatMap_nil, List.map_cons, List.map_nil, r0, r1, r2, r3, List.nil_append, List.append_nil, List.cons_append] at hst
   refine RunL.slots (sl := [(4, .pointer (some ⟨_, _, none⟩)), (5, .bool _), (6, .pointer (some ⟨_, _, none⟩)), (40, .agg #[.int .i64 _, .int .i64 _])]) ⟨(hs4 4 rfl).trans rfl, h5_, (hs4 6 rfl).trans rfl, h40_, trivial⟩ ?_
   clear hs4 hd5 hr7 tab2
   refine CN (SO (v := .agg #[.int .i64 _, .int .i64 _]) hst ty28 rfl rfl (.there (.there (.there (.there (.here))))) fun w hst => ?_)
   refine NL <| run_ret3 Tryz.func35 rfl (RV.cellA (vs := [.int .u16 _, .int .u32 _, .int .u32 _, .slice _ _ _]) rfl ty44 rfl rfl (cells_of_obj (n := 4) (hst.objL (.head _)) _ rfl)) (TP (v := .bool _) rfl) (RV.cellA (vs := [.int .i64 _, .int .i64 _]) rfl ty28 rfl rfl (cells_of_obj (n := 2) (hst.objL (.tail _ (.tail _ (.tail _ (.tail _ (.head _)))))) _ rfl)) ?_
   replace hst := hst.pick .nil
   have he : lineF s bound = (zeroIL, false, (toksF s).2) := lineF_bad g1
   rw [he]
   exact ⟨none, 0, zeroIL_sm, rfl, (hst.pushNil 110 3).noD⟩
 refine TK (t := 34) rfl (congrArg Value.bool (decide_eq_false g1)) <| Op1.move (v := .slice _ _ _) rfl <| TK (t := 34) rfl (congrArg Value.bool (decide_eq_false g1)) <| Op1.lenSl (rest := []) ty65 rfl <| TK (t := 34) rfl (congrArg Value.bool (decide_eq_false g1)) <| Op1.eql rfl rfl <| CN <| Op1.pickF (u := .bool _) (congrArg Value.bool (decide_eq_false g1)) rfl <| NL <| Run.forget [(0, str _), (1, .int .u32 _), (4, .pointer (some ⟨_, _, none⟩)), (6, .pointer (some ⟨_, _, none⟩)), (7, .pointer (some ⟨_, _, none⟩)), (8, .slice _ _ _), (9, .pointer (some ⟨_, _, none⟩)), (38, .bool _)] ⟨rfl, rfl, rfl, rfl, rfl, rfl, rfl, rfl, trivial⟩ fun f => run_cond_dec rfl (fun g8 => ?_) (fun g8 => ?_)
 · skip
   refine SQ ?_
   replace hst := hst.pick (.cons (.there (.there (.there (.there (.here))))) (.cons (.here) (.cons (.here) (.cons (.here) (.cons (.here) .nil)))))
   apply RunD.start [(2, Res.row b4 44 _, Res.row b4 44 _)] hst (bs := [0, 0, 1, 5, 15]) (ds := [some 39, some 40, none, some 5, none]) (htab := ⟨by kernel_rfl, by kernel_rfl, by kernel_rfl⟩)
   intro tab9
   refine RunD.op (det _) tab9 1 (fun f' L' w' hc => Op1.loadA (vs := [.int .u16 _, .int .u32 _, .int .u32 _, .slice _ _ _]) ty44 rfl (hc.old (v := .pointer (some ⟨_, _, none⟩)) rfl rfl rfl) rfl (cells_of_obj (n := 4) (hc.st.objL (List.mem_append_right _ (.tail _ (.tail _ (.head _))))) _ rfl) ⟨[], ⟨rfl, rfl⟩, hc.st⟩) <| RunD.op (det _) tab9 2 (fun f' L' w' hc => Op1.loadA (vs := [.int .i64 _, .int .i64 _]) ty28 rfl (hc.old (v := .pointer (some ⟨_, _, none⟩)) rfl rfl rfl) rfl (cells_of_obj (n := 2) (hc.st.objL (List.mem_append_right _ (.head _))) _ rfl) ⟨[], ⟨rfl, rfl⟩, hc.st⟩) <| RunD.own tab9 3 (.head _) (fun f' L' L2 w' hc hsel => Op1.store (v := .agg #[.int .u16 _, .int .u32 _, .int .u32 _, .slice _ _ _]) hc.st ty44 (hc.old (v := .pointer (some ⟨_, _, none⟩)) rfl rfl rfl) (hc.det (j := 0) rfl rfl rfl rfl) rfl rfl rfl hsel (by repeat (first | exact Put.nil | apply Put.put | apply Put.skip)) fun w hst => ⟨rfl, hst⟩) ?_
   refine RunD.op (det _) tab9 4 (fun f' L' w' hc => Op1.assign (v := .bool _) rfl ⟨[], ⟨rfl, rfl⟩, hc.st⟩) <| RunD.fin followsMixed tab9 hst rfl (fun f10 w R13 hs11 hd12 hr14 hst => ?_)
   obtain ⟨h39_, r0⟩ := hd12 0 39 rfl rfl
   obtain ⟨h40_, r1⟩ := hd12 1 40 rfl rfl
   obtain ⟨_, _, r2⟩ := hr14 2 rfl
   obtain ⟨h5_, r3⟩ := hd12 3 5 rfl rfl
   simp only [show List.range 4 = [0, 1, 2, 3] from rfl, List.flatMap_cons, List.flatMap_nil, List.map_cons, List.map_nil, r0, r1, r2, r3, List.nil_append, List.append_nil, List.cons_append] at hst
   refine RunL.slots (sl := [(4, .pointer (some ⟨_, _, none⟩)), (5, .bool _), (6, .pointer (some ⟨_, _, none⟩)), (40, .agg #[.int .i64 _, .int .i64 _])]) ⟨(hs11 4 rfl).trans rfl, h5_, (hs11 6 rfl).trans rfl, h40_, trivial⟩ ?_
   clear hs11 hd12 hr14 tab9
   refine CN (SO (v := .agg #[.int .i64 _, .int .i64 _]) hst ty28 rfl rfl (.there (.there (.there (.there (.here))))) fun w hst => ?_)
   refine NL <| run_ret3 Tryz.func35 rfl (RV.cellA (vs := [.int .u16 _, .int .u32 _, .int .u32 _, .slice _ _ _]) rfl ty44 rfl rfl (cells_of_obj (n := 4) (hst.objL (.head _)) _ rfl)) (TP (v := .bool _) rfl) (RV.cellA (vs := [.int .i64 _, .int .i64 _]) rfl ty28 rfl rfl (cells_of_obj (n := 2) (hst.objL (.tail _ (.tail _ (.tail _ (.tail _ (.head _)))))) _ rfl)) ?_
   replace hst := hst.pick .nil
   have he : lineF s bound = (zeroIL, false, (toksF s).2) := lineF_idle g1 (by have := g8; simp at this; omega)
   rw [he]
   exact ⟨none, 0, zeroIL_sm, rfl, (hst.pushNil 110 3).noD⟩
 have h0 : 0 < (toksF s).1.length := by have := g8; simp at this; omega
 refine run_skip <| SR <| MS rfl <| CN <| Op1.lenS (rest := []) ty9 rfl <| CN <| Op1.call2 (v1 := .int .i64 _) (v2 := .int .i64 _) ent65 rfl rfl rfl <| Ret.det (R7as_spot _ _ _) hst fun w hst => CN <| Op1.alloc hst ty28 fun w b10 hst => CN (SO (v := .agg #[.int .i64 _, .int .i64 _]) hst ty28 rfl rfl (.here) fun w hst => ?_)
 refine NSR <| ML rfl <| CN <| Op1.indexRs ty65 ty72 ((Res.rs_of_sl (hst.hL _ (.tail _ (.tail _ (.head _)))))) rfl rfl (by omega) (by omega) <| CN <| Op1.fieldAddr fld72_0 rfl <| CN <| Op1.load1 (v := .int .u8 _) ty5 rfl rfl (Res.rs2_cellF ((Res.rs_of_sl (hst.hL _ (.tail _ (.tail _ (.head _)))))) (flat_cell (g := tokC) (d := tok0) tokC_len rfl (by omega))) <| CN <| Op1.eql rfl rfl <| AB rfl <| NSR <| AI rfl <| NL <| SQ ?_
 refine Run.cutW (L1 := []) [(1, .int .u32 _), (4, .pointer (some ⟨_, _, none⟩)), (6, .pointer (some ⟨_, _, none⟩)), (7, .pointer (some ⟨_, _, none⟩)), (8, .slice _ _ _), (10, .pointer (some ⟨_, _, none⟩)), (11, .bool _)] hst ⟨rfl, rfl, rfl, rfl, rfl, rfl, rfl, trivial⟩ (fun (qq : Nat) => [(12, .int .i64 (qq : Int))]) (fun (qq : Nat) => []) (fun (qq : Nat) => LnA (toksF s).1 qq ∧ qq < (toksF s).1.length) (fun m f w hst hA => ?_) (fun cut15 => ?_)
 replace hst : St _ _ ([] ++ [_, _, _, _, _, _]) _ _ := hst
 replace hA : LnA (toksF s).1 m ∧ m < (toksF s).1.length := hA
 refine Run.slots (sl := [(12, .int .i64 (m : Int))]) ⟨rfl, trivial⟩ ?_
 · skip
   have hAm := hA.2
   refine SQ <| SR <| ML rfl <| MI rfl <| CN <| Op1.indexRs ty65 ty72 ((Res.rs_of_sl (hst.hL _ (.tail _ (.tail _ (.head _)))))) rfl rfl (by omega) (by omega) <| CN <| Op1.fieldAddr fld72_0 rfl <| CN <| Op1.load1 (v := .int .u8 _) ty5 rfl rfl (Res.rs2_cellF ((Res.rs_of_sl (hst.hL _ (.tail _ (.tail _ (.head _)))))) (flat_cell (g := tokC) (d := tok0) tokC_len rfl (by omega))) <| CN <| Op1.neq rfl rfl <| NL <| run_cond_dec rfl (fun g17 => ?_) (fun g17 => ?_)
   · skip
     refine SQ <| RunD.start [] hst (bs := [0, 0, 0, 6, 14, 30, 62, 127, 255, 511]) (ds := [some 77, some 78, some 79, some 80, some 81, some 82, some 83, none, some 5, none]) ⟨by kernel_rfl, by kernel_rfl, by kernel_rfl⟩ (fun tab18 => ?_)
     refine RunD.op (det _) tab18 1 (fun f' L' w' hc => Op1.loadA (vs := [.int .u16 _, .int .u32 _, .int .u32 _, .slice _ _ _]) ty44 rfl (hc.old (v := .pointer (some ⟨_, _, none⟩)) rfl rfl rfl) rfl (cells_of_obj (n := 4) (hc.st.objL (List.mem_append_right _ (.tail _ (.tail _ (.tail _ (.head _)))))) _ rfl) ⟨[], ⟨rfl, rfl⟩, hc.st⟩) <| RunD.op (det _) tab18 2 (fun f' L' w' hc => Op1.move (v := .slice _ _ _) (hc.old (v := .slice _ _ _) rfl rfl rfl) ⟨[], ⟨rfl, rfl⟩, hc.st⟩) <| RunD.op (det _) tab18 3 (fun f' L' w' hc => Op1.move (v := .int .i64 _) (hc.old (v := .int .i64 _) rfl rfl rfl) ⟨[], ⟨rfl, rfl⟩, hc.st⟩) <| RunD.op (det _) tab18 4 (fun f' L' w' hc => Op1.indexRs ty65 ty72 ((Res.rs_of_sl (hc.st.hL _ (List.mem_append_right _ (.tail _ (.tail _ (.head _))))))) (hc.det (j := 1) rfl rfl rfl rfl) (hc.det (j := 2) rfl rfl rfl rfl) (by omega) (by omega) ⟨[], ⟨rfl, rfl⟩, hc.st⟩) <| RunD.op (det _) tab18 5 (fun f' L' w' hc => Op1.fieldAddr fld72_2 (hc.det (j := 3) rfl rfl rfl rfl) ⟨[], ⟨rfl, rfl⟩, hc.st⟩) <| RunD.op (det _) tab18 6 (fun f' L' w' hc => Op1.load1 (v := .int .i64 _) ty3 rfl (hc.det (j := 4) rfl rfl rfl rfl) (Res.rs2_cellF ((Res.rs_of_sl (hc.st.hL _ (List.mem_append_right _ (.tail _ (.tail _ (.head _))))))) (flat_cell (g := tokC) (d := tok0) tokC_len rfl (by omega))) ⟨[], ⟨rfl, rfl⟩, hc.st⟩) <| RunD.op (det _) tab18 7 (fun f' L' w' hc => Op1.call2 (v1 := .int .i64 _) (v2 := .int .i64 _) ent65 rfl rfl (hc.det (j := 5) rfl rfl rfl rfl) ((R7as_spot _ _ _).mono fun v w hp => ⟨[], ⟨hp.1, rfl⟩, hc.st.keepc hp.2⟩)) <| RunD.fin followsMixed tab18 hst rfl (fun f19 w R22 hs20 hd21 hr23 hst => ?_)
     obtain ⟨h77_, r0⟩ := hd21 0 77 rfl rfl
     obtain ⟨h78_, r1⟩ := hd21 1 78 rfl rfl
     obtain ⟨h79_, r2⟩ := hd21 2 79 rfl rfl
     obtain ⟨h80_, r3⟩ := hd21 3 80 rfl rfl
     obtain ⟨h81_, r4⟩ := hd21 4 81 rfl rfl
     obtain ⟨h82_, r5⟩ := hd21 5 82 rfl rfl
     obtain ⟨h83_, r6⟩ := hd21 6 83 rfl rfl
     simp only [show List.range 7 = [0, 1, 2, 3, 4, 5, 6] from rfl, List.flatMap_cons, List.flatMap_nil, List.map_cons, List.map_nil, r0, r1, r2, r3, r4, r5, r6, List.nil_append, List.append_nil, List.cons_append] at hst
     refine RunL.slots (sl := [(4, .pointer (some ⟨_, _, none⟩)), (6, .pointer (some ⟨_, _, none⟩)), (77, .agg #[.int .u16 _, .int .u32 _, .int .u32 _, .slice _ _ _]), (83, .agg #[.int .i64 _, .int .i64 _])]) ⟨(hs20 4 rfl).trans rfl, (hs20 6 rfl).trans rfl, h77_, h83_, trivial⟩ ?_
     clear hs20 hd21 hr23 tab18
     refine CN (SO (v := .agg #[.int .u16 _, .int .u32 _, .int .u32 _, .slice _ _ _]) hst ty44 rfl rfl (.there (.there (.there (.there (.there (.here)))))) fun w hst => ?_)
     refine AB rfl <| CN (SO (v := .agg #[.int .i64 _, .int .i64 _]) hst ty28 rfl rfl (.there (.there (.there (.there (.here))))) fun w hst => ?_)
     refine NL <| run_ret3 Tryz.func35 rfl (RV.cellA (vs := [.int .u16 _, .int .u32 _, .int .u32 _, .slice _ _ _]) rfl ty44 rfl rfl (cells_of_obj (n := 4) (hst.objL (.tail _ (.tail _ (.tail _ (.tail _ (.tail _ (.head _))))))) _ rfl)) (TP (v := .bool _) rfl) (RV.cellA (vs := [.int .i64 _, .int .i64 _]) rfl ty28 rfl rfl (cells_of_obj (n := 2) (hst.objL (.tail _ (.tail _ (.tail _ (.tail _ (.head _)))))) _ rfl)) ?_
     replace hst := hst.pick .nil
     have he := (lineF_of (bound := bound) g1).trans (hA.1.noword hA.2 g17)
     rw [he]
     exact ⟨none, 0, zeroIL_sm, rfl, (hst.pushNil 110 3).noD⟩
   refine run_skip <| SR <| ML rfl <| MI rfl <| CN <| Op1.indexRs ty65 ty72 ((Res.rs_of_sl (hst.hL _ (.tail _ (.tail _ (.head _)))))) rfl rfl (by omega) (by omega) <| CN <| Op1.fieldAddr fld72_1 rfl <| CN (Op1.load1 (v := str _) ty9 rfl rfl (Res.rs2_cellF ((Res.rs_of_sl (hst.hL _ (.tail _ (.tail _ (.head _)))))) (flat_cell (g := tokC) (d := tok0) tokC_len rfl (by omega))) ?_)
   obtain ⟨fm, hfn⟩ : ∃ x, (refT.find? (nmF ((toksF s).1.getD m tok0).text)).getD zeroF = x := ⟨_, rfl⟩
   obtain ⟨ob, hob⟩ : ∃ x, (refT.find? (nmF ((toksF s).1.getD m tok0).text)).isSome = x := ⟨_, rfl⟩
   refine CN <| Op1.call1 (v1 := str _) ent66 rfl rfl <| Ret.det (R7ref_Named3 hfn hob _) hst fun w hst => CN <| Op1.move (v := .tuple #[.agg #[.int .u16 _, str _, .bool _, .bool _, str _, str _, .int .i64 _, .int .u8 _], .bool _]) rfl <| CN <| Op1.extract (v := .agg #[.int .u16 _, str _, .bool _, .bool _, str _, str _, .int .i64 _, .int .u8 _]) rfl rfl <| CN <| Op1.extract (v := .bool _) rfl rfl <| CN <| Op1.alloc hst ty113 fun w b13 hst => CN (SO (v := .agg #[.int .u16 _, str _, .bool _, .bool _, str _, str _, .int .i64 _, .int .u8 _]) hst ty113 rfl rfl (.here) fun w hst => ?_)
   refine AB rfl <| NL <| SQ <| SR <| MB rfl <| CN <| Op1.not rfl <| NL <| Run.forget [(1, .int .u32 _), (4, .pointer (some ⟨_, _, none⟩)), (6, .pointer (some ⟨_, _, none⟩)), (7, .pointer (some ⟨_, _, none⟩)), (8, .slice _ _ _), (10, .pointer (some ⟨_, _, none⟩)), (11, .bool _), (12, .int .i64 _), (13, .pointer (some ⟨_, _, none⟩)), (94, .bool _)] ⟨rfl, rfl, rfl, rfl, rfl, rfl, rfl, rfl, rfl, rfl, trivial⟩ fun f => run_cond_split rfl (fun g24 => ?_) (fun g24 => ?_)
   · skip
     refine SQ <| RunD.start [] hst (bs := [0, 0, 0, 6, 14, 30, 62, 127, 255, 511]) (ds := [some 95, some 96, some 97, some 98, some 99, some 100, some 101, none, some 5, none]) ⟨by kernel_rfl, by kernel_rfl, by kernel_rfl⟩ (fun tab25 => ?_)
     refine RunD.op (det _) tab25 1 (fun f' L' w' hc => Op1.loadA (vs := [.int .u16 _, .int .u32 _, .int .u32 _, .slice _ _ _]) ty44 rfl (hc.old (v := .pointer (some ⟨_, _, none⟩)) rfl rfl rfl) rfl (cells_of_obj (n := 4) (hc.st.objL (List.mem_append_right _ (.tail _ (.tail _ (.tail _ (.tail _ (.head _))))))) _ rfl) ⟨[], ⟨rfl, rfl⟩, hc.st⟩) <| RunD.op (det _) tab25 2 (fun f' L' w' hc => Op1.move (v := .slice _ _ _) (hc.old (v := .slice _ _ _) rfl rfl rfl) ⟨[], ⟨rfl, rfl⟩, hc.st⟩) <| RunD.op (det _) tab25 3 (fun f' L' w' hc => Op1.move (v := .int .i64 _) (hc.old (v := .int .i64 _) rfl rfl rfl) ⟨[], ⟨rfl, rfl⟩, hc.st⟩) <| RunD.op (det _) tab25 4 (fun f' L' w' hc => Op1.indexRs ty65 ty72 ((Res.rs_of_sl (hc.st.hL _ (List.mem_append_right _ (.tail _ (.tail _ (.tail _ (.head _)))))))) (hc.det (j := 1) rfl rfl rfl rfl) (hc.det (j := 2) rfl rfl rfl rfl) (by omega) (by omega) ⟨[], ⟨rfl, rfl⟩, hc.st⟩) <| RunD.op (det _) tab25 5 (fun f' L' w' hc => Op1.fieldAddr fld72_2 (hc.det (j := 3) rfl rfl rfl rfl) ⟨[], ⟨rfl, rfl⟩, hc.st⟩) <| RunD.op (det _) tab25 6 (fun f' L' w' hc => Op1.load1 (v := .int .i64 _) ty3 rfl (hc.det (j := 4) rfl rfl rfl rfl) (Res.rs2_cellF ((Res.rs_of_sl (hc.st.hL _ (List.mem_append_right _ (.tail _ (.tail _ (.tail _ (.head _)))))))) (flat_cell (g := tokC) (d := tok0) tokC_len rfl (by omega))) ⟨[], ⟨rfl, rfl⟩, hc.st⟩) <| RunD.op (det _) tab25 7 (fun f' L' w' hc => Op1.call2 (v1 := .int .i64 _) (v2 := .int .i64 _) ent65 rfl rfl (hc.det (j := 5) rfl rfl rfl rfl) ((R7as_spot _ _ _).mono fun v w hp => ⟨[], ⟨hp.1, rfl⟩, hc.st.keepc hp.2⟩)) <| RunD.fin followsMixed tab25 hst rfl (fun f26 w R29 hs27 hd28 hr30 hst => ?_)
     obtain ⟨h95_, r0⟩ := hd28 0 95 rfl rfl
     obtain ⟨h96_, r1⟩ := hd28 1 96 rfl rfl
     obtain ⟨h97_, r2⟩ := hd28 2 97 rfl rfl
     obtain ⟨h98_, r3⟩ := hd28 3 98 rfl rfl
     obtain ⟨h99_, r4⟩ := hd28 4 99 rfl rfl
     obtain ⟨h100_, r5⟩ := hd28 5 100 rfl rfl
     obtain ⟨h101_, r6⟩ := hd28 6 101 rfl rfl
     simp only [show List.range 7 = [0, 1, 2, 3, 4, 5, 6] from rfl, List.flatMap_cons, List.flatMap_nil, List.map_cons, List.map_nil, r0, r1, r2, r3, r4, r5, r6, List.nil_append, List.append_nil, List.cons_append] at hst
     refine RunL.slots (sl := [(4, .pointer (some ⟨_, _, none⟩)), (6, .pointer (some ⟨_, _, none⟩)), (95, .agg #[.int .u16 _, .int .u32 _, .int .u32 _, .slice _ _ _]), (101, .agg #[.int .i64 _, .int .i64 _])]) ⟨(hs27 4 rfl).trans rfl, (hs27 6 rfl).trans rfl, h95_, h101_, trivial⟩ ?_
     clear hs27 hd28 hr30 tab25
     refine CN (SO (v := .agg #[.int .u16 _, .int .u32 _, .int .u32 _, .slice _ _ _]) hst ty44 rfl rfl (.there (.there (.there (.there (.there (.there (.here))))))) fun w hst => ?_)
     refine AB rfl <| CN (SO (v := .agg #[.int .i64 _, .int .i64 _]) hst ty28 rfl rfl (.there (.there (.there (.there (.there (.here)))))) fun w hst => ?_)
     refine NL <| run_ret3 Tryz.func35 rfl (RV.cellA (vs := [.int .u16 _, .int .u32 _, .int .u32 _, .slice _ _ _]) rfl ty44 rfl rfl (cells_of_obj (n := 4) (hst.objL (.tail _ (.tail _ (.tail _ (.tail _ (.tail _ (.tail _ (.head _)))))))) _ rfl)) (TP (v := .bool _) rfl) (RV.cellA (vs := [.int .i64 _, .int .i64 _]) rfl ty28 rfl rfl (cells_of_obj (n := 2) (hst.objL (.tail _ (.tail _ (.tail _ (.tail _ (.tail _ (.head _))))))) _ rfl)) ?_
     replace hst := hst.pick .nil
     have he := (lineF_of (bound := bound) g1).trans (hA.1.noname hA.2 (Classical.not_not.1 g17) (hob.trans (by simpa using g24)))
     rw [he]
     exact ⟨none, 0, zeroIL_sm, rfl, (hst.pushNil 110 3).noD⟩
   have hB := LnB.mk2 hA.1 hA.2 (Classical.not_not.1 g17) (hob.trans (by simpa using g24)) hfn
   have hop := hB.op
   have hop0 := hB.op0
   refine run_skip <| SQ <| SR <| CN <| Op1.fieldAddr fld113_3 rfl <| CN <| Op1.load1 (v := .bool _) ty4 rfl rfl (hst.cellL (.head _) rfl) <| MB rfl <| CN <| Op1.neqB ty4 rfl rfl <| NL <| run_cond_split rfl (fun g31 => ?_) (fun g31 => ?_)
   · skip
     refine SQ <| RunD.start [] hst (bs := [0, 0, 2, 6, 14, 30, 63, 127, 255]) (ds := [some 106, some 107, some 108, some 109, some 110, some 111, none, some 5, none]) ⟨by kernel_rfl, by kernel_rfl, by kernel_rfl⟩ (fun tab32 => ?_)
     refine RunD.op (det _) tab32 1 (fun f' L' w' hc => Op1.loadA (vs := [.int .u16 _, .int .u32 _, .int .u32 _, .slice _ _ _]) ty44 rfl (hc.old (v := .pointer (some ⟨_, _, none⟩)) rfl rfl rfl) rfl (cells_of_obj (n := 4) (hc.st.objL (List.mem_append_right _ (.tail _ (.tail _ (.tail _ (.tail _ (.head _))))))) _ rfl) ⟨[], ⟨rfl, rfl⟩, hc.st⟩) <| RunD.op (det _) tab32 2 (fun f' L' w' hc => Op1.move (v := .slice _ _ _) (hc.old (v := .slice _ _ _) rfl rfl rfl) ⟨[], ⟨rfl, rfl⟩, hc.st⟩) <| RunD.op (det _) tab32 3 (fun f' L' w' hc => Op1.indexRs ty65 ty72 ((Res.rs_of_sl (hc.st.hL _ (List.mem_append_right _ (.tail _ (.tail _ (.tail _ (.head _)))))))) (hc.det (j := 1) rfl rfl rfl rfl) rfl (by omega) (by omega) ⟨[], ⟨rfl, rfl⟩, hc.st⟩) <| RunD.op (det _) tab32 4 (fun f' L' w' hc => Op1.fieldAddr fld72_2 (hc.det (j := 2) rfl rfl rfl rfl) ⟨[], ⟨rfl, rfl⟩, hc.st⟩) <| RunD.op (det _) tab32 5 (fun f' L' w' hc => Op1.load1 (v := .int .i64 _) ty3 rfl (hc.det (j := 3) rfl rfl rfl rfl) (Res.rs2_cellF ((Res.rs_of_sl (hc.st.hL _ (List.mem_append_right _ (.tail _ (.tail _ (.tail _ (.head _)))))))) (flat_cell (g := tokC) (d := tok0) tokC_len rfl (by omega))) ⟨[], ⟨rfl, rfl⟩, hc.st⟩) <| RunD.op (det _) tab32 6 (fun f' L' w' hc => Op1.call2 (v1 := .int .i64 _) (v2 := .int .i64 _) ent65 rfl rfl (hc.det (j := 4) rfl rfl rfl rfl) ((R7as_spot _ _ _).mono fun v w hp => ⟨[], ⟨hp.1, rfl⟩, hc.st.keepc hp.2⟩)) <| RunD.fin followsMixed tab32 hst rfl (fun f33 w R36 hs34 hd35 hr37 hst => ?_)
     obtain ⟨h106_, r0⟩ := hd35 0 106 rfl rfl
     obtain ⟨h107_, r1⟩ := hd35 1 107 rfl rfl
     obtain ⟨h108_, r2⟩ := hd35 2 108 rfl rfl
     obtain ⟨h109_, r3⟩ := hd35 3 109 rfl rfl
     obtain ⟨h110_, r4⟩ := hd35 4 110 rfl rfl
     obtain ⟨h111_, r5⟩ := hd35 5 111 rfl rfl
     simp only [show List.range 6 = [0, 1, 2, 3, 4, 5] from rfl, List.flatMap_cons, List.flatMap_nil, List.map_cons, List.map_nil, r0, r1, r2, r3, r4, r5, List.nil_append, List.append_nil, List.cons_append] at hst
     refine RunL.slots (sl := [(4, .pointer (some ⟨_, _, none⟩)), (6, .pointer (some ⟨_, _, none⟩)), (106, .agg #[.int .u16 _, .int .u32 _, .int .u32 _, .slice _ _ _]), (111, .agg #[.int .i64 _, .int .i64 _])]) ⟨(hs34 4 rfl).trans rfl, (hs34 6 rfl).trans rfl, h106_, h111_, trivial⟩ ?_
     clear hs34 hd35 hr37 tab32
     refine CN (SO (v := .agg #[.int .u16 _, .int .u32 _, .int .u32 _, .slice _ _ _]) hst ty44 rfl rfl (.there (.there (.there (.there (.there (.there (.here))))))) fun w hst => ?_)
     refine AB rfl <| CN (SO (v := .agg #[.int .i64 _, .int .i64 _]) hst ty28 rfl rfl (.there (.there (.there (.there (.there (.here)))))) fun w hst => ?_)
     refine NL <| run_ret3 Tryz.func35 rfl (RV.cellA (vs := [.int .u16 _, .int .u32 _, .int .u32 _, .slice _ _ _]) rfl ty44 rfl rfl (cells_of_obj (n := 4) (hst.objL (.tail _ (.tail _ (.tail _ (.tail _ (.tail _ (.tail _ (.head _)))))))) _ rfl)) (TP (v := .bool _) rfl) (RV.cellA (vs := [.int .i64 _, .int .i64 _]) rfl ty28 rfl rfl (cells_of_obj (n := 2) (hst.objL (.tail _ (.tail _ (.tail _ (.tail _ (.tail _ (.head _))))))) _ rfl)) ?_
     replace hst := hst.pick .nil
     have he := (lineF_of (bound := bound) g1).trans (hB.nores (by simpa using g31))
     rw [he]
     exact ⟨none, 0, zeroIL_sm, rfl, (hst.pushNil 110 3).noD⟩
   have hrs : fm.res = decide (((toksF s).1.getD 0 tok0).kind = 2) := by simpa using g31
   refine run_skip <| SR <| CN <| Op1.fieldAddr fld113_0 rfl <| CN <| Op1.load1 (v := .int .u16 _) ty41 rfl rfl (hst.cellL (.head _) rfl) <| CN (Op1.buildStruct ty44 stf44 (.c (v := .int .u16 _) rfl (h := .nil)) ?_)
   refine CN <| Op1.alloc hst ty44 fun w b15 hst => CN (SO (v := .agg #[.int .u16 _, .int .u32 _, .int .u32 _, .slice _ _ _]) hst ty44 rfl rfl (.here) fun w hst => ?_)
   refine NL <| SQ <| Run.cutW (L1 := [_]) [(1, .int .u32 _), (4, .pointer (some ⟨_, _, none⟩)), (6, .pointer (some ⟨_, _, none⟩)), (7, .pointer (some ⟨_, _, none⟩)), (8, .slice _ _ _), (10, .pointer (some ⟨_, _, none⟩)), (12, .int .i64 _), (13, .pointer (some ⟨_, _, none⟩)), (15, .pointer (some ⟨_, _, none⟩))] hst ⟨rfl, rfl, rfl, rfl, rfl, rfl, rfl, rfl, rfl, trivial⟩ (fun (qq : Int) => []) (fun (qq : Int) => [Res.row b15 44 [.int .u16 fm.op, .int .u32 0, .int .u32 qq, .slice none 0 0]]) (fun (qq : Int) => (((toksF s).1.getD 0 tok0).kind = 2 → qq = idL ((toksF s).1.getD 0 tok0).text bound ∧ qq ≠ 0) ∧ (¬ ((toksF s).1.getD 0 tok0).kind = 2 → qq = 0)) (fun res f w hst hR0 => ?_) (fun cut38 => ?_)
   replace hst : St _ _ ([Res.row b15 44 [.int .u16 fm.op, .int .u32 0, .int .u32 res, .slice none 0 0]] ++ [_, _, _, _, _, _, _]) _ _ := hst
   replace hR0 : (((toksF s).1.getD 0 tok0).kind = 2 → res = idL ((toksF s).1.getD 0 tok0).text bound ∧ res ≠ 0) ∧ (¬ ((toksF s).1.getD 0 tok0).kind = 2 → res = 0) := hR0
   skip
   · skip
     have hC : LnC bound (toksF s).1 m fm res := ⟨hB, hrs, hR0.1, hR0.2⟩
     refine SR <| MI rfl <| CN <| Op1.addN rfl rfl rfl (wrap_i64 (by omega) (by omega)) <| AI rfl <| NL <| SQ <| Run.cutW (L1 := [_]) [(1, .int .u32 _), (4, .pointer (some ⟨_, _, none⟩)), (6, .pointer (some ⟨_, _, none⟩)), (7, .pointer (some ⟨_, _, none⟩)), (8, .slice _ _ _), (10, .pointer (some ⟨_, _, none⟩)), (13, .pointer (some ⟨_, _, none⟩)), (15, .pointer (some ⟨_, _, none⟩))] hst ⟨rfl, rfl, rfl, rfl, rfl, rfl, rfl, rfl, trivial⟩ (fun (qq : Int × Nat) => [(12, .int .i64 (qq.2 : Int))]) (fun (qq : Int × Nat) => [Res.row b15 44 [.int .u16 fm.op, .int .u32 qq.1, .int .u32 res, .slice none 0 0]]) (fun (qq : Int × Nat) => LnI bound (toksF s).1 m fm res qq.1 qq.2) (fun ⟨ty, q⟩ f w hst hI => ?_) (fun cut40 => ?_)
     replace hst : St _ _ ([Res.row b15 44 [.int .u16 fm.op, .int .u32 ty, .int .u32 res, .slice none 0 0]] ++ [_, _, _, _, _, _, _]) _ _ := hst
     replace hI : LnI bound (toksF s).1 m fm res ty q := hI
     refine Run.slots (sl := [(12, .int .i64 (q : Int))]) ⟨rfl, trivial⟩ ?_
     · skip
       have hIle := hI.le
       refine SR <| AL rfl <| NL <| SQ <| SR <| MI rfl <| AI rfl <| NL <| run_block <| run_loop ?_
       replace hst := hst.pushNil 110 3
       replace hst := hst.pushNil 5 1
       refine Run.indW [(1, .int .u32 _), (4, .pointer (some ⟨_, _, none⟩)), (6, .pointer (some ⟨_, _, none⟩)), (7, .pointer (some ⟨_, _, none⟩)), (8, .slice _ _ _), (10, .pointer (some ⟨_, _, none⟩)), (12, .int .i64 _), (13, .pointer (some ⟨_, _, none⟩)), (15, .pointer (some ⟨_, _, none⟩))] ⟨rfl, rfl, rfl, rfl, rfl, rfl, rfl, rfl, rfl, trivial⟩ (fun (qq : Nat × List ArgP × Option Addr × Nat × Option Addr × Nat) => [(20, .slice qq.2.2.2.2.1 (qq.2.1.map ArgP.kind).length qq.2.2.2.2.2), (21, .int .i64 ((q + qq.1 : Nat) : Int))]) (fun (qq : Nat × List ArgP × Option Addr × Nat × Option Addr × Nat) => [Res.sl qq.2.2.2.2.1 (qq.2.1.map ArgP.kind).length qq.2.2.2.2.2 5 1 ((qq.2.1.map ArgP.kind).flatMap u8C), Res.sl qq.2.2.1 qq.2.1.length qq.2.2.2.1 110 3 (qq.2.1.flatMap argC), Res.row b15 44 [.int .u16 fm.op, .int .u32 ty, .int .u32 res, .slice qq.2.2.1 qq.2.1.length qq.2.2.2.1]]) (fun (qq : Nat × List ArgP × Option Addr × Nat × Option Addr × Nat) => ArI fm bound (toksF s).1 q qq.1 qq.2.1) (fun (qq : Nat × List ArgP × Option Addr × Nat × Option Addr × Nat) => (toksF s).1.length - qq.1) ((0, [], none, 0, none, 0)) hst (ArI.start hI.le) ⟨rfl, rfl, trivial⟩ ?_
       intro ⟨j, ags, xo, xc, ko, kc⟩ f w hst hJ ih42
       replace hst : St _ _ ([Res.sl ko (ags.map ArgP.kind).length kc 5 1 ((ags.map ArgP.kind).flatMap u8C), Res.sl xo ags.length xc 110 3 (ags.flatMap argC), Res.row b15 44 [.int .u16 fm.op, .int .u32 ty, .int .u32 res, .slice xo ags.length xc]] ++ [_, _, _, _, _, _, _]) _ _ := hst
       replace hJ : ArI fm bound (toksF s).1 q j ags := hJ
       refine Run.slots (sl := [(20, .slice ko (ags.map ArgP.kind).length kc), (21, .int .i64 ((q + j : Nat) : Int))]) ⟨rfl, rfl, trivial⟩ ?_
       have hjl := hJ.len
       have hjle := hJ.le
       have hkl : (ags.map ArgP.kind).length = ags.length := List.length_map _
       refine SQ <| SR <| MI rfl <| ML rfl <| CN <| Op1.lenSl (rest := []) ty65 rfl <| CN <| Op1.lss rfl rfl <| NL <| run_cond_dec rfl (fun g43 => ?_) (fun g43 => ?_)
       · skip
         refine run_skip <| SQ <| run_block <| SQ <| RunD.startT [(15, 16)] [] hst (bs := [0, 1, 0, 0, 12, 31, 0, 0, 192, 448, 0, 2047, 4095, 8191, 8191, 0, 49151, 131071]) (ds := [some 177, some 178, some 179, some 180, some 181, some 182, some 183, some 184, some 185, some 186, some 187, some 188, some 176, some 189, some 190, some 22, none, some 23]) ⟨by kernel_rfl, by kernel_rfl, by kernel_rfl⟩ (fun tab44 => ?_)
         refine RunD.op (det _) tab44 1 (fun f' L' w' hc => Op1.fieldAddr fld113_0 (hc.old (v := .pointer (some ⟨_, _, none⟩)) rfl rfl rfl) ⟨[], ⟨rfl, rfl⟩, hc.st⟩) <| RunD.op (det _) tab44 2 (fun f' L' w' hc => Op1.load1 (v := .int .u16 _) ty41 rfl (hc.det (j := 0) rfl rfl rfl rfl) (hc.st.cellL (List.mem_append_right _ (.tail _ (.tail _ (.tail _ (.head _))))) rfl) ⟨[], ⟨rfl, rfl⟩, hc.st⟩) <| RunD.op (det _) tab44 3 (fun f' L' w' hc => Op1.move (v := .int .i64 _) (hc.old (v := .int .i64 _) rfl rfl rfl) ⟨[], ⟨rfl, rfl⟩, hc.st⟩) <| RunD.op (det _) tab44 4 (fun f' L' w' hc => Op1.move (v := .int .i64 _) (hc.old (v := .int .i64 _) rfl rfl rfl) ⟨[], ⟨rfl, rfl⟩, hc.st⟩) <| RunD.op (det _) tab44 5 (fun f' L' w' hc => Op1.subN (hc.det (j := 2) rfl rfl rfl rfl) (hc.det (j := 3) rfl rfl rfl rfl) rfl (wrap_i64 (by omega) (by omega)) ⟨[], ⟨rfl, rfl⟩, hc.st⟩) <| RunD.op (det _) tab44 6 (fun f' L' w' hc => Op1.call2 (v1 := .int .u16 _) (v2 := .int .i64 _) ent69 rfl (hc.det (j := 1) rfl rfl rfl rfl) (hc.det (j := 4) rfl rfl rfl rfl) ((R7ref_LetterJ hop hop0.1 _ j (by omega) (by omega) _).mono fun v w hp => ⟨[], ⟨hp.1, rfl⟩, hc.st.keepc hp.2⟩)) <| RunD.op (det _) tab44 7 (fun f' L' w' hc => Op1.move (v := .slice _ _ _) (hc.old (v := .slice _ _ _) rfl rfl rfl) ⟨[], ⟨rfl, rfl⟩, hc.st⟩) <| RunD.op (det _) tab44 8 (fun f' L' w' hc => Op1.move (v := .int .i64 _) (hc.old (v := .int .i64 _) rfl rfl rfl) ⟨[], ⟨rfl, rfl⟩, hc.st⟩) <| RunD.op (det _) tab44 9 (fun f' L' w' hc => Op1.indexRs ty65 ty72 ((Res.rs_of_sl (hc.st.hL _ (List.mem_append_right _ (.tail _ (.tail _ (.tail _ (.tail _ (.tail _ (.tail _ (.head _))))))))))) (hc.det (j := 6) rfl rfl rfl rfl) (hc.det (j := 7) rfl rfl rfl rfl) (by omega) (by omega) ⟨[], ⟨rfl, rfl⟩, hc.st⟩) <| RunD.op (det _) tab44 10 (fun f' L' w' hc => Op1.loadA (vs := [.int .u8 _, str _, .int .i64 _]) ty72 rfl (hc.det (j := 8) rfl rfl rfl rfl) rfl (Res.rs2_cells (m := 3) ((Res.rs_of_sl (hc.st.hL _ (List.mem_append_right _ (.tail _ (.tail _ (.tail _ (.tail _ (.tail _ (.tail _ (.head _))))))))))) _ (flat_seg (g := tokC) (d := tok0) tokC_len _ _ (by omega))) ⟨[], ⟨rfl, rfl⟩, hc.st⟩) <| RunD.op (det _) tab44 11 (fun f' L' w' hc => Op1.move (v := .int .u32 _) (hc.old (v := .int .u32 _) rfl rfl rfl) ⟨[], ⟨rfl, rfl⟩, hc.st⟩) <| RunD.op (det _) tab44 12 (fun f' L' w' hc => Op1.call3 (v1 := .int .u8 _) (v2 := .agg #[.int .u8 _, str _, .int .i64 _]) (v3 := .int .u32 _) ent68 rfl (hc.det (j := 5) rfl rfl rfl rfl) (hc.det (j := 9) rfl rfl rfl rfl) (hc.det (j := 10) rfl rfl rfl rfl) ((R7ref7_Argument (letterS fm (j : Int)) (letterS_bd fm _) ((toksF s).1.getD (q + j) tok0) bound hbd (toksF_plain s (q + j) (by omega)) (by have := wsz_mem (l := (toksF s).1) (i := q + j) (by omega); omega) _).mono fun v w hp => ⟨[], ⟨hp.1, rfl⟩, hc.st.keepc hp.2⟩)) <| RunD.op (det _) tab44 13 (fun f' L' w' hc => Op1.move (v := .tuple #[.agg #[.int .u8 _, .int .u32 _, str _], .int .i64 _]) (hc.det (j := 11) rfl rfl rfl rfl) ⟨[], ⟨rfl, rfl⟩, hc.st⟩) <| RunD.op (det _) tab44 14 (fun f' L' w' hc => Op1.extract (v := .agg #[.int .u8 _, .int .u32 _, str _]) (hc.det (j := 12) rfl rfl rfl rfl) rfl ⟨[], ⟨rfl, rfl⟩, hc.st⟩) <| RunD.op (det _) tab44 15 (fun f' L' w' hc => Op1.extract (v := .int .i64 _) (hc.det (j := 12) rfl rfl rfl rfl) rfl ⟨[], ⟨rfl, rfl⟩, hc.st⟩) ?_
         refine RunD.op (fun v rs => ∃ b, v = .pointer (some ⟨b, 0, none⟩) ∧ rs = [Res.row b 110 [.int .u8 0, .int .u32 0, str []]]) tab44 16 (fun f' L' w' hc => Op1.alloc hc.st ty110 fun w b hst => ⟨[_], ⟨b, rfl, rfl⟩, hst⟩) <| RunD.overS (T := 110) (zs := [.int .u8 0, .int .u32 0, str []]) _ tab44 17 15 22 (.head _) rfl rfl rfl (fun f' L' w' c L2 hc hp hst => Op1.store (v := .agg #[.int .u8 _, .int .u32 _, str _]) hst ty110 (evs hp rfl) (hc.det (j := 13) rfl rfl rfl rfl) rfl rfl rfl .here (by repeat (first | exact Put.nil | apply Put.put | apply Put.skip)) fun w hst => ⟨rfl, hst⟩) ?_
         refine RunD.finT followsMixed tab44 hst rfl (fun f45 w R48 hs46 hd47 hr49 hst => ?_)
         obtain ⟨h177_, r0⟩ := hd47 0 177 rfl rfl
         obtain ⟨h178_, r1⟩ := hd47 1 178 rfl rfl
         obtain ⟨h179_, r2⟩ := hd47 2 179 rfl rfl
         obtain ⟨h180_, r3⟩ := hd47 3 180 rfl rfl
         obtain ⟨h181_, r4⟩ := hd47 4 181 rfl rfl
         obtain ⟨h182_, r5⟩ := hd47 5 182 rfl rfl
         obtain ⟨h183_, r6⟩ := hd47 6 183 rfl rfl
         obtain ⟨h184_, r7⟩ := hd47 7 184 rfl rfl
         obtain ⟨h185_, r8⟩ := hd47 8 185 rfl rfl
         obtain ⟨h186_, r9⟩ := hd47 9 186 rfl rfl
         obtain ⟨h187_, r10⟩ := hd47 10 187 rfl rfl
         obtain ⟨h188_, r11⟩ := hd47 11 188 rfl rfl
         obtain ⟨h176_, r12⟩ := hd47 12 176 rfl rfl
         obtain ⟨h189_, r13⟩ := hd47 13 189 rfl rfl
         obtain ⟨h190_, r14⟩ := hd47 14 190 rfl rfl
         obtain ⟨_, _, b22, h22_, r16⟩ := hr49 16 rfl
         rw [DrawTab.mask tab44 _ (j := 16) (l := 15) (t := 22) rfl rfl] at h22_
         simp only [show List.range 17 = [0, 1, 2, 3, 4, 5, 6, 7, 8, 9, 10, 11, 12, 13, 14, 15, 16] from rfl, List.flatMap_cons, List.flatMap_nil, List.map_cons, List.map_nil, show finR [(15, 16)] R48 0 = R48 0 from rfl, show finR [(15, 16)] R48 1 = R48 1 from rfl, show finR [(15, 16)] R48 2 = R48 2 from rfl, show finR [(15, 16)] R48 3 = R48 3 from rfl, show finR [(15, 16)] R48 4 = R48 4 from rfl, show finR [(15, 16)] R48 5 = R48 5 from rfl, show finR [(15, 16)] R48 6 = R48 6 from rfl, show finR [(15, 16)] R48 7 = R48 7 from rfl, show finR [(15, 16)] R48 8 = R48 8 from rfl, show finR [(15, 16)] R48 9 = R48 9 from rfl, show finR [(15, 16)] R48 10 = R48 10 from rfl, show finR [(15, 16)] R48 11 = R48 11 from rfl, show finR [(15, 16)] R48 12 = R48 12 from rfl, show finR [(15, 16)] R48 13 = R48 13 from rfl, show finR [(15, 16)] R48 14 = R48 14 from rfl, show finR [(15, 16)] R48 15 = [] from rfl, show finR [(15, 16)] R48 16 = R48 16 from rfl, r0, r1, r2, r3, r4, r5, r6, r7, r8, r9, r10, r11, r12, r13, r14, r16, List.nil_append, List.append_nil, List.cons_append] at hst
         refine RunL.slots (sl := [(1, .int .u32 _), (4, .pointer (some ⟨_, _, none⟩)), (6, .pointer (some ⟨_, _, none⟩)), (7, .pointer (some ⟨_, _, none⟩)), (8, .slice _ _ _), (10, .pointer (some ⟨_, _, none⟩)), (12, .int .i64 _), (13, .pointer (some ⟨_, _, none⟩)), (15, .pointer (some ⟨_, _, none⟩)), (20, .slice _ _ _), (21, .int .i64 _), (22, .pointer (some ⟨_, _, none⟩)), (190, .int .i64 _)]) ⟨(hs46 1 rfl).trans rfl, (hs46 4 rfl).trans rfl, (hs46 6 rfl).trans rfl, (hs46 7 rfl).trans rfl, (hs46 8 rfl).trans rfl, (hs46 10 rfl).trans rfl, (hs46 12 rfl).trans rfl, (hs46 13 rfl).trans rfl, (hs46 15 rfl).trans rfl, (hs46 20 rfl).trans rfl, (hs46 21 rfl).trans rfl, h22_, h190_, trivial⟩ ?_
         clear hs46 hd47 hr49 tab44
         refine AI rfl <| NL <| Run.forget [(1, .int .u32 _), (4, .pointer (some ⟨_, _, none⟩)), (6, .pointer (some ⟨_, _, none⟩)), (7, .pointer (some ⟨_, _, none⟩)), (8, .slice _ _ _), (10, .pointer (some ⟨_, _, none⟩)), (12, .int .i64 _), (13, .pointer (some ⟨_, _, none⟩)), (15, .pointer (some ⟨_, _, none⟩)), (20, .slice _ _ _), (21, .int .i64 _), (22, .pointer (some ⟨_, _, none⟩)), (23, .int .i64 _)] ⟨rfl, rfl, rfl, rfl, rfl, rfl, rfl, rfl, rfl, rfl, rfl, rfl, rfl, trivial⟩ fun f => SQ <| SR <| MI rfl <| CN <| Op1.neq rfl rfl <| NL <| run_cond_dec rfl (fun g50 => ?_) (fun g50 => ?_)
         · skip
           refine SQ <| RunD.start [] hst (bs := [0, 0, 0, 0, 12, 28, 60, 126, 255, 511, 1023]) (ds := [some 193, some 194, some 195, some 196, some 197, some 198, some 199, some 200, none, some 5, none]) ⟨by kernel_rfl, by kernel_rfl, by kernel_rfl⟩ (fun tab51 => ?_)
           refine RunD.op (det _) tab51 1 (fun f' L' w' hc => Op1.loadA (vs := [.int .u16 _, .int .u32 _, .int .u32 _, .slice _ _ _]) ty44 rfl (hc.old (v := .pointer (some ⟨_, _, none⟩)) rfl rfl rfl) rfl (cells_of_obj (n := 4) (hc.st.objL (List.mem_append_right _ (.tail _ (.tail _ (.tail _ (.tail _ (.tail _ (.tail _ (.tail _ (.tail _ (.head _))))))))))) _ rfl) ⟨[], ⟨rfl, rfl⟩, hc.st⟩) <| RunD.op (det _) tab51 2 (fun f' L' w' hc => Op1.move (v := .int .i64 _) (hc.old (v := .int .i64 _) rfl rfl rfl) ⟨[], ⟨rfl, rfl⟩, hc.st⟩) <| RunD.op (det _) tab51 3 (fun f' L' w' hc => Op1.move (v := .slice _ _ _) (hc.old (v := .slice _ _ _) rfl rfl rfl) ⟨[], ⟨rfl, rfl⟩, hc.st⟩) <| RunD.op (det _) tab51 4 (fun f' L' w' hc => Op1.move (v := .int .i64 _) (hc.old (v := .int .i64 _) rfl rfl rfl) ⟨[], ⟨rfl, rfl⟩, hc.st⟩) <| RunD.op (det _) tab51 5 (fun f' L' w' hc => Op1.indexRs ty65 ty72 ((Res.rs_of_sl (hc.st.hL _ (List.mem_append_right _ (.tail _ (.tail _ (.tail _ (.tail _ (.tail _ (.tail _ (.tail _ (.head _)))))))))))) (hc.det (j := 2) rfl rfl rfl rfl) (hc.det (j := 3) rfl rfl rfl rfl) (by omega) (by omega) ⟨[], ⟨rfl, rfl⟩, hc.st⟩) <| RunD.op (det _) tab51 6 (fun f' L' w' hc => Op1.fieldAddr fld72_2 (hc.det (j := 4) rfl rfl rfl rfl) ⟨[], ⟨rfl, rfl⟩, hc.st⟩) <| RunD.op (det _) tab51 7 (fun f' L' w' hc => Op1.load1 (v := .int .i64 _) ty3 rfl (hc.det (j := 5) rfl rfl rfl rfl) (Res.rs2_cellF ((Res.rs_of_sl (hc.st.hL _ (List.mem_append_right _ (.tail _ (.tail _ (.tail _ (.tail _ (.tail _ (.tail _ (.tail _ (.head _)))))))))))) (flat_cell (g := tokC) (d := tok0) tokC_len rfl (by omega))) ⟨[], ⟨rfl, rfl⟩, hc.st⟩) <| RunD.op (det _) tab51 8 (fun f' L' w' hc => Op1.call2 (v1 := .int .i64 _) (v2 := .int .i64 _) ent65 rfl (hc.det (j := 1) rfl rfl rfl rfl) (hc.det (j := 6) rfl rfl rfl rfl) ((R7as_spot _ _ _).mono fun v w hp => ⟨[], ⟨hp.1, rfl⟩, hc.st.keepc hp.2⟩)) <| RunD.fin followsMixed tab51 hst rfl (fun f52 w R55 hs53 hd54 hr56 hst => ?_)
           obtain ⟨h193_, r0⟩ := hd54 0 193 rfl rfl
           obtain ⟨h194_, r1⟩ := hd54 1 194 rfl rfl
           obtain ⟨h195_, r2⟩ := hd54 2 195 rfl rfl
           obtain ⟨h196_, r3⟩ := hd54 3 196 rfl rfl
           obtain ⟨h197_, r4⟩ := hd54 4 197 rfl rfl
           obtain ⟨h198_, r5⟩ := hd54 5 198 rfl rfl
           obtain ⟨h199_, r6⟩ := hd54 6 199 rfl rfl
           obtain ⟨h200_, r7⟩ := hd54 7 200 rfl rfl
           simp only [show List.range 8 = [0, 1, 2, 3, 4, 5, 6, 7] from rfl, List.flatMap_cons, List.flatMap_nil, List.map_cons, List.map_nil, r0, r1, r2, r3, r4, r5, r6, r7, List.nil_append, List.append_nil, List.cons_append] at hst
           refine RunL.slots (sl := [(4, .pointer (some ⟨_, _, none⟩)), (6, .pointer (some ⟨_, _, none⟩)), (193, .agg #[.int .u16 _, .int .u32 _, .int .u32 _, .slice _ _ _]), (200, .agg #[.int .i64 _, .int .i64 _])]) ⟨(hs53 4 rfl).trans rfl, (hs53 6 rfl).trans rfl, h193_, h200_, trivial⟩ ?_
           clear hs53 hd54 hr56 tab51
           refine CN (SO (v := .agg #[.int .u16 _, .int .u32 _, .int .u32 _, .slice _ _ _]) hst ty44 rfl rfl (.there (.there (.there (.there (.there (.there (.there (.there (.there (.there (.here))))))))))) fun w hst => ?_)
           refine AB rfl <| CN (SO (v := .agg #[.int .i64 _, .int .i64 _]) hst ty28 rfl rfl (.there (.there (.there (.there (.there (.there (.there (.there (.there (.here)))))))))) fun w hst => ?_)
           refine NL <| run_ret3 Tryz.func35 rfl (RV.cellA (vs := [.int .u16 _, .int .u32 _, .int .u32 _, .slice _ _ _]) rfl ty44 rfl rfl (cells_of_obj (n := 4) (hst.objL (.tail _ (.tail _ (.tail _ (.tail _ (.tail _ (.tail _ (.tail _ (.tail _ (.tail _ (.tail _ (.head _)))))))))))) _ rfl)) (TP (v := .bool _) rfl) (RV.cellA (vs := [.int .i64 _, .int .i64 _]) rfl ty28 rfl rfl (cells_of_obj (n := 2) (hst.objL (.tail _ (.tail _ (.tail _ (.tail _ (.tail _ (.tail _ (.tail _ (.tail _ (.tail _ (.head _))))))))))) _ rfl)) ?_
           replace hst := hst.pick .nil
           have he := (lineF_of (bound := bound) g1).trans (hI.bad hJ (by omega) g50)
           rw [he]
           exact ⟨none, 0, zeroIL_sm, rfl, (hst.pushNil 110 3).noD⟩
         refine run_skip <| SR <| CN <| Op1.fieldAddr fld44_3 rfl <| CN <| Op1.load1 (v := .slice _ _ _) ty42 rfl rfl (hst.cellL (.tail _ (.tail _ (.tail _ (.head _)))) rfl) <| CN <| Op1.loadA (vs := [.int .u8 _, .int .u32 _, str _]) ty110 rfl rfl rfl (cells_of_obj (n := 3) (hst.objL (.head _)) _ rfl) <| CN (Op1.buildSl (z0 := [.int .u8 0, .int .u32 0, str []]) hst ty42 ty110 rfl rfl (by kernel_rfl) (.c (v := .agg #[.int .u8 _, .int .u32 _, str _]) rfl (h := .nil)) fun w b204 hst => ?_)
         refine CN (Op1.append (news := [.int .u8 _, .int .u32 _, str _]) hst ty42 ty110 rfl rfl (.there (.there (.there (.here)))) rfl rfl rfl (cells_of_obj (n := 3) (hst.objL (.head _)) _ rfl) rfl rfl (by omega) fun w ao57 cp58 hst => ?_)
         replace hst := hst.drop (.there (.here))
         refine CN <| Op1.fieldAddr fld44_3 rfl <| CN (SO (v := .slice _ _ _) hst ty42 rfl rfl (.there (.there (.there (.here)))) fun w hst => ?_)
         refine NR <| ML rfl <| CN <| Op1.fieldAddr fld110_0 rfl <| CN <| Op1.load1 (v := .int .u8 _) ty5 rfl rfl (hst.cellL (.tail _ (.head _)) rfl) <| CN (Op1.buildSl (z0 := [.int .u8 0]) hst ty38 ty5 rfl rfl (by kernel_rfl) (.c (v := .int .u8 _) rfl (h := .nil)) fun w b210 hst => ?_)
         refine CN (Op1.append (news := [.int .u8 _]) hst ty38 ty5 rfl rfl (.there (.there (.there (.here)))) rfl rfl rfl (cells_of_obj (n := 1) (hst.objL (.head _)) _ rfl) rfl rfl (by omega) fun w ao59 cp60 hst => ?_)
         replace hst := hst.drop (.there (.here))
         refine AL rfl <| NL <| run_inBlock <| RG <| MI rfl <| CN <| Op1.addN rfl rfl rfl (wrap_i64 (by omega) (by omega)) <| AI rfl <| NL <| run_inLoop ?_
         have e1 : (ags ++ [(argT (letterS fm (j : Int)) ((toksF s).1.getD (q + j) tok0) bound).1]).length = ags.length + 1 := List.length_append
         have e2 : (ags ++ [(argT (letterS fm (j : Int)) ((toksF s).1.getD (q + j) tok0) bound).1]).flatMap argC = ags.flatMap argC ++ argC (argT (letterS fm (j : Int)) ((toksF s).1.getD (q + j) tok0) bound).1 := by rw [List.flatMap_append]; simp
         have e3 : ((ags ++ [(argT (letterS fm (j : Int)) ((toksF s).1.getD (q + j) tok0) bound).1]).map ArgP.kind).flatMap u8C = (ags.map ArgP.kind).flatMap u8C ++ [.int .u8 (argT (letterS fm (j : Int)) ((toksF s).1.getD (q + j) tok0) bound).1.kind] := by rw [List.map_append, List.flatMap_append]; rfl
         have e4 : ((ags ++ [(argT (letterS fm (j : Int)) ((toksF s).1.getD (q + j) tok0) bound).1]).map ArgP.kind).length = (ags.map ArgP.kind).length + 1 := by rw [List.length_map, List.length_map, e1]
         replace hst := hst.pick (.cons (.here) (.cons (.here) (.cons (.there (.here)) (.cons (.there (.here)) (.cons (.there (.here)) (.cons (.there (.here)) (.cons (.there (.here)) (.cons (.there (.here)) (.cons (.there (.here)) (.cons (.there (.here)) .nil))))))))))
         exact ih42 ((j + 1, ags ++ [(argT (letterS fm (j : Int)) ((toksF s).1.getD (q + j) tok0) bound).1], ao57, cp58, ao59, cp60)) _ w ((by (try dsimp only); omega)) (by (try dsimp only); rw [e1, e2, e3, e4]; exact hst) (hJ.step (by omega) (Classical.not_not.1 g50)) ⟨rfl, rfl, rfl, rfl, rfl, rfl, rfl, rfl, rfl, trivial⟩ ⟨(by (try dsimp only); rw [e4]; rfl), (congrArg (Value.int .i64) (by (try dsimp only); omega)), trivial⟩
       refine run_exit (id := 0) rfl <| SR <| CN <| Op1.fieldAddr fld113_0 rfl <| CN <| Op1.load1 (v := .int .u16 _) ty41 rfl rfl (hst.cellL (.tail _ (.tail _ (.tail _ (.head _)))) rfl) <| ML rfl <| CN <| Op1.call2 (v1 := .int .u16 _) (v2 := .slice _ _ _) ent70 rfl rfl rfl <| Ret.det (R7ref_Fits fm.op hop0.1 (ags.map ArgP.kind) _ _ _ (Res.rs_of_sl (hst.hL _ (.head _))) (by rw [List.length_map]; omega)) hst fun w hst => CN <| Op1.move (v := .tuple #[.int .i64 _, .bool _]) rfl <| CN <| Op1.extract (v := .int .i64 _) rfl rfl <| CN <| Op1.extract (v := .bool _) rfl rfl <| AI rfl <| AB rfl <| NL <| SQ <| SQ ?_
       refine RG <| MB rfl <| CN <| Op1.not rfl <| NL <| run_cond_split rfl (fun g61 => ?_) (fun g61 => ?_)
       · skip
         refine SQ ?_
         replace hst := hst.pick (.cons (.there (.there (.there (.there (.there (.there (.there (.there (.there (.here)))))))))) (.cons (.here) (.cons (.here) (.cons (.here) (.cons (.here) (.cons (.here) (.cons (.here) (.cons (.here) (.cons (.here) (.cons (.here) .nil))))))))))
         apply RunD.start [(2, Res.row b4 44 _, Res.row b4 44 _)] hst (bs := [0, 0, 1, 5, 15]) (ds := [some 221, some 222, none, some 5, none]) (htab := ⟨by kernel_rfl, by kernel_rfl, by kernel_rfl⟩)
         intro tab62
         refine RunD.op (det _) tab62 1 (fun f' L' w' hc => Op1.loadA (vs := [.int .u16 _, .int .u32 _, .int .u32 _, .slice _ _ _]) ty44 rfl (hc.old (v := .pointer (some ⟨_, _, none⟩)) rfl rfl rfl) rfl (cells_of_obj (n := 4) (hc.st.objL (List.mem_append_right _ (.tail _ (.tail _ (.tail _ (.tail _ (.tail _ (.tail _ (.tail _ (.head _)))))))))) _ rfl) ⟨[], ⟨rfl, rfl⟩, hc.st⟩) <| RunD.op (det _) tab62 2 (fun f' L' w' hc => Op1.loadA (vs := [.int .i64 _, .int .i64 _]) ty28 rfl (hc.old (v := .pointer (some ⟨_, _, none⟩)) rfl rfl rfl) rfl (cells_of_obj (n := 2) (hc.st.objL (List.mem_append_right _ (.tail _ (.tail _ (.tail _ (.tail _ (.head _))))))) _ rfl) ⟨[], ⟨rfl, rfl⟩, hc.st⟩) <| RunD.own tab62 3 (.head _) (fun f' L' L2 w' hc hsel => Op1.store (v := .agg #[.int .u16 _, .int .u32 _, .int .u32 _, .slice _ _ _]) hc.st ty44 (hc.old (v := .pointer (some ⟨_, _, none⟩)) rfl rfl rfl) (hc.det (j := 0) rfl rfl rfl rfl) rfl rfl rfl hsel (by repeat (first | exact Put.nil | apply Put.put | apply Put.skip)) fun w hst => ⟨rfl, hst⟩) ?_
         refine RunD.op (det _) tab62 4 (fun f' L' w' hc => Op1.assign (v := .bool _) rfl ⟨[], ⟨rfl, rfl⟩, hc.st⟩) <| RunD.fin followsMixed tab62 hst rfl (fun f63 w R66 hs64 hd65 hr67 hst => ?_)
         obtain ⟨h221_, r0⟩ := hd65 0 221 rfl rfl
         obtain ⟨h222_, r1⟩ := hd65 1 222 rfl rfl
         obtain ⟨_, _, r2⟩ := hr67 2 rfl
         obtain ⟨h5_, r3⟩ := hd65 3 5 rfl rfl
         simp only [show List.range 4 = [0, 1, 2, 3] from rfl, List.flatMap_cons, List.flatMap_nil, List.map_cons, List.map_nil, r0, r1, r2, r3, List.nil_append, List.append_nil, List.cons_append] at hst
         refine RunL.slots (sl := [(4, .pointer (some ⟨_, _, none⟩)), (5, .bool _), (6, .pointer (some ⟨_, _, none⟩)), (222, .agg #[.int .i64 _, .int .i64 _])]) ⟨(hs64 4 rfl).trans rfl, h5_, (hs64 6 rfl).trans rfl, h222_, trivial⟩ ?_
         clear hs64 hd65 hr67 tab62
         refine CN (SO (v := .agg #[.int .i64 _, .int .i64 _]) hst ty28 rfl rfl (.there (.there (.there (.there (.there (.there (.there (.there (.there (.here)))))))))) fun w hst => ?_)
         refine NL <| run_ret3 Tryz.func35 rfl (RV.cellA (vs := [.int .u16 _, .int .u32 _, .int .u32 _, .slice _ _ _]) rfl ty44 rfl rfl (cells_of_obj (n := 4) (hst.objL (.head _)) _ rfl)) (TP (v := .bool _) rfl) (RV.cellA (vs := [.int .i64 _, .int .i64 _]) rfl ty28 rfl rfl (cells_of_obj (n := 2) (hst.objL (.tail _ (.tail _ (.tail _ (.tail _ (.tail _ (.tail _ (.tail _ (.tail _ (.tail _ (.head _))))))))))) _ rfl)) ?_
         replace hst := hst.pick .nil
         have he := (lineF_of (bound := bound) g1).trans (hI.nofit hJ (by omega) (by simpa using g61))
         rw [he]
         exact ⟨none, 0, zeroIL_sm, rfl, (hst.pushNil 110 3).noD⟩
       have hfit : (fitsS fm.op (ags.map ArgP.kind)).2 = true := by simpa using g61
       have hsm := hJ.small hts hll hl24
       have hrm : roomI fm (InstP.args ⟨fm.op, ty, res, xo, xc, ags⟩) = roomI fm ags := rfl
       refine run_skip <| SQ <| SR <| CN <| Op1.loadA (vs := [.int .u16 _, .int .u32 _, .int .u32 _, .slice _ _ _]) ty44 rfl rfl rfl (cells_of_obj (n := 4) (hst.objL (.tail _ (.tail _ (.head _)))) _ rfl) <| CN <| Op1.loadA (vs := [.int .u16 _, str _, .bool _, .bool _, str _, str _, .int .i64 _, .int .u8 _]) ty113 rfl rfl rfl (cells_of_obj (n := 8) (hst.objL (.tail _ (.tail _ (.tail _ (.head _))))) _ rfl) <| CN <| Op1.call2 (v1 := .agg #[.int .u16 _, .int .u32 _, .int .u32 _, .slice _ _ _]) (v2 := .agg #[.int .u16 _, str _, .bool _, .bool _, str _, str _, .int .i64 _, .int .u8 _]) ent71 rfl rfl rfl <| Ret.det (R7ref4_Room ⟨fm.op, ty, res, xo, xc, ags⟩ fm _ (Res.rs_of_sl (hst.hL _ (.tail _ (.head _)))) hsm.1 hsm.2) hst fun w hst => CN <| Op1.gtr rfl rfl <| NL <| Run.forget [(4, .pointer (some ⟨_, _, none⟩)), (6, .pointer (some ⟨_, _, none⟩)), (7, .pointer (some ⟨_, _, none⟩)), (15, .pointer (some ⟨_, _, none⟩)), (226, .bool _)] ⟨rfl, rfl, rfl, rfl, rfl, trivial⟩ fun f => run_cond_dec rfl (fun g68 => ?_) (fun g68 => ?_)
       · skip
         refine SQ <| RunD.start [] hst (bs := [0, 0, 3, 7, 15]) (ds := [some 227, some 228, none, some 5, none]) ⟨by kernel_rfl, by kernel_rfl, by kernel_rfl⟩ (fun tab69 => ?_)
         refine RunD.op (det _) tab69 1 (fun f' L' w' hc => Op1.loadA (vs := [.int .u16 _, .int .u32 _, .int .u32 _, .slice _ _ _]) ty44 rfl (hc.old (v := .pointer (some ⟨_, _, none⟩)) rfl rfl rfl) rfl (cells_of_obj (n := 4) (hc.st.objL (List.mem_append_right _ (.tail _ (.tail _ (.tail _ (.tail _ (.tail _ (.tail _ (.tail _ (.head _)))))))))) _ rfl) ⟨[], ⟨rfl, rfl⟩, hc.st⟩) <| RunD.op (det _) tab69 2 (fun f' L' w' hc => Op1.call2 (v1 := .int .i64 _) (v2 := .int .i64 _) ent65 rfl rfl rfl ((R7as_spot _ _ _).mono fun v w hp => ⟨[], ⟨hp.1, rfl⟩, hc.st.keepc hp.2⟩)) <| RunD.fin followsMixed tab69 hst rfl (fun f70 w R73 hs71 hd72 hr74 hst => ?_)
         obtain ⟨h227_, r0⟩ := hd72 0 227 rfl rfl
         obtain ⟨h228_, r1⟩ := hd72 1 228 rfl rfl
         simp only [show List.range 2 = [0, 1] from rfl, List.flatMap_cons, List.flatMap_nil, List.map_cons, List.map_nil, r0, r1, List.nil_append, List.append_nil, List.cons_append] at hst
         refine RunL.slots (sl := [(4, .pointer (some ⟨_, _, none⟩)), (6, .pointer (some ⟨_, _, none⟩)), (227, .agg #[.int .u16 _, .int .u32 _, .int .u32 _, .slice _ _ _]), (228, .agg #[.int .i64 _, .int .i64 _])]) ⟨(hs71 4 rfl).trans rfl, (hs71 6 rfl).trans rfl, h227_, h228_, trivial⟩ ?_
         clear hs71 hd72 hr74 tab69
         refine CN (SO (v := .agg #[.int .u16 _, .int .u32 _, .int .u32 _, .slice _ _ _]) hst ty44 rfl rfl (.there (.there (.there (.there (.there (.there (.there (.there (.there (.here)))))))))) fun w hst => ?_)
         refine AB rfl <| CN (SO (v := .agg #[.int .i64 _, .int .i64 _]) hst ty28 rfl rfl (.there (.there (.there (.there (.there (.there (.there (.there (.here))))))))) fun w hst => ?_)
         refine NL <| run_ret3 Tryz.func35 rfl (RV.cellA (vs := [.int .u16 _, .int .u32 _, .int .u32 _, .slice _ _ _]) rfl ty44 rfl rfl (cells_of_obj (n := 4) (hst.objL (.tail _ (.tail _ (.tail _ (.tail _ (.tail _ (.tail _ (.tail _ (.tail _ (.tail _ (.head _))))))))))) _ rfl)) (TP (v := .bool _) rfl) (RV.cellA (vs := [.int .i64 _, .int .i64 _]) rfl ty28 rfl rfl (cells_of_obj (n := 2) (hst.objL (.tail _ (.tail _ (.tail _ (.tail _ (.tail _ (.tail _ (.tail _ (.tail _ (.head _)))))))))) _ rfl)) ?_
         replace hst := hst.pick .nil
         have he := (lineF_of (bound := bound) g1).trans (hI.big hJ (by omega) hfit (by rw [← hrm]; omega))
         rw [he]
         exact ⟨none, 0, zeroIL_sm, rfl, (hst.pushNil 110 3).noD⟩
       refine run_skip <| SR <| CN <| Op1.loadA (vs := [.int .u16 _, .int .u32 _, .int .u32 _, .slice _ _ _]) ty44 rfl rfl rfl (cells_of_obj (n := 4) (hst.objL (.tail _ (.tail _ (.head _)))) _ rfl) <| CN (Op1.buildStruct ty28 stf28 .nil ?_)
       refine CN (SO (v := .agg #[.int .u16 _, .int .u32 _, .int .u32 _, .slice _ _ _]) hst ty44 rfl rfl (.there (.there (.there (.there (.there (.there (.there (.there (.there (.here)))))))))) fun w hst => ?_)
       refine AB rfl <| CN (SO (v := .agg #[.int .i64 _, .int .i64 _]) hst ty28 rfl rfl (.there (.there (.there (.there (.there (.there (.there (.there (.here))))))))) fun w hst => ?_)
       refine NL <| run_ret3 Tryz.func35 rfl (RV.cellA (vs := [.int .u16 _, .int .u32 _, .int .u32 _, .slice _ _ _]) rfl ty44 rfl rfl (cells_of_obj (n := 4) (hst.objL (.tail _ (.tail _ (.tail _ (.tail _ (.tail _ (.tail _ (.tail _ (.tail _ (.tail _ (.head _))))))))))) _ rfl)) (TP (v := .bool _) rfl) (RV.cellA (vs := [.int .i64 _, .int .i64 _]) rfl ty28 rfl rfl (cells_of_obj (n := 2) (hst.objL (.tail _ (.tail _ (.tail _ (.tail _ (.tail _ (.tail _ (.tail _ (.tail _ (.head _)))))))))) _ rfl)) ?_
       replace hst := hst.pick (.cons (.there (.here)) .nil)
       have he := (lineF_of (bound := bound) g1).trans (hI.fine hJ (by omega) hfit (by rw [← hrm]; omega))
       rw [he]
       exact ⟨xo, xc, ⟨hsm.1, hsm.2, hop0⟩, rfl, hst.noD⟩
     · skip
       refine SR <| CN <| Op1.fieldAddr fld113_2 rfl <| CN <| Op1.load1 (v := .bool _) ty4 rfl rfl (hst.cellL (.tail _ (.head _)) rfl) <| NL <| run_cond_split rfl (fun g75 => ?_) (fun g75 => ?_)
       · skip
         refine SQ <| SR <| MI rfl <| ML rfl <| CN <| Op1.lenSl (rest := []) ty65 rfl <| CN <| Op1.eql rfl rfl <| NL <| run_cond_dec rfl (fun g76 => ?_) (fun g76 => ?_)
         · skip
           refine SQ ?_
           replace hst := hst.pick (.cons (.there (.there (.there (.there (.there (.there (.there (.here)))))))) (.cons (.here) (.cons (.here) (.cons (.here) (.cons (.here) (.cons (.here) (.cons (.here) (.cons (.here) .nil))))))))
           apply RunD.start [(2, Res.row b4 44 _, Res.row b4 44 _)] hst (bs := [0, 0, 1, 5, 15]) (ds := [some 143, some 144, none, some 5, none]) (htab := ⟨by kernel_rfl, by kernel_rfl, by kernel_rfl⟩)
           intro tab77
           refine RunD.op (det _) tab77 1 (fun f' L' w' hc => Op1.loadA (vs := [.int .u16 _, .int .u32 _, .int .u32 _, .slice _ _ _]) ty44 rfl (hc.old (v := .pointer (some ⟨_, _, none⟩)) rfl rfl rfl) rfl (cells_of_obj (n := 4) (hc.st.objL (List.mem_append_right _ (.tail _ (.tail _ (.tail _ (.tail _ (.tail _ (.head _)))))))) _ rfl) ⟨[], ⟨rfl, rfl⟩, hc.st⟩) <| RunD.op (det _) tab77 2 (fun f' L' w' hc => Op1.loadA (vs := [.int .i64 _, .int .i64 _]) ty28 rfl (hc.old (v := .pointer (some ⟨_, _, none⟩)) rfl rfl rfl) rfl (cells_of_obj (n := 2) (hc.st.objL (List.mem_append_right _ (.tail _ (.tail _ (.head _))))) _ rfl) ⟨[], ⟨rfl, rfl⟩, hc.st⟩) <| RunD.own tab77 3 (.head _) (fun f' L' L2 w' hc hsel => Op1.store (v := .agg #[.int .u16 _, .int .u32 _, .int .u32 _, .slice _ _ _]) hc.st ty44 (hc.old (v := .pointer (some ⟨_, _, none⟩)) rfl rfl rfl) (hc.det (j := 0) rfl rfl rfl rfl) rfl rfl rfl hsel (by repeat (first | exact Put.nil | apply Put.put | apply Put.skip)) fun w hst => ⟨rfl, hst⟩) ?_
           refine RunD.op (det _) tab77 4 (fun f' L' w' hc => Op1.assign (v := .bool _) rfl ⟨[], ⟨rfl, rfl⟩, hc.st⟩) <| RunD.fin followsMixed tab77 hst rfl (fun f78 w R81 hs79 hd80 hr82 hst => ?_)
           obtain ⟨h143_, r0⟩ := hd80 0 143 rfl rfl
           obtain ⟨h144_, r1⟩ := hd80 1 144 rfl rfl
           obtain ⟨_, _, r2⟩ := hr82 2 rfl
           obtain ⟨h5_, r3⟩ := hd80 3 5 rfl rfl
           simp only [show List.range 4 = [0, 1, 2, 3] from rfl, List.flatMap_cons, List.flatMap_nil, List.map_cons, List.map_nil, r0, r1, r2, r3, List.nil_append, List.append_nil, List.cons_append] at hst
           refine RunL.slots (sl := [(4, .pointer (some ⟨_, _, none⟩)), (5, .bool _), (6, .pointer (some ⟨_, _, none⟩)), (144, .agg #[.int .i64 _, .int .i64 _])]) ⟨(hs79 4 rfl).trans rfl, h5_, (hs79 6 rfl).trans rfl, h144_, trivial⟩ ?_
           clear hs79 hd80 hr82 tab77
           refine CN (SO (v := .agg #[.int .i64 _, .int .i64 _]) hst ty28 rfl rfl (.there (.there (.there (.there (.there (.there (.there (.here)))))))) fun w hst => ?_)
           refine NL <| run_ret3 Tryz.func35 rfl (RV.cellA (vs := [.int .u16 _, .int .u32 _, .int .u32 _, .slice _ _ _]) rfl ty44 rfl rfl (cells_of_obj (n := 4) (hst.objL (.head _)) _ rfl)) (TP (v := .bool _) rfl) (RV.cellA (vs := [.int .i64 _, .int .i64 _]) rfl ty28 rfl rfl (cells_of_obj (n := 2) (hst.objL (.tail _ (.tail _ (.tail _ (.tail _ (.tail _ (.tail _ (.tail _ (.head _))))))))) _ rfl)) ?_
           replace hst := hst.pick .nil
           have he := (lineF_of (bound := bound) g1).trans (hC.early g75 (by omega))
           rw [he]
           exact ⟨none, 0, zeroIL_sm, rfl, (hst.pushNil 110 3).noD⟩
         refine run_skip <| SR <| ML rfl <| MI rfl <| CN <| Op1.indexRs ty65 ty72 ((Res.rs_of_sl (hst.hL _ (.tail _ (.tail _ (.tail _ (.tail _ (.head _)))))))) rfl rfl (by omega) (by omega) <| CN <| Op1.loadA (vs := [.int .u8 _, str _, .int .i64 _]) ty72 rfl rfl rfl (Res.rs2_cells (m := 3) ((Res.rs_of_sl (hst.hL _ (.tail _ (.tail _ (.tail _ (.tail _ (.head _)))))))) _ (flat_seg (g := tokC) (d := tok0) tokC_len _ _ (by omega))) <| MU rfl <| CN <| Op1.call3 (v1 := .int .u8 _) (v2 := .agg #[.int .u8 _, str _, .int .i64 _]) (v3 := .int .u32 _) ent68 rfl rfl rfl rfl <| Ret.det (R7ref7_Argument 105 (by decide) ((toksF s).1.getD (m + 1) tok0) bound hbd (toksF_plain s (m + 1) (by omega)) (by have := wsz_mem (l := (toksF s).1) (i := m + 1) (by omega); omega) _) hst fun w hst => CN <| Op1.move (v := .tuple #[.agg #[.int .u8 _, .int .u32 _, str _], .int .i64 _]) rfl <| CN <| Op1.extract (v := .agg #[.int .u8 _, .int .u32 _, str _]) rfl rfl <| CN <| Op1.extract (v := .int .i64 _) rfl rfl <| CN <| Op1.alloc hst ty110 fun w b18 hst => CN (SO (v := .agg #[.int .u8 _, .int .u32 _, str _]) hst ty110 rfl rfl (.here) fun w hst => ?_)
         refine AI rfl <| NL <| Run.forget [(1, .int .u32 _), (4, .pointer (some ⟨_, _, none⟩)), (6, .pointer (some ⟨_, _, none⟩)), (7, .pointer (some ⟨_, _, none⟩)), (8, .slice _ _ _), (10, .pointer (some ⟨_, _, none⟩)), (12, .int .i64 _), (13, .pointer (some ⟨_, _, none⟩)), (15, .pointer (some ⟨_, _, none⟩)), (18, .pointer (some ⟨_, _, none⟩)), (19, .int .i64 _)] ⟨rfl, rfl, rfl, rfl, rfl, rfl, rfl, rfl, rfl, rfl, rfl, trivial⟩ fun f => SQ <| SR <| MI rfl <| CN <| Op1.neq rfl rfl <| NL <| run_cond_dec rfl (fun g83 => ?_) (fun g83 => ?_)
         · skip
           refine SQ <| RunD.start [] hst (bs := [0, 0, 0, 0, 12, 28, 60, 126, 255, 511, 1023]) (ds := [some 156, some 157, some 158, some 159, some 160, some 161, some 162, some 163, none, some 5, none]) ⟨by kernel_rfl, by kernel_rfl, by kernel_rfl⟩ (fun tab84 => ?_)
           refine RunD.op (det _) tab84 1 (fun f' L' w' hc => Op1.loadA (vs := [.int .u16 _, .int .u32 _, .int .u32 _, .slice _ _ _]) ty44 rfl (hc.old (v := .pointer (some ⟨_, _, none⟩)) rfl rfl rfl) rfl (cells_of_obj (n := 4) (hc.st.objL (List.mem_append_right _ (.tail _ (.tail _ (.tail _ (.tail _ (.tail _ (.tail _ (.head _))))))))) _ rfl) ⟨[], ⟨rfl, rfl⟩, hc.st⟩) <| RunD.op (det _) tab84 2 (fun f' L' w' hc => Op1.move (v := .int .i64 _) (hc.old (v := .int .i64 _) rfl rfl rfl) ⟨[], ⟨rfl, rfl⟩, hc.st⟩) <| RunD.op (det _) tab84 3 (fun f' L' w' hc => Op1.move (v := .slice _ _ _) (hc.old (v := .slice _ _ _) rfl rfl rfl) ⟨[], ⟨rfl, rfl⟩, hc.st⟩) <| RunD.op (det _) tab84 4 (fun f' L' w' hc => Op1.move (v := .int .i64 _) (hc.old (v := .int .i64 _) rfl rfl rfl) ⟨[], ⟨rfl, rfl⟩, hc.st⟩) <| RunD.op (det _) tab84 5 (fun f' L' w' hc => Op1.indexRs ty65 ty72 ((Res.rs_of_sl (hc.st.hL _ (List.mem_append_right _ (.tail _ (.tail _ (.tail _ (.tail _ (.tail _ (.head _)))))))))) (hc.det (j := 2) rfl rfl rfl rfl) (hc.det (j := 3) rfl rfl rfl rfl) (by omega) (by omega) ⟨[], ⟨rfl, rfl⟩, hc.st⟩) <| RunD.op (det _) tab84 6 (fun f' L' w' hc => Op1.fieldAddr fld72_2 (hc.det (j := 4) rfl rfl rfl rfl) ⟨[], ⟨rfl, rfl⟩, hc.st⟩) <| RunD.op (det _) tab84 7 (fun f' L' w' hc => Op1.load1 (v := .int .i64 _) ty3 rfl (hc.det (j := 5) rfl rfl rfl rfl) (Res.rs2_cellF ((Res.rs_of_sl (hc.st.hL _ (List.mem_append_right _ (.tail _ (.tail _ (.tail _ (.tail _ (.tail _ (.head _)))))))))) (flat_cell (g := tokC) (d := tok0) tokC_len rfl (by omega))) ⟨[], ⟨rfl, rfl⟩, hc.st⟩) <| RunD.op (det _) tab84 8 (fun f' L' w' hc => Op1.call2 (v1 := .int .i64 _) (v2 := .int .i64 _) ent65 rfl (hc.det (j := 1) rfl rfl rfl rfl) (hc.det (j := 6) rfl rfl rfl rfl) ((R7as_spot _ _ _).mono fun v w hp => ⟨[], ⟨hp.1, rfl⟩, hc.st.keepc hp.2⟩)) <| RunD.fin followsMixed tab84 hst rfl (fun f85 w R88 hs86 hd87 hr89 hst => ?_)
           obtain ⟨h156_, r0⟩ := hd87 0 156 rfl rfl
           obtain ⟨h157_, r1⟩ := hd87 1 157 rfl rfl
           obtain ⟨h158_, r2⟩ := hd87 2 158 rfl rfl
           obtain ⟨h159_, r3⟩ := hd87 3 159 rfl rfl
           obtain ⟨h160_, r4⟩ := hd87 4 160 rfl rfl
           obtain ⟨h161_, r5⟩ := hd87 5 161 rfl rfl
           obtain ⟨h162_, r6⟩ := hd87 6 162 rfl rfl
           obtain ⟨h163_, r7⟩ := hd87 7 163 rfl rfl
           simp only [show List.range 8 = [0, 1, 2, 3, 4, 5, 6, 7] from rfl, List.flatMap_cons, List.flatMap_nil, List.map_cons, List.map_nil, r0, r1, r2, r3, r4, r5, r6, r7, List.nil_append, List.append_nil, List.cons_append] at hst
           refine RunL.slots (sl := [(4, .pointer (some ⟨_, _, none⟩)), (6, .pointer (some ⟨_, _, none⟩)), (156, .agg #[.int .u16 _, .int .u32 _, .int .u32 _, .slice _ _ _]), (163, .agg #[.int .i64 _, .int .i64 _])]) ⟨(hs86 4 rfl).trans rfl, (hs86 6 rfl).trans rfl, h156_, h163_, trivial⟩ ?_
           clear hs86 hd87 hr89 tab84
           refine CN (SO (v := .agg #[.int .u16 _, .int .u32 _, .int .u32 _, .slice _ _ _]) hst ty44 rfl rfl (.there (.there (.there (.there (.there (.there (.there (.there (.here))))))))) fun w hst => ?_)
           refine AB rfl <| CN (SO (v := .agg #[.int .i64 _, .int .i64 _]) hst ty28 rfl rfl (.there (.there (.there (.there (.there (.there (.there (.here)))))))) fun w hst => ?_)
           refine NL <| run_ret3 Tryz.func35 rfl (RV.cellA (vs := [.int .u16 _, .int .u32 _, .int .u32 _, .slice _ _ _]) rfl ty44 rfl rfl (cells_of_obj (n := 4) (hst.objL (.tail _ (.tail _ (.tail _ (.tail _ (.tail _ (.tail _ (.tail _ (.tail _ (.head _)))))))))) _ rfl)) (TP (v := .bool _) rfl) (RV.cellA (vs := [.int .i64 _, .int .i64 _]) rfl ty28 rfl rfl (cells_of_obj (n := 2) (hst.objL (.tail _ (.tail _ (.tail _ (.tail _ (.tail _ (.tail _ (.tail _ (.head _))))))))) _ rfl)) ?_
           replace hst := hst.pick .nil
           have he := (lineF_of (bound := bound) g1).trans (hC.badty g75 (by omega) g83)
           rw [he]
           exact ⟨none, 0, zeroIL_sm, rfl, (hst.pushNil 110 3).noD⟩
         refine run_skip <| SR <| CN <| Op1.fieldAddr fld110_1 rfl <| CN <| Op1.load1 (v := .int .u32 _) ty22 rfl rfl (hst.cellL (.head _) rfl) <| CN <| Op1.fieldAddr fld44_1 rfl <| CN (SO (v := .int .u32 _) hst ty22 rfl rfl (.there (.here)) fun w hst => ?_)
         refine NR <| MI rfl <| CN <| Op1.addN rfl rfl rfl (wrap_i64 (by omega) (by omega)) <| AI rfl <| NL ?_
         replace hst := hst.pick (.cons (.there (.here)) (.cons (.there (.here)) (.cons (.there (.here)) (.cons (.there (.here)) (.cons (.there (.here)) (.cons (.there (.here)) (.cons (.there (.here)) (.cons (.there (.here)) .nil))))))))
         exact cut40 (((argT 105 ((toksF s).1.getD (m + 1) tok0) bound).1.n, m + 2)) _ w (hst) (LnI.ofArg hC g75 (by omega) (Classical.not_not.1 g83)) ⟨rfl, rfl, rfl, rfl, rfl, rfl, rfl, rfl, trivial⟩ ⟨(congrArg (Value.int .i64) (by (try dsimp only); omega)), trivial⟩
       refine run_skip ?_
       exact cut40 ((0, m + 1)) _ w (hst) (LnI.no hC (by simpa using g75)) ⟨rfl, rfl, rfl, rfl, rfl, rfl, rfl, rfl, trivial⟩ ⟨(congrArg (Value.int .i64) (by (try dsimp only); omega)), trivial⟩
   · skip
     refine SR <| MB rfl <| NL <| run_cond_dec rfl (fun g90 => ?_) (fun g90 => ?_)
     · skip
       refine SR <| ML rfl <| CN <| Op1.indexRs ty65 ty72 ((Res.rs_of_sl (hst.hL _ (.tail _ (.tail _ (.tail _ (.tail _ (.head _)))))))) rfl rfl (by omega) (by omega) <| CN <| Op1.fieldAddr fld72_1 rfl <| CN <| Op1.load1 (v := str _) ty9 rfl rfl (Res.rs2_cellF ((Res.rs_of_sl (hst.hL _ (.tail _ (.tail _ (.tail _ (.tail _ (.head _)))))))) (flat_cell (g := tokC) (d := tok0) tokC_len rfl (by omega))) <| MU rfl ?_
       obtain ⟨m0, hm0⟩ := toksF_plain s 0 h0 g90
       refine CN <| Op1.call2 (v1 := str _) (v2 := .int .u32 _) ent67 rfl rfl rfl <| Ret.det (R7ref7_id _ m0 hm0 bound hbd _) hst fun w hst => CN <| Op1.move (v := .tuple #[.int .u32 _, .bool _]) rfl <| CN <| Op1.extract (v := .int .u32 _) rfl rfl <| CN <| Op1.extract (v := .bool _) rfl rfl <| AU rfl <| AB rfl <| NL <| Run.forget [(1, .int .u32 _), (4, .pointer (some ⟨_, _, none⟩)), (6, .pointer (some ⟨_, _, none⟩)), (7, .pointer (some ⟨_, _, none⟩)), (8, .slice _ _ _), (10, .pointer (some ⟨_, _, none⟩)), (12, .int .i64 _), (13, .pointer (some ⟨_, _, none⟩)), (15, .pointer (some ⟨_, _, none⟩)), (16, .int .u32 _), (17, .bool _)] ⟨rfl, rfl, rfl, rfl, rfl, rfl, rfl, rfl, rfl, rfl, rfl, trivial⟩ fun f => SQ <| SR <| MB rfl <| CN <| Op1.not rfl <| NL <| run_cond_split rfl (fun g91 => ?_) (fun g91 => ?_)
       · skip
         refine SQ <| RunD.start [] hst (bs := [0, 0, 2, 6, 14, 30, 63, 127, 255]) (ds := [some 127, some 128, some 129, some 130, some 131, some 132, none, some 5, none]) ⟨by kernel_rfl, by kernel_rfl, by kernel_rfl⟩ (fun tab92 => ?_)
         refine RunD.op (det _) tab92 1 (fun f' L' w' hc => Op1.loadA (vs := [.int .u16 _, .int .u32 _, .int .u32 _, .slice _ _ _]) ty44 rfl (hc.old (v := .pointer (some ⟨_, _, none⟩)) rfl rfl rfl) rfl (cells_of_obj (n := 4) (hc.st.objL (List.mem_append_right _ (.tail _ (.tail _ (.tail _ (.tail _ (.tail _ (.head _)))))))) _ rfl) ⟨[], ⟨rfl, rfl⟩, hc.st⟩) <| RunD.op (det _) tab92 2 (fun f' L' w' hc => Op1.move (v := .slice _ _ _) (hc.old (v := .slice _ _ _) rfl rfl rfl) ⟨[], ⟨rfl, rfl⟩, hc.st⟩) <| RunD.op (det _) tab92 3 (fun f' L' w' hc => Op1.indexRs ty65 ty72 ((Res.rs_of_sl (hc.st.hL _ (List.mem_append_right _ (.tail _ (.tail _ (.tail _ (.tail _ (.head _))))))))) (hc.det (j := 1) rfl rfl rfl rfl) rfl (by omega) (by omega) ⟨[], ⟨rfl, rfl⟩, hc.st⟩) <| RunD.op (det _) tab92 4 (fun f' L' w' hc => Op1.fieldAddr fld72_2 (hc.det (j := 2) rfl rfl rfl rfl) ⟨[], ⟨rfl, rfl⟩, hc.st⟩) <| RunD.op (det _) tab92 5 (fun f' L' w' hc => Op1.load1 (v := .int .i64 _) ty3 rfl (hc.det (j := 3) rfl rfl rfl rfl) (Res.rs2_cellF ((Res.rs_of_sl (hc.st.hL _ (List.mem_append_right _ (.tail _ (.tail _ (.tail _ (.tail _ (.head _))))))))) (flat_cell (g := tokC) (d := tok0) tokC_len rfl (by omega))) ⟨[], ⟨rfl, rfl⟩, hc.st⟩) <| RunD.op (det _) tab92 6 (fun f' L' w' hc => Op1.call2 (v1 := .int .i64 _) (v2 := .int .i64 _) ent65 rfl rfl (hc.det (j := 4) rfl rfl rfl rfl) ((R7as_spot _ _ _).mono fun v w hp => ⟨[], ⟨hp.1, rfl⟩, hc.st.keepc hp.2⟩)) <| RunD.fin followsMixed tab92 hst rfl (fun f93 w R96 hs94 hd95 hr97 hst => ?_)
         obtain ⟨h127_, r0⟩ := hd95 0 127 rfl rfl
         obtain ⟨h128_, r1⟩ := hd95 1 128 rfl rfl
         obtain ⟨h129_, r2⟩ := hd95 2 129 rfl rfl
         obtain ⟨h130_, r3⟩ := hd95 3 130 rfl rfl
         obtain ⟨h131_, r4⟩ := hd95 4 131 rfl rfl
         obtain ⟨h132_, r5⟩ := hd95 5 132 rfl rfl
         simp only [show List.range 6 = [0, 1, 2, 3, 4, 5] from rfl, List.flatMap_cons, List.flatMap_nil, List.map_cons, List.map_nil, r0, r1, r2, r3, r4, r5, List.nil_append, List.append_nil, List.cons_append] at hst
         refine RunL.slots (sl := [(4, .pointer (some ⟨_, _, none⟩)), (6, .pointer (some ⟨_, _, none⟩)), (127, .agg #[.int .u16 _, .int .u32 _, .int .u32 _, .slice _ _ _]), (132, .agg #[.int .i64 _, .int .i64 _])]) ⟨(hs94 4 rfl).trans rfl, (hs94 6 rfl).trans rfl, h127_, h132_, trivial⟩ ?_
         clear hs94 hd95 hr97 tab92
         refine CN (SO (v := .agg #[.int .u16 _, .int .u32 _, .int .u32 _, .slice _ _ _]) hst ty44 rfl rfl (.there (.there (.there (.there (.there (.there (.there (.here)))))))) fun w hst => ?_)
         refine AB rfl <| CN (SO (v := .agg #[.int .i64 _, .int .i64 _]) hst ty28 rfl rfl (.there (.there (.there (.there (.there (.there (.here))))))) fun w hst => ?_)
         refine NL <| run_ret3 Tryz.func35 rfl (RV.cellA (vs := [.int .u16 _, .int .u32 _, .int .u32 _, .slice _ _ _]) rfl ty44 rfl rfl (cells_of_obj (n := 4) (hst.objL (.tail _ (.tail _ (.tail _ (.tail _ (.tail _ (.tail _ (.tail _ (.head _))))))))) _ rfl)) (TP (v := .bool _) rfl) (RV.cellA (vs := [.int .i64 _, .int .i64 _]) rfl ty28 rfl rfl (cells_of_obj (n := 2) (hst.objL (.tail _ (.tail _ (.tail _ (.tail _ (.tail _ (.tail _ (.head _)))))))) _ rfl)) ?_
         replace hst := hst.pick .nil
         have he := (lineF_of (bound := bound) g1).trans (hB.noid hrs g90 (idL_no g91))
         rw [he]
         exact ⟨none, 0, zeroIL_sm, rfl, (hst.pushNil 110 3).noD⟩
       refine run_skip <| RG <| MU rfl <| CN <| Op1.fieldAddr fld44_2 rfl <| CN (SO (v := .int .u32 _) hst ty22 rfl rfl (.here) fun w hst => ?_)
       refine NL ?_
       exact cut38 (((plR ((toksF s).1.getD 0 tok0).text : Nat) : Int)) _ w (hst) (⟨fun _ => ⟨(idL_is g91).1.symm, by rw [← (idL_is g91).1]; exact (idL_is g91).2⟩, fun q => absurd g90 q⟩) ⟨rfl, rfl, rfl, rfl, rfl, rfl, rfl, rfl, rfl, trivial⟩ trivial
     refine run_skip ?_
     exact cut38 (0) _ w (hst) (⟨fun q => absurd q g90, fun _ => rfl⟩) ⟨rfl, rfl, rfl, rfl, rfl, rfl, rfl, rfl, rfl, trivial⟩ trivial
 · skip
   refine SR <| MB rfl <| NL <| run_cond_dec rfl (fun g98 => ?_) (fun g98 => ?_)
   · skip
     refine SQ <| SR <| ML rfl <| CN <| Op1.lenSl (rest := []) ty65 rfl <| CN <| Op1.eql rfl rfl <| NL <| run_cond_dec rfl (fun g99 => ?_) (fun g99 => ?_)
     · skip
       refine SQ ?_
       replace hst := hst.pick (.cons (.there (.there (.there (.there (.there (.here)))))) (.cons (.here) (.cons (.here) (.cons (.here) (.cons (.here) (.cons (.here) .nil))))))
       apply RunD.start [(2, Res.row b4 44 _, Res.row b4 44 _)] hst (bs := [0, 0, 1, 5, 15]) (ds := [some 53, some 54, none, some 5, none]) (htab := ⟨by kernel_rfl, by kernel_rfl, by kernel_rfl⟩)
       intro tab100
       refine RunD.op (det _) tab100 1 (fun f' L' w' hc => Op1.loadA (vs := [.int .u16 _, .int .u32 _, .int .u32 _, .slice _ _ _]) ty44 rfl (hc.old (v := .pointer (some ⟨_, _, none⟩)) rfl rfl rfl) rfl (cells_of_obj (n := 4) (hc.st.objL (List.mem_append_right _ (.tail _ (.tail _ (.tail _ (.head _)))))) _ rfl) ⟨[], ⟨rfl, rfl⟩, hc.st⟩) <| RunD.op (det _) tab100 2 (fun f' L' w' hc => Op1.loadA (vs := [.int .i64 _, .int .i64 _]) ty28 rfl (hc.old (v := .pointer (some ⟨_, _, none⟩)) rfl rfl rfl) rfl (cells_of_obj (n := 2) (hc.st.objL (List.mem_append_right _ (.head _))) _ rfl) ⟨[], ⟨rfl, rfl⟩, hc.st⟩) <| RunD.own tab100 3 (.head _) (fun f' L' L2 w' hc hsel => Op1.store (v := .agg #[.int .u16 _, .int .u32 _, .int .u32 _, .slice _ _ _]) hc.st ty44 (hc.old (v := .pointer (some ⟨_, _, none⟩)) rfl rfl rfl) (hc.det (j := 0) rfl rfl rfl rfl) rfl rfl rfl hsel (by repeat (first | exact Put.nil | apply Put.put | apply Put.skip)) fun w hst => ⟨rfl, hst⟩) ?_
       refine RunD.op (det _) tab100 4 (fun f' L' w' hc => Op1.assign (v := .bool _) rfl ⟨[], ⟨rfl, rfl⟩, hc.st⟩) <| RunD.fin followsMixed tab100 hst rfl (fun f101 w R104 hs102 hd103 hr105 hst => ?_)
       obtain ⟨h53_, r0⟩ := hd103 0 53 rfl rfl
       obtain ⟨h54_, r1⟩ := hd103 1 54 rfl rfl
       obtain ⟨_, _, r2⟩ := hr105 2 rfl
       obtain ⟨h5_, r3⟩ := hd103 3 5 rfl rfl
       simp only [show List.range 4 = [0, 1, 2, 3] from rfl, List.flatMap_cons, List.flatMap_nil, List.map_cons, List.map_nil, r0, r1, r2, r3, List.nil_append, List.append_nil, List.cons_append] at hst
       refine RunL.slots (sl := [(4, .pointer (some ⟨_, _, none⟩)), (5, .bool _), (6, .pointer (some ⟨_, _, none⟩)), (54, .agg #[.int .i64 _, .int .i64 _])]) ⟨(hs102 4 rfl).trans rfl, h5_, (hs102 6 rfl).trans rfl, h54_, trivial⟩ ?_
       clear hs102 hd103 hr105 tab100
       refine CN (SO (v := .agg #[.int .i64 _, .int .i64 _]) hst ty28 rfl rfl (.there (.there (.there (.there (.there (.here)))))) fun w hst => ?_)
       refine NL <| run_ret3 Tryz.func35 rfl (RV.cellA (vs := [.int .u16 _, .int .u32 _, .int .u32 _, .slice _ _ _]) rfl ty44 rfl rfl (cells_of_obj (n := 4) (hst.objL (.head _)) _ rfl)) (TP (v := .bool _) rfl) (RV.cellA (vs := [.int .i64 _, .int .i64 _]) rfl ty28 rfl rfl (cells_of_obj (n := 2) (hst.objL (.tail _ (.tail _ (.tail _ (.tail _ (.tail _ (.head _))))))) _ rfl)) ?_
       replace hst := hst.pick .nil
       have he := (lineF_of (bound := bound) g1).trans (line_one g98 h0 (by omega))
       rw [he]
       exact ⟨none, 0, zeroIL_sm, rfl, (hst.pushNil 110 3).noD⟩
     refine run_skip <| SQ <| SR <| ML rfl <| CN <| Op1.indexRs ty65 ty72 ((Res.rs_of_sl (hst.hL _ (.tail _ (.tail _ (.head _)))))) rfl rfl (by omega) (by omega) <| CN <| Op1.fieldAddr fld72_0 rfl <| CN <| Op1.load1 (v := .int .u8 _) ty5 rfl rfl (Res.rs2_cellF ((Res.rs_of_sl (hst.hL _ (.tail _ (.tail _ (.head _)))))) (flat_cell (g := tokC) (d := tok0) tokC_len rfl (by omega))) <| CN <| Op1.neq rfl rfl <| NL <| Run.forget [(1, .int .u32 _), (4, .pointer (some ⟨_, _, none⟩)), (6, .pointer (some ⟨_, _, none⟩)), (7, .pointer (some ⟨_, _, none⟩)), (8, .slice _ _ _), (10, .pointer (some ⟨_, _, none⟩)), (11, .bool _), (59, .bool _)] ⟨rfl, rfl, rfl, rfl, rfl, rfl, rfl, rfl, trivial⟩ fun f => run_cond_dec rfl (fun g106 => ?_) (fun g106 => ?_)
     · skip
       refine SQ <| RunD.start [] hst (bs := [0, 0, 2, 6, 14, 30, 63, 127, 255]) (ds := [some 60, some 61, some 62, some 63, some 64, some 65, none, some 5, none]) ⟨by kernel_rfl, by kernel_rfl, by kernel_rfl⟩ (fun tab107 => ?_)
       refine RunD.op (det _) tab107 1 (fun f' L' w' hc => Op1.loadA (vs := [.int .u16 _, .int .u32 _, .int .u32 _, .slice _ _ _]) ty44 rfl (hc.old (v := .pointer (some ⟨_, _, none⟩)) rfl rfl rfl) rfl (cells_of_obj (n := 4) (hc.st.objL (List.mem_append_right _ (.tail _ (.tail _ (.tail _ (.head _)))))) _ rfl) ⟨[], ⟨rfl, rfl⟩, hc.st⟩) <| RunD.op (det _) tab107 2 (fun f' L' w' hc => Op1.move (v := .slice _ _ _) (hc.old (v := .slice _ _ _) rfl rfl rfl) ⟨[], ⟨rfl, rfl⟩, hc.st⟩) <| RunD.op (det _) tab107 3 (fun f' L' w' hc => Op1.indexRs ty65 ty72 ((Res.rs_of_sl (hc.st.hL _ (List.mem_append_right _ (.tail _ (.tail _ (.head _))))))) (hc.det (j := 1) rfl rfl rfl rfl) rfl (by omega) (by omega) ⟨[], ⟨rfl, rfl⟩, hc.st⟩) <| RunD.op (det _) tab107 4 (fun f' L' w' hc => Op1.fieldAddr fld72_2 (hc.det (j := 2) rfl rfl rfl rfl) ⟨[], ⟨rfl, rfl⟩, hc.st⟩) <| RunD.op (det _) tab107 5 (fun f' L' w' hc => Op1.load1 (v := .int .i64 _) ty3 rfl (hc.det (j := 3) rfl rfl rfl rfl) (Res.rs2_cellF ((Res.rs_of_sl (hc.st.hL _ (List.mem_append_right _ (.tail _ (.tail _ (.head _))))))) (flat_cell (g := tokC) (d := tok0) tokC_len rfl (by omega))) ⟨[], ⟨rfl, rfl⟩, hc.st⟩) <| RunD.op (det _) tab107 6 (fun f' L' w' hc => Op1.call2 (v1 := .int .i64 _) (v2 := .int .i64 _) ent65 rfl rfl (hc.det (j := 4) rfl rfl rfl rfl) ((R7as_spot _ _ _).mono fun v w hp => ⟨[], ⟨hp.1, rfl⟩, hc.st.keepc hp.2⟩)) <| RunD.fin followsMixed tab107 hst rfl (fun f108 w R111 hs109 hd110 hr112 hst => ?_)
       obtain ⟨h60_, r0⟩ := hd110 0 60 rfl rfl
       obtain ⟨h61_, r1⟩ := hd110 1 61 rfl rfl
       obtain ⟨h62_, r2⟩ := hd110 2 62 rfl rfl
       obtain ⟨h63_, r3⟩ := hd110 3 63 rfl rfl
       obtain ⟨h64_, r4⟩ := hd110 4 64 rfl rfl
       obtain ⟨h65_, r5⟩ := hd110 5 65 rfl rfl
       simp only [show List.range 6 = [0, 1, 2, 3, 4, 5] from rfl, List.flatMap_cons, List.flatMap_nil, List.map_cons, List.map_nil, r0, r1, r2, r3, r4, r5, List.nil_append, List.append_nil, List.cons_append] at hst
       refine RunL.slots (sl := [(4, .pointer (some ⟨_, _, none⟩)), (6, .pointer (some ⟨_, _, none⟩)), (60, .agg #[.int .u16 _, .int .u32 _, .int .u32 _, .slice _ _ _]), (65, .agg #[.int .i64 _, .int .i64 _])]) ⟨(hs109 4 rfl).trans rfl, (hs109 6 rfl).trans rfl, h60_, h65_, trivial⟩ ?_
       clear hs109 hd110 hr112 tab107
       refine CN (SO (v := .agg #[.int .u16 _, .int .u32 _, .int .u32 _, .slice _ _ _]) hst ty44 rfl rfl (.there (.there (.there (.there (.there (.here)))))) fun w hst => ?_)
       refine AB rfl <| CN (SO (v := .agg #[.int .i64 _, .int .i64 _]) hst ty28 rfl rfl (.there (.there (.there (.there (.here))))) fun w hst => ?_)
       refine NL <| run_ret3 Tryz.func35 rfl (RV.cellA (vs := [.int .u16 _, .int .u32 _, .int .u32 _, .slice _ _ _]) rfl ty44 rfl rfl (cells_of_obj (n := 4) (hst.objL (.tail _ (.tail _ (.tail _ (.tail _ (.tail _ (.head _))))))) _ rfl)) (TP (v := .bool _) rfl) (RV.cellA (vs := [.int .i64 _, .int .i64 _]) rfl ty28 rfl rfl (cells_of_obj (n := 2) (hst.objL (.tail _ (.tail _ (.tail _ (.tail _ (.head _)))))) _ rfl)) ?_
       replace hst := hst.pick .nil
       have he := (lineF_of (bound := bound) g1).trans (line_noeq g98 (by omega) g106)
       rw [he]
       exact ⟨none, 0, zeroIL_sm, rfl, (hst.pushNil 110 3).noD⟩
     refine run_skip <| SQ <| SR <| ML rfl <| CN <| Op1.lenSl (rest := []) ty65 rfl <| CN <| Op1.eql rfl rfl <| NL <| run_cond_dec rfl (fun g113 => ?_) (fun g113 => ?_)
     · skip
       refine SQ ?_
       replace hst := hst.pick (.cons (.there (.there (.there (.there (.there (.here)))))) (.cons (.here) (.cons (.here) (.cons (.here) (.cons (.here) (.cons (.here) .nil))))))
       apply RunD.start [(2, Res.row b4 44 _, Res.row b4 44 _)] hst (bs := [0, 0, 1, 5, 15]) (ds := [some 69, some 70, none, some 5, none]) (htab := ⟨by kernel_rfl, by kernel_rfl, by kernel_rfl⟩)
       intro tab114
       refine RunD.op (det _) tab114 1 (fun f' L' w' hc => Op1.loadA (vs := [.int .u16 _, .int .u32 _, .int .u32 _, .slice _ _ _]) ty44 rfl (hc.old (v := .pointer (some ⟨_, _, none⟩)) rfl rfl rfl) rfl (cells_of_obj (n := 4) (hc.st.objL (List.mem_append_right _ (.tail _ (.tail _ (.tail _ (.head _)))))) _ rfl) ⟨[], ⟨rfl, rfl⟩, hc.st⟩) <| RunD.op (det _) tab114 2 (fun f' L' w' hc => Op1.loadA (vs := [.int .i64 _, .int .i64 _]) ty28 rfl (hc.old (v := .pointer (some ⟨_, _, none⟩)) rfl rfl rfl) rfl (cells_of_obj (n := 2) (hc.st.objL (List.mem_append_right _ (.head _))) _ rfl) ⟨[], ⟨rfl, rfl⟩, hc.st⟩) <| RunD.own tab114 3 (.head _) (fun f' L' L2 w' hc hsel => Op1.store (v := .agg #[.int .u16 _, .int .u32 _, .int .u32 _, .slice _ _ _]) hc.st ty44 (hc.old (v := .pointer (some ⟨_, _, none⟩)) rfl rfl rfl) (hc.det (j := 0) rfl rfl rfl rfl) rfl rfl rfl hsel (by repeat (first | exact Put.nil | apply Put.put | apply Put.skip)) fun w hst => ⟨rfl, hst⟩) ?_
       refine RunD.op (det _) tab114 4 (fun f' L' w' hc => Op1.assign (v := .bool _) rfl ⟨[], ⟨rfl, rfl⟩, hc.st⟩) <| RunD.fin followsMixed tab114 hst rfl (fun f115 w R118 hs116 hd117 hr119 hst => ?_)
       obtain ⟨h69_, r0⟩ := hd117 0 69 rfl rfl
       obtain ⟨h70_, r1⟩ := hd117 1 70 rfl rfl
       obtain ⟨_, _, r2⟩ := hr119 2 rfl
       obtain ⟨h5_, r3⟩ := hd117 3 5 rfl rfl
       simp only [show List.range 4 = [0, 1, 2, 3] from rfl, List.flatMap_cons, List.flatMap_nil, List.map_cons, List.map_nil, r0, r1, r2, r3, List.nil_append, List.append_nil, List.cons_append] at hst
       refine RunL.slots (sl := [(4, .pointer (some ⟨_, _, none⟩)), (5, .bool _), (6, .pointer (some ⟨_, _, none⟩)), (70, .agg #[.int .i64 _, .int .i64 _])]) ⟨(hs116 4 rfl).trans rfl, h5_, (hs116 6 rfl).trans rfl, h70_, trivial⟩ ?_
       clear hs116 hd117 hr119 tab114
       refine CN (SO (v := .agg #[.int .i64 _, .int .i64 _]) hst ty28 rfl rfl (.there (.there (.there (.there (.there (.here)))))) fun w hst => ?_)
       refine NL <| run_ret3 Tryz.func35 rfl (RV.cellA (vs := [.int .u16 _, .int .u32 _, .int .u32 _, .slice _ _ _]) rfl ty44 rfl rfl (cells_of_obj (n := 4) (hst.objL (.head _)) _ rfl)) (TP (v := .bool _) rfl) (RV.cellA (vs := [.int .i64 _, .int .i64 _]) rfl ty28 rfl rfl (cells_of_obj (n := 2) (hst.objL (.tail _ (.tail _ (.tail _ (.tail _ (.tail _ (.head _))))))) _ rfl)) ?_
       replace hst := hst.pick .nil
       have he := (lineF_of (bound := bound) g1).trans ((LnA.said g98 (by omega) (Classical.not_not.1 g106)).early (by omega))
       rw [he]
       exact ⟨none, 0, zeroIL_sm, rfl, (hst.pushNil 110 3).noD⟩
     refine run_skip <| RG <| AI rfl <| NL ?_
     exact cut15 (2) _ w (hst) (⟨LnA.said g98 (by omega) (Classical.not_not.1 g106), by omega⟩) ⟨rfl, rfl, rfl, rfl, rfl, rfl, rfl, trivial⟩ ⟨rfl, trivial⟩
   refine run_skip ?_
   exact cut15 (0) _ w (hst) (⟨LnA.start h0 g98, h0⟩) ⟨rfl, rfl, rfl, rfl, rfl, rfl, rfl, trivial⟩ ⟨rfl, trivial⟩
end Go.SK
namespace Go.SK
open Go Go.Proofs
theorem ent35 : Enters Tryz.prog 35 := ⟨Tryz.f35, _, Tryz.func35, by kernel_rfl, rfl⟩
theorem ent36 : Enters Tryz.prog 36 := ⟨Tryz.f36, _, Tryz.func36, by kernel_rfl, rfl⟩
end Go.SK
namespace Go.SK
open Go Go.Proofs
open Go.RowKit
theorem R7law_AsmLines (s : Tx) (bound : Int) (w : World) (hG : LxG.holds w) (hl : s.length ≤ 1099511627776) (hl24 : s.length ≤ 16777216) (hbd : 0 ≤ bound ∧ bound < 4294967296) : Ret Tryz.prog 7 #[str s, .int .u32 bound] w (fun v w' => v = .bool true ∧ St w NoM [] [] w') := by
 refine Ret.enter (args := [str s, .int .u32 bound]) Tryz.func7 rfl rfl rfl ?_
 have hst : St w NoM [] [LxG] w := St.init_Ds (by simp only [List.forall_mem_cons]; exact ⟨hG, fun _ h => absurd h List.not_mem_nil⟩)
 refine SR <| AB rfl <| NSR <| MS rfl <| MU rfl <| CN (Op1.call2 (v1 := str _) (v2 := .int .u32 _) ent35 rfl rfl rfl ((R7ref7_Line s bound _ (hst.hD _ (.head _)) hl hl24 hbd).mono fun v w hp => ?_))
 obtain ⟨xo1, xc1, hsm1, rfl, hp⟩ := hp
 replace hst : St _ _ (_ :: _) _ _ := hst.call0 hp
 clear hp
 refine CN <| Op1.move (v := .tuple #[.agg #[.int .u16 _, .int .u32 _, .int .u32 _, .slice _ _ _], .bool _, .agg #[.int .i64 _, .int .i64 _]]) rfl <| CN <| Op1.extract (v := .agg #[.int .u16 _, .int .u32 _, .int .u32 _, .slice _ _ _]) rfl rfl <| CN <| Op1.extract (v := .bool _) rfl rfl <| CN <| Op1.extract (v := .agg #[.int .i64 _, .int .i64 _]) rfl rfl <| CN <| Op1.alloc hst ty44 fun w b5 hst => CN <| Op1.alloc hst ty28 fun w b7 hst => CN (SO (v := .agg #[.int .u16 _, .int .u32 _, .int .u32 _, .slice _ _ _]) hst ty44 rfl rfl (.there (.here)) fun w hst => ?_)
 refine AB rfl <| CN (SO (v := .agg #[.int .i64 _, .int .i64 _]) hst ty28 rfl rfl (.here) fun w hst => ?_)
 refine NSR <| MS rfl <| MU rfl <| CN (Op1.call2 (v1 := str _) (v2 := .int .u32 _) ent36 rfl rfl rfl ((R7as_Line s bound _ (hst.hD _ (.head _)) hl hl24 hbd).mono fun v w hp => ?_))
 obtain ⟨xo2, xc2, hsm2, rfl, hp⟩ := hp
 replace hst : St _ _ (_ :: _) _ _ := hst.call0 hp
 clear hp
 refine CN <| Op1.move (v := .tuple #[.agg #[.int .u16 _, .int .u32 _, .int .u32 _, .slice _ _ _], .bool _, .agg #[.int .i64 _, .int .i64 _]]) rfl <| CN <| Op1.extract (v := .agg #[.int .u16 _, .int .u32 _, .int .u32 _, .slice _ _ _]) rfl rfl <| CN <| Op1.extract (v := .bool _) rfl rfl <| CN <| Op1.extract (v := .agg #[.int .i64 _, .int .i64 _]) rfl rfl <| CN <| Op1.alloc hst ty44 fun w b8 hst => CN <| Op1.alloc hst ty28 fun w b10 hst => CN (SO (v := .agg #[.int .u16 _, .int .u32 _, .int .u32 _, .slice _ _ _]) hst ty44 rfl rfl (.there (.here)) fun w hst => ?_)
 refine AB rfl <| CN (SO (v := .agg #[.int .i64 _, .int .i64 _]) hst ty28 rfl rfl (.here) fun w hst => ?_)
 refine NL <| Run.forget [(5, .pointer (some ⟨_, _, none⟩)), (6, .bool _), (7, .pointer (some ⟨_, _, none⟩)), (8, .pointer (some ⟨_, _, none⟩)), (9, .bool _), (10, .pointer (some ⟨_, _, none⟩))] ⟨rfl, rfl, rfl, rfl, rfl, rfl, trivial⟩ fun f => SR <| CN <| Op1.loadA (vs := [.int .i64 _, .int .i64 _]) ty28 rfl rfl rfl (cells_of_obj (n := 2) (hst.objL (.head _)) _ rfl) <| CN <| Op1.loadA (vs := [.int .i64 _, .int .i64 _]) ty28 rfl rfl rfl (cells_of_obj (n := 2) (hst.objL (.tail _ (.tail _ (.tail _ (.head _))))) _ rfl) <| CN <| Op1.eqlA (xs := [.int .i64 _, .int .i64 _]) (ys := [.int .i64 _, .int .i64 _]) rfl rfl (by kernel_rfl) (EqOk.struct Tryz.underlying28 (by kernel_rfl) (.cons (by decide) (PartOk.one ty26 rfl rfl) (PartOk.one ty26 rfl rfl) (EqOk.int ty26) (.cons (by decide) (PartOk.one ty3 rfl rfl) (PartOk.one ty3 rfl rfl) (EqOk.int ty3) .nil))) <| MB rfl <| RunL.split (d := 28) rfl (fun g1 => ?_) (fun g1 => ?_)
 · skip
   refine TK (t := 28) rfl (congrArg Value.bool g1) <| Op1.move (v := .bool _) rfl <| TK (t := 28) rfl (congrArg Value.bool g1) <| Op1.move (v := .bool _) rfl <| TK (t := 28) rfl (congrArg Value.bool g1) <| Op1.eqlB ty4 rfl rfl <| CN <| Op1.pickT (u := .bool _) (congrArg Value.bool g1) rfl <| MB rfl <| RunL.split (d := 33) rfl (fun g2 => ?_) (fun g2 => ?_)
   · skip
     refine TK (t := 33) rfl (congrArg Value.bool g2) <| Op1.loadA (vs := [.int .u16 _, .int .u32 _, .int .u32 _, .slice _ _ _]) ty44 rfl rfl rfl (cells_of_obj (n := 4) (hst.objL (.tail _ (.head _))) _ rfl) <| TK (t := 33) rfl (congrArg Value.bool g2) <| Op1.loadA (vs := [.int .u16 _, .int .u32 _, .int .u32 _, .slice _ _ _]) ty44 rfl rfl rfl (cells_of_obj (n := 4) (hst.objL (.tail _ (.tail _ (.tail _ (.tail _ (.head _)))))) _ rfl) <| TK (t := 33) rfl (congrArg Value.bool g2) (Op1.call2 (v1 := .agg #[.int .u16 _, .int .u32 _, .int .u32 _, .slice _ _ _]) (v2 := .agg #[.int .u16 _, .int .u32 _, .int .u32 _, .slice _ _ _]) ent34 rfl rfl rfl ((R7md_Inst ⟨(lineF s bound).1.op, (lineF s bound).1.ty, (lineF s bound).1.res, xo2, xc2, (lineF s bound).1.args⟩ ⟨(lineF s bound).1.op, (lineF s bound).1.ty, (lineF s bound).1.res, xo1, xc1, (lineF s bound).1.args⟩ _ (Res.rs_of_sl (hst.hL _ (.tail _ (.tail _ (.head _))))) (Res.rs_of_sl (hst.hL _ (.tail _ (.tail _ (.tail _ (.tail _ (.tail _ (.head _)))))))) (by have h1 := len_sum (lineF s bound).1.args; have h2 := hsm2.1; show (lineF s bound).1.args.length ≤ _; omega)).mono fun v w hp => ?_))
     obtain ⟨rfl, hp⟩ := hp
     replace hst := hst.keepc hp
     clear hp
     refine CN <| Op1.pickT (u := .bool _) (congrArg Value.bool g2) rfl <| AB rfl <| NL <| run_ret1 Tryz.func7 rfl (TP (v := .bool _) rfl) ?_
     exact ⟨by simp, hst.pure⟩
   exfalso
   simp at g2
 exfalso
 simp at g1
end Go.SK
