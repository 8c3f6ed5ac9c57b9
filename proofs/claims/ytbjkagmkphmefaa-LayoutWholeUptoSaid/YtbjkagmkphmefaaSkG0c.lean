/-
  Steps of functions, plain law, and walks of functions: what the laws rest on.
-/
import Derived.Test.YtbjkagmkphmefaaSkG0b
set_option linter.unusedVariables false
set_option linter.unusedSimpArgs false
set_option linter.unusedSectionVars false
namespace Go.SK
open Go Go.Proofs
open Go.RowKit
theorem R5gr_Kind (c : Int) (w : World) : Ret Try.prog 69 #[.int .u8 c] w (fun v w' => v = .int .u8 (kindS c) ∧ St w NoM [] [] w') := by
 refine Ret.enter (args := [.int .u8 c]) Try.func69 rfl rfl rfl ?_
 have hst := St.init w
 refine SR <| AC rfl <| NL <| SQ <| SR <| MC rfl <| NL <| run_block <| SR <| CN <| Op1.eql rfl rfl <| AB rfl <| NL ?_
 refine run_cond_dec rfl (fun g1 => ?_) (fun g1 => ?_)
 · skip
   refine SR <| AC rfl <| NL <| run_ret1 Try.func69 rfl (TP (v := .int .u8 _) rfl) <| ⟨congrArg (Value.int .u8) (Eq.symm ?_), hst.pure⟩
   unfold kindS
   rw [if_pos g1]
 refine SR <| CN <| Op1.eql rfl rfl <| AB rfl <| NL <| run_cond_dec rfl (fun g2 => ?_) (fun g2 => ?_)
 · skip
   refine SR <| AC rfl <| NL <| run_ret1 Try.func69 rfl (TP (v := .int .u8 _) rfl) <| ⟨congrArg (Value.int .u8) (Eq.symm ?_), hst.pure⟩
   unfold kindS
   rw [if_neg g1, if_pos g2]
 refine SR <| CN <| Op1.eql rfl rfl <| AB rfl <| NL <| run_cond_dec rfl (fun g3 => ?_) (fun g3 => ?_)
 · skip
   refine SR <| AC rfl <| NL <| run_ret1 Try.func69 rfl (TP (v := .int .u8 _) rfl) <| ⟨congrArg (Value.int .u8) (Eq.symm ?_), hst.pure⟩
   unfold kindS
   rw [if_neg g1, if_neg g2, if_pos g3]
 refine run_skip <| run_inBlock <| SQ <| SR <| MC rfl <| CN <| Op1.call1 (v1 := .int .u8 _) ent77 rfl rfl <| Ret.det (R5gr_names _ _) hst fun w hst => CN <| Op1.neqS rfl rfl <| NL <| run_cond_dec rfl (fun g4 => ?_) (fun g4 => ?_)
 · skip
   refine SR <| AC rfl <| NL <| run_ret1 Try.func69 rfl (TP (v := .int .u8 _) rfl) <| ⟨congrArg (Value.int .u8) (Eq.symm ?_), hst.pure⟩
   unfold kindS
   rw [if_neg g1, if_neg g2, if_neg g3, if_pos g4]
 refine run_skip <| SR <| AC rfl <| NL <| run_ret1 Try.func69 rfl (TP (v := .int .u8 _) rfl) <| ⟨congrArg (Value.int .u8) (Eq.symm ?_), hst.pure⟩
 unfold kindS
 rw [if_neg g1, if_neg g2, if_neg g3, if_neg g4]
theorem R5gr_fixed (fm : FormL) (hf : FOk fm) (i : Int) (h0 : 0 ≤ i) (h1 : i ≤ 9223372036854775807) (w : World) : Ret Try.prog 82 #[.agg #[.int .u16 fm.op, str fm.name, .bool fm.ty, .bool fm.res, str fm.fixed, str fm.rest, .int .i64 fm.most, .int .u8 fm.part], .int .i64 i] w (fun v w' => v = .int .u8 (fixS fm i) ∧ St w NoM [] [] w') := by
 refine Ret.enter (args := [.agg #[.int .u16 fm.op, str fm.name, .bool fm.ty, .bool fm.res, str fm.fixed, str fm.rest, .int .i64 fm.most, .int .u8 fm.part], .int .i64 i]) Try.func82 rfl rfl rfl ?_
 have hst := St.init w
 obtain ⟨hop, hmost, hfx, hrs, _, _, hf0, hr0⟩ := hf
 refine SR <| CN <| Op1.box (v := .agg #[.int .u16 _, str _, .bool _, .bool _, str _, str _, .int .i64 _, .int .u8 _]) hst rfl rfl fun w b2 hst => AC rfl <| NL <| SQ <| SR <| MI rfl <| CN <| Op1.lss rfl rfl <| MB rfl <| RunL.splitD (d := 7) rfl (fun g1 => ?_) (fun g1 => ?_)
 · skip
   refine OM (t := 7) rfl (congrArg Value.bool (decide_eq_true g1)) rfl <| OM (t := 7) rfl (congrArg Value.bool (decide_eq_true g1)) rfl <| OM (t := 7) rfl (congrArg Value.bool (decide_eq_true g1)) rfl <| OM (t := 7) rfl (congrArg Value.bool (decide_eq_true g1)) rfl <| OM (t := 7) rfl (congrArg Value.bool (decide_eq_true g1)) rfl <| OM (t := 7) rfl (congrArg Value.bool (decide_eq_true g1)) rfl <| CN <| Op1.pickT (u := .bool _) (congrArg Value.bool (decide_eq_true g1)) rfl <| NL <| run_cond_true (congrArg Value.bool (rfl : true = _)) <| SR <| AC rfl <| NL <| run_ret1 Try.func82 rfl (TP (v := .int .u8 _) rfl) <| ⟨congrArg (Value.int .u8) (Eq.symm ?_), hst.pure⟩
   unfold fixS
   first | exact if_pos (by omega) | exact if_neg (by omega)
 refine TK (t := 7) rfl (congrArg Value.bool (decide_eq_false g1)) <| Op1.move (v := .int .i64 _) rfl <| TK (t := 7) rfl (congrArg Value.bool (decide_eq_false g1)) <| Op1.fieldAddr fld128_0 rfl <| TK (t := 7) rfl (congrArg Value.bool (decide_eq_false g1)) <| Op1.fieldAddr fld74_4 rfl <| TK (t := 7) rfl (congrArg Value.bool (decide_eq_false g1)) <| Op1.load1 (v := str _) ty9 rfl rfl (hst.cellL (.head _) rfl) <| TK (t := 7) rfl (congrArg Value.bool (decide_eq_false g1)) <| Op1.lenS (rest := []) ty9 rfl <| TK (t := 7) rfl (congrArg Value.bool (decide_eq_false g1)) <| Op1.geq rfl rfl <| CN <| Op1.pickF (u := .bool _) (congrArg Value.bool (decide_eq_false g1)) rfl <| NL <| run_cond_dec rfl (fun g2 => ?_) (fun g2 => ?_)
 · skip
   refine SR <| AC rfl <| NL <| run_ret1 Try.func82 rfl (TP (v := .int .u8 _) rfl) <| ⟨congrArg (Value.int .u8) (Eq.symm ?_), hst.pure⟩
   unfold fixS
   first | exact if_pos (by omega) | exact if_neg (by omega)
 refine run_skip <| SR <| CN <| Op1.fieldAddr fld128_0 rfl <| CN <| Op1.fieldAddr fld74_4 rfl <| CN <| Op1.load1 (v := str _) ty9 rfl rfl (hst.cellL (.head _) rfl) <| MI rfl <| CN <| Op1.indexS ty9 rfl rfl (by omega) (by omega) <| AC rfl <| NL <| run_ret1 Try.func82 rfl (TP (v := .int .u8 _) rfl) <| ⟨congrArg (Value.int .u8) (Eq.symm ?_), hst.pure⟩
 unfold fixS
 first | exact if_pos (by omega) | exact if_neg (by omega)
theorem R5gr_rest (fm : FormL) (hf : FOk fm) (i : Int) (h0 : 0 ≤ i) (h1 : i ≤ 9223372036854775807) (w : World) : Ret Try.prog 83 #[.agg #[.int .u16 fm.op, str fm.name, .bool fm.ty, .bool fm.res, str fm.fixed, str fm.rest, .int .i64 fm.most, .int .u8 fm.part], .int .i64 i] w (fun v w' => v = .int .u8 (restS fm i) ∧ St w NoM [] [] w') := by
 refine Ret.enter (args := [.agg #[.int .u16 fm.op, str fm.name, .bool fm.ty, .bool fm.res, str fm.fixed, str fm.rest, .int .i64 fm.most, .int .u8 fm.part], .int .i64 i]) Try.func83 rfl rfl rfl ?_
 have hst := St.init w
 obtain ⟨hop, hmost, hfx, hrs, _, _, hf0, hr0⟩ := hf
 refine SR <| CN <| Op1.box (v := .agg #[.int .u16 _, str _, .bool _, .bool _, str _, str _, .int .i64 _, .int .u8 _]) hst rfl rfl fun w b2 hst => AC rfl <| NSR <| MI rfl <| CN <| Op1.fieldAddr fld128_0 rfl <| CN <| Op1.fieldAddr fld74_4 rfl <| CN <| Op1.load1 (v := str _) ty9 rfl rfl (hst.cellL (.head _) rfl) <| CN <| Op1.lenS (rest := []) ty9 rfl <| CN <| Op1.subN rfl rfl rfl (wrap_i64 (by omega) (by omega)) <| AI rfl <| NL ?_
 refine SQ <| SR <| MI rfl <| CN <| Op1.lss rfl rfl <| MB rfl <| RunL.splitD (d := 13) rfl (fun g1 => ?_) (fun g1 => ?_)
 · skip
   refine OM (t := 13) rfl (congrArg Value.bool (decide_eq_true g1)) rfl <| OM (t := 13) rfl (congrArg Value.bool (decide_eq_true g1)) rfl <| OM (t := 13) rfl (congrArg Value.bool (decide_eq_true g1)) rfl <| OM (t := 13) rfl (congrArg Value.bool (decide_eq_true g1)) rfl <| CN <| Op1.pickT (u := .bool _) (congrArg Value.bool (decide_eq_true g1)) rfl <| MB rfl <| OM (t := 19) rfl (congrArg Value.bool (rfl : true = _)) rfl <| OM (t := 19) rfl (congrArg Value.bool (rfl : true = _)) rfl <| OM (t := 19) rfl (congrArg Value.bool (rfl : true = _)) rfl <| OM (t := 19) rfl (congrArg Value.bool (rfl : true = _)) rfl <| OM (t := 19) rfl (congrArg Value.bool (rfl : true = _)) rfl <| RunL.omitU (t := 24) rfl rfl <| RunL.omitU (t := 24) rfl rfl <| RunL.omitU (t := 24) rfl rfl <| RunL.omitU (t := 24) rfl rfl ?_
   refine RunL.omitU (t := 24) rfl rfl <| RunL.omitU (t := 24) rfl rfl <| RunL.omitU (t := 24) rfl rfl <| RunL.omitU (t := 24) rfl rfl <| RunL.omitU (t := 24) rfl rfl <| RunL.omitU (t := 24) rfl rfl <| OM (t := 19) rfl (congrArg Value.bool (rfl : true = _)) rfl <| CN <| Op1.pickT (u := .bool _) (congrArg Value.bool (rfl : true = _)) rfl <| NL <| run_cond_true (congrArg Value.bool (rfl : true = _)) <| SR <| AC rfl <| NL <| run_ret1 Try.func83 rfl (TP (v := .int .u8 _) rfl) ?_
   refine ⟨congrArg (Value.int .u8) (Eq.symm ?_), hst.pure⟩
   unfold restS
   first | exact if_pos (by first | omega | (simp_all <;> omega)) | exact if_neg (by first | omega | (simp_all <;> omega))
 refine TK (t := 13) rfl (congrArg Value.bool (decide_eq_false g1)) <| Op1.fieldAddr fld128_0 rfl <| TK (t := 13) rfl (congrArg Value.bool (decide_eq_false g1)) <| Op1.fieldAddr fld74_5 rfl <| TK (t := 13) rfl (congrArg Value.bool (decide_eq_false g1)) <| Op1.load1 (v := str _) ty9 rfl rfl (hst.cellL (.head _) rfl) <| TK (t := 13) rfl (congrArg Value.bool (decide_eq_false g1)) <| Op1.eqlS rfl rfl <| CN <| Op1.pickF (u := .bool _) (congrArg Value.bool (decide_eq_false g1)) rfl <| MB rfl <| RunL.splitD (d := 19) rfl (fun g2 => ?_) (fun g2 => ?_)
 · skip
   refine OM (t := 19) rfl (congrArg Value.bool (decide_eq_true g2)) rfl <| OM (t := 19) rfl (congrArg Value.bool (decide_eq_true g2)) rfl <| OM (t := 19) rfl (congrArg Value.bool (decide_eq_true g2)) rfl <| OM (t := 19) rfl (congrArg Value.bool (decide_eq_true g2)) rfl <| OM (t := 19) rfl (congrArg Value.bool (decide_eq_true g2)) rfl <| RunL.omitU (t := 24) rfl rfl <| RunL.omitU (t := 24) rfl rfl <| RunL.omitU (t := 24) rfl rfl <| RunL.omitU (t := 24) rfl rfl <| RunL.omitU (t := 24) rfl rfl <| RunL.omitU (t := 24) rfl rfl <| RunL.omitU (t := 24) rfl rfl <| RunL.omitU (t := 24) rfl rfl <| RunL.omitU (t := 24) rfl rfl <| RunL.omitU (t := 24) rfl rfl ?_
   refine OM (t := 19) rfl (congrArg Value.bool (decide_eq_true g2)) rfl <| CN <| Op1.pickT (u := .bool _) (congrArg Value.bool (decide_eq_true g2)) rfl <| NL <| Run.forget [(1, .int .i64 _), (2, .pointer (some ⟨_, _, none⟩)), (36, .bool _)] ⟨rfl, rfl, rfl, trivial⟩ fun f => run_cond_true (congrArg Value.bool (rfl : true = _)) <| SR <| AC rfl <| NL <| run_ret1 Try.func83 rfl (TP (v := .int .u8 _) rfl) <| ⟨congrArg (Value.int .u8) (Eq.symm ?_), hst.pure⟩
   unfold restS
   first | exact if_pos (by first | omega | (simp_all <;> omega)) | exact if_neg (by first | omega | (simp_all <;> omega))
 refine TK (t := 19) rfl (congrArg Value.bool (decide_eq_false g2)) <| Op1.fieldAddr fld128_0 rfl <| TK (t := 19) rfl (congrArg Value.bool (decide_eq_false g2)) <| Op1.fieldAddr fld74_6 rfl <| TK (t := 19) rfl (congrArg Value.bool (decide_eq_false g2)) <| Op1.load1 (v := .int .i64 _) ty3 rfl rfl (hst.cellL (.head _) rfl) <| TK (t := 19) rfl (congrArg Value.bool (decide_eq_false g2)) <| Op1.gtr rfl rfl <| TK (t := 19) rfl (congrArg Value.bool (decide_eq_false g2)) <| Op1.move (v := .bool _) rfl <| RunL.splitD (d := 24) rfl (fun g3 => ?_) (fun g3 => ?_)
 · skip
   refine TK (t := 24) rfl (congrArg Value.bool (decide_eq_true g3)) <| Op1.move (v := .int .i64 _) rfl <| TK (t := 24) rfl (congrArg Value.bool (decide_eq_true g3)) <| Op1.fieldAddr fld128_0 rfl <| TK (t := 24) rfl (congrArg Value.bool (decide_eq_true g3)) <| Op1.fieldAddr fld74_6 rfl <| TK (t := 24) rfl (congrArg Value.bool (decide_eq_true g3)) <| Op1.load1 (v := .int .i64 _) ty3 rfl rfl (hst.cellL (.head _) rfl) <| TK (t := 24) rfl (congrArg Value.bool (decide_eq_true g3)) <| Op1.fieldAddr fld128_0 rfl <| TK (t := 24) rfl (congrArg Value.bool (decide_eq_true g3)) <| Op1.fieldAddr fld74_5 rfl <| TK (t := 24) rfl (congrArg Value.bool (decide_eq_true g3)) <| Op1.load1 (v := str _) ty9 rfl rfl (hst.cellL (.head _) rfl) <| TK (t := 24) rfl (congrArg Value.bool (decide_eq_true g3)) (Op1.lenS (rest := []) ty9 rfl ?_)
   first | refine TK (t := 24) rfl (congrArg Value.bool (decide_eq_true g3)) (Op1.mulN rfl rfl rfl (wrap_i64 (by omega) (by omega)) ?_) | refine TK (t := 24) rfl (congrArg Value.bool (decide_eq_true g3)) (Op1.mulB rfl rfl (by omega) (by omega) (by omega) (by omega) (fun hm4 hm5 => ?_))
   refine TK (t := 24) rfl (congrArg Value.bool (decide_eq_true g3)) <| Op1.geq rfl rfl <| TK (t := 19) rfl (congrArg Value.bool (decide_eq_false g2)) <| Op1.pickT (u := .bool _) (congrArg Value.bool (decide_eq_true g3)) rfl <| CN <| Op1.pickF (u := .bool _) (congrArg Value.bool (decide_eq_false g2)) rfl <| NL <| Run.forget [(1, .int .i64 _), (2, .pointer (some ⟨_, _, none⟩)), (36, .bool _)] ⟨rfl, rfl, rfl, trivial⟩ fun f => run_cond_dec rfl (fun g6 => ?_) (fun g6 => ?_)
   · skip
     refine SR <| AC rfl <| NL <| run_ret1 Try.func83 rfl (TP (v := .int .u8 _) rfl) <| ⟨congrArg (Value.int .u8) (Eq.symm ?_), hst.pure⟩
     unfold restS
     first | exact if_pos (by first | omega | (simp_all <;> omega)) | exact if_neg (by first | omega | (simp_all <;> omega))
   have hrp : 0 < fm.rest.length := List.length_pos_iff.2 g2
   have hmd := Int.emod_lt_of_pos (i - (fm.fixed.length : Int)) (show (0 : Int) < fm.rest.length by omega)
   have hmn := Int.emod_nonneg (i - (fm.fixed.length : Int)) (show (fm.rest.length : Int) ≠ 0 by omega)
   refine run_skip <| SQ <| RunD.start [] hst (bs := [0, 1, 3, 0, 0, 16, 48, 112, 248, 511, 1023]) (ds := [some 37, some 38, some 39, some 40, some 41, some 42, some 43, some 44, some 45, some 46, some 4]) ⟨by kernel_rfl, by kernel_rfl, by kernel_rfl⟩ (fun tab7 => ?_)
   refine RunD.op (det _) tab7 1 (fun f' L' w' hc => Op1.fieldAddr fld128_0 (hc.old (v := .pointer (some ⟨_, _, none⟩)) rfl rfl rfl) ⟨[], ⟨rfl, rfl⟩, hc.st⟩) <| RunD.op (det _) tab7 2 (fun f' L' w' hc => Op1.fieldAddr fld74_5 (hc.det (j := 0) rfl rfl rfl rfl) ⟨[], ⟨rfl, rfl⟩, hc.st⟩) <| RunD.op (det _) tab7 3 (fun f' L' w' hc => Op1.load1 (v := str _) ty9 rfl (hc.det (j := 1) rfl rfl rfl rfl) (hc.st.cellL (List.mem_append_right _ (.head _)) rfl) ⟨[], ⟨rfl, rfl⟩, hc.st⟩) <| RunD.op (det _) tab7 4 (fun f' L' w' hc => Op1.move (v := .int .i64 _) (hc.old (v := .int .i64 _) rfl rfl rfl) ⟨[], ⟨rfl, rfl⟩, hc.st⟩) <| RunD.op (det _) tab7 5 (fun f' L' w' hc => Op1.fieldAddr fld128_0 (hc.old (v := .pointer (some ⟨_, _, none⟩)) rfl rfl rfl) ⟨[], ⟨rfl, rfl⟩, hc.st⟩) <| RunD.op (det _) tab7 6 (fun f' L' w' hc => Op1.fieldAddr fld74_5 (hc.det (j := 4) rfl rfl rfl rfl) ⟨[], ⟨rfl, rfl⟩, hc.st⟩) <| RunD.op (det _) tab7 7 (fun f' L' w' hc => Op1.load1 (v := str _) ty9 rfl (hc.det (j := 5) rfl rfl rfl rfl) (hc.st.cellL (List.mem_append_right _ (.head _)) rfl) ⟨[], ⟨rfl, rfl⟩, hc.st⟩) <| RunD.op (det _) tab7 8 (fun f' L' w' hc => Op1.lenS (rest := []) ty9 (hc.det (j := 6) rfl rfl rfl rfl) ⟨[], ⟨rfl, rfl⟩, hc.st⟩) ?_
   first | refine RunD.op (det _) tab7 9 (fun f' L' w' hc => Op1.remN (hc.det (j := 3) rfl rfl rfl rfl) (hc.det (j := 7) rfl rfl rfl rfl) (by omega) (by omega) rfl ⟨[], ⟨rfl, rfl⟩, hc.st⟩) ?_ | refine RunD.op (det _) tab7 9 (fun f' L' w' hc => Op1.rem (hc.det (j := 3) rfl rfl rfl rfl) (hc.det (j := 7) rfl rfl rfl rfl) (by omega) ⟨[], ⟨rfl, rfl⟩, hc.st⟩) ?_
   refine RunD.fin followsMixed tab7 hst rfl (fun f8 w R11 hs9 hd10 hr12 hst => ?_)
   obtain ⟨h37_, r0⟩ := hd10 0 37 rfl rfl
   obtain ⟨h38_, r1⟩ := hd10 1 38 rfl rfl
   obtain ⟨h39_, r2⟩ := hd10 2 39 rfl rfl
   obtain ⟨h40_, r3⟩ := hd10 3 40 rfl rfl
   obtain ⟨h41_, r4⟩ := hd10 4 41 rfl rfl
   obtain ⟨h42_, r5⟩ := hd10 5 42 rfl rfl
   obtain ⟨h43_, r6⟩ := hd10 6 43 rfl rfl
   obtain ⟨h44_, r7⟩ := hd10 7 44 rfl rfl
   obtain ⟨h45_, r8⟩ := hd10 8 45 rfl rfl
   simp only [show List.range 9 = [0, 1, 2, 3, 4, 5, 6, 7, 8] from rfl, List.flatMap_cons, List.flatMap_nil, List.map_cons, List.map_nil, r0, r1, r2, r3, r4, r5, r6, r7, r8, List.nil_append, List.append_nil, List.cons_append] at hst
   refine RunL.slots (sl := [(39, str _), (45, .int .i64 _)]) ⟨h39_, h45_, trivial⟩ ?_
   clear hs9 hd10 hr12 tab7
   refine CN <| Op1.indexS ty9 rfl rfl (by omega) (by omega) <| AC rfl <| NL <| run_ret1 Try.func83 rfl (TP (v := .int .u8 _) rfl) <| ⟨congrArg (Value.int .u8) (Eq.symm ?_), hst.pure⟩
   unfold restS
   first | exact if_pos (by first | omega | (simp_all <;> omega)) | exact if_neg (by first | omega | (simp_all <;> omega))
 refine OM (t := 24) rfl (congrArg Value.bool (decide_eq_false g3)) rfl <| OM (t := 24) rfl (congrArg Value.bool (decide_eq_false g3)) rfl <| OM (t := 24) rfl (congrArg Value.bool (decide_eq_false g3)) rfl <| OM (t := 24) rfl (congrArg Value.bool (decide_eq_false g3)) rfl <| OM (t := 24) rfl (congrArg Value.bool (decide_eq_false g3)) rfl <| OM (t := 24) rfl (congrArg Value.bool (decide_eq_false g3)) rfl <| OM (t := 24) rfl (congrArg Value.bool (decide_eq_false g3)) rfl <| OM (t := 24) rfl (congrArg Value.bool (decide_eq_false g3)) rfl <| OM (t := 24) rfl (congrArg Value.bool (decide_eq_false g3)) rfl <| OM (t := 24) rfl (congrArg Value.bool (decide_eq_false g3)) rfl <| TK (t := 19) rfl (congrArg Value.bool (decide_eq_false g2)) <| Op1.pickF (u := .bool _) (congrArg Value.bool (decide_eq_false g3)) rfl <| CN <| Op1.pickF (u := .bool _) (congrArg Value.bool (decide_eq_false g2)) rfl <| NL <| Run.forget [(1, .int .i64 _), (2, .pointer (some ⟨_, _, none⟩)), (36, .bool _)] ⟨rfl, rfl, rfl, trivial⟩ (fun f => ?_)
 have hrp : 0 < fm.rest.length := List.length_pos_iff.2 g2
 have hmd := Int.emod_lt_of_pos (i - (fm.fixed.length : Int)) (show (0 : Int) < fm.rest.length by omega)
 have hmn := Int.emod_nonneg (i - (fm.fixed.length : Int)) (show (fm.rest.length : Int) ≠ 0 by omega)
 refine run_cond_false (congrArg Value.bool (rfl : false = _)) <| run_skip <| SQ <| RunD.start [] hst (bs := [0, 1, 3, 0, 0, 16, 48, 112, 248, 511, 1023]) (ds := [some 37, some 38, some 39, some 40, some 41, some 42, some 43, some 44, some 45, some 46, some 4]) ⟨by kernel_rfl, by kernel_rfl, by kernel_rfl⟩ (fun tab13 => ?_)
 refine RunD.op (det _) tab13 1 (fun f' L' w' hc => Op1.fieldAddr fld128_0 (hc.old (v := .pointer (some ⟨_, _, none⟩)) rfl rfl rfl) ⟨[], ⟨rfl, rfl⟩, hc.st⟩) <| RunD.op (det _) tab13 2 (fun f' L' w' hc => Op1.fieldAddr fld74_5 (hc.det (j := 0) rfl rfl rfl rfl) ⟨[], ⟨rfl, rfl⟩, hc.st⟩) <| RunD.op (det _) tab13 3 (fun f' L' w' hc => Op1.load1 (v := str _) ty9 rfl (hc.det (j := 1) rfl rfl rfl rfl) (hc.st.cellL (List.mem_append_right _ (.head _)) rfl) ⟨[], ⟨rfl, rfl⟩, hc.st⟩) <| RunD.op (det _) tab13 4 (fun f' L' w' hc => Op1.move (v := .int .i64 _) (hc.old (v := .int .i64 _) rfl rfl rfl) ⟨[], ⟨rfl, rfl⟩, hc.st⟩) <| RunD.op (det _) tab13 5 (fun f' L' w' hc => Op1.fieldAddr fld128_0 (hc.old (v := .pointer (some ⟨_, _, none⟩)) rfl rfl rfl) ⟨[], ⟨rfl, rfl⟩, hc.st⟩) <| RunD.op (det _) tab13 6 (fun f' L' w' hc => Op1.fieldAddr fld74_5 (hc.det (j := 4) rfl rfl rfl rfl) ⟨[], ⟨rfl, rfl⟩, hc.st⟩) <| RunD.op (det _) tab13 7 (fun f' L' w' hc => Op1.load1 (v := str _) ty9 rfl (hc.det (j := 5) rfl rfl rfl rfl) (hc.st.cellL (List.mem_append_right _ (.head _)) rfl) ⟨[], ⟨rfl, rfl⟩, hc.st⟩) <| RunD.op (det _) tab13 8 (fun f' L' w' hc => Op1.lenS (rest := []) ty9 (hc.det (j := 6) rfl rfl rfl rfl) ⟨[], ⟨rfl, rfl⟩, hc.st⟩) ?_
 first | refine RunD.op (det _) tab13 9 (fun f' L' w' hc => Op1.remN (hc.det (j := 3) rfl rfl rfl rfl) (hc.det (j := 7) rfl rfl rfl rfl) (by omega) (by omega) rfl ⟨[], ⟨rfl, rfl⟩, hc.st⟩) ?_ | refine RunD.op (det _) tab13 9 (fun f' L' w' hc => Op1.rem (hc.det (j := 3) rfl rfl rfl rfl) (hc.det (j := 7) rfl rfl rfl rfl) (by omega) ⟨[], ⟨rfl, rfl⟩, hc.st⟩) ?_
 refine RunD.fin followsMixed tab13 hst rfl (fun f14 w R17 hs15 hd16 hr18 hst => ?_)
 obtain ⟨h37_, r0⟩ := hd16 0 37 rfl rfl
 obtain ⟨h38_, r1⟩ := hd16 1 38 rfl rfl
 obtain ⟨h39_, r2⟩ := hd16 2 39 rfl rfl
 obtain ⟨h40_, r3⟩ := hd16 3 40 rfl rfl
 obtain ⟨h41_, r4⟩ := hd16 4 41 rfl rfl
 obtain ⟨h42_, r5⟩ := hd16 5 42 rfl rfl
 obtain ⟨h43_, r6⟩ := hd16 6 43 rfl rfl
 obtain ⟨h44_, r7⟩ := hd16 7 44 rfl rfl
 obtain ⟨h45_, r8⟩ := hd16 8 45 rfl rfl
 simp only [show List.range 9 = [0, 1, 2, 3, 4, 5, 6, 7, 8] from rfl, List.flatMap_cons, List.flatMap_nil, List.map_cons, List.map_nil, r0, r1, r2, r3, r4, r5, r6, r7, r8, List.nil_append, List.append_nil, List.cons_append] at hst
 refine RunL.slots (sl := [(39, str _), (45, .int .i64 _)]) ⟨h39_, h45_, trivial⟩ ?_
 clear hs15 hd16 hr18 tab13
 refine CN <| Op1.indexS ty9 rfl rfl (by omega) (by omega) <| AC rfl <| NL <| run_ret1 Try.func83 rfl (TP (v := .int .u8 _) rfl) <| ⟨congrArg (Value.int .u8) (Eq.symm ?_), hst.pure⟩
 unfold restS
 first | exact if_pos (by first | omega | (simp_all <;> omega)) | exact if_neg (by first | omega | (simp_all <;> omega))
theorem R5gr_letter (fm : FormL) (hf : FOk fm) (i : Int) (h1 : i ≤ 9223372036854775807) (w : World) : Ret Try.prog 76 #[.agg #[.int .u16 fm.op, str fm.name, .bool fm.ty, .bool fm.res, str fm.fixed, str fm.rest, .int .i64 fm.most, .int .u8 fm.part], .int .i64 i] w (fun v w' => v = .int .u8 (letterS fm i) ∧ St w NoM [] [] w') := by
 refine Ret.enter (args := [.agg #[.int .u16 fm.op, str fm.name, .bool fm.ty, .bool fm.res, str fm.fixed, str fm.rest, .int .i64 fm.most, .int .u8 fm.part], .int .i64 i]) Try.func76 rfl rfl rfl ?_
 have hst := St.init w
 refine SR <| CN <| Op1.box (v := .agg #[.int .u16 _, str _, .bool _, .bool _, str _, str _, .int .i64 _, .int .u8 _]) hst rfl rfl fun w b2 hst => AC rfl <| NL <| SQ <| SR <| MI rfl <| CN <| Op1.lss rfl rfl <| NL <| run_cond_dec rfl (fun g1 => ?_) (fun g1 => ?_)
 · skip
   refine SR <| AC rfl <| NL <| run_ret1 Try.func76 rfl (TP (v := .int .u8 _) rfl) <| ⟨congrArg (Value.int .u8) (Eq.symm ?_), hst.pure⟩
   unfold letterS
   exact if_pos (by omega)
 refine run_skip <| SQ <| SR <| CN <| Op1.loadA (vs := [.int .u16 _, str _, .bool _, .bool _, str _, str _, .int .i64 _, .int .u8 _]) ty128 rfl rfl rfl (cells_of_obj (n := 8) (hst.objL (.head _)) _ rfl) <| CN <| Op1.makeFunc <| CN <| Op1.loadA (vs := [.int .u16 _, str _, .bool _, .bool _, str _, str _, .int .i64 _, .int .u8 _]) ty128 rfl rfl rfl (cells_of_obj (n := 8) (hst.objL (.head _)) _ rfl) <| CN <| Op1.makeFunc <| CN (Op1.buildSl (z0 := [.nilFunc, .nilFunc]) hst ty134 ty129 rfl rfl (by kernel_rfl) (.c (v := .func _ _ _) rfl (h := (.c (v := .func _ _ _) rfl (h := .nil)))) fun w b14 hst => ?_)
 refine CN <| Op1.lenSl (rest := []) ty134 rfl <| MI rfl <| NL <| run_block <| run_loop <| SR <| CN <| Op1.lss rfl rfl <| NL <| SQ <| run_cond_true (congrArg Value.bool (decide_eq_true (by decide))) <| run_skip <| SQ <| run_block <| SQ ?_
 refine RG <| CN <| Op1.indexSl ty134 ty129 rfl rfl (by omega) (by omega) <| CN <| Op1.load1 (v := .func _ _ _) ty129 rfl rfl (hst.cellL (.head _) rfl) <| CN <| Op1.assign (v := .func _ _ _) rfl <| NSR <| CN <| Op1.move (v := .func _ _ _) rfl <| MI rfl <| CN (Op1.callV1 (v1 := .int .i64 _) rfl rfl (CallV.funcF ent82 ((R5gr_fixed fm hf i (by omega) h1 _).mono fun v w hp => ?_)))
 obtain ⟨rfl, hp⟩ := hp
 replace hst := hst.keepc hp
 clear hp
 refine AC rfl <| NL <| Run.forget [(1, .int .i64 _), (7, .int .u8 _), (14, .slice _ _ _), (15, .int .i64 _), (16, .int .i64 _)] ⟨rfl, rfl, rfl, rfl, rfl, trivial⟩ fun f => SR <| MC rfl <| CN <| Op1.neq rfl rfl <| NL <| run_cond_dec rfl (fun g2 => ?_) (fun g2 => ?_)
 · skip
   refine SR <| MC rfl <| AC rfl <| NL <| run_ret1 Try.func76 rfl (TP (v := .int .u8 _) rfl) ?_
   exact ⟨congrArg (Value.int .u8) (letter_fix hf (by omega) g2).symm, hst.pure⟩
 refine run_skip <| run_inBlock <| RG <| CN <| Op1.addN rfl rfl rfl (wrap_i64 (by omega) (by omega)) <| MI rfl <| NL <| run_inLoop <| SR <| CN <| Op1.lss rfl rfl <| NL <| SQ <| run_cond_true (congrArg Value.bool (decide_eq_true (by decide))) <| run_skip <| SQ ?_
 refine run_block <| SR <| CN <| Op1.indexSl ty134 ty129 rfl rfl (by omega) (by omega) <| CN <| Op1.load1 (v := .func _ _ _) ty129 rfl rfl (hst.cellL (.head _) rfl) <| CN <| Op1.assign (v := .func _ _ _) rfl <| NSR <| CN <| Op1.move (v := .func _ _ _) rfl <| MI rfl <| CN (Op1.callV1 (v1 := .int .i64 _) rfl rfl (CallV.funcF ent83 ((R5gr_rest fm hf i (by omega) h1 _).mono fun v w hp => ?_)))
 obtain ⟨rfl, hp⟩ := hp
 replace hst := hst.keepc hp
 clear hp
 refine AC rfl <| NSR <| MC rfl <| CN <| Op1.neq rfl rfl <| NL <| run_cond_dec rfl (fun g3 => ?_) (fun g3 => ?_)
 · skip
   refine SR <| MC rfl <| AC rfl <| NL <| run_ret1 Try.func76 rfl (TP (v := .int .u8 _) rfl) ?_
   rw [letter_rest hf (by omega) (Classical.not_not.1 g2)]
   exact ⟨rfl, hst.pure⟩
 refine run_skip <| run_inBlock <| RG <| CN <| Op1.addN rfl rfl rfl (wrap_i64 (by omega) (by omega)) <| MI rfl <| NL <| run_inLoop <| SR <| CN <| Op1.lss rfl rfl <| NL <| SQ <| run_cond_false (congrArg Value.bool (decide_eq_false (by decide))) <| run_exit (id := 0) rfl <| SQ ?_
 refine RG <| AC rfl <| NL <| run_ret1 Try.func76 rfl (TP (v := .int .u8 _) rfl) ?_
 rw [letter_rest hf (by omega) (Classical.not_not.1 g2)]
 exact ⟨congrArg (Value.int .u8) (Classical.not_not.1 g3).symm, hst.pure⟩
theorem R5gr_Letter (op : Int) (h0 : 0 ≤ op) (i : Int) (h1 : i ≤ 9223372036854775807) (w : World) : Ret Try.prog 68 #[.int .u16 op, .int .i64 i] w (fun v w' => v = .int .u8 (letterS (refD op) i) ∧ St w NoM [] [] w') := by
 refine Ret.enter (args := [.int .u16 op, .int .i64 i]) Try.func68 rfl rfl rfl ?_
 have hst := St.init w
 refine SR <| AC rfl <| NSR <| MH rfl <| CN <| Op1.call1 (v1 := .int .u16 _) ent58 rfl rfl <| Ret.det (R5gr_Of _ (by omega) _) hst fun w hst => CN <| Op1.move (v := .tuple #[.agg #[.int .u16 _, str _, .bool _, .bool _, str _, str _, .int .i64 _, .int .u8 _], .bool _]) rfl <| CN <| Op1.extract (v := .agg #[.int .u16 _, str _, .bool _, .bool _, str _, str _, .int .i64 _, .int .u8 _]) rfl rfl <| CN <| Op1.extract (v := .bool _) rfl rfl <| CN <| Op1.alloc hst ty74 fun w b5 hst => CN (SO (v := .agg #[.int .u16 _, str _, .bool _, .bool _, str _, str _, .int .i64 _, .int .u8 _]) hst ty74 rfl rfl (.here) fun w hst => ?_)
 refine AB rfl <| NSR <| CN <| Op1.loadA (vs := [.int .u16 _, str _, .bool _, .bool _, str _, str _, .int .i64 _, .int .u8 _]) ty74 rfl rfl rfl (cells_of_obj (n := 8) (hst.objL (.head _)) _ rfl) <| CN (Op1.buildStruct ty128 stf128 (.c (v := .agg #[.int .u16 _, str _, .bool _, .bool _, str _, str _, .int .i64 _, .int .u8 _]) rfl (h := .nil)) ?_)
 refine MI rfl <| CN <| Op1.call2 (v1 := .agg #[.int .u16 _, str _, .bool _, .bool _, str _, str _, .int .i64 _, .int .u8 _]) (v2 := .int .i64 _) ent76 rfl rfl rfl <| Ret.det (R5gr_letter (refD op) (refD_fok op) i h1 _) hst fun w hst => AC rfl <| NL <| run_ret1 Try.func68 rfl (TP (v := .int .u8 _) rfl) ?_
 exact ⟨rfl, hst.pure⟩
end Go.SK
namespace Go.SK
open Go Go.Proofs
open Go.RowKit
theorem R5gr_Of2 {op : Int} {fm : FormL} {ob : Bool} (h0 : 0 ≤ op) (hfm : refD op = fm) (hob : (refS op).isSome = ob) (w : World) : Ret Try.prog 58 #[.int .u16 op] w fun v w' => v = .tuple #[.agg (formC fm).toArray, .bool ob] ∧ St w NoM [] [] w' := by
 subst hfm; subst hob; exact R5gr_Of op h0 w
theorem R5gr_Enum2 {c n : Int} {o : Option NameL} (h : namesL.find? (enN c n) = o) (h0 : 0 ≤ c) (h1 : c ≤ 255) (w : World) : Ret Try.prog 81 #[.int .u8 c, .int .u32 n] w fun v w' => v = nameV o ∧ St w NoM [] [] w' := by
 subst h; exact R5gr_Enum c n h0 h1 w
end Go.SK
namespace Go.SK
open Go Go.Proofs
theorem ty124 : TyF Try.prog 124 (.slice 5) 1 24 [.slice none 0 0] := TyF.of (by kernel_rfl) (by kernel_rfl)
theorem ent69 : Enters Try.prog 69 := ⟨Try.f69, _, Try.func69, by kernel_rfl, rfl⟩
end Go.SK
namespace Go.SK
open Go Go.Proofs
open Go.RowKit
theorem R5gr_Fits (op : Int) (h0 : 0 ≤ op) (ks : List Int) (ao : Option Addr) (cp : Nat) (w : World) (hA : (Res.rs ao ks.length 1 (ks.flatMap u8C)).holds w) (hlen : ks.length ≤ 9000000000000000000) : Ret Try.prog 72 #[.int .u16 op, .slice ao ks.length cp] w (fun v w' => v = fitsV (fitsS op ks) ∧ St w NoM [] [] w') := by
 refine Ret.enter (args := [.int .u16 op, .slice ao ks.length cp]) Try.func72 rfl rfl rfl ?_
 have hst : St w NoM [] [Res.rs ao ks.length 1 (ks.flatMap u8C)] w := St.init_D hA
 clear hA
 obtain ⟨fm, hfm⟩ : ∃ x, refD op = x := ⟨_, rfl⟩
 obtain ⟨ob, hob⟩ : ∃ x, (refS op).isSome = x := ⟨_, rfl⟩
 have hf := refD_fok op
 rw [hfm] at hf
 have hz : ob = false → fm = zeroF := fun e => by subst e; rw [← hfm]; exact refD_none hob
 obtain ⟨hop, hmost, hfx, hrs, _, _, _, _⟩ := hf
 refine SR <| AI rfl <| AB rfl <| NSR <| MH rfl <| CN <| Op1.call1 (v1 := .int .u16 _) ent58 rfl rfl <| Ret.det (R5gr_Of2 (by omega) hfm hob _) hst fun w hst => CN <| Op1.move (v := .tuple #[.agg #[.int .u16 _, str _, .bool _, .bool _, str _, str _, .int .i64 _, .int .u8 _], .bool _]) rfl <| CN <| Op1.extract (v := .agg #[.int .u16 _, str _, .bool _, .bool _, str _, str _, .int .i64 _, .int .u8 _]) rfl rfl <| CN <| Op1.extract (v := .bool _) rfl rfl <| CN <| Op1.alloc hst ty74 fun w b6 hst => CN (SO (v := .agg #[.int .u16 _, str _, .bool _, .bool _, str _, str _, .int .i64 _, .int .u8 _]) hst ty74 rfl rfl (.here) fun w hst => ?_)
 refine AB rfl <| NL <| SQ <| SR <| MB rfl <| CN <| Op1.not rfl <| NL <| run_cond_split rfl (fun g1 => ?_) (fun g1 => ?_)
 · skip
   refine SR <| AI rfl <| AB rfl <| NL <| run_ret2 Try.func72 rfl (TP (v := .int .i64 _) rfl) (TP (v := .bool _) rfl) ?_
   exact ⟨(congrArg fitsV (fits_no hob (by simpa using g1))).symm, hst.pure⟩
 refine run_skip <| SR <| CN <| Op1.loadA (vs := [.int .u16 _, str _, .bool _, .bool _, str _, str _, .int .i64 _, .int .u8 _]) ty74 rfl rfl rfl (cells_of_obj (n := 8) (hst.objL (.head _)) _ rfl) <| CN (Op1.buildStruct ty128 stf128 (.c (v := .agg #[.int .u16 _, str _, .bool _, .bool _, str _, str _, .int .i64 _, .int .u8 _]) rfl (h := .nil)) ?_)
 refine CN <| Op1.alloc hst ty128 fun w b8 hst => CN (SO (v := .agg #[.int .u16 _, str _, .bool _, .bool _, str _, str _, .int .i64 _, .int .u8 _]) hst ty128 rfl rfl (.here) fun w hst => ?_)
 refine NL <| SQ <| SR <| ML rfl <| CN <| Op1.lenSl (rest := []) ty124 rfl <| MI rfl <| NL <| run_block <| run_loop <| Run.indW [(1, .slice _ _ _), (8, .pointer (some ⟨_, _, none⟩)), (21, .slice _ _ _), (22, .int .i64 _)] ⟨rfl, rfl, rfl, rfl, trivial⟩ (fun (i : Nat) => [(23, .int .i64 (i : Int))]) (fun (i : Nat) => []) (fun (i : Nat) => i ≤ ks.length ∧ badI fm i (ks.drop i) = badI fm 0 ks) (fun (i : Nat) => ks.length - i) (0) hst ⟨Nat.zero_le _, rfl⟩ ⟨rfl, trivial⟩ ?_
 intro i f w hst hJ ih2
 refine SR <| CN <| Op1.lss rfl rfl <| NL <| SQ <| run_cond_dec rfl (fun g3 => ?_) (fun g3 => ?_)
 · skip
   refine run_skip <| SQ <| run_block <| SR <| MI rfl ?_
   obtain ⟨bs4, os5, rfl⟩ := Res.rs_some (hst.hD _ (.head _)) (by omega)
   refine CN <| Op1.indexSl ty124 ty5 rfl rfl (by omega) (by omega) <| CN <| Op1.load1 (v := .int .u8 _) ty5 rfl rfl (Res.rs_cell (hst.hD _ (.head _)) (flat_cell0 (g := u8C) (d := 0) u8C_len rfl (by omega))) <| AI rfl <| AC rfl <| NSR <| MC rfl <| CN <| Op1.eql rfl rfl <| MB rfl <| RunL.splitD (d := 30) rfl (fun g6 => ?_) (fun g6 => ?_)
   · skip
     refine OM (t := 30) rfl (congrArg Value.bool (decide_eq_true g6)) rfl <| OM (t := 30) rfl (congrArg Value.bool (decide_eq_true g6)) rfl <| OM (t := 30) rfl (congrArg Value.bool (decide_eq_true g6)) rfl <| OM (t := 30) rfl (congrArg Value.bool (decide_eq_true g6)) rfl <| OM (t := 30) rfl (congrArg Value.bool (decide_eq_true g6)) rfl <| OM (t := 30) rfl (congrArg Value.bool (decide_eq_true g6)) rfl <| CN <| Op1.pickT (u := .bool _) (congrArg Value.bool (decide_eq_true g6)) rfl <| NL <| run_cond_true (congrArg Value.bool (rfl : true = _)) <| SR <| MI rfl <| AI rfl <| AB rfl <| NL ?_
     refine run_ret2 Try.func72 rfl (TP (v := .int .i64 _) rfl) (TP (v := .bool _) rfl) ?_
     exact ⟨(congrArg fitsV ((fits_yes hob hfm (by simpa using g1)).trans (fitsF_bad (bad_hit hJ.2 (by omega) (.inl g6))))).symm, hst.pure⟩
   refine TK (t := 30) rfl (congrArg Value.bool (decide_eq_false g6)) <| Op1.loadA (vs := [.int .u16 _, str _, .bool _, .bool _, str _, str _, .int .i64 _, .int .u8 _]) ty128 rfl rfl rfl (cells_of_obj (n := 8) (hst.objL (.head _)) _ rfl) <| TK (t := 30) rfl (congrArg Value.bool (decide_eq_false g6)) <| Op1.move (v := .int .i64 _) rfl <| TK (t := 30) rfl (congrArg Value.bool (decide_eq_false g6)) (Op1.call2 (v1 := .agg #[.int .u16 _, str _, .bool _, .bool _, str _, str _, .int .i64 _, .int .u8 _]) (v2 := .int .i64 _) ent76 rfl rfl rfl ((R5gr_letter fm (by rw [← hfm]; exact refD_fok op) _ (by omega) _).mono fun v w hp => ?_))
   obtain ⟨rfl, hp⟩ := hp
   replace hst := hst.keepc hp
   clear hp
   refine TK (t := 30) rfl (congrArg Value.bool (decide_eq_false g6)) (Op1.call1 (v1 := .int .u8 _) ent69 rfl rfl ((R5gr_Kind _ _).mono fun v w hp => ?_))
   obtain ⟨rfl, hp⟩ := hp
   replace hst := hst.keepc hp
   clear hp
   refine TK (t := 30) rfl (congrArg Value.bool (decide_eq_false g6)) <| Op1.move (v := .int .u8 _) rfl <| TK (t := 30) rfl (congrArg Value.bool (decide_eq_false g6)) <| Op1.neq rfl rfl <| CN <| Op1.pickF (u := .bool _) (congrArg Value.bool (decide_eq_false g6)) rfl <| NL <| run_cond_dec rfl (fun g7 => ?_) (fun g7 => ?_)
   · skip
     refine SR <| MI rfl <| AI rfl <| AB rfl <| NL <| run_ret2 Try.func72 rfl (TP (v := .int .i64 _) rfl) (TP (v := .bool _) rfl) ?_
     exact ⟨(congrArg fitsV ((fits_yes hob hfm (by simpa using g1)).trans (fitsF_bad (bad_hit hJ.2 (by omega) (.inr g7))))).symm, hst.pure⟩
   refine run_skip <| run_inBlock <| RG <| CN <| Op1.addN rfl rfl rfl (wrap_i64 (by omega) (by omega)) <| MI rfl <| NL <| run_inLoop ?_
   exact ih2 (i + 1) _ w (by omega) hst (⟨by omega, bad_miss hJ.2 (by omega) (fun h => h.elim g6 g7)⟩) ⟨rfl, rfl, rfl, rfl, trivial⟩ ⟨(congrArg (Value.int .i64) (by omega)), trivial⟩
 refine run_exit (id := 0) rfl <| SR <| ML rfl <| CN <| Op1.lenSl (rest := []) ty124 rfl <| CN <| Op1.fieldAddr fld128_0 rfl <| CN <| Op1.fieldAddr fld74_4 rfl <| CN <| Op1.load1 (v := str _) ty9 rfl rfl (hst.cellL (.head _) rfl) <| CN <| Op1.lenS (rest := []) ty9 rfl <| CN <| Op1.subN rfl rfl rfl (wrap_i64 (by omega) (by omega)) <| AI rfl <| NL <| SQ <| SQ <| RG ?_
 refine MI rfl <| CN <| Op1.lss rfl rfl <| MB rfl <| RunL.splitD (d := 49) rfl (fun g8 => ?_) (fun g8 => ?_)
 · skip
   refine OM (t := 49) rfl (congrArg Value.bool (decide_eq_true g8)) rfl <| OM (t := 49) rfl (congrArg Value.bool (decide_eq_true g8)) rfl <| OM (t := 49) rfl (congrArg Value.bool (decide_eq_true g8)) rfl <| OM (t := 49) rfl (congrArg Value.bool (decide_eq_true g8)) rfl <| OM (t := 49) rfl (congrArg Value.bool (decide_eq_true g8)) rfl <| RunL.omitU (t := 54) rfl rfl <| RunL.omitU (t := 54) rfl rfl <| RunL.omitU (t := 54) rfl rfl <| RunL.omitU (t := 54) rfl rfl <| RunL.omitU (t := 54) rfl rfl <| RunL.omitU (t := 54) rfl rfl <| RunL.omitU (t := 54) rfl rfl <| OM (t := 49) rfl (congrArg Value.bool (decide_eq_true g8)) rfl <| CN <| Op1.pickT (u := .bool _) (congrArg Value.bool (decide_eq_true g8)) rfl <| NL ?_
   refine run_cond_true (congrArg Value.bool (rfl : true = _)) <| SR <| ML rfl <| CN <| Op1.lenSl (rest := []) ty124 rfl <| AI rfl <| AB rfl <| NL <| run_ret2 Try.func72 rfl (TP (v := .int .i64 _) rfl) (TP (v := .bool _) rfl) ?_
   exact ⟨(congrArg fitsV ((fits_yes hob hfm (by simpa using g1)).trans (fitsF_off (bad_end hJ.2 (by omega)) (by simp only [offR]; exact .inl (by omega))))).symm, hst.pure⟩
 refine TK (t := 49) rfl (congrArg Value.bool (decide_eq_false g8)) <| Op1.fieldAddr fld128_0 rfl <| TK (t := 49) rfl (congrArg Value.bool (decide_eq_false g8)) <| Op1.fieldAddr fld74_5 rfl <| TK (t := 49) rfl (congrArg Value.bool (decide_eq_false g8)) <| Op1.load1 (v := str _) ty9 rfl rfl (hst.cellL (.head _) rfl) <| TK (t := 49) rfl (congrArg Value.bool (decide_eq_false g8)) <| Op1.neqS rfl rfl <| TK (t := 49) rfl (congrArg Value.bool (decide_eq_false g8)) <| Op1.move (v := .bool _) rfl <| RunL.splitD (d := 54) rfl (fun g9 => ?_) (fun g9 => ?_)
 · skip
   have hrp : 0 < fm.rest.length := List.length_pos_iff.2 g9
   refine TK (t := 54) rfl (congrArg Value.bool (decide_eq_true g9)) <| Op1.move (v := .int .i64 _) rfl <| TK (t := 54) rfl (congrArg Value.bool (decide_eq_true g9)) <| Op1.fieldAddr fld128_0 rfl <| TK (t := 54) rfl (congrArg Value.bool (decide_eq_true g9)) <| Op1.fieldAddr fld74_5 rfl <| TK (t := 54) rfl (congrArg Value.bool (decide_eq_true g9)) <| Op1.load1 (v := str _) ty9 rfl rfl (hst.cellL (.head _) rfl) <| TK (t := 54) rfl (congrArg Value.bool (decide_eq_true g9)) (Op1.lenS (rest := []) ty9 rfl ?_)
   first | refine TK (t := 54) rfl (congrArg Value.bool (decide_eq_true g9)) (Op1.remN rfl rfl (by omega) (by omega) rfl ?_) | refine TK (t := 54) rfl (congrArg Value.bool (decide_eq_true g9)) (Op1.rem rfl rfl (by omega) ?_)
   refine TK (t := 54) rfl (congrArg Value.bool (decide_eq_true g9)) <| Op1.neq rfl rfl <| TK (t := 49) rfl (congrArg Value.bool (decide_eq_false g8)) <| Op1.pickT (u := .bool _) (congrArg Value.bool (decide_eq_true g9)) rfl <| CN <| Op1.pickF (u := .bool _) (congrArg Value.bool (decide_eq_false g8)) rfl <| NL <| Run.forget [(1, .slice _ _ _), (63, .bool _)] ⟨rfl, rfl, trivial⟩ fun f => run_cond_dec rfl (fun g10 => ?_) (fun g10 => ?_)
   · skip
     refine SR <| ML rfl <| CN <| Op1.lenSl (rest := []) ty124 rfl <| AI rfl <| AB rfl <| NL <| run_ret2 Try.func72 rfl (TP (v := .int .i64 _) rfl) (TP (v := .bool _) rfl) ?_
     exact ⟨(congrArg fitsV ((fits_yes hob hfm (by simpa using g1)).trans (fitsF_off (bad_end hJ.2 (by omega)) (by simp only [offR]; exact .inr ⟨g9, g10⟩)))).symm, hst.pure⟩
   refine run_skip <| SR <| AI rfl <| AB rfl <| NL <| run_ret2 Try.func72 rfl (TP (v := .int .i64 _) rfl) (TP (v := .bool _) rfl) ?_
   exact ⟨(congrArg fitsV ((fits_yes hob hfm (by simpa using g1)).trans (fitsF_on (bad_end hJ.2 (by omega)) (by simp only [offR]; exact fun h => h.elim (by omega) (fun h => g10 h.2))))).symm, hst.pure⟩
 refine OM (t := 54) rfl (congrArg Value.bool (decide_eq_false g9)) rfl <| OM (t := 54) rfl (congrArg Value.bool (decide_eq_false g9)) rfl <| OM (t := 54) rfl (congrArg Value.bool (decide_eq_false g9)) rfl <| OM (t := 54) rfl (congrArg Value.bool (decide_eq_false g9)) rfl <| OM (t := 54) rfl (congrArg Value.bool (decide_eq_false g9)) rfl <| OM (t := 54) rfl (congrArg Value.bool (decide_eq_false g9)) rfl <| OM (t := 54) rfl (congrArg Value.bool (decide_eq_false g9)) rfl <| TK (t := 49) rfl (congrArg Value.bool (decide_eq_false g8)) <| Op1.pickF (u := .bool _) (congrArg Value.bool (decide_eq_false g9)) rfl <| CN <| Op1.pickF (u := .bool _) (congrArg Value.bool (decide_eq_false g8)) rfl <| NL <| Run.forget [(1, .slice _ _ _), (63, .bool _)] ⟨rfl, rfl, trivial⟩ fun f => run_cond_false (congrArg Value.bool (rfl : false = _)) <| run_skip <| SQ <| RG ?_
 refine AI rfl <| AB rfl <| NL <| run_ret2 Try.func72 rfl (TP (v := .int .i64 _) rfl) (TP (v := .bool _) rfl) ?_
 exact ⟨(congrArg fitsV ((fits_yes hob hfm (by simpa using g1)).trans (fitsF_on (bad_end hJ.2 (by omega)) (by simp only [offR]; exact fun h => h.elim (by omega) (fun h => g9 h.1))))).symm, hst.pure⟩
end Go.SK
namespace Go.SK
open Go Go.Proofs
theorem fld39_0 : FldF Try.prog 39 0 0 := FldF.of (n := 0) (by kernel_rfl)
theorem ty33 : TyF Try.prog 33 (.int .u16) 1 2 [.int .u16 0] := TyF.of (by kernel_rfl) (by kernel_rfl)
theorem fld39_1 : FldF Try.prog 39 1 1 := FldF.of (n := 0) (by kernel_rfl)
theorem fld39_2 : FldF Try.prog 39 2 2 := FldF.of (n := 0) (by kernel_rfl)
theorem fld39_3 : FldF Try.prog 39 3 3 := FldF.of (n := 0) (by kernel_rfl)
theorem ty37 : TyF Try.prog 37 (.slice 35) 1 24 [.slice none 0 0] := TyF.of (by kernel_rfl) (by kernel_rfl)
theorem ty35 : TyF Try.prog 35 (.struct (fieldsOf Try.prog 35)) 3 24 [.int .u8 0, .int .u32 0, str []] := TyF.of (by kernel_rfl) (by kernel_rfl)
theorem fld25_1 : FldF Try.prog 25 1 1 := FldF.of (n := 0) (by kernel_rfl)
theorem fld25_2 : FldF Try.prog 25 2 2 := FldF.of (n := 0) (by kernel_rfl)
theorem ty23 : TyF Try.prog 23 (.slice 39) 1 24 [.slice none 0 0] := TyF.of (by kernel_rfl) (by kernel_rfl)
theorem ty39 : TyF Try.prog 39 (.struct (fieldsOf Try.prog 39)) 4 40 [.int .u16 0, .int .u32 0, .int .u32 0, .slice none 0 0] := TyF.of (by kernel_rfl) (by kernel_rfl)
end Go.SK
namespace Go.SK
open Go Go.Proofs
theorem ent81 : Enters Try.prog 81 := ⟨Try.f81, _, Try.func81, by kernel_rfl, rfl⟩
theorem fld35_0 : FldF Try.prog 35 0 0 := FldF.of (n := 0) (by kernel_rfl)
theorem fld74_0 : FldF Try.prog 74 0 0 := FldF.of (n := 0) (by kernel_rfl)
theorem ent72 : Enters Try.prog 72 := ⟨Try.f72, _, Try.func72, by kernel_rfl, rfl⟩
end Go.SK
namespace Go.SK
open Go Go.Proofs
open Go.RowKit
theorem R5cd_id (n bound : Int) (w : World) : Ret Try.prog 67 #[.int .u32 n, .int .u32 bound] w (fun v w' => v = .int .i64 (idE n bound) ∧ St w NoM [] [] w') := by
 refine Ret.enter (args := [.int .u32 n, .int .u32 bound]) Try.func67 rfl rfl rfl ?_
 have hst := St.init w
 refine SR <| AI rfl <| NL <| SQ <| SR <| MU rfl <| CN <| Op1.eql rfl rfl <| MB rfl <| RunL.splitD (d := 7) rfl (fun g1 => ?_) (fun g1 => ?_)
 · skip
   refine OM (t := 7) rfl (congrArg Value.bool (decide_eq_true g1)) rfl <| OM (t := 7) rfl (congrArg Value.bool (decide_eq_true g1)) rfl <| OM (t := 7) rfl (congrArg Value.bool (decide_eq_true g1)) rfl <| CN <| Op1.pickT (u := .bool _) (congrArg Value.bool (decide_eq_true g1)) rfl <| NL <| run_cond_true (congrArg Value.bool (rfl : true = _)) <| SR <| AI rfl <| NL <| run_ret1 Try.func67 rfl (TP (v := .int .i64 _) rfl) ?_
   exact ⟨congrArg (Value.int .i64) (by unfold idE; rw [if_pos (by omega)]), hst.pure⟩
 refine TK (t := 7) rfl (congrArg Value.bool (decide_eq_false g1)) <| Op1.move (v := .int .u32 _) rfl <| TK (t := 7) rfl (congrArg Value.bool (decide_eq_false g1)) <| Op1.move (v := .int .u32 _) rfl <| TK (t := 7) rfl (congrArg Value.bool (decide_eq_false g1)) <| Op1.geq rfl rfl <| CN <| Op1.pickF (u := .bool _) (congrArg Value.bool (decide_eq_false g1)) rfl <| NL <| run_cond_dec rfl (fun g2 => ?_) (fun g2 => ?_)
 · skip
   refine SR <| AI rfl <| NL <| run_ret1 Try.func67 rfl (TP (v := .int .i64 _) rfl) ?_
   exact ⟨congrArg (Value.int .i64) (by unfold idE; rw [if_pos (by omega)]), hst.pure⟩
 refine run_skip <| SR <| AI rfl <| NL <| run_ret1 Try.func67 rfl (TP (v := .int .i64 _) rfl) ?_
 exact ⟨congrArg (Value.int .i64) (by unfold idE; rw [if_neg (by omega)]), hst.pure⟩
theorem R5cd_named (c n : Int) (h0 : 0 ≤ c) (h1 : c ≤ 255) (w : World) : Ret Try.prog 71 #[.int .u8 c, .int .u32 n] w (fun v w' => v = .int .i64 (enumE c n) ∧ St w NoM [] [] w') := by
 refine Ret.enter (args := [.int .u8 c, .int .u32 n]) Try.func71 rfl rfl rfl ?_
 have hst := St.init w
 obtain ⟨o, ho⟩ : ∃ o, namesL.find? (enN c n) = o := ⟨_, rfl⟩
 refine SR <| AI rfl <| NL <| SQ <| SR <| MC rfl <| MU rfl <| CN <| Op1.call2 (v1 := .int .u8 _) (v2 := .int .u32 _) ent81 rfl rfl rfl <| Ret.det (R5gr_Enum2 ho h0 h1 _) hst fun w hst => CN <| Op1.move (v := .tuple #[str _, .bool _]) rfl <| CN <| Op1.extract (v := str _) rfl rfl <| CN <| Op1.extract (v := .bool _) rfl rfl <| AS rfl <| AB rfl ?_
 refine NSR <| MB rfl <| CN <| Op1.not rfl <| NL <| run_cond_split rfl (fun g1 => ?_) (fun g1 => ?_)
 · skip
   refine SR <| AI rfl <| NL <| run_ret1 Try.func71 rfl (TP (v := .int .i64 _) rfl) ?_
   exact ⟨congrArg (Value.int .i64) (by unfold enumE; rw [ho, if_neg (by simpa using g1)]), hst.pure⟩
 refine run_skip <| SR <| AI rfl <| NL <| run_ret1 Try.func71 rfl (TP (v := .int .i64 _) rfl) ?_
 exact ⟨congrArg (Value.int .i64) (by unfold enumE; rw [ho, if_pos (by simpa using g1)]), hst.pure⟩
theorem R5gr_Fits2 {op : Int} {ks : List Int} {fa : Int} {fb : Bool} {n : Nat} (hfit : fitsS op ks = (fa, fb)) (hn : n = ks.length) (h0 : 0 ≤ op) (ao : Option Addr) (cp : Nat) (w : World) (hA : (Res.rs ao n 1 (ks.flatMap u8C)).holds w) (hlen : n ≤ 9000000000000000) : Ret Try.prog 72 #[.int .u16 op, .slice ao n cp] w (fun v w' => v = .tuple #[.int .i64 fa, .bool fb] ∧ St w NoM [] [] w') := by
 subst hn
 exact (R5gr_Fits op h0 ks ao cp w hA (by omega)).mono fun v w' h => ⟨h.1.trans (by rw [hfit]), h.2⟩
theorem R5cd_whole (fm : FormL) (hf : FOk fm) (l : List ArgP) (ao : Option Addr) (cp : Nat) (w : World) (hA : (Res.rs ao l.length 3 (l.flatMap argC)).holds w) (hl : l.length ≤ 9000000000000) : Ret Try.prog 61 #[.agg #[.int .u16 fm.op, str fm.name, .bool fm.ty, .bool fm.res, str fm.fixed, str fm.rest, .int .i64 fm.most, .int .u8 fm.part], .slice ao l.length cp] w (fun v w' => v = .int .i64 (wholeE fm.op l) ∧ St w NoM [] [] w') := by
 refine Ret.enter (args := [.agg #[.int .u16 fm.op, str fm.name, .bool fm.ty, .bool fm.res, str fm.fixed, str fm.rest, .int .i64 fm.most, .int .u8 fm.part], .slice ao l.length cp]) Try.func61 rfl rfl rfl ?_
 have hst : St w NoM [] [Res.rs ao l.length 3 (l.flatMap argC)] w := St.init_D hA
 clear hA
 obtain ⟨fa, fb, hfit⟩ : ∃ fa fb, fitsS fm.op (l.map ArgP.kind) = (fa, fb) := ⟨_, _, rfl⟩
 refine SR <| CN <| Op1.box (v := .agg #[.int .u16 _, str _, .bool _, .bool _, str _, str _, .int .i64 _, .int .u8 _]) hst rfl rfl fun w b2 hst => AI rfl <| NSR <| AL rfl <| NL <| SQ <| SR <| ML rfl <| CN <| Op1.lenSl (rest := []) ty37 rfl <| MI rfl ?_
 refine NL <| run_block <| run_loop ?_
 replace hst := hst.pushNil 5 1
 refine Run.indW [(2, .pointer (some ⟨_, _, none⟩)), (10, .slice _ _ _), (11, .int .i64 _)] ⟨rfl, rfl, rfl, trivial⟩ (fun (q : Nat × Option Addr × Nat) => [(5, .slice q.2.1 q.1 q.2.2), (12, .int .i64 (q.1 : Int))]) (fun (q : Nat × Option Addr × Nat) => [Res.sl q.2.1 q.1 q.2.2 5 1 (((l.map ArgP.kind).take q.1).flatMap u8C)]) (fun (q : Nat × Option Addr × Nat) => q.1 ≤ l.length) (fun (q : Nat × Option Addr × Nat) => l.length - q.1) ((0, none, 0)) hst (Nat.zero_le _) ⟨rfl, rfl, trivial⟩ ?_
 intro ⟨i, aq, cq⟩ f w hst hJ ih1
 replace hst : St _ _ ([Res.sl aq i cq 5 1 (((l.map ArgP.kind).take i).flatMap u8C)] ++ [_]) _ _ := hst
 replace hJ : i ≤ l.length := hJ
 refine Run.slots (sl := [(5, .slice aq i cq), (12, .int .i64 (i : Int))]) ⟨rfl, rfl, trivial⟩ <| SR <| CN <| Op1.lss rfl rfl <| NL <| SQ <| run_cond_dec rfl (fun g2 => ?_) (fun g2 => ?_)
 · skip
   have hidx : l.getD ((i : Int)).toNat zeroA = l.getD i zeroA := rfl
   refine run_skip <| SQ <| run_block <| SR <| CN <| Op1.indexRs ty37 ty35 (hst.hD _ (.head _)) rfl rfl (by omega) (by omega) <| CN <| Op1.loadA (vs := [.int .u8 _, .int .u32 _, str _]) ty35 rfl rfl rfl (Res.rs2_cells (m := 3) (hst.hD _ (.head _)) _ (flat_seg (g := argC) (d := zeroA) argC_len _ _ (by omega))) <| CN <| Op1.alloc hst ty35 fun w b7 hst => CN (SO (v := .agg #[.int .u8 _, .int .u32 _, str _]) hst ty35 rfl rfl (.here) fun w hst => ?_)
   refine NR <| ML rfl <| CN <| Op1.fieldAddr fld35_0 rfl <| CN <| Op1.load1 (v := .int .u8 _) ty5 rfl rfl (hst.cellL (.head _) rfl) <| CN (Op1.buildSl (z0 := [.int .u8 0]) hst ty124 ty5 rfl rfl (by kernel_rfl) (.c (v := .int .u8 _) rfl (h := .nil)) fun w b19 hst => ?_)
   refine CN (Op1.append (news := [.int .u8 _]) hst ty124 ty5 rfl rfl (.there (.there (.here))) rfl rfl rfl (cells_of_obj (n := 1) (hst.objL (.head _)) _ rfl) rfl rfl (by omega) fun w ao3 cp4 hst => ?_)
   replace hst := hst.drop (.there (.here))
   refine AL rfl <| NL <| run_inBlock <| RG <| CN <| Op1.addN rfl rfl rfl (wrap_i64 (by omega) (by omega)) <| MI rfl <| NL <| run_inLoop ?_
   have e1 : ((l.map ArgP.kind).take i).flatMap u8C ++ [.int .u8 (l.getD i zeroA).kind] = ((l.map ArgP.kind).take (i + 1)).flatMap u8C := by rw [take_getD2 (l := l.map ArgP.kind) (d := zeroA.kind) (by rw [List.length_map]; omega), map_getD2 _ _ (by omega), List.flatMap_append]; rfl
   replace hst := hst.pick (.cons (.here) (.cons (.there (.here)) .nil))
   exact ih1 ((i + 1, ao3, cp4)) _ w (by (try dsimp only); omega) (by (try dsimp only); rw [← e1]; exact hst) (by (try dsimp only); omega) ⟨rfl, rfl, rfl, trivial⟩ ⟨rfl, (congrArg (Value.int .i64) (by (try dsimp only); omega)), trivial⟩
 obtain rfl : i = l.length := by omega
 have hlk : l.length = (l.map ArgP.kind).length := by rw [List.length_map]
 rw [List.take_of_length_le (by omega)] at hst
 refine run_exit (id := 0) rfl <| SQ <| SR <| CN <| Op1.fieldAddr fld74_0 rfl <| CN <| Op1.load1 (v := .int .u16 _) ty33 rfl rfl (hst.cellL (.tail _ (.head _)) rfl) <| ML rfl <| CN <| Op1.call2 (v1 := .int .u16 _) (v2 := .slice _ _ _) ent72 rfl rfl rfl <| Ret.det (R5gr_Fits2 hfit hlk hf.op.1 _ _ _ (Res.rs_of_sl (hst.hL _ (.head _))) (by omega)) hst fun w hst => CN <| Op1.move (v := .tuple #[.int .i64 _, .bool _]) rfl <| CN <| Op1.extract (v := .int .i64 _) rfl rfl <| CN <| Op1.extract (v := .bool _) rfl rfl <| AI rfl <| AB rfl <| NL <| SQ ?_
 refine RG <| MB rfl <| CN <| Op1.not rfl <| NL <| run_cond_split rfl (fun g5 => ?_) (fun g5 => ?_)
 · skip
   refine SR <| AI rfl <| NL <| run_ret1 Try.func61 rfl (TP (v := .int .i64 _) rfl) ?_
   exact ⟨congrArg (Value.int .i64) (by unfold wholeE; rw [hfit, if_neg (by simpa using g5)]), hst.pure⟩
 refine run_skip <| SR <| AI rfl <| NL <| run_ret1 Try.func61 rfl (TP (v := .int .i64 _) rfl) ?_
 exact ⟨congrArg (Value.int .i64) (by unfold wholeE; rw [hfit, if_pos (by simpa using g5)]), hst.pure⟩
end Go.SK
namespace Go.SK
open Go Go.Proofs
open Go.RowKit
theorem R5gr_Letter3 {op c : Int} {fm : FormL} {i : Int} (h0 : 0 ≤ op) (hfm : refD op = fm) (hc : letterS fm i = c) (h1 : i ≤ 9223372036854775807) (w : World) : Ret Try.prog 68 #[.int .u16 op, .int .i64 i] w (fun v w' => v = .int .u8 c ∧ St w NoM [] [] w') := by
 subst hfm; subst hc; exact R5gr_Letter op h0 i h1 w
theorem R5gr_Kind2 {c kd : Int} (hk : kindS c = kd) (w : World) : Ret Try.prog 69 #[.int .u8 c] w (fun v w' => v = .int .u8 kd ∧ St w NoM [] [] w') := by
 subst hk; exact R5gr_Kind c w
end Go.SK
namespace Go.SK
open Go Go.Proofs
theorem ent84 : Enters Try.prog 84 := ⟨Try.f84, _, Try.func84, by kernel_rfl, rfl⟩
end Go.SK
namespace Go.SK
open Go Go.Proofs
open Go.RowKit
theorem R5ix_lite (s : List UInt8) (w : World) : Ret Try.prog 84 #[str s, .int .u8 0] w (fun v w' => v = .int .i64 (idxZ s) ∧ St w NoM [] [] w') := by
 refine Ret.enter (args := [str s, .int .u8 0]) Try.func84 rfl rfl rfl ?_
 have hst := St.init w
 refine SR <| AI rfl <| NSR <| MS rfl <| MC rfl <| CN <| Op1.ext2 (v1 := str s) (v2 := .int .u8 0) Try.func86 (by kernel_rfl) (by kernel_rfl) (by kernel_rfl) (by kernel_rfl) rfl rfl rfl (run_indexByte_string ⟨s.toArray⟩ 0 _) <| AI rfl <| NL <| run_ret1 Try.func84 rfl (TP (v := .int .i64 _) rfl) ?_
 exact ⟨congrArg (Value.int .i64) (firstIdx_zero s), hst.pure⟩
theorem R5ix_strings (s : List UInt8) (w : World) : Ret Try.prog 78 #[str s, .int .u8 0] w (fun v w' => v = .int .i64 (idxZ s) ∧ St w NoM [] [] w') := by
 refine Ret.enter (args := [str s, .int .u8 0]) Try.func78 rfl rfl rfl ?_
 have hst := St.init w
 refine SR <| AI rfl <| NSR <| MS rfl <| MC rfl <| CN <| Op1.call2 (v1 := str _) (v2 := .int .u8 _) ent84 rfl rfl rfl <| Ret.det (R5ix_lite _ _) hst fun w hst => AI rfl <| NL <| run_ret1 Try.func78 rfl (TP (v := .int .i64 _) rfl) ?_
 exact ⟨rfl, hst.pure⟩
end Go.SK
namespace Go.SK
open Go Go.Proofs
theorem fld108_2 : FldF Try.prog 108 2 9 := FldF.of (n := 0) (by kernel_rfl)
theorem fld108_3 : FldF Try.prog 108 3 10 := FldF.of (n := 0) (by kernel_rfl)
theorem ent66 : Enters Try.prog 66 := ⟨Try.f66, _, Try.func66, by kernel_rfl, rfl⟩
theorem fld108_1 : FldF Try.prog 108 1 8 := FldF.of (n := 0) (by kernel_rfl)
theorem ent67 : Enters Try.prog 67 := ⟨Try.f67, _, Try.func67, by kernel_rfl, rfl⟩
theorem ent78 : Enters Try.prog 78 := ⟨Try.f78, _, Try.func78, by kernel_rfl, rfl⟩
theorem ent79 : Enters Try.prog 79 := ⟨Try.f79, _, Try.func79, by kernel_rfl, rfl⟩
end Go.SK
namespace Go.SK
open Go Go.Proofs
open Go.RowKit
theorem R5cd_put (bq : Nat) (fm : FormL) (bound : Int) (ao : Option Addr) (cp : Nat) (ws : List Int) (room : Int) (n : Int) (w : World) (hR : (WrC 108 22 bq fm bound ao cp ws room).holds w) (hl : ws.length ≤ 1000000000000) (hr0 : 0 ≤ room) (hr1 : room ≤ 1000000000000) : Ret Try.prog 66 #[.pointer (some ⟨bq, 0, none⟩), .int .u32 n] w (fun v w' => ∃ ao' cp', St w (WrC 108 22 bq fm bound ao cp ws room).foot [WrC 108 22 bq fm bound ao' cp' (ws ++ [n]) (room + 1)] [] w') := by
 refine Ret.enter (args := [.pointer (some ⟨bq, 0, none⟩), .int .u32 n]) Try.func66 rfl rfl rfl ?_
 have hst : St w (WrC 108 22 bq fm bound ao cp ws room).foot [WrC 108 22 bq fm bound ao cp ws room] [] w := St.enter1 hR (fun d hd => by cases hd) (fun d hd => by cases hd)
 replace hst : St _ _ [_, _] _ _ := hst.unpack
 refine SR <| MP rfl <| MP rfl <| CN <| Op1.nilCheckP rfl <| CN <| Op1.fieldAddr fld108_2 rfl <| CN <| Op1.load1 (v := .slice _ _ _) ty93 rfl rfl (hst.cellL (.head _) rfl) <| MU rfl <| CN (Op1.buildSl (z0 := [.int .u32 0]) hst ty93 ty22 rfl rfl (by kernel_rfl) (.c (v := .int .u32 _) rfl (h := .nil)) fun w b10 hst => ?_)
 refine CN (Op1.append (news := [.int .u32 _]) hst ty93 ty22 rfl rfl (.there (.there (.here))) rfl rfl rfl (cells_of_obj (n := 1) (hst.objL (.head _)) _ rfl) rfl rfl (by omega) fun w ao1 cp2 hst => ?_)
 replace hst := hst.drop (.there (.here))
 refine CN <| Op1.nilCheckP rfl <| CN <| Op1.fieldAddr fld108_2 rfl <| CN (SO (v := .slice _ _ _) hst ty93 rfl rfl (.there (.here)) fun w hst => ?_)
 refine NR <| MP rfl <| CN <| Op1.nilCheckP rfl <| CN <| Op1.fieldAddr fld108_3 rfl <| CN <| Op1.load1 (v := .int .i64 _) ty3 rfl rfl (hst.cellL (.tail _ (.head _)) rfl) <| CN <| Op1.addN rfl rfl rfl (wrap_i64 (by omega) (by omega)) <| CN <| Op1.nilCheckP rfl <| CN <| Op1.fieldAddr fld108_3 rfl <| CN (SO (v := .int .i64 _) hst ty3 rfl rfl (.there (.here)) fun w hst => ?_)
 refine NL <| run_end0 Try.func66 rfl  ?_
 replace hst := hst.pick (.cons (.there (.here)) (.cons (.here) .nil))
 have e1 : ws.length + 1 = (ws ++ [n]).length := by simp
 have e2 : ws.flatMap u32C ++ [.int .u32 n] = (ws ++ [n]).flatMap u32C := by simp
 rw [e1, e2] at hst
 exact ⟨_, _, (St.pack (L1 := [_, _]) (L2 := []) hst)⟩
theorem R5cd_whead (bq : Nat) (fm : FormL) (bound : Int) (ao : Option Addr) (cp : Nat) (ws : List Int) (room : Int) (must : Bool) (n lacks : Int) (hk : lacks ≠ 0) (w : World) (hR : (WrC 108 22 bq fm bound ao cp ws room).holds w) (hl : ws.length ≤ 1000000000000) (hr0 : 0 ≤ room) (hr1 : room ≤ 1000000000000) : Ret Try.prog 59 #[.pointer (some ⟨bq, 0, none⟩), .bool must, .int .u32 n, .int .i64 lacks] w (fun v w' => ∃ ao' cp' ws' room', v = .int .i64 (idH must n bound lacks) ∧ ((idH must n bound lacks) = 0 → ws' = ws ++ mustW must n ∧ room' = room + b2n must) ∧ ws'.length ≤ ws.length + 1 ∧ 0 ≤ room' ∧ room' ≤ room + 1 ∧ St w (WrC 108 22 bq fm bound ao cp ws room).foot [WrC 108 22 bq fm bound ao' cp' ws' room'] [] w') := by
 refine Ret.enter (args := [.pointer (some ⟨bq, 0, none⟩), .bool must, .int .u32 n, .int .i64 lacks]) Try.func59 rfl rfl rfl ?_
 have hst : St w (WrC 108 22 bq fm bound ao cp ws room).foot [WrC 108 22 bq fm bound ao cp ws room] [] w := St.enter1 hR (fun d hd => by cases hd) (fun d hd => by cases hd)
 replace hst : St _ _ [_, _] _ _ := hst.unpack
 refine SR <| AI rfl <| NL <| SQ <| run_block <| SR <| MB rfl <| MU rfl <| CN <| Op1.neq rfl rfl <| CN <| Op1.neqB ty4 rfl rfl <| AB rfl <| NL <| run_cond_split rfl (fun g1 => ?_) (fun g1 => ?_)
 · skip
   refine SR <| MI rfl <| AI rfl <| NL <| run_ret1 Try.func59 rfl (TP (v := .int .i64 _) rfl) ?_
   replace hst := hst.pick (.cons (.here) (.cons (.here) .nil))
   have hE := idH_lacks (must := must) (n := n) (bound := bound) (e := lacks) (bne_iff_ne.1 g1)
   rw [hE]
   exact ⟨ao, cp, ws, room, rfl, fun h => absurd h hk, by omega, hr0, by omega, (St.pack (L1 := [_, _]) (L2 := []) hst)⟩
 refine SR <| MB rfl <| CN <| Op1.not rfl <| AB rfl <| NL <| run_cond_split rfl (fun g2 => ?_) (fun g2 => ?_)
 · skip
   refine SR <| AI rfl <| NL <| run_ret1 Try.func59 rfl (TP (v := .int .i64 _) rfl) ?_
   replace hst := hst.pick (.cons (.here) (.cons (.here) .nil))
   have hm : must = false := by simpa using g2
   have hE := idH_no (must := must) (n := n) (bound := bound) (e := lacks) (fun hx => by have hy := bne_iff_ne.2 hx; rw [g1] at hy; cases hy) hm
   rw [hE]
   exact ⟨ao, cp, ws, room, rfl, fun _ => ⟨by rw [mustW, hm]; simp, by rw [b2n, hm]; simp⟩, by omega, hr0, by omega, (St.pack (L1 := [_, _]) (L2 := []) hst)⟩
 refine run_skip <| run_inBlock <| SR <| MP rfl <| MU rfl ?_
 replace hst := hst.pick (.cons (.here) (.cons (.here) .nil))
 replace hst : St _ _ (WrC 108 22 bq fm bound ao cp ws room :: _) _ _ := hst.pack (L1 := [_, _])
 refine CN (Op1.call2 (v1 := .pointer (some ⟨_, _, none⟩)) (v2 := .int .u32 _) ent66 rfl rfl rfl ((R5cd_put bq fm bound ao cp ws room _ _ (hst.hL _ (.head _)) hl hr0 hr1).mono fun v w hp => ?_))
 obtain ⟨ao2, cp2, hp⟩ := hp
 replace hst : St _ _ (WrC 108 22 bq fm bound ao2 cp2 (ws ++ [n]) (room + 1) :: _) _ _ := hst.call1 hp
 replace hst : St _ _ (_ :: _ :: _) _ _ := hst.unpack
 clear hp
 refine NSR <| MU rfl <| MP rfl <| CN <| Op1.nilCheckP rfl <| CN <| Op1.fieldAddr fld108_1 rfl <| CN <| Op1.load1 (v := .int .u32 _) ty22 rfl rfl (hst.cellL (.head _) rfl) <| CN <| Op1.call2 (v1 := .int .u32 _) (v2 := .int .u32 _) ent67 rfl rfl rfl <| Ret.det (R5cd_id _ _ _) hst fun w hst => AI rfl <| NL <| run_ret1 Try.func59 rfl (TP (v := .int .i64 _) rfl) ?_
 replace hst := hst.pick (.cons (.here) (.cons (.here) .nil))
 have hm : must = true := by simpa using g2
 have hE := idH_id (must := must) (n := n) (bound := bound) (e := lacks) (fun hx => by have hy := bne_iff_ne.2 hx; rw [g1] at hy; cases hy) hm
 rw [hE]
 exact ⟨ao2, cp2, ws ++ [n], room + 1, rfl, fun _ => ⟨by rw [mustW, hm]; rfl, by rw [b2n, hm]; rfl⟩, by simp, by omega, by omega, (St.pack (L1 := [_, _]) (L2 := []) hst)⟩
theorem R5cd_wtext (bq : Nat) (fm : FormL) (bound : Int) (ao : Option Addr) (cp : Nat) (ws : List Int) (room : Int) (s : List UInt8) (hs : s.length ≤ 100000000000) (w : World) (hR : (WrC 108 22 bq fm bound ao cp ws room).holds w) (hl : ws.length ≤ 1000000000000) (hr0 : 0 ≤ room) (hr1 : room ≤ 1000000000000) : Ret Try.prog 70 #[.pointer (some ⟨bq, 0, none⟩), str s] w (fun v w' => ∃ ao' cp' ws' room', v = .int .i64 (textE s) ∧ ((textE s) = 0 → ws' = ws ++ ofTextL s ∧ room' = room + ((s.length / 4 + 1 : Nat) : Int)) ∧ ws'.length ≤ ws.length + (s.length / 4 + 1) ∧ 0 ≤ room' ∧ room' ≤ room + ((s.length / 4 + 1 : Nat) : Int) ∧ St w (WrC 108 22 bq fm bound ao cp ws room).foot [WrC 108 22 bq fm bound ao' cp' ws' room'] [] w') := by
 refine Ret.enter (args := [.pointer (some ⟨bq, 0, none⟩), str s]) Try.func70 rfl rfl rfl ?_
 have hst : St w (WrC 108 22 bq fm bound ao cp ws room).foot [WrC 108 22 bq fm bound ao cp ws room] [] w := St.enter1 hR (fun d hd => by cases hd) (fun d hd => by cases hd)
 replace hst : St _ _ [_, _] _ _ := hst.unpack
 have hle := ofText_le s
 refine SR <| AI rfl <| NL <| SQ <| SR <| MS rfl <| CN <| Op1.call2 (v1 := str _) (v2 := .int .u8 _) ent78 rfl rfl rfl <| Ret.det (R5ix_strings s _) hst fun w hst => CN <| Op1.geq rfl rfl <| NL <| run_cond_dec rfl (fun g1 => ?_) (fun g1 => ?_)
 · skip
   refine SR <| AI rfl <| NL <| run_ret1 Try.func70 rfl (TP (v := .int .i64 _) rfl) ?_
   replace hst := hst.pick (.cons (.here) (.cons (.here) .nil))
   have hE : textE s = 13 := if_pos (idxZ_neg.1 (by omega))
   rw [hE]
   exact ⟨ao, cp, ws, room, rfl, fun h => absurd h (by decide), by omega, hr0, by omega, (St.pack (L1 := [_, _]) (L2 := []) hst)⟩
 refine run_skip <| SR <| MS rfl <| CN (Op1.call1 (v1 := str _) ent79 rfl rfl ((R5wd_OfText s _ (by omega)).mono fun v w hp => ?_))
 obtain ⟨aT, cT, rfl, hp⟩ := hp
 replace hst : St _ _ (_ :: _) _ _ := hst.call0 hp
 clear hp
 refine CN <| Op1.move (v := .tuple #[.slice _ _ _, .int .i64 _]) rfl <| CN <| Op1.extract (v := .slice _ _ _) rfl rfl <| CN <| Op1.extract (v := .int .i64 _) rfl rfl <| AL rfl <| AI rfl <| NL <| SQ <| SR <| MI rfl <| CN <| Op1.neq rfl rfl <| NL <| run_cond_dec rfl (fun g2 => ?_) (fun g2 => ?_)
 · skip
   refine SQ <| RunD.start [] hst (bs := [0, 1, 3, 7, 0, 16, 63, 127, 255, 511]) (ds := [some 17, some 18, some 19, some 20, some 21, some 22, some 23, some 24, some 25, none]) ⟨by kernel_rfl, by kernel_rfl, by kernel_rfl⟩ (fun tab3 => ?_)
   refine RunD.op (det _) tab3 1 (fun f' L' w' hc => Op1.move (v := .pointer (some ⟨_, _, none⟩)) (hc.old (v := .pointer (some ⟨_, _, none⟩)) rfl rfl rfl) ⟨[], ⟨rfl, rfl⟩, hc.st⟩) <| RunD.op (det _) tab3 2 (fun f' L' w' hc => Op1.nilCheckP (hc.det (j := 0) rfl rfl rfl rfl) ⟨[], ⟨rfl, rfl⟩, hc.st⟩) <| RunD.op (det _) tab3 3 (fun f' L' w' hc => Op1.fieldAddr fld108_3 (hc.det (j := 1) rfl rfl rfl rfl) ⟨[], ⟨rfl, rfl⟩, hc.st⟩) <| RunD.op (det _) tab3 4 (fun f' L' w' hc => Op1.load1 (v := .int .i64 _) ty3 rfl (hc.det (j := 2) rfl rfl rfl rfl) (hc.st.cellL (List.mem_append_right _ (.tail _ (.head _))) rfl) ⟨[], ⟨rfl, rfl⟩, hc.st⟩) <| RunD.op (det _) tab3 5 (fun f' L' w' hc => Op1.move (v := str _) (hc.old (v := str _) rfl rfl rfl) ⟨[], ⟨rfl, rfl⟩, hc.st⟩) <| RunD.op (det _) tab3 6 (fun f' L' w' hc => Op1.call1 (v1 := str _) ent80 rfl (hc.det (j := 4) rfl rfl rfl rfl) ((R5wd_Room s _ (by omega)).mono fun v w hp => ⟨[], ⟨hp.1, rfl⟩, hc.st.keepc hp.2⟩)) <| RunD.fin followsMixed tab3 hst rfl (fun f4 w R7 hs5 hd6 hr8 hst => ?_)
   obtain ⟨h17_, r0⟩ := hd6 0 17 rfl rfl
   obtain ⟨h18_, r1⟩ := hd6 1 18 rfl rfl
   obtain ⟨h19_, r2⟩ := hd6 2 19 rfl rfl
   obtain ⟨h20_, r3⟩ := hd6 3 20 rfl rfl
   obtain ⟨h21_, r4⟩ := hd6 4 21 rfl rfl
   obtain ⟨h22_, r5⟩ := hd6 5 22 rfl rfl
   simp only [show List.range 6 = [0, 1, 2, 3, 4, 5] from rfl, List.flatMap_cons, List.flatMap_nil, List.map_cons, List.map_nil, r0, r1, r2, r3, r4, r5, List.nil_append, List.append_nil, List.cons_append] at hst
   refine RunL.slots (sl := [(17, .pointer (some ⟨_, _, none⟩)), (20, .int .i64 _), (22, .int .i64 _)]) ⟨h17_, h20_, h22_, trivial⟩ ?_
   clear hs5 hd6 hr8 tab3
   refine CN <| Op1.addN rfl rfl rfl (wrap_i64 (by omega) (by omega)) <| CN <| Op1.nilCheckP rfl <| CN <| Op1.fieldAddr fld108_3 rfl <| CN (SO (v := .int .i64 _) hst ty3 rfl rfl (.there (.here)) fun w hst => ?_)
   refine NL <| Run.forget [] trivial fun f => SR <| AI rfl <| NL <| run_ret1 Try.func70 rfl (TP (v := .int .i64 _) rfl) ?_
   replace hst := hst.pick (.cons (.there (.here)) (.cons (.there (.here)) .nil))
   have hE : textE s = 0 := if_neg (fun h => by have := idxZ_neg.2 h; omega)
   rw [hE]
   have hT : ofTextL s = [] := ofTextL_err g2
   exact ⟨ao, cp, ws, room + ((s.length / 4 + 1 : Nat) : Int), rfl, fun _ => ⟨by rw [hT]; simp, rfl⟩, by omega, by omega, by omega, (St.pack (L1 := [_, _]) (L2 := []) hst)⟩
 refine run_skip <| SR <| MP rfl <| MP rfl <| CN <| Op1.nilCheckP rfl <| CN <| Op1.fieldAddr fld108_2 rfl <| CN <| Op1.load1 (v := .slice _ _ _) ty93 rfl rfl (hst.cellL (.tail _ (.head _)) rfl) <| ML rfl <| CN <| Op1.appendRs hst ty93 ty22 rfl rfl (.there (.there (.here))) rfl rfl (Res.rs_of_sl (hst.hL _ (.head _))) (flat_ok (fun _ => rfl) _) rfl (by omega) fun w ao2 cp2 hst => CN <| Op1.nilCheckP rfl <| CN <| Op1.fieldAddr fld108_2 rfl <| CN (SO (v := .slice _ _ _) hst ty93 rfl rfl (.there (.there (.here))) fun w hst => ?_)
 refine NL <| Run.forget [(0, .pointer (some ⟨_, _, none⟩)), (5, .slice _ _ _)] ⟨rfl, rfl, trivial⟩ fun f => SR <| MP rfl <| CN <| Op1.nilCheckP rfl <| CN <| Op1.fieldAddr fld108_3 rfl <| CN <| Op1.load1 (v := .int .i64 _) ty3 rfl rfl (hst.cellL (.tail _ (.tail _ (.head _))) rfl) <| ML rfl <| CN <| Op1.lenSl (rest := []) ty93 rfl <| CN <| Op1.addN rfl rfl rfl (wrap_i64 (by omega) (by omega)) <| CN <| Op1.nilCheckP rfl <| CN <| Op1.fieldAddr fld108_3 rfl <| CN (SO (v := .int .i64 _) hst ty3 rfl rfl (.there (.there (.here))) fun w hst => ?_)
 refine NSR <| AI rfl <| NL <| run_ret1 Try.func70 rfl (TP (v := .int .i64 _) rfl) ?_
 replace hst := hst.pick (.cons (.there (.there (.here))) (.cons (.here) .nil))
 have hE : textE s = 0 := if_neg (fun h => by have := idxZ_neg.2 h; omega)
 rw [hE]
 have hT := ofText_len (Classical.not_not.1 g2)
 have e1 : ws.length + (ofTextL s).length = (ws ++ ofTextL s).length := by simp
 have e2 : ws.flatMap u32C ++ (ofTextL s).flatMap u32C = (ws ++ ofTextL s).flatMap u32C := by simp
 rw [e1, e2] at hst
 exact ⟨ao2, cp2, ws ++ ofTextL s, room + ((ofTextL s).length : Int), rfl, fun _ => ⟨rfl, by rw [hT]⟩, by rw [List.length_append]; omega, by omega, by omega, (St.pack (L1 := [_, _]) (L2 := []) hst)⟩
end Go.SK
namespace Go.SK
open Go Go.Proofs
theorem fld108_0 : FldF Try.prog 108 0 0 := FldF.of (n := 7) (by kernel_rfl)
theorem ent68 : Enters Try.prog 68 := ⟨Try.f68, _, Try.func68, by kernel_rfl, rfl⟩
theorem fld35_1 : FldF Try.prog 35 1 1 := FldF.of (n := 0) (by kernel_rfl)
theorem fld35_2 : FldF Try.prog 35 2 2 := FldF.of (n := 0) (by kernel_rfl)
theorem ent70 : Enters Try.prog 70 := ⟨Try.f70, _, Try.func70, by kernel_rfl, rfl⟩
theorem ent71 : Enters Try.prog 71 := ⟨Try.f71, _, Try.func71, by kernel_rfl, rfl⟩
end Go.SK
namespace Go.SK
open Go Go.Proofs
open Go.RowKit
theorem R5cd_warg (bq : Nat) (fm : FormL) (bound : Int) (ao : Option Addr) (cp : Nat) (ws : List Int) (room : Int) (k : Nat) (hk : k ≤ 9000000000000000) (a : ArgP) (hs : a.s.length ≤ 100000000000) (c : Int) (hfm : refD fm.op = fm) (hc : letterS fm (k : Int) = c) (w : World) (hR : (WrC 108 22 bq fm bound ao cp ws room).holds w) (hl : ws.length ≤ 1000000000000) (hr0 : 0 ≤ room) (hr1 : room ≤ 1000000000000) : Ret Try.prog 60 #[.pointer (some ⟨bq, 0, none⟩), .int .i64 (k : Int), .agg #[.int .u8 a.kind, .int .u32 a.n, str a.s]] w (fun v w' => ∃ ao' cp' ws' room', v = .int .i64 (wrongA c a bound) ∧ ((wrongA c a bound) = 0 → ws' = ws ++ argW a ∧ room' = room + (argRoom a : Int)) ∧ ws'.length ≤ ws.length + argRoom a ∧ 0 ≤ room' ∧ room' ≤ room + (argRoom a : Int) ∧ St w (WrC 108 22 bq fm bound ao cp ws room).foot [WrC 108 22 bq fm bound ao' cp' ws' room'] [] w') := by
 refine Ret.enter (args := [.pointer (some ⟨bq, 0, none⟩), .int .i64 (k : Int), .agg #[.int .u8 a.kind, .int .u32 a.n, str a.s]]) Try.func60 rfl rfl rfl ?_
 have hst : St w (WrC 108 22 bq fm bound ao cp ws room).foot [WrC 108 22 bq fm bound ao cp ws room] [] w := St.enter1 hR (fun d hd => by cases hd) (fun d hd => by cases hd)
 replace hst : St _ _ [_, _] _ _ := hst.unpack
 have hf : FOk fm := hfm ▸ refD_fok fm.op
 have hop := hf.op
 have hcb : 0 ≤ c ∧ c ≤ 255 := hc ▸ letterS_bd fm _
 obtain ⟨kd, hkd⟩ : ∃ kd, kindS c = kd := ⟨_, rfl⟩
 refine SR <| CN <| Op1.box (v := .agg #[.int .u8 _, .int .u32 _, str _]) hst rfl rfl fun w b5 hst => AI rfl <| NSR <| MP rfl <| CN <| Op1.nilCheckP rfl <| CN <| Op1.fieldAddr fld108_0 rfl <| CN <| Op1.fieldAddr fld74_0 rfl <| CN <| Op1.load1 (v := .int .u16 _) ty33 rfl rfl (hst.cellL (.tail _ (.head _)) rfl) <| MI rfl <| CN <| Op1.call2 (v1 := .int .u16 _) (v2 := .int .i64 _) ent68 rfl rfl rfl <| Ret.det (R5gr_Letter3 hop.1 hfm hc (by omega) _) hst fun w hst => AC rfl ?_
 refine NSR <| CN <| Op1.fieldAddr fld35_0 rfl <| CN <| Op1.load1 (v := .int .u8 _) ty5 rfl rfl (hst.cellL (.head _) rfl) <| CN <| Op1.eql rfl rfl <| AB rfl <| NL <| SQ <| run_block <| SQ <| RunD.start [] hst (bs := [0, 1, 3, 7, 15, 7, 39, 127, 255, 511, 1023, 2047, 4095, 8191, 16383, 32767, 65535, 131071, 262143, 524287, 1048575, 2097151, 4194303, 8388607, 16777215, 33554431, 67108863]) (ds := [some 20, some 21, some 22, some 23, some 24, some 25, some 26, some 27, some 28, some 29, some 30, some 31, some 32, some 33, some 34, some 35, some 36, some 37, some 38, some 39, some 40, some 41, some 42, some 43, some 44, some 45, some 19]) ⟨by kernel_rfl, by kernel_rfl, by kernel_rfl⟩ (fun tab1 => ?_)
 refine RunD.op (det _) tab1 1 (fun f' L' w' hc => Op1.move (v := .int .u8 _) (hc.old (v := .int .u8 _) rfl rfl rfl) ⟨[], ⟨rfl, rfl⟩, hc.st⟩) <| RunD.op (det _) tab1 2 (fun f' L' w' hc => Op1.eql (hc.det (j := 0) rfl rfl rfl rfl) rfl ⟨[], ⟨rfl, rfl⟩, hc.st⟩) <| RunD.op (det _) tab1 3 (fun f' L' w' hc => Op1.move (v := .bool _) (hc.det (j := 1) rfl rfl rfl rfl) ⟨[], ⟨rfl, rfl⟩, hc.st⟩) <| RunD.splitD (j := 2) rfl (fun g2 => ?_) (fun g2 => ?_)
 · skip
   refine RunD.omit tab1 4 rfl rfl (fun f' L' w' hc => (hc.det (j := 2) rfl rfl rfl rfl).trans (congrArg Value.bool (decide_eq_true g2))) <| RunD.omit tab1 5 rfl rfl (fun f' L' w' hc => (hc.det (j := 2) rfl rfl rfl rfl).trans (congrArg Value.bool (decide_eq_true g2))) <| RunD.omit tab1 6 rfl rfl (fun f' L' w' hc => (hc.det (j := 2) rfl rfl rfl rfl).trans (congrArg Value.bool (decide_eq_true g2))) <| RunD.omit tab1 7 rfl rfl (fun f' L' w' hc => (hc.det (j := 2) rfl rfl rfl rfl).trans (congrArg Value.bool (decide_eq_true g2))) <| RunD.fin followsMixed tab1 hst rfl (fun f3 w R6 hs4 hd5 hr7 hst => ?_)
   obtain ⟨h20_, r0⟩ := hd5 0 20 rfl rfl
   obtain ⟨h21_, r1⟩ := hd5 1 21 rfl rfl
   obtain ⟨h22_, r2⟩ := hd5 2 22 rfl rfl
   obtain ⟨h23_, r3⟩ := hd5 3 23 rfl rfl
   obtain ⟨h24_, r4⟩ := hd5 4 24 rfl rfl
   obtain ⟨h25_, r5⟩ := hd5 5 25 rfl rfl
   obtain ⟨h26_, r6⟩ := hd5 6 26 rfl rfl
   simp only [show List.range 7 = [0, 1, 2, 3, 4, 5, 6] from rfl, List.flatMap_cons, List.flatMap_nil, List.map_cons, List.map_nil, r0, r1, r2, r3, r4, r5, r6, List.nil_append, List.append_nil, List.cons_append] at hst
   refine RunL.slots (sl := [(0, .pointer (some ⟨_, _, none⟩)), (5, .pointer (some ⟨_, _, none⟩)), (7, .int .u8 _), (8, .bool _), (22, .bool _), (24, _), (26, _)]) ⟨(hs4 0 rfl).trans rfl, (hs4 5 rfl).trans rfl, (hs4 7 rfl).trans rfl, (hs4 8 rfl).trans rfl, h22_, h24_, h26_, trivial⟩ ?_
   clear hs4 hd5 hr7 tab1
   refine OM (t := 22) rfl (congrArg Value.bool (decide_eq_true g2)) rfl <| CN <| Op1.pickT (u := .bool _) (congrArg Value.bool (decide_eq_true g2)) rfl <| MB rfl <| OM (t := 29) rfl (congrArg Value.bool (rfl : true = _)) rfl <| OM (t := 29) rfl (congrArg Value.bool (rfl : true = _)) rfl <| RunL.omitU (t := 31) rfl rfl <| RunL.omitU (t := 31) rfl rfl <| RunL.omitU (t := 31) rfl rfl <| OM (t := 29) rfl (congrArg Value.bool (rfl : true = _)) rfl <| CN <| Op1.pickT (u := .bool _) (congrArg Value.bool (rfl : true = _)) rfl <| MB rfl <| OM (t := 37) rfl (congrArg Value.bool (rfl : true = _)) rfl <| OM (t := 37) rfl (congrArg Value.bool (rfl : true = _)) rfl <| OM (t := 37) rfl (congrArg Value.bool (rfl : true = _)) rfl <| RunL.omitU (t := 40) rfl rfl ?_
   refine RunL.omitU (t := 40) rfl rfl <| RunL.omitU (t := 40) rfl rfl <| OM (t := 37) rfl (congrArg Value.bool (rfl : true = _)) rfl <| CN <| Op1.pickT (u := .bool _) (congrArg Value.bool (rfl : true = _)) rfl <| AB rfl <| NL <| Run.forget [(0, .pointer (some ⟨_, _, none⟩)), (5, .pointer (some ⟨_, _, none⟩)), (7, .int .u8 _), (8, .bool _), (19, .bool _)] ⟨rfl, rfl, rfl, rfl, rfl, trivial⟩ fun f => run_cond_true (congrArg Value.bool (rfl : true = _)) <| SR <| AI rfl <| NL <| run_ret1 Try.func60 rfl (TP (v := .int .i64 _) rfl) ?_
   replace hst := hst.pick (.cons (.there (.here)) (.cons (.there (.here)) .nil))
   have hX : wrongA c a bound = 42 := wrongA_form (.inl (by omega))
   rw [hX]
   exact ⟨ao, cp, ws, room, rfl, fun h => absurd h (by decide), by omega, hr0, by omega, (St.pack (L1 := [_, _]) (L2 := []) hst)⟩
 refine RunD.take (det _) tab1 4 rfl (fun f' L' w' hc => (hc.det (j := 2) rfl rfl rfl rfl).trans (congrArg Value.bool (decide_eq_false g2))) (fun f' L' w' hc => Op1.fieldAddr fld35_0 (hc.old (v := .pointer (some ⟨_, _, none⟩)) rfl rfl rfl) ⟨[], ⟨rfl, rfl⟩, hc.st⟩) <| RunD.take (det _) tab1 5 rfl (fun f' L' w' hc => (hc.det (j := 2) rfl rfl rfl rfl).trans (congrArg Value.bool (decide_eq_false g2))) (fun f' L' w' hc => Op1.load1 (v := .int .u8 _) ty5 rfl (hc.det (j := 3) rfl rfl rfl rfl) (hc.st.cellL (List.mem_append_right _ (.head _)) rfl) ⟨[], ⟨rfl, rfl⟩, hc.st⟩) <| RunD.take (det _) tab1 6 rfl (fun f' L' w' hc => (hc.det (j := 2) rfl rfl rfl rfl).trans (congrArg Value.bool (decide_eq_false g2))) (fun f' L' w' hc => Op1.move (v := .int .u8 _) (hc.old (v := .int .u8 _) rfl rfl rfl) ⟨[], ⟨rfl, rfl⟩, hc.st⟩) <| RunD.take (det _) tab1 7 rfl (fun f' L' w' hc => (hc.det (j := 2) rfl rfl rfl rfl).trans (congrArg Value.bool (decide_eq_false g2))) (fun f' L' w' hc => Op1.call1 (v1 := .int .u8 _) ent69 rfl (hc.det (j := 5) rfl rfl rfl rfl) ((R5gr_Kind2 hkd _).mono fun v w hp => ⟨[], ⟨hp.1, rfl⟩, hc.st.keepc hp.2⟩)) <| RunD.fin followsMixed tab1 hst rfl (fun f8 w R11 hs9 hd10 hr12 hst => ?_)
 obtain ⟨h20_, r0⟩ := hd10 0 20 rfl rfl
 obtain ⟨h21_, r1⟩ := hd10 1 21 rfl rfl
 obtain ⟨h22_, r2⟩ := hd10 2 22 rfl rfl
 obtain ⟨h23_, r3⟩ := hd10 3 23 rfl rfl
 obtain ⟨h24_, r4⟩ := hd10 4 24 rfl rfl
 obtain ⟨h25_, r5⟩ := hd10 5 25 rfl rfl
 obtain ⟨h26_, r6⟩ := hd10 6 26 rfl rfl
 simp only [show List.range 7 = [0, 1, 2, 3, 4, 5, 6] from rfl, List.flatMap_cons, List.flatMap_nil, List.map_cons, List.map_nil, r0, r1, r2, r3, r4, r5, r6, List.nil_append, List.append_nil, List.cons_append] at hst
 refine RunL.slots (sl := [(0, .pointer (some ⟨_, _, none⟩)), (5, .pointer (some ⟨_, _, none⟩)), (7, .int .u8 _), (8, .bool _), (22, .bool _), (24, .int .u8 _), (26, .int .u8 _)]) ⟨(hs9 0 rfl).trans rfl, (hs9 5 rfl).trans rfl, (hs9 7 rfl).trans rfl, (hs9 8 rfl).trans rfl, h22_, h24_, h26_, trivial⟩ ?_
 clear hs9 hd10 hr12 tab1
 refine TK (t := 22) rfl (congrArg Value.bool (decide_eq_false g2)) <| Op1.neq rfl rfl <| CN <| Op1.pickF (u := .bool _) (congrArg Value.bool (decide_eq_false g2)) rfl <| MB rfl <| RunL.splitD (d := 29) rfl (fun g13 => ?_) (fun g13 => ?_)
 · skip
   refine OM (t := 29) rfl (congrArg Value.bool (decide_eq_true g13)) rfl <| OM (t := 29) rfl (congrArg Value.bool (decide_eq_true g13)) rfl <| RunL.omitU (t := 31) rfl rfl <| RunL.omitU (t := 31) rfl rfl <| RunL.omitU (t := 31) rfl rfl <| OM (t := 29) rfl (congrArg Value.bool (decide_eq_true g13)) rfl <| CN <| Op1.pickT (u := .bool _) (congrArg Value.bool (decide_eq_true g13)) rfl <| MB rfl <| OM (t := 37) rfl (congrArg Value.bool (rfl : true = _)) rfl <| OM (t := 37) rfl (congrArg Value.bool (rfl : true = _)) rfl <| OM (t := 37) rfl (congrArg Value.bool (rfl : true = _)) rfl <| RunL.omitU (t := 40) rfl rfl <| RunL.omitU (t := 40) rfl rfl <| RunL.omitU (t := 40) rfl rfl <| OM (t := 37) rfl (congrArg Value.bool (rfl : true = _)) rfl ?_
   refine CN <| Op1.pickT (u := .bool _) (congrArg Value.bool (rfl : true = _)) rfl <| AB rfl <| NL <| Run.forget [(0, .pointer (some ⟨_, _, none⟩)), (5, .pointer (some ⟨_, _, none⟩)), (7, .int .u8 _), (8, .bool _), (19, .bool _)] ⟨rfl, rfl, rfl, rfl, rfl, trivial⟩ fun f => run_cond_true (congrArg Value.bool (rfl : true = _)) <| SR <| AI rfl <| NL <| run_ret1 Try.func60 rfl (TP (v := .int .i64 _) rfl) ?_
   replace hst := hst.pick (.cons (.there (.here)) (.cons (.there (.here)) .nil))
   have hX : wrongA c a bound = 42 := wrongA_form (.inr (.inl (by rw [hkd]; omega)))
   rw [hX]
   exact ⟨ao, cp, ws, room, rfl, fun h => absurd h (by decide), by omega, hr0, by omega, (St.pack (L1 := [_, _]) (L2 := []) hst)⟩
 refine TK (t := 29) rfl (congrArg Value.bool (decide_eq_false g13)) <| Op1.move (v := .bool _) rfl <| TK (t := 29) rfl (congrArg Value.bool (decide_eq_false g13)) <| Op1.move (v := .bool _) rfl <| RunL.splitD (d := 31) rfl (fun g14 => ?_) (fun g14 => ?_)
 · skip
   refine TK (t := 31) rfl (congrArg Value.bool (decide_eq_true g14)) <| Op1.fieldAddr fld35_1 rfl <| TK (t := 31) rfl (congrArg Value.bool (decide_eq_true g14)) <| Op1.load1 (v := .int .u32 _) ty22 rfl rfl (hst.cellL (.head _) rfl) <| TK (t := 31) rfl (congrArg Value.bool (decide_eq_true g14)) <| Op1.neq rfl rfl <| TK (t := 29) rfl (congrArg Value.bool (decide_eq_false g13)) <| Op1.pickT (u := .bool _) (congrArg Value.bool (decide_eq_true g14)) rfl <| CN <| Op1.pickF (u := .bool _) (congrArg Value.bool (decide_eq_false g13)) rfl <| MB rfl <| RunL.splitD (d := 37) rfl (fun g15 => ?_) (fun g15 => ?_)
   · skip
     refine OM (t := 37) rfl (congrArg Value.bool (decide_eq_true g15)) rfl <| OM (t := 37) rfl (congrArg Value.bool (decide_eq_true g15)) rfl <| OM (t := 37) rfl (congrArg Value.bool (decide_eq_true g15)) rfl <| RunL.omitU (t := 40) rfl rfl <| RunL.omitU (t := 40) rfl rfl <| RunL.omitU (t := 40) rfl rfl <| OM (t := 37) rfl (congrArg Value.bool (decide_eq_true g15)) rfl <| CN <| Op1.pickT (u := .bool _) (congrArg Value.bool (decide_eq_true g15)) rfl <| AB rfl <| NL <| Run.forget [(0, .pointer (some ⟨_, _, none⟩)), (5, .pointer (some ⟨_, _, none⟩)), (7, .int .u8 _), (8, .bool _), (19, .bool _)] ⟨rfl, rfl, rfl, rfl, rfl, trivial⟩ fun f => run_cond_true (congrArg Value.bool (rfl : true = _)) <| SR <| AI rfl ?_
     refine NL <| run_ret1 Try.func60 rfl (TP (v := .int .i64 _) rfl) ?_
     replace hst := hst.pick (.cons (.there (.here)) (.cons (.there (.here)) .nil))
     have hX : wrongA c a bound = 42 := wrongA_form (.inr (.inr (.inl ⟨by omega, by omega⟩)))
     rw [hX]
     exact ⟨ao, cp, ws, room, rfl, fun h => absurd h (by decide), by omega, hr0, by omega, (St.pack (L1 := [_, _]) (L2 := []) hst)⟩
   refine TK (t := 37) rfl (congrArg Value.bool (decide_eq_false g15)) <| Op1.move (v := .bool _) rfl <| TK (t := 37) rfl (congrArg Value.bool (decide_eq_false g15)) <| Op1.notD rfl <| TK (t := 37) rfl (congrArg Value.bool (decide_eq_false g15)) <| Op1.move (v := .bool _) rfl <| RunL.splitD (d := 40) rfl (fun g16 => ?_) (fun g16 => ?_)
   · skip
     exfalso
     omega
   refine OM (t := 40) rfl (congrArg Value.bool (decide_eq_false g16)) rfl <| OM (t := 40) rfl (congrArg Value.bool (decide_eq_false g16)) rfl <| OM (t := 40) rfl (congrArg Value.bool (decide_eq_false g16)) rfl <| TK (t := 37) rfl (congrArg Value.bool (decide_eq_false g15)) <| Op1.pickF (u := .bool _) (congrArg Value.bool (decide_eq_false g16)) rfl <| CN <| Op1.pickF (u := .bool _) (congrArg Value.bool (decide_eq_false g15)) rfl <| AB rfl <| NL <| Run.forget [(0, .pointer (some ⟨_, _, none⟩)), (5, .pointer (some ⟨_, _, none⟩)), (7, .int .u8 _), (8, .bool _), (19, .bool _)] ⟨rfl, rfl, rfl, rfl, rfl, trivial⟩ fun f => run_cond_false (congrArg Value.bool (rfl : false = _)) <| SR <| MB rfl <| AB rfl <| NL <| run_cond_dec rfl (fun g17 => ?_) (fun g17 => ?_)
   · skip
     refine SR <| MP rfl <| CN <| Op1.fieldAddr fld35_2 rfl <| CN (Op1.load1 (v := str _) ty9 rfl rfl (hst.cellL (.head _) rfl) ?_)
     replace hst := hst.pick (.cons (.there (.here)) (.cons (.there (.here)) (.cons (.here) .nil)))
     replace hst : St _ _ (WrC 108 22 bq fm bound ao cp ws room :: _) _ _ := hst.pack (L1 := [_, _])
     refine CN (Op1.call2 (v1 := .pointer (some ⟨_, _, none⟩)) (v2 := str _) ent70 rfl rfl rfl ((R5cd_wtext bq fm bound ao cp ws room a.s hs _ (hst.hL _ (.head _)) hl hr0 hr1).mono fun v w hp => ?_))
     obtain ⟨ao2, cp2, ws2, room2, rfl, hE, hw2, hr2, hr3, hp⟩ := hp
     replace hst : St _ _ (WrC 108 22 bq fm bound ao2 cp2 ws2 room2 :: _) _ _ := hst.call1 hp
     clear hp
     refine AI rfl <| NL <| run_ret1 Try.func60 rfl (TP (v := .int .i64 _) rfl) ?_
     replace hst := hst.pick (.cons (.here) .nil)
     have hX := wrongA_text (c := c) (a := a) (bound := bound) (by omega) (by rw [hkd]; omega) (by omega) (by omega)
     have hY := argW_text (a := a) (by omega)
     rw [hX, hY.1, hY.2]
     exact ⟨ao2, cp2, ws2, room2, rfl, hE, hw2, hr2, hr3, hst⟩
   exfalso
   omega
 refine OM (t := 31) rfl (congrArg Value.bool (decide_eq_false g14)) rfl <| OM (t := 31) rfl (congrArg Value.bool (decide_eq_false g14)) rfl <| OM (t := 31) rfl (congrArg Value.bool (decide_eq_false g14)) rfl <| TK (t := 29) rfl (congrArg Value.bool (decide_eq_false g13)) <| Op1.pickF (u := .bool _) (congrArg Value.bool (decide_eq_false g14)) rfl <| CN <| Op1.pickF (u := .bool _) (congrArg Value.bool (decide_eq_false g13)) rfl <| MB rfl <| TK (t := 37) rfl (congrArg Value.bool (rfl : false = _)) <| Op1.move (v := .bool _) rfl <| TK (t := 37) rfl (congrArg Value.bool (rfl : false = _)) <| Op1.notD rfl <| TK (t := 37) rfl (congrArg Value.bool (rfl : false = _)) <| Op1.move (v := .bool _) rfl <| RunL.splitD (d := 40) rfl (fun g18 => ?_) (fun g18 => ?_)
 · skip
   refine TK (t := 40) rfl (congrArg Value.bool (decide_eq_true g18)) <| Op1.fieldAddr fld35_2 rfl <| TK (t := 40) rfl (congrArg Value.bool (decide_eq_true g18)) <| Op1.load1 (v := str _) ty9 rfl rfl (hst.cellL (.head _) rfl) <| TK (t := 40) rfl (congrArg Value.bool (decide_eq_true g18)) <| Op1.neqS rfl rfl <| TK (t := 37) rfl (congrArg Value.bool (rfl : false = _)) <| Op1.pickT (u := .bool _) (congrArg Value.bool (decide_eq_true g18)) rfl <| CN <| Op1.pickF (u := .bool _) (congrArg Value.bool (rfl : false = _)) rfl <| AB rfl <| NL <| Run.forget [(0, .pointer (some ⟨_, _, none⟩)), (5, .pointer (some ⟨_, _, none⟩)), (7, .int .u8 _), (8, .bool _), (19, .bool _)] ⟨rfl, rfl, rfl, rfl, rfl, trivial⟩ fun f => run_cond_dec rfl (fun g19 => ?_) (fun g19 => ?_)
   · skip
     refine SR <| AI rfl <| NL <| run_ret1 Try.func60 rfl (TP (v := .int .i64 _) rfl) ?_
     replace hst := hst.pick (.cons (.there (.here)) (.cons (.there (.here)) .nil))
     have hX : wrongA c a bound = 42 := wrongA_form (.inr (.inr (.inr ⟨by omega, by simpa using g19⟩)))
     rw [hX]
     exact ⟨ao, cp, ws, room, rfl, fun h => absurd h (by decide), by omega, hr0, by omega, (St.pack (L1 := [_, _]) (L2 := []) hst)⟩
   refine SR <| MB rfl <| AB rfl <| NL <| run_cond_dec rfl (fun g20 => ?_) (fun g20 => ?_)
   · skip
     exfalso
     omega
   refine run_skip <| run_inBlock <| SR <| MP rfl <| CN <| Op1.fieldAddr fld35_1 rfl <| CN (Op1.load1 (v := .int .u32 _) ty22 rfl rfl (hst.cellL (.head _) rfl) ?_)
   replace hst := hst.pick (.cons (.there (.here)) (.cons (.there (.here)) (.cons (.here) .nil)))
   replace hst : St _ _ (WrC 108 22 bq fm bound ao cp ws room :: _) _ _ := hst.pack (L1 := [_, _])
   refine CN (Op1.call2 (v1 := .pointer (some ⟨_, _, none⟩)) (v2 := .int .u32 _) ent66 rfl rfl rfl ((R5cd_put bq fm bound ao cp ws room _ _ (hst.hL _ (.head _)) hl hr0 hr1).mono fun v w hp => ?_))
   obtain ⟨ao2, cp2, hp⟩ := hp
   replace hst : St _ _ (WrC 108 22 bq fm bound ao2 cp2 (ws ++ [a.n]) (room + 1) :: _) _ _ := hst.call1 hp
   replace hst : St _ _ (_ :: _ :: _) _ _ := hst.unpack
   clear hp
   refine NL <| SQ <| SR <| CN <| Op1.fieldAddr fld35_0 rfl <| CN <| Op1.load1 (v := .int .u8 _) ty5 rfl rfl (hst.cellL (.tail _ (.tail _ (.head _))) rfl) <| NL <| run_block <| SR <| CN <| Op1.eql rfl rfl <| AB rfl <| NL <| run_cond_dec rfl (fun g21 => ?_) (fun g21 => ?_)
   · skip
     refine SQ <| RunD.start [] hst (bs := [0, 1, 0, 4, 12, 28, 63, 127]) (ds := [some 60, some 61, some 62, some 63, some 64, some 65, some 66, some 6]) ⟨by kernel_rfl, by kernel_rfl, by kernel_rfl⟩ (fun tab22 => ?_)
     refine RunD.op (det _) tab22 1 (fun f' L' w' hc => Op1.fieldAddr fld35_1 (hc.old (v := .pointer (some ⟨_, _, none⟩)) rfl rfl rfl) ⟨[], ⟨rfl, rfl⟩, hc.st⟩) <| RunD.op (det _) tab22 2 (fun f' L' w' hc => Op1.load1 (v := .int .u32 _) ty22 rfl (hc.det (j := 0) rfl rfl rfl rfl) (hc.st.cellL (List.mem_append_right _ (.tail _ (.tail _ (.head _)))) rfl) ⟨[], ⟨rfl, rfl⟩, hc.st⟩) <| RunD.op (det _) tab22 3 (fun f' L' w' hc => Op1.move (v := .pointer (some ⟨_, _, none⟩)) (hc.old (v := .pointer (some ⟨_, _, none⟩)) rfl rfl rfl) ⟨[], ⟨rfl, rfl⟩, hc.st⟩) <| RunD.op (det _) tab22 4 (fun f' L' w' hc => Op1.nilCheckP (hc.det (j := 2) rfl rfl rfl rfl) ⟨[], ⟨rfl, rfl⟩, hc.st⟩) <| RunD.op (det _) tab22 5 (fun f' L' w' hc => Op1.fieldAddr fld108_1 (hc.det (j := 3) rfl rfl rfl rfl) ⟨[], ⟨rfl, rfl⟩, hc.st⟩) <| RunD.op (det _) tab22 6 (fun f' L' w' hc => Op1.load1 (v := .int .u32 _) ty22 rfl (hc.det (j := 4) rfl rfl rfl rfl) (hc.st.cellL (List.mem_append_right _ (.head _)) rfl) ⟨[], ⟨rfl, rfl⟩, hc.st⟩) <| RunD.fin followsMixed tab22 hst rfl (fun f23 w R26 hs24 hd25 hr27 hst => ?_)
     obtain ⟨h60_, r0⟩ := hd25 0 60 rfl rfl
     obtain ⟨h61_, r1⟩ := hd25 1 61 rfl rfl
     obtain ⟨h62_, r2⟩ := hd25 2 62 rfl rfl
     obtain ⟨h63_, r3⟩ := hd25 3 63 rfl rfl
     obtain ⟨h64_, r4⟩ := hd25 4 64 rfl rfl
     obtain ⟨h65_, r5⟩ := hd25 5 65 rfl rfl
     simp only [show List.range 6 = [0, 1, 2, 3, 4, 5] from rfl, List.flatMap_cons, List.flatMap_nil, List.map_cons, List.map_nil, r0, r1, r2, r3, r4, r5, List.nil_append, List.append_nil, List.cons_append] at hst
     refine RunL.slots (sl := [(61, .int .u32 _), (65, .int .u32 _)]) ⟨h61_, h65_, trivial⟩ ?_
     clear hs24 hd25 hr27 tab22
     refine CN <| Op1.call2 (v1 := .int .u32 _) (v2 := .int .u32 _) ent67 rfl rfl rfl <| Ret.det (R5cd_id _ _ _) hst fun w hst => AI rfl <| NL <| run_ret1 Try.func60 rfl (TP (v := .int .i64 _) rfl) ?_
     replace hst := hst.pick (.cons (.here) (.cons (.here) .nil))
     have hX := wrongA_one (c := c) (a := a) (bound := bound) (by omega) (by rw [hkd]; omega) (by omega) (by simpa using g19)
     have hY := argW_one (a := a) (by omega)
     rw [if_pos (by omega)] at hX
     rw [hX, hY.1, hY.2]
     exact ⟨ao2, cp2, ws ++ [a.n], room + 1, rfl, fun _ => ⟨rfl, rfl⟩, by simp, by omega, by omega, (St.pack (L1 := [_, _]) (L2 := []) hst)⟩
   refine SR <| CN <| Op1.eql rfl rfl <| AB rfl <| NL <| run_cond_dec rfl (fun g28 => ?_) (fun g28 => ?_)
   · skip
     refine SR <| MC rfl <| CN <| Op1.fieldAddr fld35_1 rfl <| CN <| Op1.load1 (v := .int .u32 _) ty22 rfl rfl (hst.cellL (.tail _ (.tail _ (.head _))) rfl) <| CN <| Op1.call2 (v1 := .int .u8 _) (v2 := .int .u32 _) ent71 rfl rfl rfl <| Ret.det (R5cd_named _ _ hcb.1 hcb.2 _) hst fun w hst => AI rfl <| NL <| run_ret1 Try.func60 rfl (TP (v := .int .i64 _) rfl) ?_
     replace hst := hst.pick (.cons (.here) (.cons (.here) .nil))
     have hX := wrongA_one (c := c) (a := a) (bound := bound) (by omega) (by rw [hkd]; omega) (by omega) (by simpa using g19)
     have hY := argW_one (a := a) (by omega)
     rw [if_neg (by omega), if_pos (by omega)] at hX
     rw [hX, hY.1, hY.2]
     exact ⟨ao2, cp2, ws ++ [a.n], room + 1, rfl, fun _ => ⟨rfl, rfl⟩, by simp, by omega, by omega, (St.pack (L1 := [_, _]) (L2 := []) hst)⟩
   refine run_skip <| run_inBlock <| SR <| AI rfl <| NL <| run_ret1 Try.func60 rfl (TP (v := .int .i64 _) rfl) ?_
   replace hst := hst.pick (.cons (.here) (.cons (.here) .nil))
   have hX := wrongA_one (c := c) (a := a) (bound := bound) (by omega) (by rw [hkd]; omega) (by omega) (by simpa using g19)
   have hY := argW_one (a := a) (by omega)
   rw [if_neg (by omega), if_neg (by omega)] at hX
   rw [hX, hY.1, hY.2]
   exact ⟨ao2, cp2, ws ++ [a.n], room + 1, rfl, fun _ => ⟨rfl, rfl⟩, by simp, by omega, by omega, (St.pack (L1 := [_, _]) (L2 := []) hst)⟩
 exfalso
 omega
end Go.SK
namespace Go.SK
open Go Go.Proofs
theorem ty108 : TyF Try.prog 108 (.struct (fieldsOf Try.prog 108)) 11 120 [.int .u16 0, str [], .bool false, .bool false, str [], str [], .int .i64 0, .int .u8 0, .int .u32 0, .slice none 0 0, .int .i64 0] := TyF.of (by kernel_rfl) (by kernel_rfl)
theorem stf108 : StructF Try.prog 108 [(0, 8), (8, 1), (9, 1), (10, 1)] := ⟨fieldsOf Try.prog 108, by kernel_rfl, fun w => by kernel_rfl⟩
theorem ent59 : Enters Try.prog 59 := ⟨Try.f59, _, Try.func59, by kernel_rfl, rfl⟩
theorem ent60 : Enters Try.prog 60 := ⟨Try.f60, _, Try.func60, by kernel_rfl, rfl⟩
theorem ent61 : Enters Try.prog 61 := ⟨Try.f61, _, Try.func61, by kernel_rfl, rfl⟩
end Go.SK
namespace Go.SK
open Go Go.Proofs
open Go.RowKit
theorem R5cd_Raw (p : InstP) (bound : Int) (h0 : 0 ≤ p.op) (w : World) (hA : (Res.rargs p).holds w) (hsm : (p.args.map argRoom).sum ≤ 900000000) (hla : ∀ a ∈ p.args, a.s.length ≤ 100000000000) : Ret Try.prog 50 #[.agg #[.int .u16 p.op, .int .u32 p.ty, .int .u32 p.res, .slice p.ao p.args.length p.cap], .int .u32 bound] w (fun v w' => ∃ ro rc, v = .tuple #[.agg #[.int .u16 (rawF bound p.L).1.1, .slice ro (rawF bound p.L).1.2.length rc], .int .i64 (rawF bound p.L).2] ∧ St w NoM [Res.sl ro (rawF bound p.L).1.2.length rc 22 1 ((rawF bound p.L).1.2.flatMap u32C)] [] w') := by
 refine Ret.enter (args := [.agg #[.int .u16 p.op, .int .u32 p.ty, .int .u32 p.res, .slice p.ao p.args.length p.cap], .int .u32 bound]) Try.func50 rfl rfl rfl ?_
 have hst : St w NoM [] [Res.rargs p] w := St.init_D hA
 clear hA
 obtain ⟨fm, hfm⟩ : ∃ fm, refD p.op = fm := ⟨_, rfl⟩
 obtain ⟨ob, hob⟩ : ∃ ob, (refS p.op).isSome = ob := ⟨_, rfl⟩
 obtain ⟨we, hwe⟩ : ∃ we, wholeE fm.op p.args = we := ⟨_, rfl⟩
 have hf : FOk fm := hfm ▸ refD_fok p.op
 have hlen := len_sum p.args
 refine SR <| CN <| Op1.box (v := .agg #[.int .u16 _, .int .u32 _, .int .u32 _, .slice _ _ _]) hst rfl rfl fun w b2 hst => CN <| Op1.alloc hst ty95 fun w b4 hst => AI rfl <| NSR <| CN <| Op1.fieldAddr fld39_0 rfl <| CN <| Op1.load1 (v := .int .u16 _) ty33 rfl rfl (hst.cellL (.tail _ (.head _)) rfl) <| CN <| Op1.call1 (v1 := .int .u16 _) ent58 rfl rfl <| Ret.det (R5gr_Of2 h0 hfm hob _) hst fun w hst => CN <| Op1.move (v := .tuple #[.agg #[.int .u16 _, str _, .bool _, .bool _, str _, str _, .int .i64 _, .int .u8 _], .bool _]) rfl <| CN <| Op1.extract (v := .agg #[.int .u16 _, str _, .bool _, .bool _, str _, str _, .int .i64 _, .int .u8 _]) rfl rfl <| CN <| Op1.extract (v := .bool _) rfl rfl <| CN (Op1.alloc hst ty74 fun w b6 hst => ?_)
 refine CN (SO (v := .agg #[.int .u16 _, str _, .bool _, .bool _, str _, str _, .int .i64 _, .int .u8 _]) hst ty74 rfl rfl (.here) fun w hst => ?_)
 refine AB rfl <| NL <| SQ <| SR <| MB rfl <| CN <| Op1.not rfl <| NL <| run_cond_split rfl (fun g1 => ?_) (fun g1 => ?_)
 · skip
   refine SR <| CN (Op1.buildStruct ty95 stf95 .nil ?_)
   refine CN (SO (v := .agg #[.int .u16 _, .slice _ _ _]) hst ty95 rfl rfl (.there (.here)) fun w hst => ?_)
   refine AI rfl <| NL <| run_ret2 Try.func50 rfl (RV.cellA (vs := [.int .u16 _, .slice _ _ _]) rfl ty95 rfl rfl (cells_of_obj (n := 2) (hst.objL (.tail _ (.head _))) _ rfl)) (TP (v := .int .i64 _) rfl) ?_
   replace hst := hst.pick .nil
   have hI := rawF_err (bound := bound) (i := p.L) (faultF_op (by rw [hob]; simpa using g1)) (by decide)
   rw [hI]
   exact ⟨none, 0, rfl, (hst.pushNil 22 1).noD⟩
 have hobt : ob = true := by simpa using g1
 have hisS : (refS p.op).isSome = true := hob.trans hobt
 have hfo : fm.op = p.op := by rw [← hfm]; exact (refD_some hisS).2
 have hfm2 : refD fm.op = fm := by rw [hfo]; exact hfm
 refine run_skip <| SR <| CN <| Op1.loadA (vs := [.int .u16 _, str _, .bool _, .bool _, str _, str _, .int .i64 _, .int .u8 _]) ty74 rfl rfl rfl (cells_of_obj (n := 8) (hst.objL (.head _)) _ rfl) <| MU rfl <| CN (Op1.buildStruct ty108 stf108 (.c (v := .agg #[.int .u16 _, str _, .bool _, .bool _, str _, str _, .int .i64 _, .int .u8 _]) rfl (h := (.c (v := .int .u32 _) rfl (h := .nil)))) ?_)
 refine CN <| Op1.box (v := .agg #[.int .u16 _, str _, .bool _, .bool _, str _, str _, .int .i64 _, .int .u8 _, .int .u32 _, .slice _ _ _, .int .i64 _]) hst rfl rfl fun w b25 hst => AP rfl <| NL <| SQ ?_
 replace hst := hst.pushNil 22 1
 replace hst := hst.pick (.cons (.there (.here)) (.cons (.here) (.cons (.here) (.cons (.here) (.cons (.here) .nil)))))
 replace hst : St _ _ (WrC 108 22 b25 fm bound none 0 [] 0 :: _) _ _ := hst.pack (L1 := [_, _])
 refine RG <| MP rfl <| CN <| Op1.fieldAddr fld74_2 rfl <| CN <| Op1.load1 (v := .bool _) ty4 rfl rfl (hst.cellL (.tail _ (.head _)) rfl) <| CN <| Op1.fieldAddr fld39_1 rfl <| CN (Op1.load1 (v := .int .u32 _) ty22 rfl rfl (hst.cellL (.tail _ (.tail _ (.tail _ (.head _)))) rfl) ?_)
 replace hst := hst.pick (.cons (.here) (.cons (.here) (.cons (.here) (.cons (.here) .nil))))
 refine CN (Op1.call4 (v1 := .pointer (some ⟨_, _, none⟩)) (v2 := .bool _) (v3 := .int .u32 _) (v4 := .int .i64 _) ent59 rfl rfl rfl rfl rfl ((R5cd_whead b25 fm bound none 0 [] 0 fm.ty p.ty 40 (by decide) _ (hst.hL _ (.head _)) (by decide) (by decide) (by decide)).mono fun v w hp => ?_))
 obtain ⟨ao1, cp1, ws1, rm1, rfl, hE1, hw1, hr1, hs1, hp⟩ := hp
 replace hst : St _ _ (WrC 108 22 b25 fm bound ao1 cp1 ws1 rm1 :: _) _ _ := hst.call1 hp
 clear hp
 refine AI rfl <| NL <| Run.forget [(2, .pointer (some ⟨_, _, none⟩)), (4, .pointer (some ⟨_, _, none⟩)), (6, .pointer (some ⟨_, _, none⟩)), (8, .pointer (some ⟨_, _, none⟩)), (9, .int .i64 _)] ⟨rfl, rfl, rfl, rfl, rfl, trivial⟩ fun f => SQ <| Run.cutW (L1 := [_]) [(2, .pointer (some ⟨_, _, none⟩)), (4, .pointer (some ⟨_, _, none⟩)), (6, .pointer (some ⟨_, _, none⟩)), (8, .pointer (some ⟨_, _, none⟩))] hst ⟨rfl, rfl, rfl, rfl, trivial⟩ (fun (q : Option Addr × Nat × List Int × Int × Int) => [(9, .int .i64 q.2.2.2.2)]) (fun (q : Option Addr × Nat × List Int × Int × Int) => [WrC 108 22 b25 fm bound q.1 q.2.1 q.2.2.1 q.2.2.2.1]) (fun (q : Option Addr × Nat × List Int × Int × Int) => RW bound p.L 0 q.2.2.1 q.2.2.2.1 q.2.2.2.2) (fun ⟨ao0, cp0, ws0, rm0, e0⟩ f w hst hJ1 => ?_) (fun cut2 => ?_)
 replace hst : St _ _ ([WrC 108 22 b25 fm bound ao0 cp0 ws0 rm0] ++ [_, _, _]) _ _ := hst
 replace hJ1 : RW bound p.L 0 ws0 rm0 e0 := hJ1
 refine Run.slots (sl := [(9, .int .i64 e0)]) ⟨rfl, trivial⟩ ?_
 · skip
   refine SR <| MP rfl <| CN <| Op1.makeFunc <| CN <| Op1.assign (v := .func _ _ _) rfl <| NL <| SQ <| SR <| CN <| Op1.fieldAddr fld39_3 rfl <| CN <| Op1.load1 (v := .slice _ _ _) ty37 rfl rfl (hst.cellL (.tail _ (.tail _ (.tail _ (.head _)))) rfl) <| CN <| Op1.lenSl (rest := []) ty37 rfl <| MI rfl <| NL <| run_block ?_
   refine run_loop <| Run.indW [(2, .pointer (some ⟨_, _, none⟩)), (4, .pointer (some ⟨_, _, none⟩)), (6, .pointer (some ⟨_, _, none⟩)), (8, .pointer (some ⟨_, _, none⟩)), (10, .func _ _ _), (43, .slice _ _ _), (44, .int .i64 _)] ⟨rfl, rfl, rfl, rfl, rfl, rfl, rfl, trivial⟩ (fun (q : Nat × Option Addr × Nat × List Int × Int × Int) => [(9, .int .i64 q.2.2.2.2.2), (45, .int .i64 (q.1 : Int))]) (fun (q : Nat × Option Addr × Nat × List Int × Int × Int) => [WrC 108 22 b25 fm bound q.2.1 q.2.2.1 q.2.2.2.1 q.2.2.2.2.1]) (fun (q : Nat × Option Addr × Nat × List Int × Int × Int) => q.1 ≤ p.args.length ∧ RW bound p.L q.1 q.2.2.2.1 q.2.2.2.2.1 q.2.2.2.2.2) (fun (q : Nat × Option Addr × Nat × List Int × Int × Int) => p.args.length - q.1) ((0, ao0, cp0, ws0, rm0, e0)) hst ⟨Nat.zero_le _, hJ1⟩ ⟨rfl, rfl, trivial⟩ ?_
   intro ⟨k, ao, cp, ws, room, e⟩ f w hst hK0 ih4
   replace hst : St _ _ ([WrC 108 22 b25 fm bound ao cp ws room] ++ [_, _, _]) _ _ := hst
   replace hK0 : k ≤ p.args.length ∧ RW bound p.L k ws room e := hK0
   refine Run.slots (sl := [(9, .int .i64 e), (45, .int .i64 (k : Int))]) ⟨rfl, rfl, trivial⟩ ?_
   have hK := hK0.2
   refine SR <| CN <| Op1.lss rfl rfl <| NL <| SQ <| run_cond_dec rfl (fun g5 => ?_) (fun g5 => ?_)
   · skip
     have hsum : sumR p.L.args k ≤ (p.args.map argRoom).sum := sumR_le
     have hlk := hK.len
     have hrk := hK.r1
     have hr0 := hK.r0
     have hmem : (p.args.getD k zeroA) ∈ p.args := getD_memD (by omega)
     have hsl := hla _ hmem
     have hidx : p.args.getD ((k : Int)).toNat zeroA = (p.args.getD k zeroA) := rfl
     refine run_skip <| SQ <| run_block <| SR <| MI rfl <| CN <| Op1.indexRs ty37 ty35 (hst.hD _ (.head _)) rfl rfl (by omega) (by omega) <| CN <| Op1.loadA (vs := [.int .u8 _, .int .u32 _, str _]) ty35 rfl rfl rfl (Res.rs2_cells (m := 3) (hst.hD _ (.head _)) _ (flat_seg (g := argC) (d := zeroA) argC_len _ _ (by omega))) <| CN <| Op1.alloc hst ty35 fun w b12 hst => AI rfl <| CN (SO (v := .agg #[.int .u8 _, .int .u32 _, str _]) hst ty35 rfl rfl (.here) fun w hst => ?_)
     refine NSR <| MI rfl <| CN <| Op1.eql rfl rfl <| NL <| run_cond_dec rfl (fun g6 => ?_) (fun g6 => ?_)
     · skip
       refine RG <| CN <| Op1.move (v := .func _ _ _) rfl <| MI rfl <| CN (Op1.loadA (vs := [.int .u8 _, .int .u32 _, str _]) ty35 rfl rfl rfl (cells_of_obj (n := 3) (hst.objL (.head _)) _ rfl) ?_)
       replace hst := hst.pick (.cons (.there (.here)) (.cons (.here) (.cons (.here) (.cons (.here) (.cons (.here) .nil)))))
       obtain rfl : e = 0 := by omega
       refine CN (Op1.callV2 (v1 := .int .i64 _) (v2 := .agg #[.int .u8 _, .int .u32 _, str _]) rfl rfl rfl (CallV.funcF ent60 ((R5cd_warg b25 fm bound ao cp ws room k (by omega) (p.args.getD k zeroA) hsl _ hfm2 rfl _ (hst.hL _ (.head _)) (by omega) hr0 (by omega)).mono fun v w hp => ?_)))
       obtain ⟨ao3, cp3, ws3, rm3, rfl, hE3, hw3, hr3, hs3, hp⟩ := hp
       replace hst : St _ _ (WrC 108 22 b25 fm bound ao3 cp3 ws3 rm3 :: _) _ _ := hst.call1 hp
       clear hp
       refine AI rfl <| NL <| run_inBlock <| RG <| CN <| Op1.addN rfl rfl rfl (wrap_i64 (by omega) (by omega)) <| MI rfl <| NL <| run_inLoop ?_
       replace hst := hst.pick (.cons (.here) (.cons (.here) (.cons (.here) (.cons (.here) (.cons (.here) .nil)))))
       have hst2 := hK.step (ws2 := ws3) (room2 := rm3) hisS (by (try dsimp only); omega) (by rw [hfm]; exact hE3) hw3 hr3 hs3
       rw [hfm] at hst2
       replace hst := hst.pick (.cons (.here) (.cons (.there (.here)) (.cons (.there (.here)) (.cons (.there (.here)) .nil))))
       exact ih4 ((k + 1, ao3, cp3, ws3, rm3, (wrongA (letterS fm (k : Int)) (p.args.getD k zeroA) bound))) _ w (by (try dsimp only); omega) hst (⟨by (try dsimp only); omega, hst2⟩) ⟨rfl, rfl, rfl, rfl, rfl, rfl, rfl, trivial⟩ ⟨rfl, (congrArg (Value.int .i64) (by (try dsimp only); omega)), trivial⟩
     refine run_skip <| run_inBlock <| RG <| CN <| Op1.addN rfl rfl rfl (wrap_i64 (by omega) (by omega)) <| MI rfl <| NL <| run_inLoop ?_
     replace hst := hst.pick (.cons (.there (.here)) (.cons (.here) (.cons (.here) (.cons (.here) (.cons (.here) .nil)))))
     have hst2 := hK.skip g6 (by (try dsimp only); omega)
     replace hst := hst.pick (.cons (.here) (.cons (.there (.here)) (.cons (.there (.here)) (.cons (.there (.here)) .nil))))
     exact ih4 ((k + 1, ao, cp, ws, room, e)) _ w (by (try dsimp only); omega) hst (⟨by (try dsimp only); omega, hst2⟩) ⟨rfl, rfl, rfl, rfl, rfl, rfl, rfl, trivial⟩ ⟨rfl, (congrArg (Value.int .i64) (by (try dsimp only); omega)), trivial⟩
   obtain rfl : k = p.args.length := by omega
   refine run_exit (id := 0) rfl <| SQ <| SR <| MI rfl <| CN <| Op1.eql rfl rfl <| NL <| run_cond_dec rfl (fun g7 => ?_) (fun g7 => ?_)
   · skip
     refine RG <| CN <| Op1.loadA (vs := [.int .u16 _, str _, .bool _, .bool _, str _, str _, .int .i64 _, .int .u8 _]) ty74 rfl rfl rfl (cells_of_obj (n := 8) (hst.objL (.tail _ (.head _))) _ rfl) <| CN <| Op1.fieldAddr fld39_3 rfl <| CN (Op1.load1 (v := .slice _ _ _) ty37 rfl rfl (hst.cellL (.tail _ (.tail _ (.tail _ (.head _)))) rfl) ?_)
     obtain rfl : e = 0 := by omega
     have hfu := hK.full hisS
     have hsum := sumR_le (l := p.args) (k := p.args.length)
     have hrk := hK.r1
     have hr0 := hK.r0
     refine CN <| Op1.call2 (v1 := .agg #[.int .u16 _, str _, .bool _, .bool _, str _, str _, .int .i64 _, .int .u8 _]) (v2 := .slice _ _ _) ent61 rfl rfl rfl <| Ret.detE (R5cd_whole fm hf p.args _ _ _ (hst.hD _ (.head _)) (by omega)) (congrArg (Value.int .i64) hwe) hst fun w hst => AI rfl <| NL <| SQ <| SQ ?_
     replace hst := hst.pick (.cons (.here) (.cons (.here) (.cons (.here) (.cons (.here) .nil))))
     replace hst : St _ _ (_ :: _ :: _) _ _ := hst.unpack
     refine RG <| MI rfl <| CN <| Op1.eql rfl rfl <| MB rfl <| RunL.splitD (d := 65) rfl (fun g8 => ?_) (fun g8 => ?_)
     · skip
       refine TK (t := 65) rfl (congrArg Value.bool (decide_eq_true g8)) <| Op1.move (v := .pointer (some ⟨_, _, none⟩)) rfl <| TK (t := 65) rfl (congrArg Value.bool (decide_eq_true g8)) <| Op1.nilCheckP rfl <| TK (t := 65) rfl (congrArg Value.bool (decide_eq_true g8)) <| Op1.fieldAddr fld108_3 rfl <| TK (t := 65) rfl (congrArg Value.bool (decide_eq_true g8)) <| Op1.load1 (v := .int .i64 _) ty3 rfl rfl (hst.cellL (.head _) rfl) <| TK (t := 65) rfl (congrArg Value.bool (decide_eq_true g8)) <| Op1.geq rfl rfl <| CN <| Op1.pickT (u := .bool _) (congrArg Value.bool (decide_eq_true g8)) rfl <| NL <| run_cond_dec rfl (fun g9 => ?_) (fun g9 => ?_)
       · skip
         refine RG <| AI rfl <| NL <| SQ <| SR <| MI rfl <| CN <| Op1.neq rfl rfl <| NL <| Run.forget [(2, .pointer (some ⟨_, _, none⟩)), (4, .pointer (some ⟨_, _, none⟩)), (8, .pointer (some ⟨_, _, none⟩)), (9, .int .i64 _), (73, .bool _)] ⟨rfl, rfl, rfl, rfl, rfl, trivial⟩ fun f => run_cond_dec rfl (fun g10 => ?_) (fun g10 => ?_)
         · skip
           refine SR <| CN (Op1.buildStruct ty95 stf95 .nil ?_)
           refine MI rfl <| CN (SO (v := .agg #[.int .u16 _, .slice _ _ _]) hst ty95 rfl rfl (.there (.there (.there (.here)))) fun w hst => ?_)
           refine AI rfl <| NL <| run_ret2 Try.func50 rfl (RV.cellA (vs := [.int .u16 _, .slice _ _ _]) rfl ty95 rfl rfl (cells_of_obj (n := 2) (hst.objL (.tail _ (.tail _ (.tail _ (.head _))))) _ rfl)) (TP (v := .int .i64 _) rfl) ?_
           replace hst := hst.pick .nil
           have hf2 := hfu.2.2
           rw [show wholeE p.L.op p.L.args = we from by rw [← hwe, hfo]] at hf2
           rw [if_neg (fun h => h (by omega))] at hf2
           have hr2 := hfu.2.1
           rw [hfm] at hr2 hf2
           rw [if_pos (by (try dsimp only at hr2 ⊢); omega)] at hf2
           have hI := rawF_err (bound := bound) (i := p.L) (hf2) (by decide)
           rw [hI]
           exact ⟨none, 0, rfl, (hst.pushNil 22 1).noD⟩
         exfalso
         exact g10 (by decide)
       refine run_skip <| SQ <| SR <| MI rfl <| CN <| Op1.neq rfl rfl <| NL <| Run.forget [(2, .pointer (some ⟨_, _, none⟩)), (4, .pointer (some ⟨_, _, none⟩)), (8, .pointer (some ⟨_, _, none⟩)), (9, .int .i64 _), (73, .bool _)] ⟨rfl, rfl, rfl, rfl, rfl, trivial⟩ fun f => run_cond_dec rfl (fun g11 => ?_) (fun g11 => ?_)
       · skip
         exfalso
         omega
       refine run_skip <| SQ <| RunD.start [] hst (bs := [0, 1, 0, 4, 12, 28, 63, 127, 255]) (ds := [some 76, some 77, some 78, some 79, some 80, some 81, some 82, none, some 5]) ⟨by kernel_rfl, by kernel_rfl, by kernel_rfl⟩ (fun tab12 => ?_)
       refine RunD.op (det _) tab12 1 (fun f' L' w' hc => Op1.fieldAddr fld39_0 (hc.old (v := .pointer (some ⟨_, _, none⟩)) rfl rfl rfl) ⟨[], ⟨rfl, rfl⟩, hc.st⟩) <| RunD.op (det _) tab12 2 (fun f' L' w' hc => Op1.load1 (v := .int .u16 _) ty33 rfl (hc.det (j := 0) rfl rfl rfl rfl) (hc.st.cellL (List.mem_append_right _ (.tail _ (.tail _ (.tail _ (.tail _ (.head _)))))) rfl) ⟨[], ⟨rfl, rfl⟩, hc.st⟩) <| RunD.op (det _) tab12 3 (fun f' L' w' hc => Op1.move (v := .pointer (some ⟨_, _, none⟩)) (hc.old (v := .pointer (some ⟨_, _, none⟩)) rfl rfl rfl) ⟨[], ⟨rfl, rfl⟩, hc.st⟩) <| RunD.op (det _) tab12 4 (fun f' L' w' hc => Op1.nilCheckP (hc.det (j := 2) rfl rfl rfl rfl) ⟨[], ⟨rfl, rfl⟩, hc.st⟩) <| RunD.op (det _) tab12 5 (fun f' L' w' hc => Op1.fieldAddr fld108_2 (hc.det (j := 3) rfl rfl rfl rfl) ⟨[], ⟨rfl, rfl⟩, hc.st⟩) <| RunD.op (det _) tab12 6 (fun f' L' w' hc => Op1.load1 (v := .slice _ _ _) ty93 rfl (hc.det (j := 4) rfl rfl rfl rfl) (hc.st.cellL (List.mem_append_right _ (.head _)) rfl) ⟨[], ⟨rfl, rfl⟩, hc.st⟩) <| RunD.fin followsMixed tab12 hst rfl (fun f13 w R16 hs14 hd15 hr17 hst => ?_)
       obtain ⟨h76_, r0⟩ := hd15 0 76 rfl rfl
       obtain ⟨h77_, r1⟩ := hd15 1 77 rfl rfl
       obtain ⟨h78_, r2⟩ := hd15 2 78 rfl rfl
       obtain ⟨h79_, r3⟩ := hd15 3 79 rfl rfl
       obtain ⟨h80_, r4⟩ := hd15 4 80 rfl rfl
       obtain ⟨h81_, r5⟩ := hd15 5 81 rfl rfl
       simp only [show List.range 6 = [0, 1, 2, 3, 4, 5] from rfl, List.flatMap_cons, List.flatMap_nil, List.map_cons, List.map_nil, r0, r1, r2, r3, r4, r5, List.nil_append, List.append_nil, List.cons_append] at hst
       refine RunL.slots (sl := [(4, .pointer (some ⟨_, _, none⟩)), (77, .int .u16 _), (81, .slice _ _ _)]) ⟨(hs14 4 rfl).trans rfl, h77_, h81_, trivial⟩ ?_
       clear hs14 hd15 hr17 tab12
       refine CN (Op1.buildStruct ty95 stf95 (.c (v := .int .u16 _) rfl (h := (.c (v := .slice _ _ _) rfl (h := .nil)))) ?_)
       refine CN (SO (v := .agg #[.int .u16 _, .slice _ _ _]) hst ty95 rfl rfl (.there (.there (.there (.here)))) fun w hst => ?_)
       refine AI rfl <| NL <| run_ret2 Try.func50 rfl (RV.cellA (vs := [.int .u16 _, .slice _ _ _]) rfl ty95 rfl rfl (cells_of_obj (n := 2) (hst.objL (.tail _ (.tail _ (.tail _ (.head _))))) _ rfl)) (TP (v := .int .i64 _) rfl) ?_
       replace hst := hst.pick (.cons (.there (.here)) .nil)
       have hf2 := hfu.2.2
       rw [show wholeE p.L.op p.L.args = we from by rw [← hwe, hfo]] at hf2
       rw [if_neg (fun h => h (by omega))] at hf2
       have hr2 := hfu.2.1
       rw [hfm] at hr2 hf2
       rw [if_neg (by (try dsimp only at hr2 ⊢); omega)] at hf2
       have hI := rawF_ok (bound := bound) (i := p.L) hf2
       rw [hI, ← hfu.1]
       exact ⟨ao, cp, rfl, hst.noD⟩
     refine OM (t := 65) rfl (congrArg Value.bool (decide_eq_false g8)) rfl <| OM (t := 65) rfl (congrArg Value.bool (decide_eq_false g8)) rfl <| OM (t := 65) rfl (congrArg Value.bool (decide_eq_false g8)) rfl <| OM (t := 65) rfl (congrArg Value.bool (decide_eq_false g8)) rfl <| OM (t := 65) rfl (congrArg Value.bool (decide_eq_false g8)) rfl <| CN <| Op1.pickF (u := .bool _) (congrArg Value.bool (decide_eq_false g8)) rfl <| NL <| run_cond_false (congrArg Value.bool (rfl : false = _)) <| run_skip <| SQ <| SR <| MI rfl <| CN <| Op1.neq rfl rfl <| NL ?_
     refine run_cond_dec rfl (fun g18 => ?_) (fun g18 => ?_)
     · skip
       refine SR <| CN (Op1.buildStruct ty95 stf95 .nil ?_)
       refine MI rfl <| CN (SO (v := .agg #[.int .u16 _, .slice _ _ _]) hst ty95 rfl rfl (.there (.there (.there (.here)))) fun w hst => ?_)
       refine AI rfl <| NL <| run_ret2 Try.func50 rfl (RV.cellA (vs := [.int .u16 _, .slice _ _ _]) rfl ty95 rfl rfl (cells_of_obj (n := 2) (hst.objL (.tail _ (.tail _ (.tail _ (.head _))))) _ rfl)) (TP (v := .int .i64 _) rfl) ?_
       replace hst := hst.pick .nil
       have hf2 := hfu.2.2
       rw [show wholeE p.L.op p.L.args = we from by rw [← hwe, hfo]] at hf2
       rw [if_pos g8] at hf2
       have hI := rawF_err (bound := bound) (i := p.L) (hf2) g8
       rw [hI]
       exact ⟨none, 0, rfl, (hst.pushNil 22 1).noD⟩
     exfalso
     omega
   refine run_skip <| SQ <| SQ ?_
   replace hst := hst.pick (.cons (.here) (.cons (.here) (.cons (.here) (.cons (.here) .nil))))
   replace hst : St _ _ (_ :: _ :: _) _ _ := hst.unpack
   refine RG <| MI rfl <| CN <| Op1.eql rfl rfl <| MB rfl <| RunL.splitD (d := 65) rfl (fun g19 => ?_) (fun g19 => ?_)
   · skip
     exfalso
     omega
   refine OM (t := 65) rfl (congrArg Value.bool (decide_eq_false g19)) rfl <| OM (t := 65) rfl (congrArg Value.bool (decide_eq_false g19)) rfl <| OM (t := 65) rfl (congrArg Value.bool (decide_eq_false g19)) rfl <| OM (t := 65) rfl (congrArg Value.bool (decide_eq_false g19)) rfl <| OM (t := 65) rfl (congrArg Value.bool (decide_eq_false g19)) rfl <| CN <| Op1.pickF (u := .bool _) (congrArg Value.bool (decide_eq_false g19)) rfl <| NL <| run_cond_false (congrArg Value.bool (rfl : false = _)) <| run_skip <| SQ <| SR <| MI rfl <| CN <| Op1.neq rfl rfl <| NL ?_
   refine run_cond_dec rfl (fun g20 => ?_) (fun g20 => ?_)
   · skip
     refine SR <| CN (Op1.buildStruct ty95 stf95 .nil ?_)
     refine MI rfl <| CN (SO (v := .agg #[.int .u16 _, .slice _ _ _]) hst ty95 rfl rfl (.there (.there (.there (.here)))) fun w hst => ?_)
     refine AI rfl <| NL <| run_ret2 Try.func50 rfl (RV.cellA (vs := [.int .u16 _, .slice _ _ _]) rfl ty95 rfl rfl (cells_of_obj (n := 2) (hst.objL (.tail _ (.tail _ (.tail _ (.head _))))) _ rfl)) (TP (v := .int .i64 _) rfl) ?_
     replace hst := hst.pick .nil
     have hI := rawF_err (bound := bound) (i := p.L) (hK.err g7) g7
     rw [hI]
     exact ⟨none, 0, rfl, (hst.pushNil 22 1).noD⟩
   exfalso
   omega
 · skip
   refine SR <| MI rfl <| CN <| Op1.eql rfl rfl <| NL <| run_cond_dec rfl (fun g21 => ?_) (fun g21 => ?_)
   · skip
     refine RG <| MP rfl <| CN <| Op1.fieldAddr fld74_3 rfl <| CN <| Op1.load1 (v := .bool _) ty4 rfl rfl (hst.cellL (.tail _ (.head _)) rfl) <| CN <| Op1.fieldAddr fld39_2 rfl <| CN (Op1.load1 (v := .int .u32 _) ty22 rfl rfl (hst.cellL (.tail _ (.tail _ (.tail _ (.head _)))) rfl) ?_)
     replace hst := hst.pick (.cons (.here) (.cons (.here) (.cons (.here) (.cons (.here) .nil))))
     have h10 : idH fm.ty p.ty bound 40 = 0 := by simpa using g21
     have hx1 := hE1 h10
     have hw1b : ws1.length ≤ 1 := hw1
     refine CN (Op1.call4 (v1 := .pointer (some ⟨_, _, none⟩)) (v2 := .bool _) (v3 := .int .u32 _) (v4 := .int .i64 _) ent59 rfl rfl rfl rfl rfl ((R5cd_whead b25 fm bound ao1 cp1 ws1 rm1 fm.res p.res 41 (by decide) _ (hst.hL _ (.head _)) (by omega) hr1 (by omega)).mono fun v w hp => ?_))
     obtain ⟨ao2, cp2, ws2, rm2, rfl, hE2, hw2, hr2, hs2, hp⟩ := hp
     replace hst : St _ _ (WrC 108 22 b25 fm bound ao2 cp2 ws2 rm2 :: _) _ _ := hst.call1 hp
     clear hp
     refine AI rfl <| NL ?_
     replace hst := hst.pick (.cons (.here) (.cons (.here) (.cons (.here) (.cons (.here) .nil))))
     exact cut2 ((ao2, cp2, ws2, rm2, idH fm.res p.res bound 41)) _ w (hst) ((by have hq := RW.start (i := p.L) (bound := bound) (ws2 := ws2) (room2 := rm2) hisS (by rw [hfm]; exact h10) (fun he => by rw [hfm] at he ⊢; have h2 := hE2 he; rw [hx1.1, hx1.2] at h2; exact h2) (by omega) hr2 (by omega); rw [hfm] at hq; exact hq)) ⟨rfl, rfl, rfl, rfl, trivial⟩ ⟨rfl, trivial⟩
   refine run_skip ?_
   replace hst := hst.pick (.cons (.here) (.cons (.here) (.cons (.here) (.cons (.here) .nil))))
   have hq := RW.ty (i := p.L) (bound := bound) (ws := ws1) (room := rm1) hisS (by rw [hfm]; exact g21) hw1 hr1 (by omega)
   rw [hfm] at hq
   exact cut2 ((ao1, cp1, ws1, rm1, idH fm.ty p.ty bound 40)) _ w (hst) (hq) ⟨rfl, rfl, rfl, rfl, trivial⟩ ⟨rfl, trivial⟩
end Go.SK
namespace Go.SK
open Go Go.Proofs
theorem ent49 : Enters Try.prog 49 := ⟨Try.f49, _, Try.func49, by kernel_rfl, rfl⟩
theorem ent50 : Enters Try.prog 50 := ⟨Try.f50, _, Try.func50, by kernel_rfl, rfl⟩
end Go.SK
namespace Go.SK
open Go Go.Proofs
open Go.RowKit
theorem R5cd_Raw2 {p : InstP} {bound rop re : Int} {rws : List Int} (hR : rawF bound p.L = ((rop, rws), re)) (h0 : 0 ≤ p.op) (w : World) (hA : (Res.rargs p).holds w) (hsm : (p.args.map argRoom).sum ≤ 900000000) (hla : ∀ a ∈ p.args, a.s.length ≤ 100000000000) : Ret Try.prog 50 #[.agg #[.int .u16 p.op, .int .u32 p.ty, .int .u32 p.res, .slice p.ao p.args.length p.cap], .int .u32 bound] w (fun v w' => ∃ ro rc, v = .tuple #[.agg #[.int .u16 rop, .slice ro rws.length rc], .int .i64 re] ∧ St w NoM [Res.sl ro rws.length rc 22 1 (rws.flatMap u32C)] [] w') := by
 have h := R5cd_Raw p bound h0 w hA hsm hla
 rw [hR] at h; exact h
theorem R5fr_SizeNil (w : World) : Ret Try.prog 49 #[.slice none 0 0] w (fun v w' => v = .tuple #[.int .i64 5, .int .i64 0] ∧ St w NoM [] [] w') := R5fr_Size [] none 0 w ⟨rfl, .inl rfl⟩ (by decide) (fun _ h => by cases h)
theorem R5cd_raws (gn bd : Int) (l : List InstP) (ao : Option Addr) (cp : Nat) (w : World) (hA : (Res.rmod ao l).holds w) (hl : l.length ≤ 3000000000000) (hop : ∀ i ∈ l, 0 ≤ i.op) (hsm : ∀ i ∈ l, (i.args.map argRoom).sum ≤ 900000000) (hla : ∀ i ∈ l, ∀ a ∈ i.args, a.s.length ≤ 100000000000) : Ret Try.prog 38 #[.agg #[.int .u32 gn, .int .u32 bd, .slice ao l.length cp]] w (fun v w' => ∃ ro rc done, v = .tuple #[.slice ro done.length rc, .agg #[.int .i64 (shapeF bd (l.map InstP.L)).1, .int .i64 (shapeF bd (l.map InstP.L)).2]] ∧ done.map RawP.L = (if (shapeF bd (l.map InstP.L)).1 = 0 then rawsF bd (l.map InstP.L) else []) ∧ St w NoM [Res.oraws 95 22 ro rc done] [] w') := by
 refine Ret.enter (args := [.agg #[.int .u32 gn, .int .u32 bd, .slice ao l.length cp]]) Try.func38 rfl rfl rfl ?_
 have hst : St w NoM [] [Res.rmod ao l] w := St.init_D hA
 clear hA
 refine SR <| CN <| Op1.box (v := .agg #[.int .u32 _, .int .u32 _, .slice _ _ _]) hst rfl rfl fun w b1 hst => AL rfl <| CN <| Op1.alloc hst ty29 fun w b3 hst => NL <| SQ <| SR <| CN <| Op1.fieldAddr fld25_1 rfl <| CN <| Op1.load1 (v := .int .u32 _) ty22 rfl rfl (hst.cellL (.tail _ (.head _)) rfl) <| CN <| Op1.eql rfl rfl <| MB rfl <| RunL.splitD (d := 14) rfl (fun g1 => ?_) (fun g1 => ?_)
 · skip
   refine OM (t := 14) rfl (congrArg Value.bool (decide_eq_true g1)) rfl <| OM (t := 14) rfl (congrArg Value.bool (decide_eq_true g1)) rfl <| OM (t := 14) rfl (congrArg Value.bool (decide_eq_true g1)) rfl <| CN <| Op1.pickT (u := .bool _) (congrArg Value.bool (decide_eq_true g1)) rfl <| NL <| run_cond_true (congrArg Value.bool (rfl : true = _)) <| SR <| CN (Op1.buildStruct ty29 stf29 (.c (v := .int .i64 _) rfl (h := .nil)) ?_)
   refine AL rfl <| CN (SO (v := .agg #[.int .i64 _, .int .i64 _]) hst ty29 rfl rfl (.here) fun w hst => ?_)
   refine NL <| run_ret2 Try.func38 rfl (TP (v := .slice _ _ _) rfl) (RV.cellA (vs := [.int .i64 _, .int .i64 _]) rfl ty29 rfl rfl (cells_of_obj (n := 2) (hst.objL (.head _)) _ rfl)) ?_
   replace hst := hst.pick .nil
   have hS := shapeF_bound (bound := bd) (l := (l.map InstP.L)) (by omega)
   have hne : (24 : Int) ≠ 0 := by decide
   replace hst := St.starCons ((hst.starNil).pushNil 95 2)
   refine ⟨none, 0, [], ?_, ?_, hst.noD⟩
   · rw [hS] <;> rfl
   · rw [hS, if_neg hne] <;> rfl
 refine TK (t := 14) rfl (congrArg Value.bool (decide_eq_false g1)) <| Op1.fieldAddr fld25_1 rfl <| TK (t := 14) rfl (congrArg Value.bool (decide_eq_false g1)) <| Op1.load1 (v := .int .u32 _) ty22 rfl rfl (hst.cellL (.tail _ (.head _)) rfl) <| TK (t := 14) rfl (congrArg Value.bool (decide_eq_false g1)) <| Op1.gtr rfl rfl <| CN <| Op1.pickF (u := .bool _) (congrArg Value.bool (decide_eq_false g1)) rfl <| NL <| run_cond_dec rfl (fun g2 => ?_) (fun g2 => ?_)
 · skip
   refine SR <| CN (Op1.buildStruct ty29 stf29 (.c (v := .int .i64 _) rfl (h := .nil)) ?_)
   refine AL rfl <| CN (SO (v := .agg #[.int .i64 _, .int .i64 _]) hst ty29 rfl rfl (.here) fun w hst => ?_)
   refine NL <| run_ret2 Try.func38 rfl (TP (v := .slice _ _ _) rfl) (RV.cellA (vs := [.int .i64 _, .int .i64 _]) rfl ty29 rfl rfl (cells_of_obj (n := 2) (hst.objL (.head _)) _ rfl)) ?_
   replace hst := hst.pick .nil
   have hS := shapeF_bound (bound := bd) (l := (l.map InstP.L)) (by omega)
   have hne : (24 : Int) ≠ 0 := by decide
   replace hst := St.starCons ((hst.starNil).pushNil 95 2)
   refine ⟨none, 0, [], ?_, ?_, hst.noD⟩
   · rw [hS] <;> rfl
   · rw [hS, if_neg hne] <;> rfl
 refine run_skip <| SR <| CN <| Op1.call1 (v1 := .slice _ _ _) ent49 rfl rfl <| Ret.det (R5fr_SizeNil _) hst fun w hst => CN <| Op1.move (v := .tuple #[.int .i64 _, .int .i64 _]) rfl <| CN <| Op1.extract (v := .int .i64 _) rfl rfl <| CN <| Op1.extract (v := .int .i64 _) rfl rfl <| AI rfl <| AI rfl <| NSR <| MI rfl <| CN <| Op1.subN rfl rfl rfl (wrap_i64 (by omega) (by omega)) <| AI rfl ?_
 refine NL <| Run.forget [(1, .pointer (some ⟨_, _, none⟩)), (3, .pointer (some ⟨_, _, none⟩)), (4, .int .i64 _)] ⟨rfl, rfl, rfl, trivial⟩ fun f => SR <| AL rfl <| NL <| SQ <| SQ ?_
 replace hst := hst.pushNil 95 2
 replace hst := hst.starNil
 refine RG <| CN <| Op1.fieldAddr fld25_2 rfl <| CN <| Op1.load1 (v := .slice _ _ _) ty23 rfl rfl (hst.cellL (.tail _ (.tail _ (.tail _ (.head _)))) rfl) <| CN <| Op1.lenSl (rest := []) ty23 rfl <| MI rfl <| NL <| run_block <| run_loop <| Run.indW [(1, .pointer (some ⟨_, _, none⟩)), (3, .pointer (some ⟨_, _, none⟩)), (27, .slice _ _ _), (28, .int .i64 _)] ⟨rfl, rfl, rfl, rfl, trivial⟩ (fun (q : Nat × Nat × Option Addr × Nat × List RawP) => [(4, .int .i64 (1048576 - (q.2.1 : Int))), (6, .slice q.2.2.1 q.2.2.2.2.length q.2.2.2.1), (29, .int .i64 (q.1 : Int))]) (fun (q : Nat × Nat × Option Addr × Nat × List RawP) => [Res.star (q.2.2.2.2.map (Res.oword 22)), Res.sl q.2.2.1 q.2.2.2.2.length q.2.2.2.1 95 2 (q.2.2.2.2.flatMap rawC)]) (fun (q : Nat × Nat × Option Addr × Nat × List RawP) => q.1 ≤ l.length ∧ shapeG bd 5 0 (l.map InstP.L) = shapeG bd q.2.1 q.1 ((l.map InstP.L).drop q.1) ∧ q.2.1 ≤ 1048576 ∧ q.2.2.2.2.map RawP.L = rawsF bd ((l.map InstP.L).take q.1)) (fun (q : Nat × Nat × Option Addr × Nat × List RawP) => l.length - q.1) ((0, 5, none, 0, [])) hst ⟨Nat.zero_le _, rfl, by decide, rfl⟩ ⟨rfl, rfl, rfl, trivial⟩ ?_
 intro ⟨i, n, aq, cq, done⟩ f w hst hJ ih3
 replace hst : St _ _ ([Res.star (done.map (Res.oword 22)), Res.sl aq done.length cq 95 2 (done.flatMap rawC)] ++ [_, _]) _ _ := hst
 replace hJ : i ≤ l.length ∧ shapeG bd 5 0 (l.map InstP.L) = shapeG bd n i ((l.map InstP.L).drop i) ∧ n ≤ 1048576 ∧ done.map RawP.L = rawsF bd ((l.map InstP.L).take i) := hJ
 refine Run.slots (sl := [(4, .int .i64 (1048576 - (n : Int))), (6, .slice aq done.length cq), (29, .int .i64 (i : Int))]) ⟨rfl, rfl, rfl, trivial⟩ <| SR <| CN <| Op1.lss rfl rfl <| NL <| SQ <| run_cond_dec rfl (fun g4 => ?_) (fun g4 => ?_)
 · skip
   have hmem : (l.getD i zeroI) ∈ l := getD_memD (by omega)
   have hidx : l.getD ((i : Int)).toNat zeroI = (l.getD i zeroI) := rfl
   obtain ⟨⟨⟨rop, rws⟩, re⟩, hR⟩ : ∃ q, rawF bd (l.getD i zeroI).L = q := ⟨_, rfl⟩
   have hrl := rawF_len hR
   have hsh := shapeG_step (bound := bd) (n := n) (k := i) (l := (l.map InstP.L)) (j := i) (by rw [List.length_map]; omega)
   rw [mapL_getD (by omega), ← hrl.1] at hsh
   have hdl : done.length ≤ i := by have := congrArg List.length hJ.2.2.2; simp only [rawsF, List.length_map, List.length_take] at this; omega
   have hrn : rws.length < 65535 := by
     by_cases he : re = 0
     · exact (hrl.2.1 he).2.1
     · rw [show rws = [] from congrArg Prod.snd (hrl.2.2 he)]; decide
   refine run_skip <| SQ <| run_block <| SR <| MI rfl <| CN <| Op1.indexRs ty23 ty39 (Res.rmod_insts (hst.hD _ (.head _))) rfl rfl (by omega) (by omega) <| CN <| Op1.loadA (vs := [.int .u16 _, .int .u32 _, .int .u32 _, .slice _ _ _]) ty39 rfl rfl rfl (Res.rs2_cells (m := 4) (Res.rmod_insts (hst.hD _ (.head _))) _ (flat_seg (g := instC) (d := zeroI) instC_len _ _ (by omega))) <| CN <| Op1.alloc hst ty39 fun w b8 hst => AI rfl <| CN (SO (v := .agg #[.int .u16 _, .int .u32 _, .int .u32 _, .slice _ _ _]) hst ty39 rfl rfl (.here) fun w hst => ?_)
   refine NSR <| CN <| Op1.loadA (vs := [.int .u16 _, .int .u32 _, .int .u32 _, .slice _ _ _]) ty39 rfl rfl rfl (cells_of_obj (n := 4) (hst.objL (.head _)) _ rfl) <| CN <| Op1.fieldAddr fld25_1 rfl <| CN <| Op1.load1 (v := .int .u32 _) ty22 rfl rfl (hst.cellL (.tail _ (.tail _ (.tail _ (.tail _ (.head _))))) rfl) <| CN (Op1.call2 (v1 := .agg #[.int .u16 _, .int .u32 _, .int .u32 _, .slice _ _ _]) (v2 := .int .u32 _) ent50 rfl rfl rfl ((R5cd_Raw2 hR (hop _ hmem) _ (Res.rmod_argsI (hst.hD _ (.head _)) (i := i) (by omega)) (hsm _ hmem) (hla _ hmem)).mono fun v w hp => ?_))
   obtain ⟨ro, rc, rfl, hp⟩ := hp
   replace hst : St _ _ (_ :: _) _ _ := hst.call0 hp
   clear hp
   refine CN <| Op1.move (v := .tuple #[.agg #[.int .u16 _, .slice _ _ _], .int .i64 _]) rfl <| CN <| Op1.extract (v := .agg #[.int .u16 _, .slice _ _ _]) rfl rfl <| CN <| Op1.extract (v := .int .i64 _) rfl rfl <| CN <| Op1.alloc hst ty95 fun w b9 hst => CN (SO (v := .agg #[.int .u16 _, .slice _ _ _]) hst ty95 rfl rfl (.here) fun w hst => ?_)
   refine AI rfl <| NSR <| MI rfl <| CN <| Op1.fieldAddr fld95_1 rfl <| CN <| Op1.load1 (v := .slice _ _ _) ty93 rfl rfl (hst.cellL (.head _) rfl) <| CN <| Op1.lenSl (rest := []) ty93 rfl <| CN <| Op1.addN rfl rfl rfl (wrap_i64 (by omega) (by omega)) <| CN <| Op1.subN rfl rfl rfl (wrap_i64 (by omega) (by omega)) <| AI rfl <| NL <| Run.forget [(1, .pointer (some ⟨_, _, none⟩)), (3, .pointer (some ⟨_, _, none⟩)), (4, .int .i64 _), (6, .slice _ _ _), (7, .int .i64 _), (9, .pointer (some ⟨_, _, none⟩)), (10, .int .i64 _), (27, .slice _ _ _), (28, .int .i64 _), (29, .int .i64 _)] ⟨rfl, rfl, rfl, rfl, rfl, rfl, rfl, rfl, rfl, rfl, trivial⟩ fun f => SQ <| run_block ?_
   refine SR <| MI rfl <| CN <| Op1.neq rfl rfl <| AB rfl <| NL <| run_cond_dec rfl (fun g5 => ?_) (fun g5 => ?_)
   · skip
     refine SR <| MI rfl <| MI rfl <| CN (Op1.buildStruct ty29 stf29 (.c (v := .int .i64 _) rfl (h := (.c (v := .int .i64 _) rfl (h := .nil)))) ?_)
     refine AL rfl <| CN (SO (v := .agg #[.int .i64 _, .int .i64 _]) hst ty29 rfl rfl (.there (.there (.there (.there (.there (.here)))))) fun w hst => ?_)
     refine NL <| run_ret2 Try.func38 rfl (TP (v := .slice _ _ _) rfl) (RV.cellA (vs := [.int .i64 _, .int .i64 _]) rfl ty29 rfl rfl (cells_of_obj (n := 2) (hst.objL (.tail _ (.tail _ (.tail _ (.tail _ (.tail _ (.head _))))))) _ rfl)) ?_
     replace hst := hst.pick .nil
     rw [if_pos g5] at hsh
     have hS := shapeF_in (bound := bd) (l := (l.map InstP.L)) (by omega) (by omega)
     rw [hJ.2.1, hsh] at hS
     have hne := g5
     replace hst := St.starCons ((hst.starNil).pushNil 95 2)
     refine ⟨none, 0, [], ?_, ?_, hst.noD⟩
     · rw [hS] <;> rfl
     · rw [hS, if_neg hne] <;> rfl
   refine SR <| MI rfl <| CN <| Op1.lss rfl rfl <| AB rfl <| NL <| run_cond_dec rfl (fun g6 => ?_) (fun g6 => ?_)
   · skip
     refine SR <| MI rfl <| CN (Op1.buildStruct ty29 stf29 (.c (v := .int .i64 _) rfl (h := (.c (v := .int .i64 _) rfl (h := .nil)))) ?_)
     refine AL rfl <| CN (SO (v := .agg #[.int .i64 _, .int .i64 _]) hst ty29 rfl rfl (.there (.there (.there (.there (.there (.here)))))) fun w hst => ?_)
     refine NL <| run_ret2 Try.func38 rfl (TP (v := .slice _ _ _) rfl) (RV.cellA (vs := [.int .i64 _, .int .i64 _]) rfl ty29 rfl rfl (cells_of_obj (n := 2) (hst.objL (.tail _ (.tail _ (.tail _ (.tail _ (.tail _ (.head _))))))) _ rfl)) ?_
     replace hst := hst.pick .nil
     have hr0 : re = 0 := Classical.not_not.1 g5
     have hrm := (hrl.2.1 hr0).1
     dsimp only at hrm hsh
     rw [if_neg g5, if_pos (by omega)] at hsh
     have hS := shapeF_in (bound := bd) (l := (l.map InstP.L)) (by omega) (by omega)
     rw [hJ.2.1, hsh] at hS
     have hne : (4 : Int) ≠ 0 := by decide
     replace hst := St.starCons ((hst.starNil).pushNil 95 2)
     refine ⟨none, 0, [], ?_, ?_, hst.noD⟩
     · rw [hS] <;> rfl
     · rw [hS, if_neg hne] <;> rfl
   refine run_skip <| run_inBlock <| RG <| ML rfl <| CN <| Op1.loadA (vs := [.int .u16 _, .slice _ _ _]) ty95 rfl rfl rfl (cells_of_obj (n := 2) (hst.objL (.head _)) _ rfl) <| CN (Op1.buildSl (z0 := [.int .u16 0, .slice none 0 0]) hst ty78 ty95 rfl rfl (by kernel_rfl) (.c (v := .agg #[.int .u16 _, .slice _ _ _]) rfl (h := .nil)) fun w b60 hst => ?_)
   refine CN (Op1.append (news := [.int .u16 _, .slice _ _ _]) hst ty78 ty95 rfl rfl (.there (.there (.there (.there (.there (.here)))))) rfl rfl rfl (cells_of_obj (n := 2) (hst.objL (.head _)) _ rfl) rfl rfl (by omega) fun w ao7 cp8 hst => ?_)
   replace hst := hst.drop (.there (.here))
   refine AL rfl <| NL <| run_inBlock <| RG <| CN <| Op1.addN rfl rfl rfl (wrap_i64 (by omega) (by omega)) <| MI rfl <| NL <| run_inLoop ?_
   replace hst := hst.pick (.cons (.there (.there (.here))) (.cons (.there (.there (.there (.here)))) (.cons (.here) (.cons (.here) (.cons (.here) (.cons (.here) (.cons (.here) .nil)))))))
   replace hst := hst.starSnoc
   have e1 : done.length + 1 = (done ++ [(⟨rop, ro, rc, rws⟩ : RawP)]).length := by simp
   have e2 : done.flatMap rawC ++ [.int .u16 rop, .slice ro rws.length rc] = (done ++ [(⟨rop, ro, rc, rws⟩ : RawP)]).flatMap rawC := by simp
   have e3 : done.map (Res.oword 22) ++ [Res.sl ro rws.length rc 22 1 (rws.flatMap u32C)] = (done ++ [(⟨rop, ro, rc, rws⟩ : RawP)]).map (Res.oword 22) := by simp
   rw [e1, e2, e3] at hst
   have hr0 : re = 0 := Classical.not_not.1 g5
   have hrm := (hrl.2.1 hr0).1
   dsimp only at hrm hsh
   rw [if_neg g5, if_neg (by omega)] at hsh
   have hI2 : (done ++ [(⟨rop, ro, rc, rws⟩ : RawP)]).map RawP.L = rawsF bd ((l.map InstP.L).take (i + 1)) := by rw [List.map_append, hJ.2.2.2, rawsF_take (by omega), hR]; rfl
   replace hst := hst.pick (.cons (.here) (.cons (.here) (.cons (.there (.there (.here))) (.cons (.there (.there (.here))) .nil))))
   exact ih3 ((i + 1, n + roomI (refD (l.getD i zeroI).op) (l.getD i zeroI).args, ao7, cp8, done ++ [(⟨rop, ro, rc, rws⟩ : RawP)])) _ w (by (try dsimp only); omega) hst (⟨by (try dsimp only); omega, hJ.2.1.trans hsh, by (try dsimp only); omega, hI2⟩) ⟨rfl, rfl, rfl, rfl, trivial⟩ ⟨(congrArg (Value.int .i64) (by (try dsimp only); omega)), (by (try dsimp only); rw [← e1]; rfl), (congrArg (Value.int .i64) (by (try dsimp only); omega)), trivial⟩
 obtain rfl : i = l.length := by omega
 refine run_exit (id := 0) rfl <| SR <| ML rfl <| CN (Op1.buildStruct ty29 stf29 .nil ?_)
 refine AL rfl <| CN (SO (v := .agg #[.int .i64 _, .int .i64 _]) hst ty29 rfl rfl (.there (.there (.here))) fun w hst => ?_)
 refine NL <| run_ret2 Try.func38 rfl (TP (v := .slice _ _ _) rfl) (RV.cellA (vs := [.int .i64 _, .int .i64 _]) rfl ty29 rfl rfl (cells_of_obj (n := 2) (hst.objL (.tail _ (.tail _ (.head _)))) _ rfl)) ?_
 replace hst := hst.pick (.cons (.there (.here)) (.cons (.here) .nil))
 have hll : l.length = (l.map InstP.L).length := by rw [List.length_map]
 have hS := shapeF_in (bound := bd) (l := (l.map InstP.L)) (by omega) (by omega)
 rw [hJ.2.1, hll, shapeG_end] at hS
 refine ⟨aq, cq, done, ?_, ?_, (St.starCons hst).noD⟩
 · rw [hS]
 · rw [hS, if_pos rfl, hJ.2.2.2, hll, List.take_length]
end Go.SK
namespace Go.SK
open Go Go.Proofs
theorem ty25 : TyF Try.prog 25 (.struct (fieldsOf Try.prog 25)) 3 32 [.int .u32 0, .int .u32 0, .slice none 0 0] := TyF.of (by kernel_rfl) (by kernel_rfl)
theorem ent38 : Enters Try.prog 38 := ⟨Try.f38, _, Try.func38, by kernel_rfl, rfl⟩
end Go.SK
namespace Go.SK
open Go Go.Proofs
open Go.RowKit
theorem R5cd_raws2 (gn bd : Int) (l : List InstP) (ao : Option Addr) (cp : Nat) {se sa : Int} (hS : shapeF bd (l.map InstP.L) = (se, sa)) (w : World) (hA : (Res.rmod ao l).holds w) (hl : l.length ≤ 3000000000000) (hop : ∀ i ∈ l, 0 ≤ i.op) (hsm : ∀ i ∈ l, (i.args.map argRoom).sum ≤ 900000000) (hla : ∀ i ∈ l, ∀ a ∈ i.args, a.s.length ≤ 100000000000) : Ret Try.prog 38 #[.agg #[.int .u32 gn, .int .u32 bd, .slice ao l.length cp]] w (fun v w' => ∃ ro rc done, v = .tuple #[.slice ro done.length rc, .agg #[.int .i64 se, .int .i64 sa]] ∧ done.map RawP.L = (if se = 0 then rawsF bd (l.map InstP.L) else []) ∧ St w NoM [Res.oraws 95 22 ro rc done] [] w') := by
 have h := R5cd_raws gn bd l ao cp w hA hl hop hsm hla
 rw [hS] at h; exact h
theorem R5cd_Shape (gn bd : Int) (l : List InstP) (ao : Option Addr) (cp : Nat) (w : World) (hA : (Res.rmod ao l).holds w) (hl : l.length ≤ 3000000000000) (hop : ∀ i ∈ l, 0 ≤ i.op) (hsm : ∀ i ∈ l, (i.args.map argRoom).sum ≤ 900000000) (hla : ∀ i ∈ l, ∀ a ∈ i.args, a.s.length ≤ 100000000000) : Ret Try.prog 32 #[.agg #[.int .u32 gn, .int .u32 bd, .slice ao l.length cp]] w (fun v w' => v = .agg #[.int .i64 (shapeF bd (l.map InstP.L)).1, .int .i64 (shapeF bd (l.map InstP.L)).2] ∧ St w NoM [] [] w') := by
 refine Ret.enter (args := [.agg #[.int .u32 gn, .int .u32 bd, .slice ao l.length cp]]) Try.func32 rfl rfl rfl ?_
 have hst : St w NoM [] [Res.rmod ao l] w := St.init_D hA
 clear hA
 obtain ⟨se, sa, hS⟩ : ∃ se sa, shapeF bd (l.map InstP.L) = (se, sa) := ⟨_, _, rfl⟩
 refine SR <| CN <| Op1.box (v := .agg #[.int .u32 _, .int .u32 _, .slice _ _ _]) hst rfl rfl fun w b1 hst => CN <| Op1.alloc hst ty29 fun w b2 hst => NSR <| CN <| Op1.loadA (vs := [.int .u32 _, .int .u32 _, .slice _ _ _]) ty25 rfl rfl rfl (cells_of_obj (n := 3) (hst.objL (.tail _ (.head _))) _ rfl) <| CN (Op1.call1 (v1 := .agg #[.int .u32 _, .int .u32 _, .slice _ _ _]) ent38 rfl rfl ((R5cd_raws2 _ _ _ _ _ hS _ (hst.hD _ (.head _)) hl hop hsm hla).mono fun v w hp => ?_))
 obtain ⟨aR, cR, done, rfl, hd, hp⟩ := hp
 replace hst : St _ _ (_ :: _) _ _ := hst.call0 hp
 clear hp
 refine CN <| Op1.move (v := .tuple #[.slice _ _ _, .agg #[.int .i64 _, .int .i64 _]]) rfl <| CN <| Op1.extract (v := .slice _ _ _) rfl rfl <| CN <| Op1.extract (v := .agg #[.int .i64 _, .int .i64 _]) rfl rfl <| CN <| Op1.alloc hst ty29 fun w b4 hst => AL rfl <| CN (SO (v := .agg #[.int .i64 _, .int .i64 _]) hst ty29 rfl rfl (.here) fun w hst => ?_)
 refine NSR <| CN <| Op1.loadA (vs := [.int .i64 _, .int .i64 _]) ty29 rfl rfl rfl (cells_of_obj (n := 2) (hst.objL (.head _)) _ rfl) <| CN (SO (v := .agg #[.int .i64 _, .int .i64 _]) hst ty29 rfl rfl (.there (.there (.here))) fun w hst => ?_)
 refine NL <| run_ret1 Try.func32 rfl (RV.cellA (vs := [.int .i64 _, .int .i64 _]) rfl ty29 rfl rfl (cells_of_obj (n := 2) (hst.objL (.tail _ (.tail _ (.head _)))) _ rfl)) ?_
 rw [hS]
 exact ⟨rfl, hst.pure⟩
end Go.SK
namespace Go.SK
open Go Go.Proofs
open Go.RowKit
theorem R5cd_Shape2 (gn bd : Int) (l : List InstP) (ao : Option Addr) (cp : Nat) {se sa : Int} (hS : shapeF bd (l.map InstP.L) = (se, sa)) (w : World) (hA : (Res.rmod ao l).holds w) (hl : l.length ≤ 3000000000000) (hop : ∀ i ∈ l, 0 ≤ i.op) (hsm : ∀ i ∈ l, (i.args.map argRoom).sum ≤ 900000000) (hla : ∀ i ∈ l, ∀ a ∈ i.args, a.s.length ≤ 100000000000) : Ret Try.prog 32 #[.agg #[.int .u32 gn, .int .u32 bd, .slice ao l.length cp]] w (fun v w' => v = .agg #[.int .i64 se, .int .i64 sa] ∧ St w NoM [] [] w') := by
 have h := R5cd_Shape gn bd l ao cp w hA hl hop hsm hla
 rw [hS] at h; exact h
end Go.SK
namespace Go.SK
open Go Go.Proofs
theorem ent24 : Enters Try.prog 24 := ⟨Try.f24, _, Try.func24, by kernel_rfl, rfl⟩
end Go.SK
namespace Go.SK
open Go Go.Proofs
open Go.RowKit
theorem R5md_CopyInst (p : InstP) (w : World) (hA : (Res.rargs p).holds w) (hl : p.args.length ≤ 5864062014806) : Ret Try.prog 24 #[.agg #[.int .u16 p.op, .int .u32 p.ty, .int .u32 p.res, .slice p.ao p.args.length p.cap]] w (fun v w' => ∃ bC, v = .agg #[.int .u16 p.op, .int .u32 p.ty, .int .u32 p.res, .slice (some ⟨bC, 0, none⟩) p.args.length p.args.length] ∧ St w NoM [Res.sl (some ⟨bC, 0, none⟩) p.args.length p.args.length 35 3 (p.args.flatMap argC)] [] w') := by
 refine Ret.enter (args := [.agg #[.int .u16 p.op, .int .u32 p.ty, .int .u32 p.res, .slice p.ao p.args.length p.cap]]) Try.func24 rfl rfl rfl ?_
 have hst : St w NoM [] [Res.rargs p] w := St.init_D hA
 clear hA
 refine SR <| CN <| Op1.box (v := .agg #[.int .u16 _, .int .u32 _, .int .u32 _, .slice _ _ _]) hst rfl rfl fun w b1 hst => CN <| Op1.alloc hst ty39 fun w b2 hst => NSR <| CN <| Op1.fieldAddr fld39_3 rfl <| CN <| Op1.load1 (v := .slice _ _ _) ty37 rfl rfl (hst.cellL (.tail _ (.head _)) rfl) <| CN <| Op1.lenSl (rest := []) ty37 rfl <| CN (Op1.makeSlV hst ty37 ty35 rfl rfl rfl (by decide) (by omega) (by omega) fun w bC hst => ?_)
 rw [cpG_zero (g := argC) (d := zeroA) (ez := [.int .u8 0, .int .u32 0, str []]) rfl p.args] at hst
 refine AL rfl <| NL <| SQ <| SR <| AI rfl <| NL <| run_block <| run_loop <| Run.indW [(1, .pointer (some ⟨_, _, none⟩)), (2, .pointer (some ⟨_, _, none⟩)), (3, .slice _ _ _)] ⟨rfl, rfl, rfl, trivial⟩ (fun (i : Nat) => [(4, .int .i64 (i : Int))]) (fun (i : Nat) => [Res.sl (some ⟨bC, 0, none⟩) p.args.length p.args.length 35 3 ((cpG zeroA p.args p.args.length i).flatMap argC)]) (fun (i : Nat) => i ≤ p.args.length) (fun (i : Nat) => p.args.length - i) (0) hst (Nat.zero_le _) ⟨rfl, trivial⟩ ?_
 intro i f w hst hJ ih1
 refine SQ <| SR <| MI rfl <| CN <| Op1.fieldAddr fld39_3 rfl <| CN <| Op1.load1 (v := .slice _ _ _) ty37 rfl rfl (hst.cellL (.tail _ (.tail _ (.head _))) rfl) <| CN <| Op1.lenSl (rest := []) ty37 rfl <| CN <| Op1.lss rfl rfl <| NL <| run_cond_dec rfl (fun g2 => ?_) (fun g2 => ?_)
 · skip
   refine run_skip <| SQ <| run_block <| RG <| ML rfl <| MI rfl <| CN <| Op1.fieldAddr fld39_3 rfl <| CN <| Op1.load1 (v := .slice _ _ _) ty37 rfl rfl (hst.cellL (.tail _ (.tail _ (.head _))) rfl) <| MI rfl <| CN <| Op1.indexRs ty37 ty35 (hst.hD _ (.head _)) rfl rfl (by omega) (by omega) <| CN <| Op1.loadA (vs := [.int .u8 _, .int .u32 _, str _]) ty35 rfl rfl rfl (Res.rs2_cells (m := 3) (hst.hD _ (.head _)) _ (flat_seg (g := argC) (d := zeroA) argC_len _ _ (by omega))) <| CN <| Op1.indexSl ty37 ty35 rfl rfl (by omega) (by omega) <| CN <| Op1.storeSl (v := .agg #[.int .u8 _, .int .u32 _, str _]) hst ty35 rfl rfl rfl rfl rfl (.here) (by simp only [List.length_cons, List.length_nil]; omega) fun w hst => NL <| run_inBlock ?_
   refine RG <| MI rfl <| CN <| Op1.addN rfl rfl rfl (wrap_i64 (by omega) (by omega)) <| AI rfl <| NL <| run_inLoop ?_
   exact ih1 (i + 1) _ w (by omega) (by (try dsimp only); rw [← cpG_step (g := argC) (es := 3) argC_len (i := i) (x := argC (p.args.getD i zeroA)) (by omega) rfl]; exact hst) (by omega) ⟨rfl, rfl, rfl, trivial⟩ ⟨(congrArg (Value.int .i64) (by omega)), trivial⟩
 obtain rfl : i = p.args.length := by omega
 rw [cpG_all] at hst
 refine run_exit (id := 0) rfl <| SR <| ML rfl <| CN <| Op1.fieldAddr fld39_3 rfl <| CN (SO (v := .slice _ _ _) hst ty37 rfl rfl (.there (.there (.here))) fun w hst => ?_)
 refine NSR <| CN <| Op1.loadA (vs := [.int .u16 _, .int .u32 _, .int .u32 _, .slice _ _ _]) ty39 rfl rfl rfl (cells_of_obj (n := 4) (hst.objL (.tail _ (.tail _ (.head _)))) _ rfl) <| CN (SO (v := .agg #[.int .u16 _, .int .u32 _, .int .u32 _, .slice _ _ _]) hst ty39 rfl rfl (.there (.here)) fun w hst => ?_)
 refine NL <| run_ret1 Try.func24 rfl (RV.cellA (vs := [.int .u16 _, .int .u32 _, .int .u32 _, .slice _ _ _]) rfl ty39 rfl rfl (cells_of_obj (n := 4) (hst.objL (.tail _ (.head _))) _ rfl)) ?_
 replace hst := hst.pick (.cons (.here) .nil)
 exact ⟨bC, rfl, hst.noD⟩
theorem R5md_CopyModule (ga ba : Int) (l : List InstP) (ao : Option Addr) (cp : Nat) (w : World) (hA : (Res.rmod ao l).holds w) (hl : l.length ≤ 3518437208884) (hla : ∀ i ∈ l, i.args.length ≤ 5864062014806) : Ret Try.prog 9 #[.agg #[.int .u32 ga, .int .u32 ba, .slice ao l.length cp]] w (fun v w' => ∃ bC done, v = .agg #[.int .u32 ga, .int .u32 ba, .slice (some ⟨bC, 0, none⟩) done.length done.length] ∧ done.map InstP.L = l.map InstP.L ∧ St w NoM [Res.omod 39 35 (some ⟨bC, 0, none⟩) done.length done] [] w') := by
 refine Ret.enter (args := [.agg #[.int .u32 ga, .int .u32 ba, .slice ao l.length cp]]) Try.func9 rfl rfl rfl ?_
 have hst : St w NoM [] [Res.rmod ao l] w := St.init_D hA
 clear hA
 refine SR <| CN <| Op1.box (v := .agg #[.int .u32 _, .int .u32 _, .slice _ _ _]) hst rfl rfl fun w b1 hst => CN <| Op1.alloc hst ty25 fun w b2 hst => NSR <| CN <| Op1.fieldAddr fld25_2 rfl <| CN <| Op1.load1 (v := .slice _ _ _) ty23 rfl rfl (hst.cellL (.tail _ (.head _)) rfl) <| CN <| Op1.lenSl (rest := []) ty23 rfl <| CN (Op1.makeSlV hst ty23 ty39 rfl rfl rfl (by decide) (by omega) (by omega) fun w bC hst => ?_)
 rw [zeros_rep (g := instC) (d := zeroI) (ez := [.int .u16 0, .int .u32 0, .int .u32 0, .slice none 0 0]) rfl] at hst
 refine AL rfl <| NL <| SQ <| SQ ?_
 replace hst := hst.starNil
 refine RG <| AI rfl <| NL <| run_block <| run_loop <| Run.indW [(1, .pointer (some ⟨_, _, none⟩)), (2, .pointer (some ⟨_, _, none⟩)), (3, .slice _ _ _)] ⟨rfl, rfl, rfl, trivial⟩ (fun (q : Nat × List InstP) => [(4, .int .i64 (q.1 : Int))]) (fun (q : Nat × List InstP) => [Res.star (q.2.map (Res.oargs 35)), Res.sl (some ⟨bC, 0, none⟩) l.length l.length 39 4 ((q.2 ++ List.replicate (l.length - q.1) zeroI).flatMap instC)]) (fun (q : Nat × List InstP) => q.1 ≤ l.length ∧ q.2.length = q.1 ∧ q.2.map InstP.L = (l.take q.1).map InstP.L) (fun (q : Nat × List InstP) => l.length - q.1) ((0, [])) hst ⟨Nat.zero_le _, rfl, rfl⟩ ⟨rfl, trivial⟩ ?_
 intro ⟨i, done⟩ f w hst hJ ih1
 replace hst : St _ _ ([Res.star (done.map (Res.oargs 35)), Res.sl (some ⟨bC, 0, none⟩) l.length l.length 39 4 ((done ++ List.replicate (l.length - i) zeroI).flatMap instC)] ++ [_, _]) _ _ := hst
 replace hJ : i ≤ l.length ∧ done.length = i ∧ done.map InstP.L = (l.take i).map InstP.L := hJ
 refine Run.slots (sl := [(4, .int .i64 (i : Int))]) ⟨rfl, trivial⟩ <| SQ <| SR <| MI rfl <| CN <| Op1.fieldAddr fld25_2 rfl <| CN <| Op1.load1 (v := .slice _ _ _) ty23 rfl rfl (hst.cellL (.tail _ (.tail _ (.tail _ (.head _)))) rfl) <| CN <| Op1.lenSl (rest := []) ty23 rfl <| CN <| Op1.lss rfl rfl <| NL <| run_cond_dec rfl (fun g2 => ?_) (fun g2 => ?_)
 · skip
   refine run_skip <| SQ <| run_block <| RG <| ML rfl <| MI rfl <| CN <| Op1.fieldAddr fld25_2 rfl <| CN <| Op1.load1 (v := .slice _ _ _) ty23 rfl rfl (hst.cellL (.tail _ (.tail _ (.tail _ (.head _)))) rfl) <| MI rfl <| CN <| Op1.indexRs ty23 ty39 (Res.rmod_insts (hst.hD _ (.head _))) rfl rfl (by omega) (by omega) <| CN <| Op1.loadA (vs := [.int .u16 _, .int .u32 _, .int .u32 _, .slice _ _ _]) ty39 rfl rfl rfl (Res.rs2_cells (m := 4) (Res.rmod_insts (hst.hD _ (.head _))) _ (flat_seg (g := instC) (d := zeroI) instC_len _ _ (by omega))) <| CN (Op1.call1 (v1 := .agg #[.int .u16 _, .int .u32 _, .int .u32 _, .slice _ _ _]) ent24 rfl rfl ((R5md_CopyInst _ _ (Res.rmod_argsI (hst.hD _ (.head _)) (by omega)) (hla _ (getD_memD (by omega)))).mono fun v w hp => ?_))
   obtain ⟨bN, rfl, hp⟩ := hp
   replace hst := hst.call0 hp
   clear hp
   refine CN <| Op1.indexSl ty23 ty39 rfl rfl (by omega) (by omega) <| CN <| Op1.storeSl (v := .agg #[.int .u16 _, .int .u32 _, .int .u32 _, .slice _ _ _]) hst ty39 rfl rfl rfl rfl rfl (.there (.there (.here))) (by simp only [List.length_cons, List.length_nil]; omega) fun w hst => NL <| run_inBlock <| RG <| MI rfl <| CN <| Op1.addN rfl rfl rfl (wrap_i64 (by omega) (by omega)) <| AI rfl <| NL <| run_inLoop ?_
   replace hst := hst.pick (.cons (.here) (.cons (.here) (.cons (.here) (.cons (.here) (.cons (.here) .nil)))))
   replace hst := hst.starSnoc
   exact ih1 ((i + 1, done ++ [⟨(l.getD i zeroI).op, (l.getD i zeroI).ty, (l.getD i zeroI).res, some ⟨bN, 0, none⟩, (l.getD i zeroI).args.length, (l.getD i zeroI).args⟩])) _ w (by (try dsimp only); omega) (by (try dsimp only); rw [List.map_append, ← cpS_step (g := instC) (es := 4) instC_len (y := ⟨(l.getD i zeroI).op, (l.getD i zeroI).ty, (l.getD i zeroI).res, some ⟨bN, 0, none⟩, (l.getD i zeroI).args.length, (l.getD i zeroI).args⟩) (x := instC ⟨(l.getD i zeroI).op, (l.getD i zeroI).ty, (l.getD i zeroI).res, some ⟨bN, 0, none⟩, (l.getD i zeroI).args.length, (l.getD i zeroI).args⟩) hJ.2.1 (by omega) rfl]; exact hst) (⟨by (try dsimp only); omega, by simp [hJ.2.1], by rw [List.map_append, hJ.2.2, take_getD2 (d := zeroI) (by omega), List.map_append]; rfl⟩) ⟨rfl, rfl, rfl, trivial⟩ ⟨(congrArg (Value.int .i64) (by (try dsimp only); omega)), trivial⟩
 obtain rfl : i = l.length := by omega
 rw [Nat.sub_self, List.replicate_zero, List.append_nil done] at hst
 have hdl := hJ.2.1
 have hdn := hJ.2.2
 rw [List.take_length] at hdn
 refine run_exit (id := 0) rfl <| SR <| ML rfl <| CN <| Op1.fieldAddr fld25_2 rfl <| CN (SO (v := .slice _ _ _) hst ty23 rfl rfl (.there (.there (.there (.here)))) fun w hst => ?_)
 refine NSR <| CN <| Op1.loadA (vs := [.int .u32 _, .int .u32 _, .slice _ _ _]) ty25 rfl rfl rfl (cells_of_obj (n := 3) (hst.objL (.tail _ (.tail _ (.tail _ (.head _))))) _ rfl) <| CN (SO (v := .agg #[.int .u32 _, .int .u32 _, .slice _ _ _]) hst ty25 rfl rfl (.there (.there (.here))) fun w hst => ?_)
 refine NL <| run_ret1 Try.func9 rfl (RV.cellA (vs := [.int .u32 _, .int .u32 _, .slice _ _ _]) rfl ty25 rfl rfl (cells_of_obj (n := 3) (hst.objL (.tail _ (.tail _ (.head _)))) _ rfl)) ?_
 replace hst := hst.pick (.cons (.there (.here)) (.cons (.here) .nil))
 rw [← hdl] at hst
 exact ⟨bC, done, (by rw [hdl]), hdn, (St.starCons hst).noD⟩
end Go.SK
namespace Go.SK
open Go Go.Proofs
theorem ent62 : Enters Try.prog 62 := ⟨Try.f62, _, Try.func62, by kernel_rfl, rfl⟩
theorem fld74_7 : FldF Try.prog 74 7 7 := FldF.of (n := 0) (by kernel_rfl)
theorem ent51 : Enters Try.prog 51 := ⟨Try.f51, _, Try.func51, by kernel_rfl, rfl⟩
theorem ent21 : Enters Try.prog 21 := ⟨Try.f21, _, Try.func21, by kernel_rfl, rfl⟩
end Go.SK
namespace Go.SK
open Go Go.Proofs
open Go.RowKit
theorem R5ly_variable (p : InstP) (w : World) (hA : (Res.rargs p).holds w) (hl : p.args.length ≤ 9000000000000000000) : Ret Try.prog 62 #[.agg #[.int .u16 p.op, .int .u32 p.ty, .int .u32 p.res, .slice p.ao p.args.length p.cap]] w (fun v w' => v = .bool (decide (p.op = 59 ∧ 0 < p.args.length ∧ (p.args.getD 0 zeroA).n = 7)) ∧ St w NoM [] [] w') := by
 refine Ret.enter (args := [.agg #[.int .u16 p.op, .int .u32 p.ty, .int .u32 p.res, .slice p.ao p.args.length p.cap]]) Try.func62 rfl rfl rfl ?_
 have hst : St w NoM [] [Res.rargs p] w := St.init_D hA
 clear hA
 refine SR <| CN <| Op1.box (v := .agg #[.int .u16 _, .int .u32 _, .int .u32 _, .slice _ _ _]) hst rfl rfl fun w b1 hst => AB rfl <| NSR <| CN <| Op1.fieldAddr fld39_0 rfl <| CN <| Op1.load1 (v := .int .u16 _) ty33 rfl rfl (hst.cellL (.head _) rfl) <| CN <| Op1.eql rfl rfl <| MB rfl <| RunL.splitD (d := 6) rfl (fun g1 => ?_) (fun g1 => ?_)
 · skip
   refine TK (t := 6) rfl (congrArg Value.bool (decide_eq_true g1)) <| Op1.fieldAddr fld39_3 rfl <| TK (t := 6) rfl (congrArg Value.bool (decide_eq_true g1)) <| Op1.load1 (v := .slice _ _ _) ty37 rfl rfl (hst.cellL (.head _) rfl) <| TK (t := 6) rfl (congrArg Value.bool (decide_eq_true g1)) <| Op1.lenSl (rest := []) ty37 rfl <| TK (t := 6) rfl (congrArg Value.bool (decide_eq_true g1)) <| Op1.gtr rfl rfl <| CN <| Op1.pickT (u := .bool _) (congrArg Value.bool (decide_eq_true g1)) rfl <| MB rfl <| RunL.splitD (d := 12) rfl (fun g2 => ?_) (fun g2 => ?_)
   · skip
     refine TK (t := 12) rfl (congrArg Value.bool (decide_eq_true g2)) <| Op1.fieldAddr fld39_3 rfl <| TK (t := 12) rfl (congrArg Value.bool (decide_eq_true g2)) <| Op1.load1 (v := .slice _ _ _) ty37 rfl rfl (hst.cellL (.head _) rfl) <| TK (t := 12) rfl (congrArg Value.bool (decide_eq_true g2)) <| Op1.indexRs ty37 ty35 (hst.hD _ (.head _)) rfl rfl (by omega) (by omega) <| TK (t := 12) rfl (congrArg Value.bool (decide_eq_true g2)) <| Op1.fieldAddr fld35_1 rfl <| TK (t := 12) rfl (congrArg Value.bool (decide_eq_true g2)) <| Op1.load1 (v := .int .u32 _) ty22 rfl rfl (Res.rs2_cellF (hst.hD _ (.head _)) (flat_cell (g := argC) (d := zeroA) argC_len rfl (by omega))) <| TK (t := 12) rfl (congrArg Value.bool (decide_eq_true g2)) <| Op1.eql rfl rfl <| CN <| Op1.pickT (u := .bool _) (congrArg Value.bool (decide_eq_true g2)) rfl <| AB rfl <| NL <| run_ret1 Try.func62 rfl (TP (v := .bool _) rfl) ?_
     exact ⟨congrArg Value.bool (by first | (rw [decide_eq_decide]; exact ⟨fun h => ⟨by omega, by omega, h⟩, fun h => h.2.2⟩) | exact (decide_eq_false (fun h => by omega)).symm), hst.pure⟩
   refine OM (t := 12) rfl (congrArg Value.bool (decide_eq_false g2)) rfl <| OM (t := 12) rfl (congrArg Value.bool (decide_eq_false g2)) rfl <| OM (t := 12) rfl (congrArg Value.bool (decide_eq_false g2)) rfl <| OM (t := 12) rfl (congrArg Value.bool (decide_eq_false g2)) rfl <| OM (t := 12) rfl (congrArg Value.bool (decide_eq_false g2)) rfl <| OM (t := 12) rfl (congrArg Value.bool (decide_eq_false g2)) rfl <| CN <| Op1.pickF (u := .bool _) (congrArg Value.bool (decide_eq_false g2)) rfl <| AB rfl <| NL <| run_ret1 Try.func62 rfl (TP (v := .bool _) rfl) ?_
   exact ⟨congrArg Value.bool (by first | (rw [decide_eq_decide]; exact ⟨fun h => ⟨by omega, by omega, h⟩, fun h => h.2.2⟩) | exact (decide_eq_false (fun h => by omega)).symm), hst.pure⟩
 refine OM (t := 6) rfl (congrArg Value.bool (decide_eq_false g1)) rfl <| OM (t := 6) rfl (congrArg Value.bool (decide_eq_false g1)) rfl <| OM (t := 6) rfl (congrArg Value.bool (decide_eq_false g1)) rfl <| OM (t := 6) rfl (congrArg Value.bool (decide_eq_false g1)) rfl <| CN <| Op1.pickF (u := .bool _) (congrArg Value.bool (decide_eq_false g1)) rfl <| MB rfl <| OM (t := 12) rfl (congrArg Value.bool (rfl : false = _)) rfl <| OM (t := 12) rfl (congrArg Value.bool (rfl : false = _)) rfl <| OM (t := 12) rfl (congrArg Value.bool (rfl : false = _)) rfl <| OM (t := 12) rfl (congrArg Value.bool (rfl : false = _)) rfl <| OM (t := 12) rfl (congrArg Value.bool (rfl : false = _)) rfl <| OM (t := 12) rfl (congrArg Value.bool (rfl : false = _)) rfl <| CN <| Op1.pickF (u := .bool _) (congrArg Value.bool (rfl : false = _)) rfl <| AB rfl <| NL ?_
 refine run_ret1 Try.func62 rfl (TP (v := .bool _) rfl) ?_
 exact ⟨congrArg Value.bool (by first | (rw [decide_eq_decide]; exact ⟨fun h => ⟨by omega, by omega, h⟩, fun h => h.2.2⟩) | exact (decide_eq_false (fun h => by omega)).symm), hst.pure⟩
theorem R5ly_part (p : InstP) (h0 : 0 ≤ p.op) (w : World) (hA : (Res.rargs p).holds w) (hl : p.args.length ≤ 9000000000000000000) : Ret Try.prog 51 #[.agg #[.int .u16 p.op, .int .u32 p.ty, .int .u32 p.res, .slice p.ao p.args.length p.cap]] w (fun v w' => v = .int .u8 (ptF p.L) ∧ St w NoM [] [] w') := by
 refine Ret.enter (args := [.agg #[.int .u16 p.op, .int .u32 p.ty, .int .u32 p.res, .slice p.ao p.args.length p.cap]]) Try.func51 rfl rfl rfl ?_
 have hst : St w NoM [] [Res.rargs p] w := St.init_D hA
 clear hA
 obtain ⟨fm, hfm⟩ : ∃ fm, refD p.op = fm := ⟨_, rfl⟩
 obtain ⟨ob, hob⟩ : ∃ ob, (refS p.op).isSome = ob := ⟨_, rfl⟩
 refine SR <| CN <| Op1.box (v := .agg #[.int .u16 _, .int .u32 _, .int .u32 _, .slice _ _ _]) hst rfl rfl fun w b1 hst => AC rfl <| NL <| SQ <| SR <| CN <| Op1.loadA (vs := [.int .u16 _, .int .u32 _, .int .u32 _, .slice _ _ _]) ty39 rfl rfl rfl (cells_of_obj (n := 4) (hst.objL (.head _)) _ rfl) <| CN <| Op1.call1 (v1 := .agg #[.int .u16 _, .int .u32 _, .int .u32 _, .slice _ _ _]) ent62 rfl rfl <| Ret.det (R5ly_variable p _ (hst.hD _ (.head _)) hl) hst fun w hst => NL <| run_cond_split rfl (fun g1 => ?_) (fun g1 => ?_)
 · skip
   refine SR <| AC rfl <| NL <| run_ret1 Try.func51 rfl (TP (v := .int .u8 _) rfl) ?_
   exact ⟨congrArg (Value.int .u8) (by unfold ptF; rw [if_pos (of_decide_eq_true g1)]), hst.pure⟩
 refine run_skip <| SR <| CN <| Op1.fieldAddr fld39_0 rfl <| CN <| Op1.load1 (v := .int .u16 _) ty33 rfl rfl (hst.cellL (.head _) rfl) <| CN <| Op1.call1 (v1 := .int .u16 _) ent58 rfl rfl <| Ret.det (R5gr_Of2 h0 hfm hob _) hst fun w hst => CN <| Op1.move (v := .tuple #[.agg #[.int .u16 _, str _, .bool _, .bool _, str _, str _, .int .i64 _, .int .u8 _], .bool _]) rfl <| CN <| Op1.extract (v := .agg #[.int .u16 _, str _, .bool _, .bool _, str _, str _, .int .i64 _, .int .u8 _]) rfl rfl <| CN <| Op1.extract (v := .bool _) rfl rfl <| CN <| Op1.alloc hst ty74 fun w b3 hst => CN (SO (v := .agg #[.int .u16 _, str _, .bool _, .bool _, str _, str _, .int .i64 _, .int .u8 _]) hst ty74 rfl rfl (.here) fun w hst => ?_)
 refine AB rfl <| NSR <| CN <| Op1.fieldAddr fld74_7 rfl <| CN <| Op1.load1 (v := .int .u8 _) ty5 rfl rfl (hst.cellL (.head _) rfl) <| AC rfl <| NL <| run_ret1 Try.func51 rfl (TP (v := .int .u8 _) rfl) ?_
 exact ⟨congrArg (Value.int .u8) (by unfold ptF; rw [if_neg (of_decide_eq_false g1), hfm]), hst.pure⟩
theorem R5ly_may (m e : Int) (w : World) : Ret Try.prog 53 #[.int .u16 m, .int .u16 e] w (fun v w' => v = .bool (mayM m e) ∧ St w NoM [] [] w') := by
 refine Ret.enter (args := [.int .u16 m, .int .u16 e]) Try.func53 rfl rfl rfl ?_
 have hst := St.init w
 refine SR <| AB rfl <| NL <| SQ <| SR <| MH rfl <| NL <| run_block <| SR <| CN <| Op1.eql rfl rfl <| AB rfl <| NL ?_
 refine run_cond_dec rfl (fun g1 => ?_) (fun g1 => ?_)
 · skip
   refine SR <| MH rfl <| CN <| Op1.eql rfl rfl <| AB rfl <| NL <| run_ret1 Try.func53 rfl (TP (v := .bool _) rfl) ?_
   exact ⟨congrArg Value.bool (by unfold mayM; first | (rw [if_pos (by omega)]) | (rw [if_neg (by omega), if_pos (by omega)]) | (rw [if_neg (by omega), if_neg (by omega)]; first | exact (decide_eq_true (by omega)).symm | exact (decide_eq_false (by omega)).symm)), hst.pure⟩
 refine SR <| CN <| Op1.eql rfl rfl <| AB rfl <| NL <| run_cond_dec rfl (fun g2 => ?_) (fun g2 => ?_)
 · skip
   refine SR <| MH rfl <| CN <| Op1.eql rfl rfl <| AB rfl <| NL <| run_ret1 Try.func53 rfl (TP (v := .bool _) rfl) ?_
   exact ⟨congrArg Value.bool (by unfold mayM; first | (rw [if_pos (by omega)]) | (rw [if_neg (by omega), if_pos (by omega)]) | (rw [if_neg (by omega), if_neg (by omega)]; first | exact (decide_eq_true (by omega)).symm | exact (decide_eq_false (by omega)).symm)), hst.pure⟩
 refine SR <| CN <| Op1.eql rfl rfl <| AB rfl <| NL <| run_cond_dec rfl (fun g3 => ?_) (fun g3 => ?_)
 · skip
   refine SR <| AB rfl <| NL <| run_ret1 Try.func53 rfl (TP (v := .bool _) rfl) ?_
   exact ⟨congrArg Value.bool (by unfold mayM; first | (rw [if_pos (by omega)]) | (rw [if_neg (by omega), if_pos (by omega)]) | (rw [if_neg (by omega), if_neg (by omega)]; first | exact (decide_eq_true (by omega)).symm | exact (decide_eq_false (by omega)).symm)), hst.pure⟩
 refine run_skip <| run_inBlock <| SR <| AB rfl <| NL <| run_ret1 Try.func53 rfl (TP (v := .bool _) rfl) ?_
 exact ⟨congrArg Value.bool (by unfold mayM; first | (rw [if_pos (by omega)]) | (rw [if_neg (by omega), if_pos (by omega)]) | (rw [if_neg (by omega), if_neg (by omega)]; first | exact (decide_eq_true (by omega)).symm | exact (decide_eq_false (by omega)).symm)), hst.pure⟩
theorem R5ly_Ends (op : Int) (w : World) : Ret Try.prog 21 #[.int .u16 op] w (fun v w' => v = .bool (endsB op) ∧ St w NoM [] [] w') := by
 refine Ret.enter (args := [.int .u16 op]) Try.func21 rfl rfl rfl ?_
 have hst := St.init w
 refine SR <| AB rfl <| NSR <| MH rfl <| CN <| Op1.geq rfl rfl <| MB rfl <| RunL.splitD (d := 5) rfl (fun g1 => ?_) (fun g1 => ?_)
 · skip
   refine TK (t := 5) rfl (congrArg Value.bool (decide_eq_true g1)) <| Op1.move (v := .int .u16 _) rfl <| TK (t := 5) rfl (congrArg Value.bool (decide_eq_true g1)) <| Op1.leq rfl rfl <| CN <| Op1.pickT (u := .bool _) (congrArg Value.bool (decide_eq_true g1)) rfl <| AB rfl <| NL <| run_ret1 Try.func21 rfl (TP (v := .bool _) rfl) ?_
   exact ⟨congrArg Value.bool (by unfold endsB; first | (rw [decide_eq_decide]; omega) | exact (decide_eq_true (by omega)).symm | exact (decide_eq_false (by omega)).symm), hst.pure⟩
 refine OM (t := 5) rfl (congrArg Value.bool (decide_eq_false g1)) rfl <| OM (t := 5) rfl (congrArg Value.bool (decide_eq_false g1)) rfl <| CN <| Op1.pickF (u := .bool _) (congrArg Value.bool (decide_eq_false g1)) rfl <| AB rfl <| NL <| run_ret1 Try.func21 rfl (TP (v := .bool _) rfl) ?_
 exact ⟨congrArg Value.bool (by unfold endsB; first | (rw [decide_eq_decide]; omega) | exact (decide_eq_true (by omega)).symm | exact (decide_eq_false (by omega)).symm), hst.pure⟩
theorem R5ly_kind (p : InstP) (h0 : 0 ≤ p.op) (w : World) (hA : (Res.rargs p).holds w) (hl : p.args.length ≤ 9000000000000000000) : Ret Try.prog 52 #[.agg #[.int .u16 p.op, .int .u32 p.ty, .int .u32 p.res, .slice p.ao p.args.length p.cap]] w (fun v w' => v = .int .i64 (kdF p.L) ∧ St w NoM [] [] w') := by
 refine Ret.enter (args := [.agg #[.int .u16 p.op, .int .u32 p.ty, .int .u32 p.res, .slice p.ao p.args.length p.cap]]) Try.func52 rfl rfl rfl ?_
 have hst : St w NoM [] [Res.rargs p] w := St.init_D hA
 clear hA
 refine SR <| CN <| Op1.box (v := .agg #[.int .u16 _, .int .u32 _, .int .u32 _, .slice _ _ _]) hst rfl rfl fun w b1 hst => AI rfl <| NL <| SQ <| SR <| CN <| Op1.loadA (vs := [.int .u16 _, .int .u32 _, .int .u32 _, .slice _ _ _]) ty39 rfl rfl rfl (cells_of_obj (n := 4) (hst.objL (.head _)) _ rfl) <| CN <| Op1.call1 (v1 := .agg #[.int .u16 _, .int .u32 _, .int .u32 _, .slice _ _ _]) ent51 rfl rfl <| Ret.det (R5ly_part p h0 _ (hst.hD _ (.head _)) hl) hst fun w hst => CN <| Op1.neq rfl rfl <| NL <| run_cond_dec rfl (fun g1 => ?_) (fun g1 => ?_)
 · skip
   refine SR <| AI rfl <| NL <| run_ret1 Try.func52 rfl (TP (v := .int .i64 _) rfl) ?_
   exact ⟨congrArg (Value.int .i64) (kd_above g1).symm, hst.pure⟩
 refine run_skip <| SQ <| SR <| CN <| Op1.fieldAddr fld39_0 rfl <| CN <| Op1.load1 (v := .int .u16 _) ty33 rfl rfl (hst.cellL (.head _) rfl) <| NL <| run_block <| SQ <| run_block <| run_block <| SQ <| run_block <| SQ <| run_block ?_
 refine SQ <| run_block <| SQ <| run_block <| SQ <| run_block <| SQ <| run_block <| SQ <| SQ <| SR <| CN <| Op1.eql rfl rfl <| AB rfl <| NL ?_
 refine run_cond_dec rfl (fun g2 => ?_) (fun g2 => ?_)
 · skip
   refine run_exit (id := 1) rfl <| SQ <| SR <| AI rfl <| NL <| run_ret1 Try.func52 rfl (TP (v := .int .i64 _) rfl) ?_
   exact ⟨congrArg (Value.int .i64) (by have hk := kd_op (i := p.L) (Classical.not_not.1 g1); have ho : p.L.op = p.op := rfl; rw [hk, ho]; first | (rw [if_pos (by assumption)]) | skip; repeat (first | (rw [if_neg (by assumption)]) | (rw [if_pos (by assumption)]) | (rw [if_pos (by omega)]) | (rw [if_neg (by omega)]) | (rw [if_neg (by simp_all)]))), hst.pure⟩
 refine run_skip <| SQ <| SR <| CN <| Op1.eql rfl rfl <| AB rfl <| NL <| run_cond_dec rfl (fun g3 => ?_) (fun g3 => ?_)
 · skip
   refine run_exit (id := 2) rfl <| SQ <| SR <| AI rfl <| NL <| run_ret1 Try.func52 rfl (TP (v := .int .i64 _) rfl) ?_
   exact ⟨congrArg (Value.int .i64) (by have hk := kd_op (i := p.L) (Classical.not_not.1 g1); have ho : p.L.op = p.op := rfl; rw [hk, ho]; first | (rw [if_pos (by assumption)]) | skip; repeat (first | (rw [if_neg (by assumption)]) | (rw [if_pos (by assumption)]) | (rw [if_pos (by omega)]) | (rw [if_neg (by omega)]) | (rw [if_neg (by simp_all)]))), hst.pure⟩
 refine run_skip <| SQ <| SR <| CN <| Op1.eql rfl rfl <| AB rfl <| NL <| run_cond_dec rfl (fun g4 => ?_) (fun g4 => ?_)
 · skip
   refine run_exit (id := 3) rfl <| SQ <| SR <| AI rfl <| NL <| run_ret1 Try.func52 rfl (TP (v := .int .i64 _) rfl) ?_
   exact ⟨congrArg (Value.int .i64) (by have hk := kd_op (i := p.L) (Classical.not_not.1 g1); have ho : p.L.op = p.op := rfl; rw [hk, ho]; first | (rw [if_pos (by assumption)]) | skip; repeat (first | (rw [if_neg (by assumption)]) | (rw [if_pos (by assumption)]) | (rw [if_pos (by omega)]) | (rw [if_neg (by omega)]) | (rw [if_neg (by simp_all)]))), hst.pure⟩
 refine run_skip <| SQ <| SR <| CN <| Op1.eql rfl rfl <| AB rfl <| NL <| run_cond_dec rfl (fun g5 => ?_) (fun g5 => ?_)
 · skip
   refine run_exit (id := 4) rfl <| SQ <| SR <| AI rfl <| NL <| run_ret1 Try.func52 rfl (TP (v := .int .i64 _) rfl) ?_
   exact ⟨congrArg (Value.int .i64) (by have hk := kd_op (i := p.L) (Classical.not_not.1 g1); have ho : p.L.op = p.op := rfl; rw [hk, ho]; first | (rw [if_pos (by assumption)]) | skip; repeat (first | (rw [if_neg (by assumption)]) | (rw [if_pos (by assumption)]) | (rw [if_pos (by omega)]) | (rw [if_neg (by omega)]) | (rw [if_neg (by simp_all)]))), hst.pure⟩
 refine run_skip <| SQ <| SR <| CN <| Op1.eql rfl rfl <| AB rfl <| NL <| run_cond_dec rfl (fun g6 => ?_) (fun g6 => ?_)
 · skip
   refine run_exit (id := 5) rfl <| SQ <| SR <| AI rfl <| NL <| run_ret1 Try.func52 rfl (TP (v := .int .i64 _) rfl) ?_
   exact ⟨congrArg (Value.int .i64) (by have hk := kd_op (i := p.L) (Classical.not_not.1 g1); have ho : p.L.op = p.op := rfl; rw [hk, ho]; first | (rw [if_pos (by assumption)]) | skip; repeat (first | (rw [if_neg (by assumption)]) | (rw [if_pos (by assumption)]) | (rw [if_pos (by omega)]) | (rw [if_neg (by omega)]) | (rw [if_neg (by simp_all)]))), hst.pure⟩
 refine run_skip <| SQ <| SR <| CN <| Op1.eql rfl rfl <| AB rfl <| NL <| Run.forget [(1, .pointer (some ⟨_, _, none⟩)), (7, .int .u16 _), (18, .bool _)] ⟨rfl, rfl, rfl, trivial⟩ fun f => run_cond_dec rfl (fun g7 => ?_) (fun g7 => ?_)
 · skip
   refine run_exit (id := 6) rfl <| SQ <| SR <| AI rfl <| NL <| run_ret1 Try.func52 rfl (TP (v := .int .i64 _) rfl) ?_
   exact ⟨congrArg (Value.int .i64) (by have hk := kd_op (i := p.L) (Classical.not_not.1 g1); have ho : p.L.op = p.op := rfl; rw [hk, ho]; first | (rw [if_pos (by assumption)]) | skip; repeat (first | (rw [if_neg (by assumption)]) | (rw [if_pos (by assumption)]) | (rw [if_pos (by omega)]) | (rw [if_neg (by omega)]) | (rw [if_neg (by simp_all)]))), hst.pure⟩
 refine run_skip <| SQ <| SR <| CN <| Op1.eql rfl rfl <| AB rfl <| NL <| run_cond_dec rfl (fun g8 => ?_) (fun g8 => ?_)
 · skip
   refine run_exit (id := 7) rfl <| run_inBlock <| SQ <| SR <| AI rfl <| NL <| run_ret1 Try.func52 rfl (TP (v := .int .i64 _) rfl) ?_
   exact ⟨congrArg (Value.int .i64) (by have hk := kd_op (i := p.L) (Classical.not_not.1 g1); have ho : p.L.op = p.op := rfl; rw [hk, ho]; first | (rw [if_pos (by assumption)]) | skip; repeat (first | (rw [if_neg (by assumption)]) | (rw [if_pos (by assumption)]) | (rw [if_pos (by omega)]) | (rw [if_neg (by omega)]) | (rw [if_neg (by simp_all)]))), hst.pure⟩
 refine run_skip <| SR <| CN <| Op1.eql rfl rfl <| AB rfl <| NL <| run_cond_dec rfl (fun g9 => ?_) (fun g9 => ?_)
 · skip
   refine run_exit (id := 8) rfl <| SQ <| SR <| AI rfl <| NL <| run_ret1 Try.func52 rfl (TP (v := .int .i64 _) rfl) ?_
   exact ⟨congrArg (Value.int .i64) (by have hk := kd_op (i := p.L) (Classical.not_not.1 g1); have ho : p.L.op = p.op := rfl; rw [hk, ho]; first | (rw [if_pos (by assumption)]) | skip; repeat (first | (rw [if_neg (by assumption)]) | (rw [if_pos (by assumption)]) | (rw [if_pos (by omega)]) | (rw [if_neg (by omega)]) | (rw [if_neg (by simp_all)]))), hst.pure⟩
 refine run_skip <| run_exit (id := 0) rfl <| SQ <| SR <| CN <| Op1.fieldAddr fld39_0 rfl <| CN <| Op1.load1 (v := .int .u16 _) ty33 rfl rfl (hst.cellL (.head _) rfl) <| CN <| Op1.call1 (v1 := .int .u16 _) ent21 rfl rfl <| Ret.det (R5ly_Ends _ _) hst fun w hst => NL <| run_cond_split rfl (fun g10 => ?_) (fun g10 => ?_)
 · skip
   refine SR <| AI rfl <| NL <| run_ret1 Try.func52 rfl (TP (v := .int .i64 _) rfl) ?_
   exact ⟨congrArg (Value.int .i64) (by have hk := kd_op (i := p.L) (Classical.not_not.1 g1); have ho : p.L.op = p.op := rfl; rw [hk, ho]; first | (rw [if_pos (by assumption)]) | skip; repeat (first | (rw [if_neg (by assumption)]) | (rw [if_pos (by assumption)]) | (rw [if_pos (by omega)]) | (rw [if_neg (by omega)]) | (rw [if_neg (by simp_all)]))), hst.pure⟩
 refine run_skip <| SR <| AI rfl <| NL <| run_ret1 Try.func52 rfl (TP (v := .int .i64 _) rfl) ?_
 exact ⟨congrArg (Value.int .i64) (by have hk := kd_op (i := p.L) (Classical.not_not.1 g1); have ho : p.L.op = p.op := rfl; rw [hk, ho]; first | (rw [if_pos (by assumption)]) | skip; repeat (first | (rw [if_neg (by assumption)]) | (rw [if_pos (by assumption)]) | (rw [if_pos (by omega)]) | (rw [if_neg (by omega)]) | (rw [if_neg (by simp_all)]))), hst.pure⟩
end Go.SK
namespace Go.SK
open Go Go.Proofs
theorem fld69_1 : FldF Try.prog 69 1 1 := FldF.of (n := 0) (by kernel_rfl)
theorem fld69_0 : FldF Try.prog 69 0 0 := FldF.of (n := 0) (by kernel_rfl)
theorem ent52 : Enters Try.prog 52 := ⟨Try.f52, _, Try.func52, by kernel_rfl, rfl⟩
theorem ent40 : Enters Try.prog 40 := ⟨Try.f40, _, Try.func40, by kernel_rfl, rfl⟩
theorem ty51 : TyF Try.prog 51 (.slice 3) 1 24 [.slice none 0 0] := TyF.of (by kernel_rfl) (by kernel_rfl)
end Go.SK
namespace Go.SK
open Go Go.Proofs
open Go.RowKit
theorem R5ly_next (bq : Nat) (l : List InstP) (ao : Option Addr) (cp : Nat) (k : Nat) (tail : List Value) (w : World) (hA : (CutR 69 bq ao l.length cp k tail).holds w) (hB : (Res.rmod ao l).holds w) (hk : k ≤ l.length) (hl : l.length ≤ 3000000000000) (hla : ∀ i ∈ l, i.args.length ≤ 9000000000000000000) (hop : ∀ i ∈ l, 0 ≤ i.op) : Ret Try.prog 40 #[.pointer (some ⟨bq, 0, none⟩)] w (fun v w' => v = .int .i64 (nxF (l.map InstP.L) k) ∧ St w NoM [] [] w') := by
 refine Ret.enter (args := [.pointer (some ⟨bq, 0, none⟩)]) Try.func40 rfl rfl rfl ?_
 have hst : St w NoM [] [CutR 69 bq ao l.length cp k tail, Res.rmod ao l] w := St.init_Ds (fun d hd => by cases hd with | head => exact hA | tail _ hd => cases hd with | head => exact hB | tail _ h => cases h)
 clear hA hB
 refine SR <| AI rfl <| NL <| SQ <| SQ <| RunD.start [] hst (bs := [0, 1, 3, 7, 0, 16, 48, 112, 240, 511]) (ds := [some 3, some 4, some 5, some 6, some 7, some 8, some 9, some 10, some 11, some 12]) ⟨by kernel_rfl, by kernel_rfl, by kernel_rfl⟩ (fun tab1 => ?_)
 refine RunD.op (det _) tab1 1 (fun f' L' w' hc => Op1.move (v := .pointer (some ⟨_, _, none⟩)) (hc.old (v := .pointer (some ⟨_, _, none⟩)) rfl rfl rfl) ⟨[], ⟨rfl, rfl⟩, hc.st⟩) <| RunD.op (det _) tab1 2 (fun f' L' w' hc => Op1.nilCheckP (hc.det (j := 0) rfl rfl rfl rfl) ⟨[], ⟨rfl, rfl⟩, hc.st⟩) <| RunD.op (det _) tab1 3 (fun f' L' w' hc => Op1.fieldAddr fld69_1 (hc.det (j := 1) rfl rfl rfl rfl) ⟨[], ⟨rfl, rfl⟩, hc.st⟩) <| RunD.op (det _) tab1 4 (fun f' L' w' hc => Op1.load1 (v := .int .i64 _) ty3 rfl (hc.det (j := 2) rfl rfl rfl rfl) (hc.st.cellD (.head _) rfl) ⟨[], ⟨rfl, rfl⟩, hc.st⟩) <| RunD.op (det _) tab1 5 (fun f' L' w' hc => Op1.move (v := .pointer (some ⟨_, _, none⟩)) (hc.old (v := .pointer (some ⟨_, _, none⟩)) rfl rfl rfl) ⟨[], ⟨rfl, rfl⟩, hc.st⟩) <| RunD.op (det _) tab1 6 (fun f' L' w' hc => Op1.nilCheckP (hc.det (j := 4) rfl rfl rfl rfl) ⟨[], ⟨rfl, rfl⟩, hc.st⟩) <| RunD.op (det _) tab1 7 (fun f' L' w' hc => Op1.fieldAddr fld69_0 (hc.det (j := 5) rfl rfl rfl rfl) ⟨[], ⟨rfl, rfl⟩, hc.st⟩) <| RunD.op (det _) tab1 8 (fun f' L' w' hc => Op1.load1 (v := .slice _ _ _) ty23 rfl (hc.det (j := 6) rfl rfl rfl rfl) (hc.st.cellD (.head _) rfl) ⟨[], ⟨rfl, rfl⟩, hc.st⟩) <| RunD.op (det _) tab1 9 (fun f' L' w' hc => Op1.lenSl (rest := []) ty23 (hc.det (j := 7) rfl rfl rfl rfl) ⟨[], ⟨rfl, rfl⟩, hc.st⟩) <| RunD.fin followsMixed tab1 hst rfl (fun f2 w R5 hs3 hd4 hr6 hst => ?_)
 obtain ⟨h3_, r0⟩ := hd4 0 3 rfl rfl
 obtain ⟨h4_, r1⟩ := hd4 1 4 rfl rfl
 obtain ⟨h5_, r2⟩ := hd4 2 5 rfl rfl
 obtain ⟨h6_, r3⟩ := hd4 3 6 rfl rfl
 obtain ⟨h7_, r4⟩ := hd4 4 7 rfl rfl
 obtain ⟨h8_, r5⟩ := hd4 5 8 rfl rfl
 obtain ⟨h9_, r6⟩ := hd4 6 9 rfl rfl
 obtain ⟨h10_, r7⟩ := hd4 7 10 rfl rfl
 obtain ⟨h11_, r8⟩ := hd4 8 11 rfl rfl
 simp only [show List.range 9 = [0, 1, 2, 3, 4, 5, 6, 7, 8] from rfl, List.flatMap_cons, List.flatMap_nil, List.map_cons, List.map_nil, r0, r1, r2, r3, r4, r5, r6, r7, r8, List.nil_append, List.append_nil, List.cons_append] at hst
 refine RunL.slots (sl := [(0, .pointer (some ⟨_, _, none⟩)), (6, .int .i64 _), (11, .int .i64 _)]) ⟨(hs3 0 rfl).trans rfl, h6_, h11_, trivial⟩ ?_
 clear hs3 hd4 hr6 tab1
 refine CN <| Op1.eql rfl rfl <| NL <| run_cond_dec rfl (fun g7 => ?_) (fun g7 => ?_)
 · skip
   refine SR <| AI rfl <| NL <| run_ret1 Try.func40 rfl (TP (v := .int .i64 _) rfl) ?_
   exact ⟨congrArg (Value.int .i64) (nx_out (by omega)).symm, hst.pure⟩
 refine run_skip <| SQ <| RunD.start [] hst (bs := [0, 1, 3, 7, 0, 16, 48, 112, 255, 511, 1023, 2047]) (ds := [some 13, some 14, some 15, some 16, some 17, some 18, some 19, some 20, some 21, some 22, some 23, some 2]) ⟨by kernel_rfl, by kernel_rfl, by kernel_rfl⟩ (fun tab8 => ?_)
 refine RunD.op (det _) tab8 1 (fun f' L' w' hc => Op1.move (v := .pointer (some ⟨_, _, none⟩)) (hc.old (v := .pointer (some ⟨_, _, none⟩)) rfl rfl rfl) ⟨[], ⟨rfl, rfl⟩, hc.st⟩) <| RunD.op (det _) tab8 2 (fun f' L' w' hc => Op1.nilCheckP (hc.det (j := 0) rfl rfl rfl rfl) ⟨[], ⟨rfl, rfl⟩, hc.st⟩) <| RunD.op (det _) tab8 3 (fun f' L' w' hc => Op1.fieldAddr fld69_0 (hc.det (j := 1) rfl rfl rfl rfl) ⟨[], ⟨rfl, rfl⟩, hc.st⟩) <| RunD.op (det _) tab8 4 (fun f' L' w' hc => Op1.load1 (v := .slice _ _ _) ty23 rfl (hc.det (j := 2) rfl rfl rfl rfl) (hc.st.cellD (.head _) rfl) ⟨[], ⟨rfl, rfl⟩, hc.st⟩) <| RunD.op (det _) tab8 5 (fun f' L' w' hc => Op1.move (v := .pointer (some ⟨_, _, none⟩)) (hc.old (v := .pointer (some ⟨_, _, none⟩)) rfl rfl rfl) ⟨[], ⟨rfl, rfl⟩, hc.st⟩) <| RunD.op (det _) tab8 6 (fun f' L' w' hc => Op1.nilCheckP (hc.det (j := 4) rfl rfl rfl rfl) ⟨[], ⟨rfl, rfl⟩, hc.st⟩) <| RunD.op (det _) tab8 7 (fun f' L' w' hc => Op1.fieldAddr fld69_1 (hc.det (j := 5) rfl rfl rfl rfl) ⟨[], ⟨rfl, rfl⟩, hc.st⟩) <| RunD.op (det _) tab8 8 (fun f' L' w' hc => Op1.load1 (v := .int .i64 _) ty3 rfl (hc.det (j := 6) rfl rfl rfl rfl) (hc.st.cellD (.head _) rfl) ⟨[], ⟨rfl, rfl⟩, hc.st⟩) <| RunD.fin followsMixed tab8 hst rfl (fun f9 w R12 hs10 hd11 hr13 hst => ?_)
 obtain ⟨h13_, r0⟩ := hd11 0 13 rfl rfl
 obtain ⟨h14_, r1⟩ := hd11 1 14 rfl rfl
 obtain ⟨h15_, r2⟩ := hd11 2 15 rfl rfl
 obtain ⟨h16_, r3⟩ := hd11 3 16 rfl rfl
 obtain ⟨h17_, r4⟩ := hd11 4 17 rfl rfl
 obtain ⟨h18_, r5⟩ := hd11 5 18 rfl rfl
 obtain ⟨h19_, r6⟩ := hd11 6 19 rfl rfl
 obtain ⟨h20_, r7⟩ := hd11 7 20 rfl rfl
 simp only [show List.range 8 = [0, 1, 2, 3, 4, 5, 6, 7] from rfl, List.flatMap_cons, List.flatMap_nil, List.map_cons, List.map_nil, r0, r1, r2, r3, r4, r5, r6, r7, List.nil_append, List.append_nil, List.cons_append] at hst
 refine RunL.slots (sl := [(16, .slice _ _ _), (20, .int .i64 _)]) ⟨h16_, h20_, trivial⟩ ?_
 clear hs10 hd11 hr13 tab8
 refine CN <| Op1.indexRs ty23 ty39 (Res.rmod_insts (hst.hD _ (.tail _ (.head _)))) rfl rfl (by omega) (by omega) <| CN <| Op1.loadA (vs := [.int .u16 _, .int .u32 _, .int .u32 _, .slice _ _ _]) ty39 rfl rfl rfl (Res.rs2_cells (m := 4) (Res.rmod_insts (hst.hD _ (.tail _ (.head _)))) _ (flat_seg (g := instC) (d := zeroI) instC_len _ _ (by omega))) <| CN <| Op1.call1 (v1 := .agg #[.int .u16 _, .int .u32 _, .int .u32 _, .slice _ _ _]) ent52 rfl rfl <| Ret.det (R5ly_kind (l.getD k zeroI) (hop _ (getD_memD (by omega))) _ (Res.rmod_argsI (hst.hD _ (.tail _ (.head _))) (i := k) (by omega)) (hla _ (getD_memD (by omega)))) hst fun w hst => AI rfl <| NL <| run_ret1 Try.func40 rfl (TP (v := .int .i64 _) rfl) ?_
 exact ⟨congrArg (Value.int .i64) (nx_map (by omega)).symm, hst.pure⟩
theorem R5ly_row (bq : Nat) (l : List InstP) (ao : Option Addr) (cp : Nat) (k : Nat) (tail : List Value) (kd : Int) (hkd : kd ≠ -1) (w : World) (hR : (CutR 69 bq ao l.length cp k tail).holds w) (hA : (Res.rmod ao l).holds w) (hap : Apart (CutR 69 bq ao l.length cp k tail) (Res.rmod ao l)) (hk : k ≤ l.length) (hl : l.length ≤ 3000000000000) (hla : ∀ i ∈ l, i.args.length ≤ 9000000000000000000) (hop : ∀ i ∈ l, 0 ≤ i.op) : Ret Try.prog 41 #[.pointer (some ⟨bq, 0, none⟩), .int .i64 kd] w (fun v w' => ∃ ro rc, v = .slice ro (places k (runN (l.map InstP.L) kd k)).length rc ∧ St w (CutR 69 bq ao l.length cp k tail).foot [CutR 69 bq ao l.length cp (k + runN (l.map InstP.L) kd k) tail, Res.sl ro (places k (runN (l.map InstP.L) kd k)).length rc 3 1 ((places k (runN (l.map InstP.L) kd k)).flatMap intC)] [] w') := by
 refine Ret.enter (args := [.pointer (some ⟨bq, 0, none⟩), .int .i64 kd]) Try.func41 rfl rfl rfl ?_
 have hst : St w (CutR 69 bq ao l.length cp k tail).foot [CutR 69 bq ao l.length cp k tail] [Res.rmod ao l] w := St.enter1 hR (fun d hd => by cases hd with | head => exact hA | tail _ h => cases h) (fun d hd => by cases hd with | head => exact hap | tail _ h => cases h)
 have hL : (l.map InstP.L).length = l.length := List.length_map _
 have hrl := run_le (l := (l.map InstP.L)) (kd := kd) (k := k) (by omega)
 refine SR <| AL rfl <| NSR <| AL rfl <| NL <| SQ <| run_block <| run_loop ?_
 replace hst := hst.pushNil 3 1
 refine Run.indW [(0, .pointer (some ⟨_, _, none⟩)), (1, .int .i64 _)] ⟨rfl, rfl, trivial⟩ (fun (q : Nat × Option Addr × Nat) => [(5, .slice q.2.1 (places k q.1).length q.2.2)]) (fun (q : Nat × Option Addr × Nat) => [Res.sl q.2.1 (places k q.1).length q.2.2 3 1 ((places k q.1).flatMap intC), CutR 69 bq ao l.length cp (k + q.1) tail]) (fun (q : Nat × Option Addr × Nat) => q.1 ≤ runN (l.map InstP.L) kd k) (fun (q : Nat × Option Addr × Nat) => runN (l.map InstP.L) kd k - q.1) ((0, none, 0)) hst (Nat.zero_le _) ⟨rfl, trivial⟩ ?_
 intro ⟨n, aq, cq⟩ f w hst hJ ih1
 replace hst : St _ _ ([Res.sl aq (places k n).length cq 3 1 ((places k n).flatMap intC), CutR 69 bq ao l.length cp (k + n) tail] ++ []) _ _ := hst
 replace hJ : n ≤ runN (l.map InstP.L) kd k := hJ
 refine Run.slots (sl := [(5, .slice aq (places k n).length cq)]) ⟨rfl, trivial⟩ <| SQ <| SR <| MP rfl <| CN <| Op1.call1 (v1 := .pointer (some ⟨_, _, none⟩)) ent40 rfl rfl <| Ret.det (R5ly_next bq l ao cp (k + n) tail _ (hst.hL _ (.tail _ (.head _))) (hst.hD _ (.head _)) (by omega) hl hla hop) hst fun w hst => MI rfl <| CN <| Op1.eql rfl rfl <| NL <| run_cond_dec rfl (fun g2 => ?_) (fun g2 => ?_)
 · skip
   have hlt := (run_next hkd (by omega) hJ).1 g2
   have hpl := places_len k n
   refine run_skip <| run_block <| SR <| ML rfl <| MP rfl <| CN <| Op1.nilCheckP rfl <| CN <| Op1.fieldAddr fld69_1 rfl <| CN <| Op1.load1 (v := .int .i64 _) ty3 rfl rfl (hst.cellL (.tail _ (.head _)) rfl) <| CN (Op1.buildSl (z0 := [.int .i64 0]) hst ty51 ty3 rfl rfl (by kernel_rfl) (.c (v := .int .i64 _) rfl (h := .nil)) fun w b15 hst => ?_)
   refine CN (Op1.append (news := [.int .i64 _]) hst ty51 ty3 rfl rfl (.there (.here)) rfl rfl rfl (cells_of_obj (n := 1) (hst.objL (.head _)) _ rfl) rfl rfl (by omega) fun w ao3 cp4 hst => ?_)
   replace hst := hst.drop (.there (.here))
   refine AL rfl <| NR <| MP rfl <| CN <| Op1.nilCheckP rfl <| CN <| Op1.fieldAddr fld69_1 rfl <| CN <| Op1.load1 (v := .int .i64 _) ty3 rfl rfl (hst.cellL (.tail _ (.head _)) rfl) <| CN <| Op1.addN rfl rfl rfl (wrap_i64 (by omega) (by omega)) <| CN <| Op1.nilCheckP rfl <| CN <| Op1.fieldAddr fld69_1 rfl <| CN (SO (v := .int .i64 _) hst ty3 rfl rfl (.there (.here)) fun w hst => ?_)
   refine NL <| run_inBlock <| run_inLoop ?_
   exact ih1 ((n + 1, ao3, cp4)) _ w (by (try dsimp only); omega) (by (try dsimp only); rw [places_snoc, List.length_append, List.flatMap_append]; exact hst) (by (try dsimp only); omega) ⟨rfl, rfl, trivial⟩ ⟨(congrArg (fun n => Value.slice _ n _) (by (try dsimp only); rw [places_snoc, List.length_append]; rfl)), trivial⟩
 obtain rfl : runN (l.map InstP.L) kd k = n := by have h := (not_congr (run_next hkd (by omega) hJ)).1 g2; omega
 refine run_exit (id := 0) rfl <| SR <| ML rfl <| AL rfl <| NL <| run_ret1 Try.func41 rfl (TP (v := .slice _ _ _) rfl) ?_
 replace hst := hst.pick (.cons (.there (.here)) (.cons (.here) .nil))
 exact ⟨_, _, rfl, hst.noD⟩
end Go.SK
namespace Go.SK
open Go Go.Proofs
theorem ty41 : TyF Try.prog 41 (.struct (fieldsOf Try.prog 41)) 2 16 [.int .i64 0, .int .i64 0] := TyF.of (by kernel_rfl) (by kernel_rfl)
theorem stf41 : StructF Try.prog 41 [(0, 1), (1, 1)] := ⟨fieldsOf Try.prog 41, by kernel_rfl, fun w => by kernel_rfl⟩
theorem fld69_2 : FldF Try.prog 69 2 2 := FldF.of (n := 19) (by kernel_rfl)
theorem ty42 : TyF Try.prog 42 (.array 10 41) 20 160 [.int .i64 0, .int .i64 0, .int .i64 0, .int .i64 0, .int .i64 0, .int .i64 0, .int .i64 0, .int .i64 0, .int .i64 0, .int .i64 0, .int .i64 0, .int .i64 0, .int .i64 0, .int .i64 0, .int .i64 0, .int .i64 0, .int .i64 0, .int .i64 0, .int .i64 0, .int .i64 0] := TyF.of (by kernel_rfl) (by kernel_rfl)
end Go.SK
