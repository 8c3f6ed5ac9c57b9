/-
  Steps of functions, plain law, and walks of functions: what the laws rest on.
-/
import Derived.Test.YtglmmdpeenckbaaGreatDoorSkG0d
set_option linter.unusedVariables false
set_option linter.unusedSimpArgs false
set_option linter.unusedSectionVars false
namespace Go.SK
open Go Go.Proofs
open Go.RowKit
theorem R7gr_Fits (op : Int) (h0 : 0 ≤ op) (ks : List Int) (ao : Option Addr) (cp : Nat) (w : World) (hA : (Res.rs ao ks.length 1 (ks.flatMap u8C)).holds w) (hlen : ks.length ≤ 9000000000000000000) : Ret Tryz.prog 133 #[.int .u16 op, .slice ao ks.length cp] w (fun v w' => v = fitsV (fitsS op ks) ∧ St w NoM [] [] w') := by
 refine Ret.enter (args := [.int .u16 op, .slice ao ks.length cp]) Tryz.func133 rfl rfl rfl ?_
 have hst : St w NoM [] [Res.rs ao ks.length 1 (ks.flatMap u8C)] w := St.init_D hA
 clear hA
 obtain ⟨fm, hfm⟩ : ∃ x, refD op = x := ⟨_, rfl⟩
 obtain ⟨ob, hob⟩ : ∃ x, (refS op).isSome = x := ⟨_, rfl⟩
 have hf := refD_fok op
 rw [hfm] at hf
 have hz : ob = false → fm = zeroF := fun e => by subst e; rw [← hfm]; exact refD_none hob
 obtain ⟨hop, hmost, hfx, hrs, _, _, _, _⟩ := hf
 refine SR <| AI rfl <| AB rfl <| NSR <| MH rfl <| CN <| Op1.call1 (v1 := .int .u16 _) ent75 rfl rfl <| Ret.det (R7gr_Of2 (by omega) hfm hob _) hst fun w hst => CN <| Op1.move (v := .tuple #[.agg #[.int .u16 _, str _, .bool _, .bool _, str _, str _, .int .i64 _, .int .u8 _], .bool _]) rfl <| CN <| Op1.extract (v := .agg #[.int .u16 _, str _, .bool _, .bool _, str _, str _, .int .i64 _, .int .u8 _]) rfl rfl <| CN <| Op1.extract (v := .bool _) rfl rfl <| CN <| Op1.alloc hst ty113 fun w b6 hst => CN (SO (v := .agg #[.int .u16 _, str _, .bool _, .bool _, str _, str _, .int .i64 _, .int .u8 _]) hst ty113 rfl rfl (.here) fun w hst => ?_)
 refine AB rfl <| NL <| SQ <| SR <| MB rfl <| CN <| Op1.not rfl <| NL <| run_cond_split rfl (fun g1 => ?_) (fun g1 => ?_)
 · skip
   refine SR <| AI rfl <| AB rfl <| NL <| run_ret2 Tryz.func133 rfl (TP (v := .int .i64 _) rfl) (TP (v := .bool _) rfl) ?_
   exact ⟨(congrArg fitsV (fits_no hob (by simpa using g1))).symm, hst.pure⟩
 refine run_skip <| SR <| CN <| Op1.loadA (vs := [.int .u16 _, str _, .bool _, .bool _, str _, str _, .int .i64 _, .int .u8 _]) ty113 rfl rfl rfl (cells_of_obj (n := 8) (hst.objL (.head _)) _ rfl) <| CN (Op1.buildStruct ty244 stf244 (.c (v := .agg #[.int .u16 _, str _, .bool _, .bool _, str _, str _, .int .i64 _, .int .u8 _]) rfl (h := .nil)) ?_)
 refine CN <| Op1.alloc hst ty244 fun w b8 hst => CN (SO (v := .agg #[.int .u16 _, str _, .bool _, .bool _, str _, str _, .int .i64 _, .int .u8 _]) hst ty244 rfl rfl (.here) fun w hst => ?_)
 refine NL <| SQ <| SR <| ML rfl <| CN <| Op1.lenSl (rest := []) ty38 rfl <| MI rfl <| NL <| run_block <| run_loop <| Run.indW [(1, .slice _ _ _), (8, .pointer (some ⟨_, _, none⟩)), (21, .slice _ _ _), (22, .int .i64 _)] ⟨rfl, rfl, rfl, rfl, trivial⟩ (fun (i : Nat) => [(23, .int .i64 (i : Int))]) (fun (i : Nat) => []) (fun (i : Nat) => i ≤ ks.length ∧ badI fm i (ks.drop i) = badI fm 0 ks) (fun (i : Nat) => ks.length - i) (0) hst ⟨Nat.zero_le _, rfl⟩ ⟨rfl, trivial⟩ ?_
 intro i f w hst hJ ih2
 refine SR <| CN <| Op1.lss rfl rfl <| NL <| SQ <| run_cond_dec rfl (fun g3 => ?_) (fun g3 => ?_)
 · skip
   refine run_skip <| SQ <| run_block <| SR <| MI rfl ?_
   obtain ⟨bs4, os5, rfl⟩ := Res.rs_some (hst.hD _ (.head _)) (by omega)
   refine CN <| Op1.indexSl ty38 ty5 rfl rfl (by omega) (by omega) <| CN <| Op1.load1 (v := .int .u8 _) ty5 rfl rfl (Res.rs_cell (hst.hD _ (.head _)) (flat_cell0 (g := u8C) (d := 0) u8C_len rfl (by omega))) <| AI rfl <| AC rfl <| NSR <| MC rfl <| CN <| Op1.eql rfl rfl <| MB rfl <| RunL.splitD (d := 30) rfl (fun g6 => ?_) (fun g6 => ?_)
   · skip
     refine OM (t := 30) rfl (congrArg Value.bool (decide_eq_true g6)) rfl <| OM (t := 30) rfl (congrArg Value.bool (decide_eq_true g6)) rfl <| OM (t := 30) rfl (congrArg Value.bool (decide_eq_true g6)) rfl <| OM (t := 30) rfl (congrArg Value.bool (decide_eq_true g6)) rfl <| OM (t := 30) rfl (congrArg Value.bool (decide_eq_true g6)) rfl <| OM (t := 30) rfl (congrArg Value.bool (decide_eq_true g6)) rfl <| CN <| Op1.pickT (u := .bool _) (congrArg Value.bool (decide_eq_true g6)) rfl <| NL <| run_cond_true (congrArg Value.bool (rfl : true = _)) <| SR <| MI rfl <| AI rfl <| AB rfl <| NL ?_
     refine run_ret2 Tryz.func133 rfl (TP (v := .int .i64 _) rfl) (TP (v := .bool _) rfl) ?_
     exact ⟨(congrArg fitsV ((fits_yes hob hfm (by simpa using g1)).trans (fitsF_bad (bad_hit hJ.2 (by omega) (.inl g6))))).symm, hst.pure⟩
   refine TK (t := 30) rfl (congrArg Value.bool (decide_eq_false g6)) <| Op1.loadA (vs := [.int .u16 _, str _, .bool _, .bool _, str _, str _, .int .i64 _, .int .u8 _]) ty244 rfl rfl rfl (cells_of_obj (n := 8) (hst.objL (.head _)) _ rfl) <| TK (t := 30) rfl (congrArg Value.bool (decide_eq_false g6)) <| Op1.move (v := .int .i64 _) rfl <| TK (t := 30) rfl (congrArg Value.bool (decide_eq_false g6)) (Op1.call2 (v1 := .agg #[.int .u16 _, str _, .bool _, .bool _, str _, str _, .int .i64 _, .int .u8 _]) (v2 := .int .i64 _) ent172 rfl rfl rfl ((R7gr_letter fm (by rw [← hfm]; exact refD_fok op) _ (by omega) _).mono fun v w hp => ?_))
   obtain ⟨rfl, hp⟩ := hp
   replace hst := hst.keepc hp
   clear hp
   refine TK (t := 30) rfl (congrArg Value.bool (decide_eq_false g6)) (Op1.call1 (v1 := .int .u8 _) ent138 rfl rfl ((R7gr_Kind _ _).mono fun v w hp => ?_))
   obtain ⟨rfl, hp⟩ := hp
   replace hst := hst.keepc hp
   clear hp
   refine TK (t := 30) rfl (congrArg Value.bool (decide_eq_false g6)) <| Op1.move (v := .int .u8 _) rfl <| TK (t := 30) rfl (congrArg Value.bool (decide_eq_false g6)) <| Op1.neq rfl rfl <| CN <| Op1.pickF (u := .bool _) (congrArg Value.bool (decide_eq_false g6)) rfl <| NL <| run_cond_dec rfl (fun g7 => ?_) (fun g7 => ?_)
   · skip
     refine SR <| MI rfl <| AI rfl <| AB rfl <| NL <| run_ret2 Tryz.func133 rfl (TP (v := .int .i64 _) rfl) (TP (v := .bool _) rfl) ?_
     exact ⟨(congrArg fitsV ((fits_yes hob hfm (by simpa using g1)).trans (fitsF_bad (bad_hit hJ.2 (by omega) (.inr g7))))).symm, hst.pure⟩
   refine run_skip <| run_inBlock <| RG <| CN <| Op1.addN rfl rfl rfl (wrap_i64 (by omega) (by omega)) <| MI rfl <| NL <| run_inLoop ?_
   exact ih2 (i + 1) _ w (by omega) hst (⟨by omega, bad_miss hJ.2 (by omega) (fun h => h.elim g6 g7)⟩) ⟨rfl, rfl, rfl, rfl, trivial⟩ ⟨(congrArg (Value.int .i64) (by omega)), trivial⟩
 refine run_exit (id := 0) rfl <| SR <| ML rfl <| CN <| Op1.lenSl (rest := []) ty38 rfl <| CN <| Op1.fieldAddr fld244_0 rfl <| CN <| Op1.fieldAddr fld113_4 rfl <| CN <| Op1.load1 (v := str _) ty9 rfl rfl (hst.cellL (.head _) rfl) <| CN <| Op1.lenS (rest := []) ty9 rfl <| CN <| Op1.subN rfl rfl rfl (wrap_i64 (by omega) (by omega)) <| AI rfl <| NL <| SQ <| SQ <| RG ?_
 refine MI rfl <| CN <| Op1.lss rfl rfl <| MB rfl <| RunL.splitD (d := 49) rfl (fun g8 => ?_) (fun g8 => ?_)
 · skip
   refine OM (t := 49) rfl (congrArg Value.bool (decide_eq_true g8)) rfl <| OM (t := 49) rfl (congrArg Value.bool (decide_eq_true g8)) rfl <| OM (t := 49) rfl (congrArg Value.bool (decide_eq_true g8)) rfl <| OM (t := 49) rfl (congrArg Value.bool (decide_eq_true g8)) rfl <| OM (t := 49) rfl (congrArg Value.bool (decide_eq_true g8)) rfl <| RunL.omitU (t := 54) rfl rfl <| RunL.omitU (t := 54) rfl rfl <| RunL.omitU (t := 54) rfl rfl <| RunL.omitU (t := 54) rfl rfl <| RunL.omitU (t := 54) rfl rfl <| RunL.omitU (t := 54) rfl rfl <| RunL.omitU (t := 54) rfl rfl <| OM (t := 49) rfl (congrArg Value.bool (decide_eq_true g8)) rfl <| CN <| Op1.pickT (u := .bool _) (congrArg Value.bool (decide_eq_true g8)) rfl <| NL ?_
   refine run_cond_true (congrArg Value.bool (rfl : true = _)) <| SR <| ML rfl <| CN <| Op1.lenSl (rest := []) ty38 rfl <| AI rfl <| AB rfl <| NL <| run_ret2 Tryz.func133 rfl (TP (v := .int .i64 _) rfl) (TP (v := .bool _) rfl) ?_
   exact ⟨(congrArg fitsV ((fits_yes hob hfm (by simpa using g1)).trans (fitsF_off (bad_end hJ.2 (by omega)) (by simp only [offR]; exact .inl (by omega))))).symm, hst.pure⟩
 refine TK (t := 49) rfl (congrArg Value.bool (decide_eq_false g8)) <| Op1.fieldAddr fld244_0 rfl <| TK (t := 49) rfl (congrArg Value.bool (decide_eq_false g8)) <| Op1.fieldAddr fld113_5 rfl <| TK (t := 49) rfl (congrArg Value.bool (decide_eq_false g8)) <| Op1.load1 (v := str _) ty9 rfl rfl (hst.cellL (.head _) rfl) <| TK (t := 49) rfl (congrArg Value.bool (decide_eq_false g8)) <| Op1.neqS rfl rfl <| TK (t := 49) rfl (congrArg Value.bool (decide_eq_false g8)) <| Op1.move (v := .bool _) rfl <| RunL.splitD (d := 54) rfl (fun g9 => ?_) (fun g9 => ?_)
 · skip
   have hrp : 0 < fm.rest.length := List.length_pos_iff.2 g9
   refine TK (t := 54) rfl (congrArg Value.bool (decide_eq_true g9)) <| Op1.move (v := .int .i64 _) rfl <| TK (t := 54) rfl (congrArg Value.bool (decide_eq_true g9)) <| Op1.fieldAddr fld244_0 rfl <| TK (t := 54) rfl (congrArg Value.bool (decide_eq_true g9)) <| Op1.fieldAddr fld113_5 rfl <| TK (t := 54) rfl (congrArg Value.bool (decide_eq_true g9)) <| Op1.load1 (v := str _) ty9 rfl rfl (hst.cellL (.head _) rfl) <| TK (t := 54) rfl (congrArg Value.bool (decide_eq_true g9)) (Op1.lenS (rest := []) ty9 rfl ?_)
   first | refine TK (t := 54) rfl (congrArg Value.bool (decide_eq_true g9)) (Op1.remN rfl rfl (by omega) (by omega) rfl ?_) | refine TK (t := 54) rfl (congrArg Value.bool (decide_eq_true g9)) (Op1.rem rfl rfl (by omega) ?_)
   refine TK (t := 54) rfl (congrArg Value.bool (decide_eq_true g9)) <| Op1.neq rfl rfl <| TK (t := 49) rfl (congrArg Value.bool (decide_eq_false g8)) <| Op1.pickT (u := .bool _) (congrArg Value.bool (decide_eq_true g9)) rfl <| CN <| Op1.pickF (u := .bool _) (congrArg Value.bool (decide_eq_false g8)) rfl <| NL <| Run.forget [(1, .slice _ _ _), (63, .bool _)] ⟨rfl, rfl, trivial⟩ fun f => run_cond_dec rfl (fun g10 => ?_) (fun g10 => ?_)
   · skip
     refine SR <| ML rfl <| CN <| Op1.lenSl (rest := []) ty38 rfl <| AI rfl <| AB rfl <| NL <| run_ret2 Tryz.func133 rfl (TP (v := .int .i64 _) rfl) (TP (v := .bool _) rfl) ?_
     exact ⟨(congrArg fitsV ((fits_yes hob hfm (by simpa using g1)).trans (fitsF_off (bad_end hJ.2 (by omega)) (by simp only [offR]; exact .inr ⟨g9, g10⟩)))).symm, hst.pure⟩
   refine run_skip <| SR <| AI rfl <| AB rfl <| NL <| run_ret2 Tryz.func133 rfl (TP (v := .int .i64 _) rfl) (TP (v := .bool _) rfl) ?_
   exact ⟨(congrArg fitsV ((fits_yes hob hfm (by simpa using g1)).trans (fitsF_on (bad_end hJ.2 (by omega)) (by simp only [offR]; exact fun h => h.elim (by omega) (fun h => g10 h.2))))).symm, hst.pure⟩
 refine OM (t := 54) rfl (congrArg Value.bool (decide_eq_false g9)) rfl <| OM (t := 54) rfl (congrArg Value.bool (decide_eq_false g9)) rfl <| OM (t := 54) rfl (congrArg Value.bool (decide_eq_false g9)) rfl <| OM (t := 54) rfl (congrArg Value.bool (decide_eq_false g9)) rfl <| OM (t := 54) rfl (congrArg Value.bool (decide_eq_false g9)) rfl <| OM (t := 54) rfl (congrArg Value.bool (decide_eq_false g9)) rfl <| OM (t := 54) rfl (congrArg Value.bool (decide_eq_false g9)) rfl <| TK (t := 49) rfl (congrArg Value.bool (decide_eq_false g8)) <| Op1.pickF (u := .bool _) (congrArg Value.bool (decide_eq_false g9)) rfl <| CN <| Op1.pickF (u := .bool _) (congrArg Value.bool (decide_eq_false g8)) rfl <| NL <| Run.forget [(1, .slice _ _ _), (63, .bool _)] ⟨rfl, rfl, trivial⟩ fun f => run_cond_false (congrArg Value.bool (rfl : false = _)) <| run_skip <| SQ <| RG ?_
 refine AI rfl <| AB rfl <| NL <| run_ret2 Tryz.func133 rfl (TP (v := .int .i64 _) rfl) (TP (v := .bool _) rfl) ?_
 exact ⟨(congrArg fitsV ((fits_yes hob hfm (by simpa using g1)).trans (fitsF_on (bad_end hJ.2 (by omega)) (by simp only [offR]; exact fun h => h.elim (by omega) (fun h => g9 h.1))))).symm, hst.pure⟩
theorem R7ref_Letter2 {op : Int} {fm : FormL} (h0 : 0 ≤ op) (hfm : refD op = fm) (i : Int) (h1 : i ≤ 9223372036854775807) (w : World) : Ret Tryz.prog 69 #[.int .u16 op, .int .i64 i] w fun v w' => v = .int .u8 (letterS fm i) ∧ St w NoM [] [] w' := by
 subst hfm; exact R7ref_Letter op h0 i h1 w
theorem R7ref_Fits (op : Int) (h0 : 0 ≤ op) (ks : List Int) (ao : Option Addr) (cp : Nat) (w : World) (hA : (Res.rs ao ks.length 1 (ks.flatMap u8C)).holds w) (hlen : ks.length ≤ 9000000000000000000) : Ret Tryz.prog 70 #[.int .u16 op, .slice ao ks.length cp] w (fun v w' => v = fitsV (fitsS op ks) ∧ St w NoM [] [] w') := by
 refine Ret.enter (args := [.int .u16 op, .slice ao ks.length cp]) Tryz.func70 rfl rfl rfl ?_
 have hst : St w NoM [] [Res.rs ao ks.length 1 (ks.flatMap u8C)] w := St.init_D hA
 clear hA
 obtain ⟨fm, hfm⟩ : ∃ x, refD op = x := ⟨_, rfl⟩
 obtain ⟨ob, hob⟩ : ∃ x, (refS op).isSome = x := ⟨_, rfl⟩
 have hf := refD_fok op
 rw [hfm] at hf
 have hz : ob = false → fm = zeroF := fun e => by subst e; rw [← hfm]; exact refD_none hob
 obtain ⟨hop, hmost, hfx, hrs, _, _, _, _⟩ := hf
 refine SR <| AI rfl <| AB rfl <| NSR <| MH rfl <| CN <| Op1.call1 (v1 := .int .u16 _) ent90 rfl rfl <| Ret.det (R7ref_Of2 hfm hob _) hst fun w hst => CN <| Op1.move (v := .tuple #[.agg #[.int .u16 _, str _, .bool _, .bool _, str _, str _, .int .i64 _, .int .u8 _], .bool _]) rfl <| CN <| Op1.extract (v := .agg #[.int .u16 _, str _, .bool _, .bool _, str _, str _, .int .i64 _, .int .u8 _]) rfl rfl <| CN <| Op1.extract (v := .bool _) rfl rfl <| CN <| Op1.alloc hst ty113 fun w b6 hst => CN (SO (v := .agg #[.int .u16 _, str _, .bool _, .bool _, str _, str _, .int .i64 _, .int .u8 _]) hst ty113 rfl rfl (.here) fun w hst => ?_)
 refine AB rfl <| NL <| SQ <| SR <| MB rfl <| CN <| Op1.not rfl <| NL <| run_cond_split rfl (fun g1 => ?_) (fun g1 => ?_)
 · skip
   refine SR <| AI rfl <| AB rfl <| NL <| run_ret2 Tryz.func70 rfl (TP (v := .int .i64 _) rfl) (TP (v := .bool _) rfl) ?_
   exact ⟨(congrArg fitsV (fits_no hob (by simpa using g1))).symm, hst.pure⟩
 refine run_skip <| SQ <| SR <| AI rfl <| NL <| run_block <| run_loop <| Run.indW [(0, .int .u16 _), (1, .slice _ _ _), (6, .pointer (some ⟨_, _, none⟩))] ⟨rfl, rfl, rfl, trivial⟩ (fun (i : Nat) => [(8, .int .i64 (i : Int))]) (fun (i : Nat) => []) (fun (i : Nat) => i ≤ ks.length ∧ badI fm i (ks.drop i) = badI fm 0 ks) (fun (i : Nat) => ks.length - i) (0) hst ⟨Nat.zero_le _, rfl⟩ ⟨rfl, trivial⟩ ?_
 intro i f w hst hJ ih2
 refine SQ <| SR <| MI rfl <| ML rfl <| CN <| Op1.lenSl (rest := []) ty38 rfl <| CN <| Op1.lss rfl rfl <| NL <| run_cond_dec rfl (fun g3 => ?_) (fun g3 => ?_)
 · skip
   refine run_skip <| SQ <| run_block <| SR <| MH rfl <| MI rfl <| CN <| Op1.call2 (v1 := .int .u16 _) (v2 := .int .i64 _) ent69 rfl rfl rfl <| Ret.det (R7ref_Letter2 (by omega) hfm _ (by omega) _) hst fun w hst => AC rfl <| NL <| SQ ?_
   obtain ⟨bs4, os5, rfl⟩ := Res.rs_some (hst.hD _ (.head _)) (by omega)
   refine RunD.start [] hst (bs := [0, 1, 3, 7, 15, 7, 7, 103, 231, 511, 1023]) (ds := [some 27, some 28, some 29, some 30, some 31, some 32, some 33, some 34, some 35, some 36, some 37]) ⟨by kernel_rfl, by kernel_rfl, by kernel_rfl⟩ (fun tab6 => ?_)
   refine RunD.op (det _) tab6 1 (fun f' L' w' hc => Op1.move (v := .int .u8 _) (hc.old (v := .int .u8 _) rfl rfl rfl) ⟨[], ⟨rfl, rfl⟩, hc.st⟩) <| RunD.op (det _) tab6 2 (fun f' L' w' hc => Op1.eql (hc.det (j := 0) rfl rfl rfl rfl) rfl ⟨[], ⟨rfl, rfl⟩, hc.st⟩) <| RunD.op (det _) tab6 3 (fun f' L' w' hc => Op1.move (v := .bool _) (hc.det (j := 1) rfl rfl rfl rfl) ⟨[], ⟨rfl, rfl⟩, hc.st⟩) <| RunD.splitD (j := 2) rfl (fun g7 => ?_) (fun g7 => ?_)
   · skip
     refine RunD.omit tab6 4 rfl rfl (fun f' L' w' hc => (hc.det (j := 2) rfl rfl rfl rfl).trans (congrArg Value.bool (decide_eq_true g7))) <| RunD.omit tab6 5 rfl rfl (fun f' L' w' hc => (hc.det (j := 2) rfl rfl rfl rfl).trans (congrArg Value.bool (decide_eq_true g7))) <| RunD.omit tab6 6 rfl rfl (fun f' L' w' hc => (hc.det (j := 2) rfl rfl rfl rfl).trans (congrArg Value.bool (decide_eq_true g7))) <| RunD.omit tab6 7 rfl rfl (fun f' L' w' hc => (hc.det (j := 2) rfl rfl rfl rfl).trans (congrArg Value.bool (decide_eq_true g7))) <| RunD.omit tab6 8 rfl rfl (fun f' L' w' hc => (hc.det (j := 2) rfl rfl rfl rfl).trans (congrArg Value.bool (decide_eq_true g7))) <| RunD.omit tab6 9 rfl rfl (fun f' L' w' hc => (hc.det (j := 2) rfl rfl rfl rfl).trans (congrArg Value.bool (decide_eq_true g7))) <| RunD.fin followsMixed tab6 hst rfl (fun f8 w R11 hs9 hd10 hr12 hst => ?_)
     obtain ⟨h27_, r0⟩ := hd10 0 27 rfl rfl
     obtain ⟨h28_, r1⟩ := hd10 1 28 rfl rfl
     obtain ⟨h29_, r2⟩ := hd10 2 29 rfl rfl
     obtain ⟨h30_, r3⟩ := hd10 3 30 rfl rfl
     obtain ⟨h31_, r4⟩ := hd10 4 31 rfl rfl
     obtain ⟨h32_, r5⟩ := hd10 5 32 rfl rfl
     obtain ⟨h33_, r6⟩ := hd10 6 33 rfl rfl
     obtain ⟨h34_, r7⟩ := hd10 7 34 rfl rfl
     obtain ⟨h35_, r8⟩ := hd10 8 35 rfl rfl
     simp only [show List.range 9 = [0, 1, 2, 3, 4, 5, 6, 7, 8] from rfl, List.flatMap_cons, List.flatMap_nil, List.map_cons, List.map_nil, r0, r1, r2, r3, r4, r5, r6, r7, r8, List.nil_append, List.append_nil, List.cons_append] at hst
     refine RunL.slots (sl := [(0, .int .u16 _), (1, .slice _ _ _), (6, .pointer (some ⟨_, _, none⟩)), (8, .int .i64 _), (29, .bool _), (31, _), (35, _)]) ⟨(hs9 0 rfl).trans rfl, (hs9 1 rfl).trans rfl, (hs9 6 rfl).trans rfl, (hs9 8 rfl).trans rfl, h29_, h31_, h35_, trivial⟩ ?_
     clear hs9 hd10 hr12 tab6
     refine OM (t := 29) rfl (congrArg Value.bool (decide_eq_true g7)) rfl <| CN <| Op1.pickT (u := .bool _) (congrArg Value.bool (decide_eq_true g7)) rfl <| NL <| run_cond_true (congrArg Value.bool (rfl : true = _)) <| SR <| MI rfl <| AI rfl <| AB rfl <| NL <| run_ret2 Tryz.func70 rfl (TP (v := .int .i64 _) rfl) (TP (v := .bool _) rfl) ?_
     exact ⟨(congrArg fitsV ((fits_yes hob hfm (by simpa using g1)).trans (fitsF_bad (bad_hit hJ.2 (by omega) ((bad_ref hfm).1 (.inl g7)))))).symm, hst.pure⟩
   refine RunD.take (det _) tab6 4 rfl (fun f' L' w' hc => (hc.det (j := 2) rfl rfl rfl rfl).trans (congrArg Value.bool (decide_eq_false g7))) (fun f' L' w' hc => Op1.move (v := .int .u8 _) (hc.old (v := .int .u8 _) rfl rfl rfl) ⟨[], ⟨rfl, rfl⟩, hc.st⟩) <| RunD.take (det _) tab6 5 rfl (fun f' L' w' hc => (hc.det (j := 2) rfl rfl rfl rfl).trans (congrArg Value.bool (decide_eq_false g7))) (fun f' L' w' hc => Op1.call1 (v1 := .int .u8 _) ent124 rfl (hc.det (j := 3) rfl rfl rfl rfl) ((R7ref_Kind _ (letterS_bd fm i).1 (letterS_bd fm i).2 _).mono fun v w hp => ⟨[], ⟨hp.1, rfl⟩, hc.st.keepc hp.2⟩)) <| RunD.take (det _) tab6 6 rfl (fun f' L' w' hc => (hc.det (j := 2) rfl rfl rfl rfl).trans (congrArg Value.bool (decide_eq_false g7))) (fun f' L' w' hc => Op1.move (v := .slice _ _ _) (hc.old (v := .slice _ _ _) rfl rfl rfl) ⟨[], ⟨rfl, rfl⟩, hc.st⟩) <| RunD.take (det _) tab6 7 rfl (fun f' L' w' hc => (hc.det (j := 2) rfl rfl rfl rfl).trans (congrArg Value.bool (decide_eq_false g7))) (fun f' L' w' hc => Op1.move (v := .int .i64 _) (hc.old (v := .int .i64 _) rfl rfl rfl) ⟨[], ⟨rfl, rfl⟩, hc.st⟩) <| RunD.take (det _) tab6 8 rfl (fun f' L' w' hc => (hc.det (j := 2) rfl rfl rfl rfl).trans (congrArg Value.bool (decide_eq_false g7))) (fun f' L' w' hc => Op1.indexSl ty38 ty5 (hc.det (j := 5) rfl rfl rfl rfl) (hc.det (j := 6) rfl rfl rfl rfl) (by omega) (by omega) ⟨[], ⟨rfl, rfl⟩, hc.st⟩) <| RunD.take (det _) tab6 9 rfl (fun f' L' w' hc => (hc.det (j := 2) rfl rfl rfl rfl).trans (congrArg Value.bool (decide_eq_false g7))) (fun f' L' w' hc => Op1.load1 (v := .int .u8 _) ty5 rfl (hc.det (j := 7) rfl rfl rfl rfl) (Res.rs_cell (hc.st.hD _ (.head _)) (flat_cell0 (g := u8C) (d := 0) u8C_len rfl (by omega))) ⟨[], ⟨rfl, rfl⟩, hc.st⟩) <| RunD.fin followsMixed tab6 hst rfl (fun f13 w R16 hs14 hd15 hr17 hst => ?_)
   obtain ⟨h27_, r0⟩ := hd15 0 27 rfl rfl
   obtain ⟨h28_, r1⟩ := hd15 1 28 rfl rfl
   obtain ⟨h29_, r2⟩ := hd15 2 29 rfl rfl
   obtain ⟨h30_, r3⟩ := hd15 3 30 rfl rfl
   obtain ⟨h31_, r4⟩ := hd15 4 31 rfl rfl
   obtain ⟨h32_, r5⟩ := hd15 5 32 rfl rfl
   obtain ⟨h33_, r6⟩ := hd15 6 33 rfl rfl
   obtain ⟨h34_, r7⟩ := hd15 7 34 rfl rfl
   obtain ⟨h35_, r8⟩ := hd15 8 35 rfl rfl
   simp only [show List.range 9 = [0, 1, 2, 3, 4, 5, 6, 7, 8] from rfl, List.flatMap_cons, List.flatMap_nil, List.map_cons, List.map_nil, r0, r1, r2, r3, r4, r5, r6, r7, r8, List.nil_append, List.append_nil, List.cons_append] at hst
   refine RunL.slots (sl := [(0, .int .u16 _), (1, .slice _ _ _), (6, .pointer (some ⟨_, _, none⟩)), (8, .int .i64 _), (29, .bool _), (31, .int .u8 _), (35, .int .u8 _)]) ⟨(hs14 0 rfl).trans rfl, (hs14 1 rfl).trans rfl, (hs14 6 rfl).trans rfl, (hs14 8 rfl).trans rfl, h29_, h31_, h35_, trivial⟩ ?_
   clear hs14 hd15 hr17 tab6
   refine TK (t := 29) rfl (congrArg Value.bool (decide_eq_false g7)) <| Op1.neq rfl rfl <| CN <| Op1.pickF (u := .bool _) (congrArg Value.bool (decide_eq_false g7)) rfl <| NL <| Run.forget [(0, .int .u16 _), (1, .slice _ _ _), (6, .pointer (some ⟨_, _, none⟩)), (8, .int .i64 _), (37, .bool _)] ⟨rfl, rfl, rfl, rfl, rfl, trivial⟩ fun f => run_cond_dec rfl (fun g18 => ?_) (fun g18 => ?_)
   · skip
     refine SR <| MI rfl <| AI rfl <| AB rfl <| NL <| run_ret2 Tryz.func70 rfl (TP (v := .int .i64 _) rfl) (TP (v := .bool _) rfl) ?_
     exact ⟨(congrArg fitsV ((fits_yes hob hfm (by simpa using g1)).trans (fitsF_bad (bad_hit hJ.2 (by omega) ((bad_ref hfm).1 (.inr g18)))))).symm, hst.pure⟩
   refine run_skip <| run_inBlock <| RG <| MI rfl <| CN <| Op1.addN rfl rfl rfl (wrap_i64 (by omega) (by omega)) <| AI rfl <| NL <| run_inLoop ?_
   exact ih2 (i + 1) _ w (by omega) hst (⟨by omega, bad_miss hJ.2 (by omega) (fun h => ((bad_ref hfm).2 h).elim g7 g18)⟩) ⟨rfl, rfl, rfl, trivial⟩ ⟨(congrArg (Value.int .i64) (by omega)), trivial⟩
 have hbn := bad_end hJ.2 (by omega)
 refine run_exit (id := 0) rfl <| SR <| CN <| Op1.fieldAddr fld113_4 rfl <| CN <| Op1.load1 (v := str _) ty9 rfl rfl (hst.cellL (.head _) rfl) <| CN <| Op1.lenS (rest := []) ty9 rfl <| AI rfl <| NL <| SQ <| run_block <| run_loop <| Run.indW [(1, .slice _ _ _), (6, .pointer (some ⟨_, _, none⟩))] ⟨rfl, rfl, trivial⟩ (fun (q : Nat × Nat) => [(10, .int .i64 (q.1 : Int))]) (fun (q : Nat × Nat) => []) (fun (q : Nat × Nat) => q.1 = fm.fixed.length + q.2 * fm.rest.length ∧ (q.1 < ks.length + fm.rest.length ∨ q.2 = 0)) (fun (q : Nat × Nat) => ks.length - q.1) ((fm.fixed.length, 0)) hst ⟨by simp, .inr rfl⟩ ⟨rfl, trivial⟩ ?_
 intro ⟨m, t⟩ f w hst hM ih19
 replace hst : St _ _ ([] ++ [_]) _ _ := hst
 replace hM : m = fm.fixed.length + t * fm.rest.length ∧ (m < ks.length + fm.rest.length ∨ t = 0) := hM
 refine Run.slots (sl := [(10, .int .i64 (m : Int))]) ⟨rfl, trivial⟩ <| SQ <| SR <| MI rfl <| ML rfl <| CN <| Op1.lenSl (rest := []) ty38 rfl <| CN <| Op1.lss rfl rfl <| NL <| run_cond_dec rfl (fun g20 => ?_) (fun g20 => ?_)
 · skip
   have hrp : 0 < fm.rest.length := by refine Classical.byContradiction fun hn => ?_; have hr : fm.rest = [] := List.length_eq_zero_iff.1 (by omega); have := bad_long hr hbn; have h3 := hM.1; rw [show fm.rest.length = 0 by omega] at h3; omega
   refine run_skip <| run_block <| RG <| MI rfl <| CN <| Op1.fieldAddr fld113_5 rfl <| CN <| Op1.load1 (v := str _) ty9 rfl rfl (hst.cellL (.head _) rfl) <| CN <| Op1.lenS (rest := []) ty9 rfl <| CN <| Op1.addN rfl rfl rfl (wrap_i64 (by omega) (by omega)) <| AI rfl <| NL <| run_inBlock <| run_inLoop ?_
   exact ih19 ((m + fm.rest.length, t + 1)) _ w (by (try dsimp only); omega) hst (⟨by rw [Nat.add_mul, ← Nat.add_assoc, ← hM.1]; omega, .inl (by (try dsimp only); omega)⟩) ⟨rfl, rfl, trivial⟩ ⟨(congrArg (Value.int .i64) (by (try dsimp only); omega)), trivial⟩
 refine run_exit (id := 2) rfl <| SQ <| SR <| MI rfl <| ML rfl <| CN <| Op1.lenSl (rest := []) ty38 rfl <| CN <| Op1.neq rfl rfl <| NL <| run_cond_dec rfl (fun g21 => ?_) (fun g21 => ?_)
 · skip
   refine SR <| ML rfl <| CN <| Op1.lenSl (rest := []) ty38 rfl <| AI rfl <| AB rfl <| NL <| run_ret2 Tryz.func70 rfl (TP (v := .int .i64 _) rfl) (TP (v := .bool _) rfl) ?_
   have hoff := off_iff (f := fm) (n := ks.length) hM.1 (by omega) hM.2 (fun hr => bad_long hr hbn)
   exact ⟨(congrArg fitsV ((fits_yes hob hfm (by simpa using g1)).trans (fitsF_off hbn (hoff.1 (by omega))))).symm, hst.pure⟩
 refine run_skip <| SR <| AI rfl <| AB rfl <| NL <| run_ret2 Tryz.func70 rfl (TP (v := .int .i64 _) rfl) (TP (v := .bool _) rfl) ?_
 have hoff := off_iff (f := fm) (n := ks.length) hM.1 (by omega) hM.2 (fun hr => bad_long hr hbn)
 exact ⟨(congrArg fitsV ((fits_yes hob hfm (by simpa using g1)).trans (fitsF_on hbn (fun h => (hoff.2 h) (by omega))))).symm, hst.pure⟩
end Go.SK
namespace Go.SK
open Go Go.Proofs
theorem fld130_3 : FldF Tryz.prog 130 3 3 := FldF.of (n := 0) (by kernel_rfl)
end Go.SK
namespace Go.SK
open Go Go.Proofs
open Go.RowKit
theorem R7as_named (bq : Nat) (s : Tx) (ao : Option Addr) (cp : Nat) (l : List TokL) (a : Nat) (bound e p : Int) (t : Tx) (m : Nat) (ht : plainF t = some m) (w : World) (hB : (Res.row bq 130 [str s, .slice ao l.length cp, .int .i64 (a : Int), .int .u32 bound, .int .i64 e, .int .i64 p]).holds w) (hbd : 0 ≤ bound ∧ bound < 4294967296) : Ret Tryz.prog 129 #[.pointer (some ⟨bq, 0, none⟩), str t] w (fun v w' => v = .int .u32 (idL t bound) ∧ St w (Res.row bq 130 [str s, .slice ao l.length cp, .int .i64 (a : Int), .int .u32 bound, .int .i64 e, .int .i64 p]).foot [Res.row bq 130 [str s, .slice ao l.length cp, .int .i64 (a : Int), .int .u32 bound, .int .i64 e, .int .i64 p]] [] w') := by
 refine Ret.enter (args := [.pointer (some ⟨bq, 0, none⟩), str t]) Tryz.func129 rfl rfl rfl ?_
 have hst : St w (Res.row bq 130 [str s, .slice ao l.length cp, .int .i64 (a : Int), .int .u32 bound, .int .i64 e, .int .i64 p]).foot [Res.row bq 130 [str s, .slice ao l.length cp, .int .i64 (a : Int), .int .u32 bound, .int .i64 e, .int .i64 p]] [] w := St.enter1 hB (fun d hd => by cases hd) (fun d hd => by cases hd)
 refine SR <| AU rfl <| NSR <| CN <| Op1.assign (v := .int .u64 _) rfl <| NL <| SQ <| SR <| MS rfl <| CN <| Op1.lenS (rest := []) ty9 rfl <| MI rfl <| NL ?_
 refine run_block <| run_loop <| Run.indW [(0, .pointer (some ⟨_, _, none⟩)), (1, str _), (8, .int .i64 _)] ⟨rfl, rfl, rfl, trivial⟩ (fun (qq : Nat × Nat) => [(5, .int .u64 (qq.2 : Int)), (9, .int .i64 (qq.1 : Int))]) (fun (qq : Nat × Nat) => []) (fun (qq : Nat × Nat) => dgI t m qq.1 qq.2) (fun (qq : Nat × Nat) => t.length - qq.1) ((0, 0)) hst (dgI_start ht) ⟨rfl, rfl, trivial⟩ ?_
 intro ⟨i, n⟩ f w hst hJ ih1
 replace hst : St _ _ ([] ++ [_]) _ _ := hst
 replace hJ : dgI t m i n := hJ
 refine Run.slots (sl := [(5, .int .u64 (n : Int)), (9, .int .i64 (i : Int))]) ⟨rfl, rfl, trivial⟩ ?_
 have hj1 := hJ.le
 have hj2 := hJ.lt
 have hj3 := hJ.small
 have hj5 := hJ.len
 refine SR <| CN <| Op1.lss rfl rfl <| NL <| SQ <| run_cond_dec rfl (fun g2 => ?_) (fun g2 => ?_)
 · skip
   have hb := dgI_byte hJ (by omega)
   have hbn := dgI_next hJ (by omega)
   have hidx : (t.getD ((i : Int).toNat) 0).toNat = (t.getD i 0).toNat := rfl
   refine run_skip <| SQ <| run_block <| SR <| MI rfl <| AI rfl <| NR <| CN <| Op1.move (v := .int .u64 _) rfl <| CN <| Op1.mulN rfl rfl rfl (wrap_u64 (by omega) (by omega)) <| MS rfl <| MI rfl <| CN <| Op1.indexS ty9 rfl rfl (by omega) (by omega) <| CN (Op1.subN rfl rfl rfl (wrap_u8 (by omega) (by omega)) ?_)
   first | refine CN (Op1.convN ty5 ty149 rfl (wrap_u64 (by omega) (by omega)) ?_) | refine CN (Op1.conv ty5 ty149 rfl ?_)
   refine CN <| Op1.addN rfl rfl rfl (wrap_u64 (by omega) (by omega)) <| CN <| Op1.assign (v := .int .u64 _) rfl <| NL <| run_inBlock <| RG <| CN <| Op1.addN rfl rfl rfl (wrap_i64 (by omega) (by omega)) <| MI rfl <| NL <| run_inLoop ?_
   exact ih1 ((i + 1, 10 * n + ((t.getD i 0).toNat - 48))) _ w ((by (try dsimp only); omega)) hst ((dgI_step hJ (by omega))) ⟨rfl, rfl, rfl, trivial⟩ ⟨(congrArg (Value.int .u64) (by (try dsimp only); omega)), (congrArg (Value.int .i64) (by (try dsimp only); omega)), trivial⟩
 refine run_exit (id := 0) rfl <| SQ <| SR <| CN <| Op1.move (v := .int .u64 _) rfl <| MP rfl <| CN <| Op1.nilCheckP rfl <| CN <| Op1.fieldAddr fld130_3 rfl <| CN (Op1.load1 (v := .int .u32 _) ty22 rfl rfl (hst.cellL (.head _) rfl) ?_)
 first | refine CN (Op1.convN ty22 ty149 rfl (wrap_u64 (by omega) (by omega)) ?_) | refine CN (Op1.conv ty22 ty149 rfl ?_)
 refine CN <| Op1.geq rfl rfl <| NL <| run_cond_dec rfl (fun g3 => ?_) (fun g3 => ?_)
 · skip
   refine SR <| AU rfl <| NL <| run_ret1 Tryz.func129 rfl (TP (v := .int .u32 _) rfl) ?_
   have hi : t.length ≤ i := by omega
   rw [dgI_bad hJ hi g3]
   exact ⟨rfl, hst⟩
 refine run_skip <| SR <| CN (Op1.move (v := .int .u64 _) rfl ?_)
 first | refine CN (Op1.convN ty149 ty22 rfl (wrap_u32 (by omega) (by omega)) ?_) | refine CN (Op1.conv ty149 ty22 rfl ?_)
 refine AU rfl <| NL <| run_ret1 Tryz.func129 rfl (TP (v := .int .u32 _) rfl) ?_
 have hi : t.length ≤ i := by omega
 rw [dgI_ok hJ hi g3]
 exact ⟨rfl, hst⟩
end Go.SK
namespace Go.SK
open Go Go.Proofs
theorem ent129 : Enters Tryz.prog 129 := ⟨Tryz.f129, _, Tryz.func129, by kernel_rfl, rfl⟩
theorem ty110 : TyF Tryz.prog 110 (.struct (fieldsOf Tryz.prog 110)) 3 24 [.int .u8 0, .int .u32 0, str []] := TyF.of (by kernel_rfl) (by kernel_rfl)
theorem ent130 : Enters Tryz.prog 130 := ⟨Tryz.f130, _, Tryz.func130, by kernel_rfl, rfl⟩
theorem stf110 : StructF Tryz.prog 110 [(0, 1), (1, 1), (2, 1)] := ⟨fieldsOf Tryz.prog 110, by kernel_rfl, fun w => by kernel_rfl⟩
end Go.SK
namespace Go.SK
open Go Go.Proofs
open Go.RowKit
theorem R7as_id (bq : Nat) (s : Tx) (ao : Option Addr) (cp : Nat) (l : List TokL) (a : Nat) (bound e p : Int) (w : World) (hB : (Res.row bq 130 [str s, .slice ao l.length cp, .int .i64 (a : Int), .int .u32 bound, .int .i64 e, .int .i64 p]).holds w) (hT : (Res.sl ao l.length cp 72 3 (l.flatMap tokC)).holds w) (hTA : Apart (Res.row bq 130 [str s, .slice ao l.length cp, .int .i64 (a : Int), .int .u32 bound, .int .i64 e, .int .i64 p]) (Res.sl ao l.length cp 72 3 (l.flatMap tokC))) (hl : s.length ≤ 1099511627776) (hll : l.length ≤ s.length) (hts : wsz l ≤ 7 * s.length) (hbd : 0 ≤ bound ∧ bound < 4294967296) (hpl : ∀ i, i < l.length → (l.getD i tok0).kind = 2 → ∃ m, plainF (l.getD i tok0).text = some m) : Ret Tryz.prog 130 #[.pointer (some ⟨bq, 0, none⟩)] w (fun v w' => (l.length ≤ a ∧ v = .tuple #[.int .u32 0, .bool false] ∧ St w (Res.row bq 130 [str s, .slice ao l.length cp, .int .i64 (a : Int), .int .u32 bound, .int .i64 e, .int .i64 p]).foot [Res.row bq 130 [str s, .slice ao l.length cp, .int .i64 (a : Int), .int .u32 bound, .int .i64 72, .int .i64 (s.length)]] [] w') ∨ (a < l.length ∧ (l.getD a tok0).kind ≠ 2 ∧ v = .tuple #[.int .u32 0, .bool false] ∧ St w (Res.row bq 130 [str s, .slice ao l.length cp, .int .i64 (a : Int), .int .u32 bound, .int .i64 e, .int .i64 p]).foot [Res.row bq 130 [str s, .slice ao l.length cp, .int .i64 (a : Int), .int .u32 bound, .int .i64 70, .int .i64 ((l.getD a tok0).at_)]] [] w') ∨ (a < l.length ∧ (l.getD a tok0).kind = 2 ∧ idL (l.getD a tok0).text bound = 0 ∧ v = .tuple #[.int .u32 0, .bool false] ∧ St w (Res.row bq 130 [str s, .slice ao l.length cp, .int .i64 (a : Int), .int .u32 bound, .int .i64 e, .int .i64 p]).foot [Res.row bq 130 [str s, .slice ao l.length cp, .int .i64 (a + 1 : Int), .int .u32 bound, .int .i64 43, .int .i64 ((l.getD a tok0).at_)]] [] w') ∨ (a < l.length ∧ (l.getD a tok0).kind = 2 ∧ idL (l.getD a tok0).text bound ≠ 0 ∧ v = .tuple #[.int .u32 (idL (l.getD a tok0).text bound), .bool true] ∧ St w (Res.row bq 130 [str s, .slice ao l.length cp, .int .i64 (a : Int), .int .u32 bound, .int .i64 e, .int .i64 p]).foot [Res.row bq 130 [str s, .slice ao l.length cp, .int .i64 (a + 1 : Int), .int .u32 bound, .int .i64 e, .int .i64 p]] [] w')) := by
 refine Ret.enter (args := [.pointer (some ⟨bq, 0, none⟩)]) Tryz.func130 rfl rfl rfl ?_
 have hst : St w (Res.row bq 130 [str s, .slice ao l.length cp, .int .i64 (a : Int), .int .u32 bound, .int .i64 e, .int .i64 p]).foot [Res.row bq 130 [str s, .slice ao l.length cp, .int .i64 (a : Int), .int .u32 bound, .int .i64 e, .int .i64 p]] [Res.sl ao l.length cp 72 3 (l.flatMap tokC)] w := St.enter1 hB (by simp only [List.forall_mem_cons]; exact ⟨hT, fun _ h => absurd h List.not_mem_nil⟩) (by simp only [List.forall_mem_cons]; exact ⟨hTA, fun _ h => absurd h List.not_mem_nil⟩)
 refine SR <| AU rfl <| AB rfl <| NSR <| MP rfl <| CN (Op1.call2 (v1 := .pointer (some ⟨_, _, none⟩)) (v2 := .int .u8 _) ent126 rfl rfl rfl ((R7as_take _ _ _ _ l a _ _ _ 2 _ (hst.hL _ (.head _)) (hst.hD _ (.head _)) (hst.sepD _ (.head _) _ (.head _)) hl hll hts).mono fun v w hp => ?_))
 rcases hp with ⟨hk9, rfl, hp⟩ | ⟨hk9, hd9, rfl, hp⟩ | ⟨hk9, hd9, rfl, hp⟩
 · skip
   replace hst := hst.call1 hp
   clear hp
   refine CN <| Op1.move (v := .tuple #[.agg #[.int .u8 _, str _, .int .i64 _], .bool _]) rfl <| CN <| Op1.extract (v := .agg #[.int .u8 _, str _, .int .i64 _]) rfl rfl <| CN <| Op1.extract (v := .bool _) rfl rfl <| CN <| Op1.alloc hst ty72 fun w b4 hst => CN (SO (v := .agg #[.int .u8 _, str _, .int .i64 _]) hst ty72 rfl rfl (.here) fun w hst => ?_)
   refine AB rfl <| NL <| SQ <| SR <| MB rfl <| CN <| Op1.not rfl <| NL <| run_cond_true (congrArg Value.bool (congrArg not (rfl : false = _))) <| SR <| AU rfl <| AB rfl <| NL <| run_ret2 Tryz.func130 rfl (TP (v := .int .u32 _) rfl) (TP (v := .bool _) rfl) ?_
   replace hst := hst.pick (.cons (.there (.here)) .nil)
   exact .inl ⟨hk9, rfl, hst.noD⟩
 · skip
   replace hst := hst.call1 hp
   clear hp
   refine CN <| Op1.move (v := .tuple #[.agg #[.int .u8 _, str _, .int .i64 _], .bool _]) rfl <| CN <| Op1.extract (v := .agg #[.int .u8 _, str _, .int .i64 _]) rfl rfl <| CN <| Op1.extract (v := .bool _) rfl rfl <| CN <| Op1.alloc hst ty72 fun w b4 hst => CN (SO (v := .agg #[.int .u8 _, str _, .int .i64 _]) hst ty72 rfl rfl (.here) fun w hst => ?_)
   refine AB rfl <| NL <| SQ <| SR <| MB rfl <| CN <| Op1.not rfl <| NL <| run_cond_true (congrArg Value.bool (congrArg not (rfl : false = _))) <| SR <| AU rfl <| AB rfl <| NL <| run_ret2 Tryz.func130 rfl (TP (v := .int .u32 _) rfl) (TP (v := .bool _) rfl) ?_
   replace hst := hst.pick (.cons (.there (.here)) .nil)
   exact .inr (.inl ⟨hk9, hd9, rfl, hst.noD⟩)
 · skip
   replace hst := hst.call1 hp
   clear hp
   refine CN <| Op1.move (v := .tuple #[.agg #[.int .u8 _, str _, .int .i64 _], .bool _]) rfl <| CN <| Op1.extract (v := .agg #[.int .u8 _, str _, .int .i64 _]) rfl rfl <| CN <| Op1.extract (v := .bool _) rfl rfl <| CN <| Op1.alloc hst ty72 fun w b4 hst => CN (SO (v := .agg #[.int .u8 _, str _, .int .i64 _]) hst ty72 rfl rfl (.here) fun w hst => ?_)
   refine AB rfl <| NL <| SQ <| SR <| MB rfl <| CN <| Op1.not rfl <| NL <| run_cond_false (congrArg Value.bool (congrArg not (rfl : true = _))) <| run_skip <| SR <| MP rfl <| CN <| Op1.fieldAddr fld72_1 rfl <| CN (Op1.load1 (v := str _) ty9 rfl rfl (hst.cellL (.head _) rfl) ?_)
   obtain ⟨m, hm⟩ := hpl a hk9 hd9
   replace hst := hst.pick (.cons (.there (.here)) (.cons (.here) .nil))
   refine CN (Op1.call2 (v1 := .pointer (some ⟨_, _, none⟩)) (v2 := str _) ent129 rfl rfl rfl ((R7as_named _ _ _ _ _ _ _ _ _ _ m hm _ (hst.hL _ (.head _)) hbd).mono fun v w hp => ?_))
   obtain ⟨rfl, hp⟩ := hp
   replace hst := hst.call1 hp
   clear hp
   refine AU rfl <| NL <| SQ <| SR <| MU rfl <| CN <| Op1.eql rfl rfl <| NL <| run_cond_dec rfl (fun g1 => ?_) (fun g1 => ?_)
   · skip
     refine SR <| MP rfl <| CN <| Op1.fieldAddr fld72_2 rfl <| CN <| Op1.load1 (v := .int .i64 _) ty3 rfl rfl (hst.cellL (.tail _ (.head _)) rfl) <| CN (Op1.call3 (v1 := .pointer (some ⟨_, _, none⟩)) (v2 := .int .i64 _) (v3 := .int .i64 _) ent128 rfl rfl rfl rfl ((R7as_fails _ _ _ _ _ _ _ e p _ _ _ (hst.hL _ (.head _))).mono fun v w hp => ?_))
     obtain ⟨rfl, hp⟩ := hp
     replace hst := hst.call1 hp
     clear hp
     refine AU rfl <| AB rfl <| NL <| run_ret2 Tryz.func130 rfl (TP (v := .int .u32 _) rfl) (TP (v := .bool _) rfl) ?_
     replace hst := hst.pick (.cons (.here) .nil)
     exact .inr (.inr (.inl ⟨hk9, hd9, g1, rfl, hst.noD⟩))
   refine run_skip <| SR <| MU rfl <| AU rfl <| AB rfl <| NL <| run_ret2 Tryz.func130 rfl (TP (v := .int .u32 _) rfl) (TP (v := .bool _) rfl) ?_
   replace hst := hst.pick (.cons (.here) .nil)
   exact .inr (.inr (.inr ⟨hk9, hd9, g1, rfl, hst.noD⟩))
theorem R7as_idArg (bq : Nat) (s : Tx) (ao : Option Addr) (cp : Nat) (l : List TokL) (a : Nat) (bound e p : Int) (w : World) (ha : a < l.length) (hB : (Res.row bq 130 [str s, .slice ao l.length cp, .int .i64 (a : Int), .int .u32 bound, .int .i64 e, .int .i64 p]).holds w) (hT : (Res.sl ao l.length cp 72 3 (l.flatMap tokC)).holds w) (hTA : Apart (Res.row bq 130 [str s, .slice ao l.length cp, .int .i64 (a : Int), .int .u32 bound, .int .i64 e, .int .i64 p]) (Res.sl ao l.length cp 72 3 (l.flatMap tokC))) (hl : s.length ≤ 1099511627776) (hll : l.length ≤ s.length) (hts : wsz l ≤ 7 * s.length) (hbd : 0 ≤ bound ∧ bound < 4294967296) (hpl : ∀ i, i < l.length → (l.getD i tok0).kind = 2 → ∃ m, plainF (l.getD i tok0).text = some m) : Ret Tryz.prog 173 #[.pointer (some ⟨bq, 0, none⟩)] w (fun v w' => (∃ (z1 z2 : Int) (z3 : Tx) (a' : Int), (argT 105 (l.getD a tok0) bound).2 ≠ 0 ∧ v = .tuple #[.agg #[.int .u8 z1, .int .u32 z2, str z3], .bool false] ∧ St w (Res.row bq 130 [str s, .slice ao l.length cp, .int .i64 (a : Int), .int .u32 bound, .int .i64 e, .int .i64 p]).foot [Res.row bq 130 [str s, .slice ao l.length cp, .int .i64 (a' : Int), .int .u32 bound, .int .i64 (argT 105 (l.getD a tok0) bound).2, .int .i64 ((l.getD a tok0).at_)]] [] w') ∨ ((argT 105 (l.getD a tok0) bound).2 = 0 ∧ v = .tuple #[.agg #[.int .u8 (argT 105 (l.getD a tok0) bound).1.kind, .int .u32 (argT 105 (l.getD a tok0) bound).1.n, str (argT 105 (l.getD a tok0) bound).1.s], .bool true] ∧ St w (Res.row bq 130 [str s, .slice ao l.length cp, .int .i64 (a : Int), .int .u32 bound, .int .i64 e, .int .i64 p]).foot [Res.row bq 130 [str s, .slice ao l.length cp, .int .i64 (a + 1 : Int), .int .u32 bound, .int .i64 e, .int .i64 p]] [] w')) := by
 refine Ret.enter (args := [.pointer (some ⟨bq, 0, none⟩)]) Tryz.func173 rfl rfl rfl ?_
 have hst : St w (Res.row bq 130 [str s, .slice ao l.length cp, .int .i64 (a : Int), .int .u32 bound, .int .i64 e, .int .i64 p]).foot [Res.row bq 130 [str s, .slice ao l.length cp, .int .i64 (a : Int), .int .u32 bound, .int .i64 e, .int .i64 p]] [Res.sl ao l.length cp 72 3 (l.flatMap tokC)] w := St.enter1 hB (by simp only [List.forall_mem_cons]; exact ⟨hT, fun _ h => absurd h List.not_mem_nil⟩) (by simp only [List.forall_mem_cons]; exact ⟨hTA, fun _ h => absurd h List.not_mem_nil⟩)
 refine SR <| CN <| Op1.alloc hst ty110 fun w b2 hst => AB rfl <| NSR <| MP rfl ?_
 replace hst := hst.pick (.cons (.there (.here)) (.cons (.here) .nil))
 refine CN (Op1.call1 (v1 := .pointer (some ⟨_, _, none⟩)) ent130 rfl rfl ((R7as_id _ _ _ _ l a _ _ _ _ (hst.hL _ (.head _)) (hst.hD _ (.head _)) (hst.sepD _ (.head _) _ (.head _)) hl hll hts hbd hpl).mono fun v w hp => ?_))
 rcases hp with ⟨hk8, rfl, hp⟩ | ⟨hk8, hd8, rfl, hp⟩ | ⟨hk8, hd8, he8, rfl, hp⟩ | ⟨hk8, hd8, he8, rfl, hp⟩
 · skip
   exfalso; omega
 · skip
   replace hst := hst.call1 hp
   clear hp
   refine CN <| Op1.move (v := .tuple #[.int .u32 _, .bool _]) rfl <| CN <| Op1.extract (v := .int .u32 _) rfl rfl <| CN <| Op1.extract (v := .bool _) rfl rfl <| AU rfl <| AB rfl <| NSR <| MU rfl <| CN (Op1.buildStruct ty110 stf110 (.c (v := .int .u8 _) rfl (h := (.c (v := .int .u32 _) rfl (h := .nil)))) ?_)
   refine MB rfl <| CN (SO (v := .agg #[.int .u8 _, .int .u32 _, str _]) hst ty110 rfl rfl (.there (.here)) fun w hst => ?_)
   refine AB rfl <| NL <| run_ret2 Tryz.func173 rfl (RV.cellA (vs := [.int .u8 _, .int .u32 _, str _]) rfl ty110 rfl rfl (cells_of_obj (n := 3) (hst.objL (.tail _ (.head _))) _ rfl)) (TP (v := .bool _) rfl) ?_
   replace hst := hst.pick (.cons (.here) .nil)
   rw [argT_kind (c := 105) (by decide) (show (l.getD a tok0).kind ≠ kindT 105 from hd8)]
   exact .inl ⟨_, _, _, _, (show (70 : Int) ≠ 0 by decide), rfl, hst.noD⟩
 · skip
   replace hst := hst.call1 hp
   clear hp
   refine CN <| Op1.move (v := .tuple #[.int .u32 _, .bool _]) rfl <| CN <| Op1.extract (v := .int .u32 _) rfl rfl <| CN <| Op1.extract (v := .bool _) rfl rfl <| AU rfl <| AB rfl <| NSR <| MU rfl <| CN (Op1.buildStruct ty110 stf110 (.c (v := .int .u8 _) rfl (h := (.c (v := .int .u32 _) rfl (h := .nil)))) ?_)
   refine MB rfl <| CN (SO (v := .agg #[.int .u8 _, .int .u32 _, str _]) hst ty110 rfl rfl (.there (.here)) fun w hst => ?_)
   refine AB rfl <| NL <| run_ret2 Tryz.func173 rfl (RV.cellA (vs := [.int .u8 _, .int .u32 _, str _]) rfl ty110 rfl rfl (cells_of_obj (n := 3) (hst.objL (.tail _ (.head _))) _ rfl)) (TP (v := .bool _) rfl) ?_
   replace hst := hst.pick (.cons (.here) .nil)
   rw [argT_id0 hd8 he8]
   exact .inl ⟨_, _, _, _, (show (43 : Int) ≠ 0 by decide), rfl, hst.noD⟩
 · skip
   replace hst := hst.call1 hp
   clear hp
   refine CN <| Op1.move (v := .tuple #[.int .u32 _, .bool _]) rfl <| CN <| Op1.extract (v := .int .u32 _) rfl rfl <| CN <| Op1.extract (v := .bool _) rfl rfl <| AU rfl <| AB rfl <| NSR <| MU rfl <| CN (Op1.buildStruct ty110 stf110 (.c (v := .int .u8 _) rfl (h := (.c (v := .int .u32 _) rfl (h := .nil)))) ?_)
   refine MB rfl <| CN (SO (v := .agg #[.int .u8 _, .int .u32 _, str _]) hst ty110 rfl rfl (.there (.here)) fun w hst => ?_)
   refine AB rfl <| NL <| run_ret2 Tryz.func173 rfl (RV.cellA (vs := [.int .u8 _, .int .u32 _, str _]) rfl ty110 rfl rfl (cells_of_obj (n := 3) (hst.objL (.tail _ (.head _))) _ rfl)) (TP (v := .bool _) rfl) ?_
   replace hst := hst.pick (.cons (.here) .nil)
   rw [argT_id hd8 he8]
   exact .inr ⟨rfl, rfl, hst.noD⟩
theorem R7as_numberArg (bq : Nat) (s : Tx) (ao : Option Addr) (cp : Nat) (l : List TokL) (a : Nat) (bound e p : Int) (w : World) (ha : a < l.length) (hB : (Res.row bq 130 [str s, .slice ao l.length cp, .int .i64 (a : Int), .int .u32 bound, .int .i64 e, .int .i64 p]).holds w) (hT : (Res.sl ao l.length cp 72 3 (l.flatMap tokC)).holds w) (hTA : Apart (Res.row bq 130 [str s, .slice ao l.length cp, .int .i64 (a : Int), .int .u32 bound, .int .i64 e, .int .i64 p]) (Res.sl ao l.length cp 72 3 (l.flatMap tokC))) (hl : s.length ≤ 1099511627776) (hll : l.length ≤ s.length) (hts : wsz l ≤ 7 * s.length) (hG : LxG.holds w) (hGA : Apart (Res.row bq 130 [str s, .slice ao l.length cp, .int .i64 (a : Int), .int .u32 bound, .int .i64 e, .int .i64 p]) LxG) : Ret Tryz.prog 174 #[.pointer (some ⟨bq, 0, none⟩)] w (fun v w' => (∃ (z1 z2 : Int) (z3 : Tx) (a' : Int), (argT 110 (l.getD a tok0) bound).2 ≠ 0 ∧ v = .tuple #[.agg #[.int .u8 z1, .int .u32 z2, str z3], .bool false] ∧ St w (Res.row bq 130 [str s, .slice ao l.length cp, .int .i64 (a : Int), .int .u32 bound, .int .i64 e, .int .i64 p]).foot [Res.row bq 130 [str s, .slice ao l.length cp, .int .i64 (a' : Int), .int .u32 bound, .int .i64 (argT 110 (l.getD a tok0) bound).2, .int .i64 ((l.getD a tok0).at_)]] [] w') ∨ ((argT 110 (l.getD a tok0) bound).2 = 0 ∧ v = .tuple #[.agg #[.int .u8 (argT 110 (l.getD a tok0) bound).1.kind, .int .u32 (argT 110 (l.getD a tok0) bound).1.n, str (argT 110 (l.getD a tok0) bound).1.s], .bool true] ∧ St w (Res.row bq 130 [str s, .slice ao l.length cp, .int .i64 (a : Int), .int .u32 bound, .int .i64 e, .int .i64 p]).foot [Res.row bq 130 [str s, .slice ao l.length cp, .int .i64 (a + 1 : Int), .int .u32 bound, .int .i64 e, .int .i64 p]] [] w')) := by
 refine Ret.enter (args := [.pointer (some ⟨bq, 0, none⟩)]) Tryz.func174 rfl rfl rfl ?_
 have hst : St w (Res.row bq 130 [str s, .slice ao l.length cp, .int .i64 (a : Int), .int .u32 bound, .int .i64 e, .int .i64 p]).foot [Res.row bq 130 [str s, .slice ao l.length cp, .int .i64 (a : Int), .int .u32 bound, .int .i64 e, .int .i64 p]] [Res.sl ao l.length cp 72 3 (l.flatMap tokC), LxG] w := St.enter1 hB (by simp only [List.forall_mem_cons]; exact ⟨hT, hG, fun _ h => absurd h List.not_mem_nil⟩) (by simp only [List.forall_mem_cons]; exact ⟨hTA, hGA, fun _ h => absurd h List.not_mem_nil⟩)
 refine SR <| CN <| Op1.alloc hst ty110 fun w b2 hst => AB rfl <| NSR <| MP rfl ?_
 replace hst := hst.pick (.cons (.there (.here)) (.cons (.here) .nil))
 refine CN (Op1.call1 (v1 := .pointer (some ⟨_, _, none⟩)) ent149 rfl rfl ((R7as_number _ _ _ _ l a _ _ _ _ (hst.hL _ (.head _)) (hst.hD _ (.head _)) (hst.sepD _ (.head _) _ (.head _)) hl hll hts (hst.hD _ (.tail _ (.head _))) (hst.sepD _ (.head _) _ (.tail _ (.head _)))).mono fun v w hp => ?_))
 rcases hp with ⟨hk8, rfl, hp⟩ | ⟨hk8, hd8, rfl, hp⟩ | ⟨hk8, hd8, he8, rfl, hp⟩ | ⟨hk8, hd8, he8, rfl, hp⟩
 · skip
   exfalso; omega
 · skip
   replace hst := hst.call1 hp
   clear hp
   refine CN <| Op1.move (v := .tuple #[.int .u32 _, .bool _]) rfl <| CN <| Op1.extract (v := .int .u32 _) rfl rfl <| CN <| Op1.extract (v := .bool _) rfl rfl <| AU rfl <| AB rfl <| NSR <| MU rfl <| CN (Op1.buildStruct ty110 stf110 (.c (v := .int .u8 _) rfl (h := (.c (v := .int .u32 _) rfl (h := .nil)))) ?_)
   refine MB rfl <| CN (SO (v := .agg #[.int .u8 _, .int .u32 _, str _]) hst ty110 rfl rfl (.there (.here)) fun w hst => ?_)
   refine AB rfl <| NL <| run_ret2 Tryz.func174 rfl (RV.cellA (vs := [.int .u8 _, .int .u32 _, str _]) rfl ty110 rfl rfl (cells_of_obj (n := 3) (hst.objL (.tail _ (.head _))) _ rfl)) (TP (v := .bool _) rfl) ?_
   replace hst := hst.pick (.cons (.here) .nil)
   rw [argT_kind (c := 110) (by decide) (show (l.getD a tok0).kind ≠ kindT 110 from hd8)]
   exact .inl ⟨_, _, _, _, (show (70 : Int) ≠ 0 by decide), rfl, hst.noD⟩
 · skip
   replace hst := hst.call1 hp
   clear hp
   refine CN <| Op1.move (v := .tuple #[.int .u32 _, .bool _]) rfl <| CN <| Op1.extract (v := .int .u32 _) rfl rfl <| CN <| Op1.extract (v := .bool _) rfl rfl <| AU rfl <| AB rfl <| NSR <| MU rfl <| CN (Op1.buildStruct ty110 stf110 (.c (v := .int .u8 _) rfl (h := (.c (v := .int .u32 _) rfl (h := .nil)))) ?_)
   refine MB rfl <| CN (SO (v := .agg #[.int .u8 _, .int .u32 _, str _]) hst ty110 rfl rfl (.there (.here)) fun w hst => ?_)
   refine AB rfl <| NL <| run_ret2 Tryz.func174 rfl (RV.cellA (vs := [.int .u8 _, .int .u32 _, str _]) rfl ty110 rfl rfl (cells_of_obj (n := 3) (hst.objL (.tail _ (.head _))) _ rfl)) (TP (v := .bool _) rfl) ?_
   replace hst := hst.pick (.cons (.here) .nil)
   rw [argT_num0 hd8 he8]
   exact .inl ⟨_, _, _, _, he8, rfl, hst.noD⟩
 · skip
   replace hst := hst.call1 hp
   clear hp
   refine CN <| Op1.move (v := .tuple #[.int .u32 _, .bool _]) rfl <| CN <| Op1.extract (v := .int .u32 _) rfl rfl <| CN <| Op1.extract (v := .bool _) rfl rfl <| AU rfl <| AB rfl <| NSR <| MU rfl <| CN (Op1.buildStruct ty110 stf110 (.c (v := .int .u8 _) rfl (h := (.c (v := .int .u32 _) rfl (h := .nil)))) ?_)
   refine MB rfl <| CN (SO (v := .agg #[.int .u8 _, .int .u32 _, str _]) hst ty110 rfl rfl (.there (.here)) fun w hst => ?_)
   refine AB rfl <| NL <| run_ret2 Tryz.func174 rfl (RV.cellA (vs := [.int .u8 _, .int .u32 _, str _]) rfl ty110 rfl rfl (cells_of_obj (n := 3) (hst.objL (.tail _ (.head _))) _ rfl)) (TP (v := .bool _) rfl) ?_
   replace hst := hst.pick (.cons (.here) .nil)
   rw [argT_num hd8 he8]
   exact .inr ⟨rfl, rfl, hst.noD⟩
end Go.SK
namespace Go.SK
open Go Go.Proofs
theorem ent209 : Enters Tryz.prog 209 := ⟨Tryz.f209, _, Tryz.func209, by kernel_rfl, rfl⟩
theorem ty124 : TyF Tryz.prog 124 (.pointer 130) 1 8 [.pointer none] := TyF.of (by kernel_rfl) (by kernel_rfl)
end Go.SK
namespace Go.SK
open Go Go.Proofs
open Go.RowKit
theorem R7as_textArg (bq : Nat) (s : Tx) (ao : Option Addr) (cp : Nat) (l : List TokL) (a : Nat) (bound e p : Int) (w : World) (ha : a < l.length) (hB : (Res.row bq 130 [str s, .slice ao l.length cp, .int .i64 (a : Int), .int .u32 bound, .int .i64 e, .int .i64 p]).holds w) (hT : (Res.sl ao l.length cp 72 3 (l.flatMap tokC)).holds w) (hTA : Apart (Res.row bq 130 [str s, .slice ao l.length cp, .int .i64 (a : Int), .int .u32 bound, .int .i64 e, .int .i64 p]) (Res.sl ao l.length cp 72 3 (l.flatMap tokC))) (hl : s.length ≤ 1099511627776) (hll : l.length ≤ s.length) (hts : wsz l ≤ 7 * s.length) : Ret Tryz.prog 175 #[.pointer (some ⟨bq, 0, none⟩)] w (fun v w' => (∃ (z1 z2 : Int) (z3 : Tx) (a' : Int), (argT 115 (l.getD a tok0) bound).2 ≠ 0 ∧ v = .tuple #[.agg #[.int .u8 z1, .int .u32 z2, str z3], .bool false] ∧ St w (Res.row bq 130 [str s, .slice ao l.length cp, .int .i64 (a : Int), .int .u32 bound, .int .i64 e, .int .i64 p]).foot [Res.row bq 130 [str s, .slice ao l.length cp, .int .i64 (a' : Int), .int .u32 bound, .int .i64 (argT 115 (l.getD a tok0) bound).2, .int .i64 ((l.getD a tok0).at_)]] [] w') ∨ ((argT 115 (l.getD a tok0) bound).2 = 0 ∧ v = .tuple #[.agg #[.int .u8 (argT 115 (l.getD a tok0) bound).1.kind, .int .u32 (argT 115 (l.getD a tok0) bound).1.n, str (argT 115 (l.getD a tok0) bound).1.s], .bool true] ∧ St w (Res.row bq 130 [str s, .slice ao l.length cp, .int .i64 (a : Int), .int .u32 bound, .int .i64 e, .int .i64 p]).foot [Res.row bq 130 [str s, .slice ao l.length cp, .int .i64 (a + 1 : Int), .int .u32 bound, .int .i64 e, .int .i64 p]] [] w')) := by
 refine Ret.enter (args := [.pointer (some ⟨bq, 0, none⟩)]) Tryz.func175 rfl rfl rfl ?_
 have hst : St w (Res.row bq 130 [str s, .slice ao l.length cp, .int .i64 (a : Int), .int .u32 bound, .int .i64 e, .int .i64 p]).foot [Res.row bq 130 [str s, .slice ao l.length cp, .int .i64 (a : Int), .int .u32 bound, .int .i64 e, .int .i64 p]] [Res.sl ao l.length cp 72 3 (l.flatMap tokC)] w := St.enter1 hB (by simp only [List.forall_mem_cons]; exact ⟨hT, fun _ h => absurd h List.not_mem_nil⟩) (by simp only [List.forall_mem_cons]; exact ⟨hTA, fun _ h => absurd h List.not_mem_nil⟩)
 refine SR <| CN <| Op1.alloc hst ty110 fun w b2 hst => AB rfl <| NSR <| MP rfl ?_
 replace hst := hst.pick (.cons (.there (.here)) (.cons (.here) .nil))
 refine CN (Op1.call2 (v1 := .pointer (some ⟨_, _, none⟩)) (v2 := .int .u8 _) ent126 rfl rfl rfl ((R7as_take _ _ _ _ l a _ _ _ 4 _ (hst.hL _ (.head _)) (hst.hD _ (.head _)) (hst.sepD _ (.head _) _ (.head _)) hl hll hts).mono fun v w hp => ?_))
 rcases hp with ⟨hk9, rfl, hp⟩ | ⟨hk9, hd9, rfl, hp⟩ | ⟨hk9, hd9, rfl, hp⟩
 · skip
   exfalso; omega
 · skip
   replace hst := hst.call1 hp
   clear hp
   refine CN <| Op1.move (v := .tuple #[.agg #[.int .u8 _, str _, .int .i64 _], .bool _]) rfl <| CN <| Op1.extract (v := .agg #[.int .u8 _, str _, .int .i64 _]) rfl rfl <| CN <| Op1.extract (v := .bool _) rfl rfl <| CN <| Op1.alloc hst ty72 fun w b4 hst => CN (SO (v := .agg #[.int .u8 _, str _, .int .i64 _]) hst ty72 rfl rfl (.here) fun w hst => ?_)
   refine AB rfl <| NL <| SQ <| SR <| CN <| Op1.fieldAddr fld72_1 rfl <| CN <| Op1.load1 (v := str _) ty9 rfl rfl (hst.cellL (.head _) rfl) <| CN <| Op1.lenS (rest := []) ty9 rfl <| MI rfl <| NL <| run_block <| run_loop <| Run.indW [(0, .pointer (some ⟨_, _, none⟩)), (2, .pointer (some ⟨_, _, none⟩)), (4, .pointer (some ⟨_, _, none⟩)), (5, .bool _), (14, .int .i64 _)] ⟨rfl, rfl, rfl, rfl, rfl, trivial⟩ (fun (qq : Nat) => [(15, .int .i64 (qq : Int))]) (fun (qq : Nat) => []) (fun (qq : Nat) => qq = 0) (fun (qq : Nat) => 0) (0) hst rfl ⟨rfl, trivial⟩ ?_
   intro i f w hst hJ ih1
   replace hst : St _ _ ([] ++ [_, _, _]) _ _ := hst
   replace hJ : i = 0 := hJ
   refine Run.slots (sl := [(15, .int .i64 (i : Int))]) ⟨rfl, trivial⟩ <| SR <| CN <| Op1.lss rfl rfl <| NL <| SQ <| run_cond_dec rfl (fun g2 => ?_) (fun g2 => ?_)
   · skip
     exfalso
     first | omega | (simp at g2; done) | (simp at g2; omega)
   refine run_exit (id := 0) rfl <| SR <| CN <| Op1.fieldAddr fld72_1 rfl <| CN <| Op1.load1 (v := str _) ty9 rfl rfl (hst.cellL (.head _) rfl) <| CN (Op1.buildStruct ty110 stf110 (.c (v := .int .u8 _) rfl (h := (.c (v := str _) rfl (h := .nil)))) ?_)
   refine MB rfl <| CN (SO (v := .agg #[.int .u8 _, .int .u32 _, str _]) hst ty110 rfl rfl (.there (.there (.here))) fun w hst => ?_)
   refine AB rfl <| NL <| run_ret2 Tryz.func175 rfl (RV.cellA (vs := [.int .u8 _, .int .u32 _, str _]) rfl ty110 rfl rfl (cells_of_obj (n := 3) (hst.objL (.tail _ (.tail _ (.head _)))) _ rfl)) (TP (v := .bool _) rfl) ?_
   replace hst := hst.pick (.cons (.there (.here)) .nil)
   rw [argT_kind (c := 115) (by decide) (show (l.getD a tok0).kind ≠ kindT 115 from hd9)]
   exact .inl ⟨_, _, _, _, (show (70 : Int) ≠ 0 by decide), rfl, hst.noD⟩
 · skip
   replace hst := hst.call1 hp
   clear hp
   refine CN <| Op1.move (v := .tuple #[.agg #[.int .u8 _, str _, .int .i64 _], .bool _]) rfl <| CN <| Op1.extract (v := .agg #[.int .u8 _, str _, .int .i64 _]) rfl rfl <| CN <| Op1.extract (v := .bool _) rfl rfl <| CN <| Op1.alloc hst ty72 fun w b4 hst => CN (SO (v := .agg #[.int .u8 _, str _, .int .i64 _]) hst ty72 rfl rfl (.here) fun w hst => ?_)
   refine AB rfl <| NL <| SQ <| SR <| CN <| Op1.fieldAddr fld72_1 rfl <| CN <| Op1.load1 (v := str _) ty9 rfl rfl (hst.cellL (.head _) rfl) <| CN <| Op1.lenS (rest := []) ty9 rfl <| MI rfl <| NL <| run_block <| run_loop <| Run.indW [(0, .pointer (some ⟨_, _, none⟩)), (2, .pointer (some ⟨_, _, none⟩)), (4, .pointer (some ⟨_, _, none⟩)), (5, .bool _), (14, .int .i64 _)] ⟨rfl, rfl, rfl, rfl, rfl, trivial⟩ (fun (qq : Nat) => [(15, .int .i64 (qq : Int))]) (fun (qq : Nat) => []) (fun (qq : Nat) => qq ≤ (l.getD a tok0).text.length ∧ ∀ j, j < qq → (l.getD a tok0).text.getD j 0 ≠ 0) (fun (qq : Nat) => (l.getD a tok0).text.length - qq) (0) hst ⟨Nat.zero_le _, fun j hj => absurd hj (Nat.not_lt_zero _)⟩ ⟨rfl, trivial⟩ ?_
   intro i f w hst hJ ih3
   replace hst : St _ _ ([] ++ [_, _, _]) _ _ := hst
   replace hJ : i ≤ (l.getD a tok0).text.length ∧ ∀ j, j < i → (l.getD a tok0).text.getD j 0 ≠ 0 := hJ
   refine Run.slots (sl := [(15, .int .i64 (i : Int))]) ⟨rfl, trivial⟩ ?_
   have hj1 := hJ.1
   have hidx : ((l.getD a tok0).text.getD ((i : Int).toNat) 0).toNat = ((l.getD a tok0).text.getD i 0).toNat := rfl
   have hwm := wsz_mem (l := l) (i := a) (by omega)
   refine SR <| CN <| Op1.lss rfl rfl <| NL <| SQ <| run_cond_dec rfl (fun g4 => ?_) (fun g4 => ?_)
   · skip
     refine run_skip <| SQ <| run_block <| SR <| MI rfl <| AI rfl <| NSR <| CN <| Op1.fieldAddr fld72_1 rfl <| CN <| Op1.load1 (v := str _) ty9 rfl rfl (hst.cellL (.head _) rfl) <| MI rfl <| CN <| Op1.indexS ty9 rfl rfl (by omega) (by omega) <| CN (Op1.eql rfl rfl ?_)
     refine NL <| run_cond_dec rfl (fun g5 => ?_) (fun g5 => ?_)
     · skip
       refine SR <| CN (Op1.buildStruct ty110 stf110 .nil ?_)
       refine MP rfl <| CN <| Op1.fieldAddr fld72_2 rfl <| CN (Op1.load1 (v := .int .i64 _) ty3 rfl rfl (hst.cellL (.head _) rfl) ?_)
       replace hst := hst.pick (.cons (.there (.here)) (.cons (.here) (.cons (.here) .nil)))
       refine CN (Op1.call3 (v1 := .pointer (some ⟨_, _, none⟩)) (v2 := .int .i64 _) (v3 := .int .i64 _) ent128 rfl rfl rfl rfl ((R7as_fails _ _ _ _ _ _ _ e p _ _ _ (hst.hL _ (.head _))).mono fun v w hp => ?_))
       obtain ⟨rfl, hp⟩ := hp
       replace hst := hst.call1 hp
       clear hp
       refine CN (SO (v := .agg #[.int .u8 _, .int .u32 _, str _]) hst ty110 rfl rfl (.there (.there (.here))) fun w hst => ?_)
       refine AB rfl <| NL <| run_ret2 Tryz.func175 rfl (RV.cellA (vs := [.int .u8 _, .int .u32 _, str _]) rfl ty110 rfl rfl (cells_of_obj (n := 3) (hst.objL (.tail _ (.tail _ (.head _)))) _ rfl)) (TP (v := .bool _) rfl) ?_
       replace hst := hst.pick (.cons (.here) .nil)
       have hz : zeroAt (l.getD a tok0).text = i := zero_at (by omega) (UInt8.toNat_inj.1 (by rw [← hidx]; show _ = 0; omega)) hJ.2
       rw [argT_txt0 hd9 (by rw [hz]; omega)]
       exact .inl ⟨_, _, _, _, (show (13 : Int) ≠ 0 by decide), rfl, hst.noD⟩
     refine run_skip <| run_inBlock <| RG <| CN <| Op1.addN rfl rfl rfl (wrap_i64 (by omega) (by omega)) <| MI rfl <| NL <| run_inLoop ?_
     exact ih3 (i + 1) _ w ((by omega)) hst (⟨by omega, lt_succ_all hJ.2 (fun e => g5 (by rw [hidx, e]; rfl))⟩) ⟨rfl, rfl, rfl, rfl, rfl, trivial⟩ ⟨(congrArg (Value.int .i64) (by omega)), trivial⟩
   refine run_exit (id := 0) rfl <| SR <| CN <| Op1.fieldAddr fld72_1 rfl <| CN <| Op1.load1 (v := str _) ty9 rfl rfl (hst.cellL (.head _) rfl) <| CN (Op1.buildStruct ty110 stf110 (.c (v := .int .u8 _) rfl (h := (.c (v := str _) rfl (h := .nil)))) ?_)
   refine MB rfl <| CN (SO (v := .agg #[.int .u8 _, .int .u32 _, str _]) hst ty110 rfl rfl (.there (.there (.here))) fun w hst => ?_)
   refine AB rfl <| NL <| run_ret2 Tryz.func175 rfl (RV.cellA (vs := [.int .u8 _, .int .u32 _, str _]) rfl ty110 rfl rfl (cells_of_obj (n := 3) (hst.objL (.tail _ (.tail _ (.head _)))) _ rfl)) (TP (v := .bool _) rfl) ?_
   replace hst := hst.pick (.cons (.there (.here)) .nil)
   have hz : zeroAt (l.getD a tok0).text = (l.getD a tok0).text.length := zero_none (fun q hq => hJ.2 q (by omega))
   rw [argT_txt hd9 hz]
   exact .inr ⟨rfl, rfl, hst.noD⟩
theorem R7as_enumArg (bq : Nat) (s : Tx) (ao : Option Addr) (cp : Nat) (l : List TokL) (a : Nat) (bound e p : Int) (c : Int) (hc : 0 ≤ c ∧ c ≤ 255) (hc0 : c ≠ 0) (hc1 : c ≠ 105) (hc2 : c ≠ 110) (hc3 : c ≠ 115) (w : World) (ha : a < l.length) (hB : (Res.row bq 130 [str s, .slice ao l.length cp, .int .i64 (a : Int), .int .u32 bound, .int .i64 e, .int .i64 p]).holds w) (hT : (Res.sl ao l.length cp 72 3 (l.flatMap tokC)).holds w) (hTA : Apart (Res.row bq 130 [str s, .slice ao l.length cp, .int .i64 (a : Int), .int .u32 bound, .int .i64 e, .int .i64 p]) (Res.sl ao l.length cp 72 3 (l.flatMap tokC))) (hl : s.length ≤ 1099511627776) (hll : l.length ≤ s.length) (hts : wsz l ≤ 7 * s.length) : Ret Tryz.prog 177 #[.pointer (some ⟨bq, 0, none⟩), .int .u8 c] w (fun v w' => (∃ (z1 z2 : Int) (z3 : Tx) (a' : Int), (argT c (l.getD a tok0) bound).2 ≠ 0 ∧ v = .tuple #[.agg #[.int .u8 z1, .int .u32 z2, str z3], .bool false] ∧ St w (Res.row bq 130 [str s, .slice ao l.length cp, .int .i64 (a : Int), .int .u32 bound, .int .i64 e, .int .i64 p]).foot [Res.row bq 130 [str s, .slice ao l.length cp, .int .i64 (a' : Int), .int .u32 bound, .int .i64 (argT c (l.getD a tok0) bound).2, .int .i64 ((l.getD a tok0).at_)]] [] w') ∨ ((argT c (l.getD a tok0) bound).2 = 0 ∧ v = .tuple #[.agg #[.int .u8 (argT c (l.getD a tok0) bound).1.kind, .int .u32 (argT c (l.getD a tok0) bound).1.n, str (argT c (l.getD a tok0) bound).1.s], .bool true] ∧ St w (Res.row bq 130 [str s, .slice ao l.length cp, .int .i64 (a : Int), .int .u32 bound, .int .i64 e, .int .i64 p]).foot [Res.row bq 130 [str s, .slice ao l.length cp, .int .i64 (a + 1 : Int), .int .u32 bound, .int .i64 e, .int .i64 p]] [] w')) := by
 refine Ret.enter (args := [.pointer (some ⟨bq, 0, none⟩), .int .u8 c]) Tryz.func177 rfl rfl rfl ?_
 have hst : St w (Res.row bq 130 [str s, .slice ao l.length cp, .int .i64 (a : Int), .int .u32 bound, .int .i64 e, .int .i64 p]).foot [Res.row bq 130 [str s, .slice ao l.length cp, .int .i64 (a : Int), .int .u32 bound, .int .i64 e, .int .i64 p]] [Res.sl ao l.length cp 72 3 (l.flatMap tokC)] w := St.enter1 hB (by simp only [List.forall_mem_cons]; exact ⟨hT, fun _ h => absurd h List.not_mem_nil⟩) (by simp only [List.forall_mem_cons]; exact ⟨hTA, fun _ h => absurd h List.not_mem_nil⟩)
 refine SR <| CN <| Op1.alloc hst ty110 fun w b4 hst => AB rfl <| NSR <| MP rfl ?_
 replace hst := hst.pick (.cons (.there (.here)) (.cons (.here) .nil))
 refine CN (Op1.call2 (v1 := .pointer (some ⟨_, _, none⟩)) (v2 := .int .u8 _) ent126 rfl rfl rfl ((R7as_take _ _ _ _ l a _ _ _ 1 _ (hst.hL _ (.head _)) (hst.hD _ (.head _)) (hst.sepD _ (.head _) _ (.head _)) hl hll hts).mono fun v w hp => ?_))
 rcases hp with ⟨hk12, rfl, hp⟩ | ⟨hk12, hd12, rfl, hp⟩ | ⟨hk12, hd12, rfl, hp⟩
 · skip
   exfalso; omega
 · skip
   replace hst := hst.call1 hp
   clear hp
   refine CN <| Op1.move (v := .tuple #[.agg #[.int .u8 _, str _, .int .i64 _], .bool _]) rfl <| CN <| Op1.extract (v := .agg #[.int .u8 _, str _, .int .i64 _]) rfl rfl <| CN <| Op1.extract (v := .bool _) rfl rfl <| CN <| Op1.alloc hst ty72 fun w b6 hst => CN (SO (v := .agg #[.int .u8 _, str _, .int .i64 _]) hst ty72 rfl rfl (.here) fun w hst => ?_)
   refine AB rfl <| NL <| SQ <| SR <| MB rfl <| CN <| Op1.not rfl <| NL <| run_cond_true (congrArg Value.bool (congrArg not (rfl : false = _))) <| SR <| CN (Op1.buildStruct ty110 stf110 .nil ?_)
   refine CN (SO (v := .agg #[.int .u8 _, .int .u32 _, str _]) hst ty110 rfl rfl (.there (.there (.here))) fun w hst => ?_)
   refine AB rfl <| NL <| run_ret2 Tryz.func177 rfl (RV.cellA (vs := [.int .u8 _, .int .u32 _, str _]) rfl ty110 rfl rfl (cells_of_obj (n := 3) (hst.objL (.tail _ (.tail _ (.head _)))) _ rfl)) (TP (v := .bool _) rfl) ?_
   replace hst := hst.pick (.cons (.there (.here)) .nil)
   rw [argT_kind hc0 (by rw [kindT_enum hc1 hc2 hc3]; exact hd12)]
   exact .inl ⟨_, _, _, _, (show (70 : Int) ≠ 0 by decide), rfl, hst.noD⟩
 · skip
   replace hst := hst.call1 hp
   clear hp
   refine CN <| Op1.move (v := .tuple #[.agg #[.int .u8 _, str _, .int .i64 _], .bool _]) rfl <| CN <| Op1.extract (v := .agg #[.int .u8 _, str _, .int .i64 _]) rfl rfl <| CN <| Op1.extract (v := .bool _) rfl rfl <| CN <| Op1.alloc hst ty72 fun w b6 hst => CN (SO (v := .agg #[.int .u8 _, str _, .int .i64 _]) hst ty72 rfl rfl (.here) fun w hst => ?_)
   refine AB rfl <| NL <| SQ <| SR <| MB rfl <| CN <| Op1.not rfl <| NL <| run_cond_false (congrArg Value.bool (congrArg not (rfl : true = _))) <| run_skip <| SR <| MC rfl <| CN <| Op1.fieldAddr fld72_1 rfl <| CN (Op1.load1 (v := str _) ty9 rfl rfl (hst.cellL (.head _) rfl) ?_)
   refine CN <| Op1.call2 (v1 := .int .u8 _) (v2 := str _) ent209 rfl rfl rfl <| Ret.det (R7gr_EnumNamed c (l.getD a tok0).text hc.1 hc.2 _) hst fun w hst => CN <| Op1.move (v := .tuple #[.int .u32 _, .bool _]) rfl <| CN <| Op1.extract (v := .int .u32 _) rfl rfl <| CN <| Op1.extract (v := .bool _) rfl rfl <| AU rfl <| AB rfl <| NL <| Run.forget [(0, .pointer (some ⟨_, _, none⟩)), (4, .pointer (some ⟨_, _, none⟩)), (6, .pointer (some ⟨_, _, none⟩)), (8, .int .u32 _), (9, .bool _)] ⟨rfl, rfl, rfl, rfl, rfl, trivial⟩ fun f => SQ <| SR <| MB rfl <| CN <| Op1.not rfl <| NL <| run_cond_split rfl (fun g1 => ?_) (fun g1 => ?_)
   · skip
     refine SR <| CN (Op1.buildStruct ty110 stf110 .nil ?_)
     refine MP rfl <| CN <| Op1.fieldAddr fld72_2 rfl <| CN (Op1.load1 (v := .int .i64 _) ty3 rfl rfl (hst.cellL (.head _) rfl) ?_)
     replace hst := hst.pick (.cons (.there (.here)) (.cons (.here) (.cons (.here) .nil)))
     refine CN (Op1.call3 (v1 := .pointer (some ⟨_, _, none⟩)) (v2 := .int .i64 _) (v3 := .int .i64 _) ent128 rfl rfl rfl rfl ((R7as_fails _ _ _ _ _ _ _ e p _ _ _ (hst.hL _ (.head _))).mono fun v w hp => ?_))
     obtain ⟨rfl, hp⟩ := hp
     replace hst := hst.call1 hp
     clear hp
     refine CN (SO (v := .agg #[.int .u8 _, .int .u32 _, str _]) hst ty110 rfl rfl (.there (.there (.here))) fun w hst => ?_)
     refine AB rfl <| NL <| run_ret2 Tryz.func177 rfl (RV.cellA (vs := [.int .u8 _, .int .u32 _, str _]) rfl ty110 rfl rfl (cells_of_obj (n := 3) (hst.objL (.tail _ (.tail _ (.head _)))) _ rfl)) (TP (v := .bool _) rfl) ?_
     replace hst := hst.pick (.cons (.here) .nil)
     rw [argT_enum0 hc0 hc1 hc2 hc3 hd12 (by simpa using g1)]
     exact .inl ⟨_, _, _, _, (show (71 : Int) ≠ 0 by decide), rfl, hst.noD⟩
   refine run_skip <| SR <| MU rfl <| CN (Op1.buildStruct ty110 stf110 (.c (v := .int .u8 _) rfl (h := (.c (v := .int .u32 _) rfl (h := .nil)))) ?_)
   refine CN (SO (v := .agg #[.int .u8 _, .int .u32 _, str _]) hst ty110 rfl rfl (.there (.there (.here))) fun w hst => ?_)
   refine AB rfl <| NL <| run_ret2 Tryz.func177 rfl (RV.cellA (vs := [.int .u8 _, .int .u32 _, str _]) rfl ty110 rfl rfl (cells_of_obj (n := 3) (hst.objL (.tail _ (.tail _ (.head _)))) _ rfl)) (TP (v := .bool _) rfl) ?_
   replace hst := hst.pick (.cons (.there (.here)) .nil)
   rw [argT_enum hc0 hc1 hc2 hc3 hd12 (by simpa using g1)]
   exact .inr ⟨rfl, rfl, hst.noD⟩
theorem R7as_asks (bq : Nat) (c : Int) (w : World) : Ret Tryz.prog 132 #[.pointer (some ⟨bq, 0, none⟩), .int .u8 c] w (fun v w' => (c = 105 ∧ v = .func (.func 173) #[.pointer (some ⟨bq, 0, none⟩)] #[] ∧ St w NoM [] [] w') ∨ (c = 110 ∧ v = .func (.func 174) #[.pointer (some ⟨bq, 0, none⟩)] #[] ∧ St w NoM [] [] w') ∨ (c = 115 ∧ v = .func (.func 175) #[.pointer (some ⟨bq, 0, none⟩)] #[] ∧ St w NoM [] [] w') ∨ (c ≠ 105 ∧ c ≠ 110 ∧ c ≠ 115 ∧ ∃ b2 b3, v = .func (.func 176) #[] #[.pointer (some ⟨b2, 0, none⟩), .pointer (some ⟨b3, 0, none⟩)] ∧ St w NoM [Res.row b2 124 [.pointer (some ⟨bq, 0, none⟩)], Res.row b3 5 [.int .u8 c]] [] w')) := by
 refine Ret.enter (args := [.pointer (some ⟨bq, 0, none⟩), .int .u8 c]) Tryz.func132 rfl rfl rfl ?_
 have hst := St.init w
 refine SR <| CN <| Op1.box (v := .pointer (some ⟨_, _, none⟩)) hst rfl rfl fun w b2 hst => CN <| Op1.box (v := .int .u8 _) hst rfl rfl fun w b3 hst => CN <| Op1.assign (v := _) rfl <| NL <| SQ <| SR <| CN <| Op1.load1 (v := .int .u8 _) ty5 rfl rfl (hst.cellL (.head _) rfl) <| NL <| run_block <| SR <| CN (Op1.eql rfl rfl ?_)
 refine AB rfl <| NL <| run_cond_dec rfl (fun g1 => ?_) (fun g1 => ?_)
 · skip
   refine SR <| CN <| Op1.load1 (v := .pointer _) ty124 rfl rfl (hst.cellL (.tail _ (.head _)) rfl) <| CN <| Op1.makeFunc <| CN <| Op1.assign (v := .func _ _ _) rfl <| NL <| run_ret1 Tryz.func132 rfl (TP (v := .func _ _ _) rfl) ?_
   exact .inl ⟨by omega, rfl, hst.pure⟩
 refine SR <| CN <| Op1.eql rfl rfl <| AB rfl <| NL <| run_cond_dec rfl (fun g2 => ?_) (fun g2 => ?_)
 · skip
   refine SR <| CN <| Op1.load1 (v := .pointer _) ty124 rfl rfl (hst.cellL (.tail _ (.head _)) rfl) <| CN <| Op1.makeFunc <| CN <| Op1.assign (v := .func _ _ _) rfl <| NL <| run_ret1 Tryz.func132 rfl (TP (v := .func _ _ _) rfl) ?_
   exact .inr (.inl ⟨by omega, rfl, hst.pure⟩)
 refine SR <| CN <| Op1.eql rfl rfl <| AB rfl <| NL <| run_cond_dec rfl (fun g3 => ?_) (fun g3 => ?_)
 · skip
   refine SR <| CN <| Op1.load1 (v := .pointer _) ty124 rfl rfl (hst.cellL (.tail _ (.head _)) rfl) <| CN <| Op1.makeFunc <| CN <| Op1.assign (v := .func _ _ _) rfl <| NL <| run_ret1 Tryz.func132 rfl (TP (v := .func _ _ _) rfl) ?_
   exact .inr (.inr (.inl ⟨by omega, rfl, hst.pure⟩))
 refine run_skip <| run_inBlock <| SR <| CN <| Op1.makeFunc <| CN <| Op1.assign (v := .func _ _ _) rfl <| NL <| run_ret1 Tryz.func132 rfl (TP (v := .func _ _ _) rfl) ?_
 replace hst := hst.pick (.cons (.there (.here)) (.cons (.here) .nil))
 exact .inr (.inr (.inr ⟨by omega, by omega, by omega, _, _, rfl, hst⟩))
end Go.SK
namespace Go.SK
open Go Go.Proofs
theorem ent177 : Enters Tryz.prog 177 := ⟨Tryz.f177, _, Tryz.func177, by kernel_rfl, rfl⟩
theorem ent176 : Enters Tryz.prog 176 := ⟨Tryz.f176, _, Tryz.func176, by kernel_rfl, rfl⟩
theorem ent173 : Enters Tryz.prog 173 := ⟨Tryz.f173, _, Tryz.func173, by kernel_rfl, rfl⟩
theorem ent174 : Enters Tryz.prog 174 := ⟨Tryz.f174, _, Tryz.func174, by kernel_rfl, rfl⟩
theorem ent175 : Enters Tryz.prog 175 := ⟨Tryz.f175, _, Tryz.func175, by kernel_rfl, rfl⟩
theorem ent121 : Enters Tryz.prog 121 := ⟨Tryz.f121, _, Tryz.func121, by kernel_rfl, rfl⟩
theorem ent67 : Enters Tryz.prog 67 := ⟨Tryz.f67, _, Tryz.func67, by kernel_rfl, rfl⟩
theorem ent123 : Enters Tryz.prog 123 := ⟨Tryz.f123, _, Tryz.func123, by kernel_rfl, rfl⟩
end Go.SK
namespace Go.SK
open Go Go.Proofs
open Go.RowKit
theorem R7as_asks1 (bq : Nat) (s : Tx) (ao : Option Addr) (cp : Nat) (l : List TokL) (a : Nat) (bound e p : Int) (c : Int) (hc : 0 ≤ c ∧ c ≤ 255) (hc0 : c ≠ 0) (hc1 : c ≠ 105) (hc2 : c ≠ 110) (hc3 : c ≠ 115) (c2 c3 : Nat) (w : World) (ha : a < l.length) (hB : (Res.row bq 130 [str s, .slice ao l.length cp, .int .i64 (a : Int), .int .u32 bound, .int .i64 e, .int .i64 p]).holds w) (hT : (Res.sl ao l.length cp 72 3 (l.flatMap tokC)).holds w) (hTA : Apart (Res.row bq 130 [str s, .slice ao l.length cp, .int .i64 (a : Int), .int .u32 bound, .int .i64 e, .int .i64 p]) (Res.sl ao l.length cp 72 3 (l.flatMap tokC))) (hl : s.length ≤ 1099511627776) (hll : l.length ≤ s.length) (hts : wsz l ≤ 7 * s.length) (h2 : (Res.row c2 124 [.pointer (some ⟨bq, 0, none⟩)]).holds w) (h3 : (Res.row c3 5 [.int .u8 c]).holds w) (ha2 : Apart (Res.row bq 130 [str s, .slice ao l.length cp, .int .i64 (a : Int), .int .u32 bound, .int .i64 e, .int .i64 p]) (Res.row c2 124 [.pointer (some ⟨bq, 0, none⟩)])) (ha3 : Apart (Res.row bq 130 [str s, .slice ao l.length cp, .int .i64 (a : Int), .int .u32 bound, .int .i64 e, .int .i64 p]) (Res.row c3 5 [.int .u8 c])) : Ret Tryz.prog 176 #[.pointer (some ⟨c2, 0, none⟩), .pointer (some ⟨c3, 0, none⟩)] w (fun v w' => (∃ (z1 z2 : Int) (z3 : Tx) (a' : Int), (argT c (l.getD a tok0) bound).2 ≠ 0 ∧ v = .tuple #[.agg #[.int .u8 z1, .int .u32 z2, str z3], .bool false] ∧ St w (Res.row bq 130 [str s, .slice ao l.length cp, .int .i64 (a : Int), .int .u32 bound, .int .i64 e, .int .i64 p]).foot [Res.row bq 130 [str s, .slice ao l.length cp, .int .i64 (a' : Int), .int .u32 bound, .int .i64 (argT c (l.getD a tok0) bound).2, .int .i64 ((l.getD a tok0).at_)]] [] w') ∨ ((argT c (l.getD a tok0) bound).2 = 0 ∧ v = .tuple #[.agg #[.int .u8 (argT c (l.getD a tok0) bound).1.kind, .int .u32 (argT c (l.getD a tok0) bound).1.n, str (argT c (l.getD a tok0) bound).1.s], .bool true] ∧ St w (Res.row bq 130 [str s, .slice ao l.length cp, .int .i64 (a : Int), .int .u32 bound, .int .i64 e, .int .i64 p]).foot [Res.row bq 130 [str s, .slice ao l.length cp, .int .i64 (a + 1 : Int), .int .u32 bound, .int .i64 e, .int .i64 p]] [] w')) := by
 refine Ret.enter (args := [.pointer (some ⟨c2, 0, none⟩), .pointer (some ⟨c3, 0, none⟩)]) Tryz.func176 rfl rfl rfl ?_
 have hst : St w (Res.row bq 130 [str s, .slice ao l.length cp, .int .i64 (a : Int), .int .u32 bound, .int .i64 e, .int .i64 p]).foot [Res.row bq 130 [str s, .slice ao l.length cp, .int .i64 (a : Int), .int .u32 bound, .int .i64 e, .int .i64 p]] [Res.sl ao l.length cp 72 3 (l.flatMap tokC), Res.row c2 124 [.pointer (some ⟨bq, 0, none⟩)], Res.row c3 5 [.int .u8 c]] w := St.enter1 hB (by simp only [List.forall_mem_cons]; exact ⟨hT, h2, h3, fun _ h => absurd h List.not_mem_nil⟩) (by simp only [List.forall_mem_cons]; exact ⟨hTA, ha2, ha3, fun _ h => absurd h List.not_mem_nil⟩)
 refine SR <| CN <| Op1.alloc hst ty110 fun w b2 hst => AB rfl <| NSR <| CN <| Op1.load1 (v := .pointer (some ⟨_, _, none⟩)) ty124 rfl rfl (hst.cellD (.tail _ (.head _)) rfl) <| CN (Op1.load1 (v := .int .u8 _) ty5 rfl rfl (hst.cellD (.tail _ (.tail _ (.head _))) rfl) ?_)
 replace hst := hst.pick (.cons (.there (.here)) (.cons (.here) .nil))
 refine CN (Op1.call2 (v1 := .pointer (some ⟨_, _, none⟩)) (v2 := .int .u8 _) ent177 rfl rfl rfl ((R7as_enumArg _ _ _ _ l a _ _ _ c hc hc0 hc1 hc2 hc3 _ ha (hst.hL _ (.head _)) (hst.hD _ (.head _)) (hst.sepD _ (.head _) _ (.head _)) hl hll hts).mono fun v w hp => ?_))
 rcases hp with ⟨z1, z2, z3, a2, hne, rfl, hp⟩ | ⟨hz, rfl, hp⟩
 · skip
   replace hst := hst.call1 hp
   clear hp
   refine CN <| Op1.extract (v := .agg #[.int .u8 _, .int .u32 _, str _]) rfl rfl <| CN <| Op1.extract (v := .bool _) rfl rfl <| CN (SO (v := .agg #[.int .u8 _, .int .u32 _, str _]) hst ty110 rfl rfl (.there (.here)) fun w hst => ?_)
   refine AB rfl <| NL <| run_ret2 Tryz.func176 rfl (RV.cellA (vs := [.int .u8 _, .int .u32 _, str _]) rfl ty110 rfl rfl (cells_of_obj (n := 3) (hst.objL (.tail _ (.head _))) _ rfl)) (TP (v := .bool _) rfl) ?_
   replace hst := hst.pick (.cons (.here) .nil)
   exact .inl ⟨_, _, _, _, hne, rfl, hst.noD⟩
 · skip
   replace hst := hst.call1 hp
   clear hp
   refine CN <| Op1.extract (v := .agg #[.int .u8 _, .int .u32 _, str _]) rfl rfl <| CN <| Op1.extract (v := .bool _) rfl rfl <| CN (SO (v := .agg #[.int .u8 _, .int .u32 _, str _]) hst ty110 rfl rfl (.there (.here)) fun w hst => ?_)
   refine AB rfl <| NL <| run_ret2 Tryz.func176 rfl (RV.cellA (vs := [.int .u8 _, .int .u32 _, str _]) rfl ty110 rfl rfl (cells_of_obj (n := 3) (hst.objL (.tail _ (.head _))) _ rfl)) (TP (v := .bool _) rfl) ?_
   replace hst := hst.pick (.cons (.here) .nil)
   exact .inr ⟨hz, rfl, hst.noD⟩
theorem CallV.mono {P : Program} {fv : Value} {args : List Value} {w : World} {C C' : Value → World → Prop} (h : CallV P fv args w C) (hc : ∀ v w, C v w → C' v w) : CallV P fv args w C' := Inv.mono h hc
theorem R7as_asksC (bq : Nat) (s : Tx) (ao : Option Addr) (cp : Nat) (l : List TokL) (a : Nat) (bound e p : Int) (c : Int) (hc : 0 ≤ c ∧ c ≤ 255) (hc0 : c ≠ 0) (w : World) (ha : a < l.length) (hl : s.length ≤ 1099511627776) (hll : l.length ≤ s.length) (hts : wsz l ≤ 7 * s.length) (hbd : 0 ≤ bound ∧ bound < 4294967296) (hpl : ∀ i, i < l.length → (l.getD i tok0).kind = 2 → ∃ m, plainF (l.getD i tok0).text = some m) : Ret Tryz.prog 132 #[.pointer (some ⟨bq, 0, none⟩), .int .u8 c] w (fun v w' => ∃ fn fi ca R, v = .func fn fi ca ∧ St w NoM [R] [] w' ∧ ∀ w1, (Res.row bq 130 [str s, .slice ao l.length cp, .int .i64 (a : Int), .int .u32 bound, .int .i64 e, .int .i64 p]).holds w1 → (Res.sl ao l.length cp 72 3 (l.flatMap tokC)).holds w1 → Apart (Res.row bq 130 [str s, .slice ao l.length cp, .int .i64 (a : Int), .int .u32 bound, .int .i64 e, .int .i64 p]) (Res.sl ao l.length cp 72 3 (l.flatMap tokC)) → LxG.holds w1 → Apart (Res.row bq 130 [str s, .slice ao l.length cp, .int .i64 (a : Int), .int .u32 bound, .int .i64 e, .int .i64 p]) LxG → R.holds w1 → Apart (Res.row bq 130 [str s, .slice ao l.length cp, .int .i64 (a : Int), .int .u32 bound, .int .i64 e, .int .i64 p]) R → CallV Tryz.prog (.func fn fi ca) [] w1 (fun v w' => (∃ (z1 z2 : Int) (z3 : Tx) (a' : Int), (argT c (l.getD a tok0) bound).2 ≠ 0 ∧ v = .tuple #[.agg #[.int .u8 z1, .int .u32 z2, str z3], .bool false] ∧ St w1 (Res.row bq 130 [str s, .slice ao l.length cp, .int .i64 (a : Int), .int .u32 bound, .int .i64 e, .int .i64 p]).foot [Res.row bq 130 [str s, .slice ao l.length cp, .int .i64 (a' : Int), .int .u32 bound, .int .i64 (argT c (l.getD a tok0) bound).2, .int .i64 ((l.getD a tok0).at_)]] [] w') ∨ ((argT c (l.getD a tok0) bound).2 = 0 ∧ v = .tuple #[.agg #[.int .u8 (argT c (l.getD a tok0) bound).1.kind, .int .u32 (argT c (l.getD a tok0) bound).1.n, str (argT c (l.getD a tok0) bound).1.s], .bool true] ∧ St w1 (Res.row bq 130 [str s, .slice ao l.length cp, .int .i64 (a : Int), .int .u32 bound, .int .i64 e, .int .i64 p]).foot [Res.row bq 130 [str s, .slice ao l.length cp, .int .i64 (a + 1 : Int), .int .u32 bound, .int .i64 e, .int .i64 p]] [] w'))) := by
 refine (R7as_asks bq c w).mono fun v w' h => ?_
 rcases h with ⟨rfl, rfl, hp⟩ | ⟨rfl, rfl, hp⟩ | ⟨rfl, rfl, hp⟩ | ⟨h1, h2, h3, b2, b3, rfl, hp⟩
 · refine ⟨_, _, _, Res.star [], rfl, hp.starNil, fun w1 r1 r2 r3 r4 r5 r6 r7 => CallV.funcF (first := [_]) (cap := []) ent173 (R7as_idArg bq s ao cp l a bound e p w1 ha r1 r2 r3 hl hll hts hbd hpl)⟩
 · refine ⟨_, _, _, Res.star [], rfl, hp.starNil, fun w1 r1 r2 r3 r4 r5 r6 r7 => CallV.funcF (first := [_]) (cap := []) ent174 (R7as_numberArg bq s ao cp l a bound e p w1 ha r1 r2 r3 hl hll hts r4 r5)⟩
 · refine ⟨_, _, _, Res.star [], rfl, hp.starNil, fun w1 r1 r2 r3 r4 r5 r6 r7 => CallV.funcF (first := [_]) (cap := []) ent175 (R7as_textArg bq s ao cp l a bound e p w1 ha r1 r2 r3 hl hll hts)⟩
 · refine ⟨_, _, _, Res.star [_, _], rfl, St.pack (L1 := [_, _]) hp, fun w1 r1 r2 r3 r4 r5 r6 r7 => CallV.func (cap := [_, _]) ent176 (R7as_asks1 bq s ao cp l a bound e p c hc hc0 h1 h2 h3 b2 b3 w1 ha r1 r2 r3 hl hll hts (r6.1 _ (.head _)) (r6.1 _ (.tail _ (.head _))) (fun b hb hb2 => r7 b hb ⟨_, .head _, hb2⟩) (fun b hb hb2 => r7 b hb ⟨_, .tail _ (.head _), hb2⟩))⟩
theorem R7ref7_id (t : Tx) (m : Nat) (ht : plainF t = some m) (bound : Int) (hbd : 0 ≤ bound ∧ bound < 4294967296) (w : World) : Ret Tryz.prog 67 #[str t, .int .u32 bound] w (fun v w' => v = .tuple #[.int .u32 (plR t : Int), .bool (decide (1 ≤ (plR t : Int) ∧ (plR t : Int) < bound))] ∧ St w NoM [] [] w') := by
 refine Ret.enter (args := [str t, .int .u32 bound]) Tryz.func67 rfl rfl rfl ?_
 have hst := St.init w
 have hlt := (dgI_start ht).len
 have hpr := plR_of ht
 refine SR <| AU rfl <| AB rfl <| NSR <| MS rfl <| CN <| Op1.call1 (v1 := str _) ent120 rfl rfl <| Ret.det (R7lx_Plain _ _ (by first | omega | (simp only [List.length_drop]; omega))) hst fun w hst => CN <| Op1.move (v := .tuple #[.int .u64 _, .bool _]) rfl <| CN <| Op1.extract (v := .int .u64 _) rfl rfl <| CN <| Op1.extract (v := .bool _) rfl rfl <| CN <| Op1.assign (v := .int .u64 _) rfl <| AB rfl <| NL ?_
 refine SR <| CN (Op1.move (v := .int .u64 _) rfl ?_)
 first | refine CN (Op1.convN ty149 ty22 rfl (wrap_u32 (by omega) (by omega)) ?_) | refine CN (Op1.conv ty149 ty22 rfl ?_)
 refine CN <| Op1.move (v := .int .u64 _) rfl <| CN <| Op1.geq rfl rfl <| MB rfl <| RunL.splitD (d := 17) rfl (fun g1 => ?_) (fun g1 => ?_)
 · skip
   refine TK (t := 17) rfl (congrArg Value.bool (decide_eq_true g1)) <| Op1.move (v := .int .u64 _) rfl <| TK (t := 17) rfl (congrArg Value.bool (decide_eq_true g1)) (Op1.move (v := .int .u32 _) rfl ?_)
   first | refine TK (t := 17) rfl (congrArg Value.bool (decide_eq_true g1)) (Op1.convN ty22 ty149 rfl (wrap_u64 (by omega) (by omega)) ?_) | refine TK (t := 17) rfl (congrArg Value.bool (decide_eq_true g1)) (Op1.conv ty22 ty149 rfl ?_)
   refine TK (t := 17) rfl (congrArg Value.bool (decide_eq_true g1)) <| Op1.lss rfl rfl <| CN <| Op1.pickT (u := .bool _) (congrArg Value.bool (decide_eq_true g1)) rfl <| AU rfl <| AB rfl <| NL <| run_ret2 Tryz.func67 rfl (TP (v := .int .u32 _) rfl) (TP (v := .bool _) rfl) <| ⟨congrArg (fun b => Value.tuple #[.int .u32 (plR t : Int), .bool b]) ?_, hst.pure⟩
   first | (rw [decide_eq_decide]; omega) | exact (decide_eq_false (by omega)).symm | exact (decide_eq_true (by omega)).symm
 refine OM (t := 17) rfl (congrArg Value.bool (decide_eq_false g1)) rfl <| OM (t := 17) rfl (congrArg Value.bool (decide_eq_false g1)) rfl <| OM (t := 17) rfl (congrArg Value.bool (decide_eq_false g1)) rfl <| OM (t := 17) rfl (congrArg Value.bool (decide_eq_false g1)) rfl <| CN <| Op1.pickF (u := .bool _) (congrArg Value.bool (decide_eq_false g1)) rfl <| AU rfl <| AB rfl <| NL <| run_ret2 Tryz.func67 rfl (TP (v := .int .u32 _) rfl) (TP (v := .bool _) rfl) <| ⟨congrArg (fun b => Value.tuple #[.int .u32 (plR t : Int), .bool b]) ?_, hst.pure⟩
 first | (rw [decide_eq_decide]; omega) | exact (decide_eq_false (by omega)).symm | exact (decide_eq_true (by omega)).symm
theorem R7ref7_kind (c : Int) (w : World) : Ret Tryz.prog 121 #[.int .u8 c] w (fun v w' => v = .int .u8 (kindT c) ∧ St w NoM [] [] w') := by
 refine Ret.enter (args := [.int .u8 c]) Tryz.func121 rfl rfl rfl ?_
 have hst := St.init w
 refine SR <| AC rfl <| NL <| SQ <| SR <| MC rfl <| CN <| Op1.eql rfl rfl <| NL <| run_cond_dec rfl (fun g1 => ?_) (fun g1 => ?_)
 · skip
   refine SR <| AC rfl <| NL <| run_ret1 Tryz.func121 rfl (TP (v := .int .u8 _) rfl) <| ⟨congrArg (Value.int .u8) ?_, hst.pure⟩
   unfold kindT
   (repeat (split <;> try omega))
 refine run_skip <| SQ <| SR <| MC rfl <| CN <| Op1.eql rfl rfl <| NL <| run_cond_dec rfl (fun g2 => ?_) (fun g2 => ?_)
 · skip
   refine SR <| AC rfl <| NL <| run_ret1 Tryz.func121 rfl (TP (v := .int .u8 _) rfl) <| ⟨congrArg (Value.int .u8) ?_, hst.pure⟩
   unfold kindT
   (repeat (split <;> try omega))
 refine run_skip <| SQ <| SR <| MC rfl <| CN <| Op1.eql rfl rfl <| NL <| run_cond_dec rfl (fun g3 => ?_) (fun g3 => ?_)
 · skip
   refine SR <| AC rfl <| NL <| run_ret1 Tryz.func121 rfl (TP (v := .int .u8 _) rfl) <| ⟨congrArg (Value.int .u8) ?_, hst.pure⟩
   unfold kindT
   (repeat (split <;> try omega))
 refine run_skip <| SR <| AC rfl <| NL <| run_ret1 Tryz.func121 rfl (TP (v := .int .u8 _) rfl) <| ⟨congrArg (Value.int .u8) ?_, hst.pure⟩
 unfold kindT
 (repeat (split <;> try omega))
theorem R7ref7_Argument (c : Int) (hc : 0 ≤ c ∧ c ≤ 255) (t : TokL) (bound : Int) (hbd : 0 ≤ bound ∧ bound < 4294967296) (hpl : t.kind = 2 → ∃ m, plainF t.text = some m) (htl : t.text.length ≤ 1099511627776) (w : World) : Ret Tryz.prog 68 #[.int .u8 c, .agg #[.int .u8 t.kind, str t.text, .int .i64 t.at_], .int .u32 bound] w (fun v w' => v = .tuple #[.agg #[.int .u8 (argT c t bound).1.kind, .int .u32 (argT c t bound).1.n, str (argT c t bound).1.s], .int .i64 (argT c t bound).2] ∧ St w NoM [] [] w') := by
 refine Ret.enter (args := [.int .u8 c, .agg #[.int .u8 t.kind, str t.text, .int .i64 t.at_], .int .u32 bound]) Tryz.func68 rfl rfl rfl ?_
 have hst := St.init w
 refine SR <| CN <| Op1.box (v := .agg #[.int .u8 _, str _, .int .i64 _]) hst rfl rfl fun w b4 hst => CN <| Op1.alloc hst ty110 fun w b6 hst => AI rfl <| NL <| SQ <| SQ <| RunD.start [] hst (bs := [0, 1, 3, 7, 15, 7, 39, 127, 255]) (ds := [some 15, some 16, some 17, some 18, some 19, some 20, some 21, some 22, some 23]) ⟨by kernel_rfl, by kernel_rfl, by kernel_rfl⟩ (fun tab1 => ?_)
 refine RunD.op (det _) tab1 1 (fun f' L' w' hc => Op1.move (v := .int .u8 _) (hc.old (v := .int .u8 _) rfl rfl rfl) ⟨[], ⟨rfl, rfl⟩, hc.st⟩) <| RunD.op (det _) tab1 2 (fun f' L' w' hc => Op1.eql (hc.det (j := 0) rfl rfl rfl rfl) rfl ⟨[], ⟨rfl, rfl⟩, hc.st⟩) <| RunD.op (det _) tab1 3 (fun f' L' w' hc => Op1.move (v := .bool _) (hc.det (j := 1) rfl rfl rfl rfl) ⟨[], ⟨rfl, rfl⟩, hc.st⟩) <| RunD.splitD (j := 2) rfl (fun g2 => ?_) (fun g2 => ?_)
 · skip
   refine RunD.omit tab1 4 rfl rfl (fun f' L' w' hc => (hc.det (j := 2) rfl rfl rfl rfl).trans (congrArg Value.bool (decide_eq_true g2))) <| RunD.omit tab1 5 rfl rfl (fun f' L' w' hc => (hc.det (j := 2) rfl rfl rfl rfl).trans (congrArg Value.bool (decide_eq_true g2))) <| RunD.omit tab1 6 rfl rfl (fun f' L' w' hc => (hc.det (j := 2) rfl rfl rfl rfl).trans (congrArg Value.bool (decide_eq_true g2))) <| RunD.omit tab1 7 rfl rfl (fun f' L' w' hc => (hc.det (j := 2) rfl rfl rfl rfl).trans (congrArg Value.bool (decide_eq_true g2))) <| RunD.fin followsMixed tab1 hst rfl (fun f3 w R6 hs4 hd5 hr7 hst => ?_)
   obtain ⟨h15_, r0⟩ := hd5 0 15 rfl rfl
   obtain ⟨h16_, r1⟩ := hd5 1 16 rfl rfl
   obtain ⟨h17_, r2⟩ := hd5 2 17 rfl rfl
   obtain ⟨h18_, r3⟩ := hd5 3 18 rfl rfl
   obtain ⟨h19_, r4⟩ := hd5 4 19 rfl rfl
   obtain ⟨h20_, r5⟩ := hd5 5 20 rfl rfl
   obtain ⟨h21_, r6⟩ := hd5 6 21 rfl rfl
   simp only [show List.range 7 = [0, 1, 2, 3, 4, 5, 6] from rfl, List.flatMap_cons, List.flatMap_nil, List.map_cons, List.map_nil, r0, r1, r2, r3, r4, r5, r6, List.nil_append, List.append_nil, List.cons_append] at hst
   refine RunL.slots (sl := [(0, .int .u8 _), (2, .int .u32 _), (4, .pointer (some ⟨_, _, none⟩)), (6, .pointer (some ⟨_, _, none⟩)), (17, .bool _), (19, _), (21, _)]) ⟨(hs4 0 rfl).trans rfl, (hs4 2 rfl).trans rfl, (hs4 4 rfl).trans rfl, (hs4 6 rfl).trans rfl, h17_, h19_, h21_, trivial⟩ ?_
   clear hs4 hd5 hr7 tab1
   refine OM (t := 17) rfl (congrArg Value.bool (decide_eq_true g2)) rfl <| CN <| Op1.pickT (u := .bool _) (congrArg Value.bool (decide_eq_true g2)) rfl <| NL <| run_cond_true (congrArg Value.bool (rfl : true = _)) <| SR <| CN (Op1.buildStruct ty110 stf110 .nil ?_)
   refine CN (SO (v := .agg #[.int .u8 _, .int .u32 _, str _]) hst ty110 rfl rfl (.here) fun w hst => ?_)
   refine AI rfl <| NL <| run_ret2 Tryz.func68 rfl (RV.cellA (vs := [.int .u8 _, .int .u32 _, str _]) rfl ty110 rfl rfl (cells_of_obj (n := 3) (hst.objL (.head _)) _ rfl)) (TP (v := .int .i64 _) rfl) ?_
   subst g2
   rw [argT_none]
   exact ⟨rfl, hst.pure⟩
 refine RunD.take (det _) tab1 4 rfl (fun f' L' w' hc => (hc.det (j := 2) rfl rfl rfl rfl).trans (congrArg Value.bool (decide_eq_false g2))) (fun f' L' w' hc => Op1.fieldAddr fld72_0 (hc.old (v := .pointer (some ⟨_, _, none⟩)) rfl rfl rfl) ⟨[], ⟨rfl, rfl⟩, hc.st⟩) <| RunD.take (det _) tab1 5 rfl (fun f' L' w' hc => (hc.det (j := 2) rfl rfl rfl rfl).trans (congrArg Value.bool (decide_eq_false g2))) (fun f' L' w' hc => Op1.load1 (v := .int .u8 _) ty5 rfl (hc.det (j := 3) rfl rfl rfl rfl) (hc.st.cellL (List.mem_append_right _ (.tail _ (.head _))) rfl) ⟨[], ⟨rfl, rfl⟩, hc.st⟩) <| RunD.take (det _) tab1 6 rfl (fun f' L' w' hc => (hc.det (j := 2) rfl rfl rfl rfl).trans (congrArg Value.bool (decide_eq_false g2))) (fun f' L' w' hc => Op1.move (v := .int .u8 _) (hc.old (v := .int .u8 _) rfl rfl rfl) ⟨[], ⟨rfl, rfl⟩, hc.st⟩) <| RunD.take (det _) tab1 7 rfl (fun f' L' w' hc => (hc.det (j := 2) rfl rfl rfl rfl).trans (congrArg Value.bool (decide_eq_false g2))) (fun f' L' w' hc => Op1.call1 (v1 := .int .u8 _) ent121 rfl (hc.det (j := 5) rfl rfl rfl rfl) ((R7ref7_kind _ _).mono fun v w hp => ⟨[], ⟨hp.1, rfl⟩, hc.st.keepc hp.2⟩)) <| RunD.fin followsMixed tab1 hst rfl (fun f8 w R11 hs9 hd10 hr12 hst => ?_)
 obtain ⟨h15_, r0⟩ := hd10 0 15 rfl rfl
 obtain ⟨h16_, r1⟩ := hd10 1 16 rfl rfl
 obtain ⟨h17_, r2⟩ := hd10 2 17 rfl rfl
 obtain ⟨h18_, r3⟩ := hd10 3 18 rfl rfl
 obtain ⟨h19_, r4⟩ := hd10 4 19 rfl rfl
 obtain ⟨h20_, r5⟩ := hd10 5 20 rfl rfl
 obtain ⟨h21_, r6⟩ := hd10 6 21 rfl rfl
 simp only [show List.range 7 = [0, 1, 2, 3, 4, 5, 6] from rfl, List.flatMap_cons, List.flatMap_nil, List.map_cons, List.map_nil, r0, r1, r2, r3, r4, r5, r6, List.nil_append, List.append_nil, List.cons_append] at hst
 refine RunL.slots (sl := [(0, .int .u8 _), (2, .int .u32 _), (4, .pointer (some ⟨_, _, none⟩)), (6, .pointer (some ⟨_, _, none⟩)), (17, .bool _), (19, .int .u8 _), (21, .int .u8 _)]) ⟨(hs9 0 rfl).trans rfl, (hs9 2 rfl).trans rfl, (hs9 4 rfl).trans rfl, (hs9 6 rfl).trans rfl, h17_, h19_, h21_, trivial⟩ ?_
 clear hs9 hd10 hr12 tab1
 refine TK (t := 17) rfl (congrArg Value.bool (decide_eq_false g2)) <| Op1.neq rfl rfl <| CN <| Op1.pickF (u := .bool _) (congrArg Value.bool (decide_eq_false g2)) rfl <| NL <| run_cond_dec rfl (fun g13 => ?_) (fun g13 => ?_)
 · skip
   refine SR <| CN (Op1.buildStruct ty110 stf110 .nil ?_)
   refine CN (SO (v := .agg #[.int .u8 _, .int .u32 _, str _]) hst ty110 rfl rfl (.here) fun w hst => ?_)
   refine AI rfl <| NL <| run_ret2 Tryz.func68 rfl (RV.cellA (vs := [.int .u8 _, .int .u32 _, str _]) rfl ty110 rfl rfl (cells_of_obj (n := 3) (hst.objL (.head _)) _ rfl)) (TP (v := .int .i64 _) rfl) ?_
   rw [argT_kind g2 g13]
   exact ⟨rfl, hst.pure⟩
 refine run_skip <| SQ <| SR <| MC rfl <| CN <| Op1.eql rfl rfl <| NL <| run_cond_dec rfl (fun g14 => ?_) (fun g14 => ?_)
 · skip
   have hk : t.kind = kindT c := (Classical.not_not.1 g13)
   subst g14
   replace hk : t.kind = 2 := hk.trans (by decide)
   obtain ⟨m, hm⟩ := hpl hk
   refine SR <| CN <| Op1.fieldAddr fld72_1 rfl <| CN <| Op1.load1 (v := str _) ty9 rfl rfl (hst.cellL (.tail _ (.head _)) rfl) <| MU rfl <| CN <| Op1.call2 (v1 := str _) (v2 := .int .u32 _) ent67 rfl rfl rfl <| Ret.det (R7ref7_id _ m hm bound hbd _) hst fun w hst => CN <| Op1.move (v := .tuple #[.int .u32 _, .bool _]) rfl <| CN <| Op1.extract (v := .int .u32 _) rfl rfl <| CN <| Op1.extract (v := .bool _) rfl rfl <| AU rfl <| AB rfl <| NL <| Run.forget [(6, .pointer (some ⟨_, _, none⟩)), (8, .int .u32 _), (9, .bool _)] ⟨rfl, rfl, rfl, trivial⟩ fun f => SQ <| SQ ?_
   refine RG <| MB rfl <| CN <| Op1.not rfl <| NL <| run_cond_split rfl (fun g15 => ?_) (fun g15 => ?_)
   · skip
     refine SR <| CN (Op1.buildStruct ty110 stf110 .nil ?_)
     refine CN (SO (v := .agg #[.int .u8 _, .int .u32 _, str _]) hst ty110 rfl rfl (.here) fun w hst => ?_)
     refine AI rfl <| NL <| run_ret2 Tryz.func68 rfl (RV.cellA (vs := [.int .u8 _, .int .u32 _, str _]) rfl ty110 rfl rfl (cells_of_obj (n := 3) (hst.objL (.head _)) _ rfl)) (TP (v := .int .i64 _) rfl) ?_
     rw [argT_id0 hk (idL_no g15)]
     exact ⟨rfl, hst.pure⟩
   refine run_skip <| SR <| MU rfl <| CN (Op1.buildStruct ty110 stf110 (.c (v := .int .u8 _) rfl (h := (.c (v := .int .u32 _) rfl (h := .nil)))) ?_)
   refine CN (SO (v := .agg #[.int .u8 _, .int .u32 _, str _]) hst ty110 rfl rfl (.here) fun w hst => ?_)
   refine AI rfl <| NL <| run_ret2 Tryz.func68 rfl (RV.cellA (vs := [.int .u8 _, .int .u32 _, str _]) rfl ty110 rfl rfl (cells_of_obj (n := 3) (hst.objL (.head _)) _ rfl)) (TP (v := .int .i64 _) rfl) ?_
   rw [argT_id hk (idL_is g15).2, (idL_is g15).1]
   exact ⟨rfl, hst.pure⟩
 refine run_skip <| SQ <| SR <| MC rfl <| CN <| Op1.eql rfl rfl <| NL <| run_cond_dec rfl (fun g16 => ?_) (fun g16 => ?_)
 · skip
   have hk : t.kind = kindT c := (Classical.not_not.1 g13)
   subst g16
   replace hk : t.kind = 3 := hk.trans (by decide)
   refine SR <| CN <| Op1.fieldAddr fld72_1 rfl <| CN <| Op1.load1 (v := str _) ty9 rfl rfl (hst.cellL (.tail _ (.head _)) rfl) <| CN <| Op1.call1 (v1 := str _) ent122 rfl rfl <| Ret.det (R7lx_Number t.text _ (by omega)) hst fun w hst => CN <| Op1.move (v := .tuple #[.int .u32 _, .int .i64 _]) rfl <| CN <| Op1.extract (v := .int .u32 _) rfl rfl <| CN <| Op1.extract (v := .int .i64 _) rfl rfl <| AU rfl <| AI rfl <| NL <| Run.forget [(6, .pointer (some ⟨_, _, none⟩)), (10, .int .u32 _), (11, .int .i64 _)] ⟨rfl, rfl, rfl, trivial⟩ fun f => SQ <| SQ <| RG ?_
   refine MI rfl <| CN <| Op1.neq rfl rfl <| NL <| run_cond_dec rfl (fun g17 => ?_) (fun g17 => ?_)
   · skip
     refine SR <| CN (Op1.buildStruct ty110 stf110 .nil ?_)
     refine MI rfl <| CN (SO (v := .agg #[.int .u8 _, .int .u32 _, str _]) hst ty110 rfl rfl (.here) fun w hst => ?_)
     refine AI rfl <| NL <| run_ret2 Tryz.func68 rfl (RV.cellA (vs := [.int .u8 _, .int .u32 _, str _]) rfl ty110 rfl rfl (cells_of_obj (n := 3) (hst.objL (.head _)) _ rfl)) (TP (v := .int .i64 _) rfl) ?_
     rw [argT_num0 hk g17]
     exact ⟨rfl, hst.pure⟩
   refine run_skip <| SR <| MU rfl <| CN (Op1.buildStruct ty110 stf110 (.c (v := .int .u8 _) rfl (h := (.c (v := .int .u32 _) rfl (h := .nil)))) ?_)
   refine CN (SO (v := .agg #[.int .u8 _, .int .u32 _, str _]) hst ty110 rfl rfl (.here) fun w hst => ?_)
   refine AI rfl <| NL <| run_ret2 Tryz.func68 rfl (RV.cellA (vs := [.int .u8 _, .int .u32 _, str _]) rfl ty110 rfl rfl (cells_of_obj (n := 3) (hst.objL (.head _)) _ rfl)) (TP (v := .int .i64 _) rfl) ?_
   rw [argT_num hk (Classical.not_not.1 g17)]
   exact ⟨rfl, hst.pure⟩
 refine run_skip <| SQ <| SR <| MC rfl <| CN <| Op1.eql rfl rfl <| NL <| run_cond_dec rfl (fun g18 => ?_) (fun g18 => ?_)
 · skip
   have hk : t.kind = kindT c := (Classical.not_not.1 g13)
   subst g18
   replace hk : t.kind = 4 := hk.trans (by decide)
   refine SQ <| SR <| AI rfl <| NL <| run_block <| Run.forget [(4, .pointer (some ⟨_, _, none⟩)), (6, .pointer (some ⟨_, _, none⟩)), (12, .int .i64 _)] ⟨rfl, rfl, rfl, trivial⟩ fun f => run_loop <| Run.indW [(4, .pointer (some ⟨_, _, none⟩)), (6, .pointer (some ⟨_, _, none⟩))] ⟨rfl, rfl, trivial⟩ (fun (qq : Nat) => [(12, .int .i64 (qq : Int))]) (fun (qq : Nat) => []) (fun (qq : Nat) => qq ≤ t.text.length ∧ ∀ j, j < qq → t.text.getD j 0 ≠ 0) (fun (qq : Nat) => t.text.length - qq) (0) hst ⟨Nat.zero_le _, fun j hj => absurd hj (Nat.not_lt_zero _)⟩ ⟨rfl, trivial⟩ ?_
   intro i f w hst hJ ih19
   replace hst : St _ _ ([] ++ [_, _]) _ _ := hst
   replace hJ : i ≤ t.text.length ∧ ∀ j, j < i → t.text.getD j 0 ≠ 0 := hJ
   refine Run.slots (sl := [(12, .int .i64 (i : Int))]) ⟨rfl, trivial⟩ ?_
   have hj1 := hJ.1
   have hidx : (t.text.getD ((i : Int).toNat) 0).toNat = (t.text.getD i 0).toNat := rfl
   refine SQ <| SR <| MI rfl <| CN <| Op1.fieldAddr fld72_1 rfl <| CN <| Op1.load1 (v := str _) ty9 rfl rfl (hst.cellL (.tail _ (.head _)) rfl) <| CN <| Op1.lenS (rest := []) ty9 rfl <| CN <| Op1.lss rfl rfl <| NL <| run_cond_dec rfl (fun g20 => ?_) (fun g20 => ?_)
   · skip
     refine run_skip <| SQ <| run_block <| SR <| CN <| Op1.fieldAddr fld72_1 rfl <| CN <| Op1.load1 (v := str _) ty9 rfl rfl (hst.cellL (.tail _ (.head _)) rfl) <| MI rfl <| CN <| Op1.indexS ty9 rfl rfl (by omega) (by omega) <| CN <| Op1.eql rfl rfl <| NL <| run_cond_dec rfl (fun g21 => ?_) (fun g21 => ?_)
     · skip
       refine SR <| CN (Op1.buildStruct ty110 stf110 .nil ?_)
       refine CN (SO (v := .agg #[.int .u8 _, .int .u32 _, str _]) hst ty110 rfl rfl (.here) fun w hst => ?_)
       refine AI rfl <| NL <| run_ret2 Tryz.func68 rfl (RV.cellA (vs := [.int .u8 _, .int .u32 _, str _]) rfl ty110 rfl rfl (cells_of_obj (n := 3) (hst.objL (.head _)) _ rfl)) (TP (v := .int .i64 _) rfl) ?_
       have hz : zeroAt t.text = i := zero_at (by omega) (UInt8.toNat_inj.1 (by rw [← hidx]; show _ = 0; omega)) hJ.2
       rw [argT_txt0 hk (by rw [hz]; omega)]
       exact ⟨rfl, hst.pure⟩
     refine run_skip <| run_inBlock <| RG <| MI rfl <| CN <| Op1.addN rfl rfl rfl (wrap_i64 (by omega) (by omega)) <| AI rfl <| NL <| run_inLoop ?_
     exact ih19 (i + 1) _ w ((by omega)) hst (⟨by omega, lt_succ_all hJ.2 (fun e => g21 (by rw [hidx, e]; rfl))⟩) ⟨rfl, rfl, trivial⟩ ⟨(congrArg (Value.int .i64) (by omega)), trivial⟩
   refine run_exit (id := 0) rfl <| SR <| CN <| Op1.fieldAddr fld72_1 rfl <| CN <| Op1.load1 (v := str _) ty9 rfl rfl (hst.cellL (.tail _ (.head _)) rfl) <| CN (Op1.buildStruct ty110 stf110 (.c (v := .int .u8 _) rfl (h := (.c (v := str _) rfl (h := .nil)))) ?_)
   refine CN (SO (v := .agg #[.int .u8 _, .int .u32 _, str _]) hst ty110 rfl rfl (.here) fun w hst => ?_)
   refine AI rfl <| NL <| run_ret2 Tryz.func68 rfl (RV.cellA (vs := [.int .u8 _, .int .u32 _, str _]) rfl ty110 rfl rfl (cells_of_obj (n := 3) (hst.objL (.head _)) _ rfl)) (TP (v := .int .i64 _) rfl) ?_
   have hz : zeroAt t.text = t.text.length := zero_none (fun q hq => hJ.2 q (by omega))
   rw [argT_txt hk hz]
   exact ⟨rfl, hst.pure⟩
 refine run_skip <| SR <| MC rfl <| CN <| Op1.fieldAddr fld72_1 rfl <| CN <| Op1.load1 (v := str _) ty9 rfl rfl (hst.cellL (.tail _ (.head _)) rfl) <| CN <| Op1.call2 (v1 := .int .u8 _) (v2 := str _) ent123 rfl rfl rfl <| Ret.det (R7ref_EnumNamed c t.text _) hst fun w hst => CN <| Op1.move (v := .tuple #[.int .u32 _, .bool _]) rfl <| CN <| Op1.extract (v := .int .u32 _) rfl rfl <| CN <| Op1.extract (v := .bool _) rfl rfl <| AU rfl <| AB rfl <| NL <| Run.forget [(6, .pointer (some ⟨_, _, none⟩)), (13, .int .u32 _), (14, .bool _)] ⟨rfl, rfl, rfl, trivial⟩ fun f => SQ ?_
 refine SR <| MB rfl <| CN <| Op1.not rfl <| NL <| run_cond_split rfl (fun g22 => ?_) (fun g22 => ?_)
 · skip
   refine SR <| CN (Op1.buildStruct ty110 stf110 .nil ?_)
   refine CN (SO (v := .agg #[.int .u8 _, .int .u32 _, str _]) hst ty110 rfl rfl (.here) fun w hst => ?_)
   refine AI rfl <| NL <| run_ret2 Tryz.func68 rfl (RV.cellA (vs := [.int .u8 _, .int .u32 _, str _]) rfl ty110 rfl rfl (cells_of_obj (n := 3) (hst.objL (.head _)) _ rfl)) (TP (v := .int .i64 _) rfl) ?_
   rw [argT_enum0 g2 g14 g16 g18 (((Classical.not_not.1 g13)).trans (kindT_enum g14 g16 g18)) (by simpa using g22)]
   exact ⟨rfl, hst.pure⟩
 refine run_skip <| SR <| MU rfl <| CN (Op1.buildStruct ty110 stf110 (.c (v := .int .u8 _) rfl (h := (.c (v := .int .u32 _) rfl (h := .nil)))) ?_)
 refine CN (SO (v := .agg #[.int .u8 _, .int .u32 _, str _]) hst ty110 rfl rfl (.here) fun w hst => ?_)
 refine AI rfl <| NL <| run_ret2 Tryz.func68 rfl (RV.cellA (vs := [.int .u8 _, .int .u32 _, str _]) rfl ty110 rfl rfl (cells_of_obj (n := 3) (hst.objL (.head _)) _ rfl)) (TP (v := .int .i64 _) rfl) ?_
 rw [argT_enum g2 g14 g16 g18 (((Classical.not_not.1 g13)).trans (kindT_enum g14 g16 g18)) (by simpa using g22)]
 exact ⟨rfl, hst.pure⟩
end Go.SK
namespace Go.SK
open Go Go.Proofs
theorem ty60 : TyF Tryz.prog 60 (.slice 22) 1 24 [.slice none 0 0] := TyF.of (by kernel_rfl) (by kernel_rfl)
end Go.SK
namespace Go.SK
open Go Go.Proofs
open Go.RowKit
theorem R7wd_Room (s : List UInt8) (w : World) (hl : s.length ≤ 9000000000000000000) : Ret Tryz.prog 183 #[str s] w (fun v w' => v = .int .i64 ((s.length / 4 + 1 : Nat) : Int) ∧ St w NoM [] [] w') := by
 refine Ret.enter (args := [str s]) Tryz.func183 rfl rfl rfl ?_
 have hst := St.init w
 refine SR <| AI rfl <| NSR <| MS rfl <| CN (Op1.lenS (rest := []) ty9 rfl ?_)
 first | refine CN (Op1.quoN rfl rfl (by omega) (by omega) rfl (wrap_i64 (by omega) (by omega)) ?_) | refine CN (Op1.quo rfl rfl (by omega) ?_)
 refine CN <| Op1.addN rfl rfl rfl (wrap_i64 (by omega) (by omega)) <| AI rfl <| NL <| run_ret1 Tryz.func183 rfl (TP (v := .int .i64 _) rfl) ?_
 exact ⟨congrArg (Value.int .i64) (by omega), hst.pure⟩
theorem R7ref1_Room (s : List UInt8) (w : World) (hl : s.length ≤ 9000000000000000000) : Ret Tryz.prog 125 #[str s] w (fun v w' => v = .int .i64 ((s.length / 4 + 1 : Nat) : Int) ∧ St w NoM [] [] w') := by
 refine Ret.enter (args := [str s]) Tryz.func125 rfl rfl rfl ?_
 have hst := St.init w
 refine SR <| AI rfl <| NSR <| MS rfl <| CN (Op1.lenS (rest := []) ty9 rfl ?_)
 first | refine CN (Op1.quoN rfl rfl (by omega) (by omega) rfl (wrap_i64 (by omega) (by omega)) ?_) | refine CN (Op1.quo rfl rfl (by omega) ?_)
 refine CN <| Op1.addN rfl rfl rfl (wrap_i64 (by omega) (by omega)) <| AI rfl <| NL <| run_ret1 Tryz.func125 rfl (TP (v := .int .i64 _) rfl) ?_
 exact ⟨congrArg (Value.int .i64) (by omega), hst.pure⟩
end Go.SK
namespace Go.SK
open Go Go.Proofs
theorem ent125 : Enters Tryz.prog 125 := ⟨Tryz.f125, _, Tryz.func125, by kernel_rfl, rfl⟩
end Go.SK
namespace Go.SK
open Go Go.Proofs
theorem ent183 : Enters Tryz.prog 183 := ⟨Tryz.f183, _, Tryz.func183, by kernel_rfl, rfl⟩
end Go.SK
namespace Go.SK
open Go Go.Proofs
open Go.RowKit
theorem R7wd_OfText (s : List UInt8) (w : World) (hl : s.length ≤ 100000000000000) : Ret Tryz.prog 182 #[str s] w (fun v w' => ∃ ro rc, v = .tuple #[.slice ro (ofTextL s).length rc, .int .i64 (ofTextE s)] ∧ St w NoM [Res.sl ro (ofTextL s).length rc 22 1 ((ofTextL s).flatMap u32C)] [] w') := by
 refine Ret.enter (args := [str s]) Tryz.func182 rfl rfl rfl ?_
 have hst := St.init w
 refine SR <| AL rfl <| AI rfl <| NL <| SQ <| SR <| MS rfl <| CN <| Op1.lenS (rest := []) ty9 rfl <| MI rfl <| NL <| run_block <| run_loop <| Run.indW [(0, str _), (8, .int .i64 _)] ⟨rfl, rfl, trivial⟩ (fun (i : Nat) => [(9, .int .i64 (i : Int))]) (fun (i : Nat) => []) (fun (i : Nat) => i ≤ s.length ∧ ∀ r, r < i → s.getD r 0 ≠ 0) (fun (i : Nat) => s.length - i) (0) hst ⟨Nat.zero_le _, fun r hr => absurd hr (by omega)⟩ ⟨rfl, trivial⟩ ?_
 intro i f w hst hJ ih1
 refine SR <| CN <| Op1.lss rfl rfl <| NL <| SQ <| run_cond_dec rfl (fun g2 => ?_) (fun g2 => ?_)
 · skip
   refine run_skip <| SQ <| run_block <| SR <| MI rfl <| AI rfl <| NSR <| MS rfl <| MI rfl <| CN <| Op1.indexS ty9 rfl rfl (by omega) (by omega) <| CN <| Op1.eql rfl rfl <| NL ?_
   refine run_cond_dec rfl (fun g3 => ?_) (fun g3 => ?_)
   · skip
     refine SR <| AL rfl <| AI rfl <| NL <| run_ret2 Tryz.func182 rfl (TP (v := .slice _ _ _) rfl) (TP (v := .int .i64 _) rfl) ?_
     replace hst := hst.pick .nil
     have he := ofTextE_zero (by omega) g3 hJ.2
     rw [ofTextL_err (by rw [he]; decide), he]
     exact ⟨none, 0, rfl, (hst.pushNil 22 1).noD⟩
   refine run_skip <| run_inBlock <| RG <| CN <| Op1.addN rfl rfl rfl (wrap_i64 (by omega) (by omega)) <| MI rfl <| NL <| run_inLoop ?_
   exact ih1 (i + 1) _ w (by omega) hst (⟨by omega, nz_step hJ.2 (byte1 g3)⟩) ⟨rfl, rfl, trivial⟩ ⟨(congrArg (Value.int .i64) (by omega)), trivial⟩
 refine run_exit (id := 0) rfl <| SQ <| SR <| MS rfl <| CN <| Op1.call1 (v1 := str _) ent183 rfl rfl <| Ret.det (R7wd_Room s _ (by omega)) hst fun w hst => CN <| Op1.gtr rfl rfl <| NL <| run_cond_dec rfl (fun g4 => ?_) (fun g4 => ?_)
 · skip
   refine SR <| AL rfl <| AI rfl <| NL <| run_ret2 Tryz.func182 rfl (TP (v := .slice _ _ _) rfl) (TP (v := .int .i64 _) rfl) ?_
   replace hst := hst.pick .nil
   have he := ofTextE_large (s := s) (fun r hr => hJ.2 r (by omega)) (by omega)
   rw [ofTextL_err (by rw [he]; decide), he]
   exact ⟨none, 0, rfl, (hst.pushNil 22 1).noD⟩
 refine run_skip <| SR <| MS rfl <| CN <| Op1.call1 (v1 := str _) ent183 rfl rfl <| Ret.det (R7wd_Room s _ (by omega)) hst fun w hst => CN (Op1.makeSlV (k := s.length / 4 + 1) hst ty60 ty22 rfl rfl rfl (by decide) (by omega) (by omega) fun w bC hst => ?_)
 rw [fill_zero] at hst
 refine AL rfl <| NL <| SQ <| SR <| MS rfl <| CN <| Op1.lenS (rest := []) ty9 rfl <| MI rfl <| NL <| run_block <| run_loop <| Run.indW [(0, str _), (5, .slice _ _ _), (24, .int .i64 _)] ⟨rfl, rfl, rfl, trivial⟩ (fun (i : Nat) => [(25, .int .i64 (i : Int))]) (fun (i : Nat) => [Res.sl (some ⟨bC, 0, none⟩) (s.length / 4 + 1) (s.length / 4 + 1) 22 1 ((splitW (fillB s i)).flatMap u32C)]) (fun (i : Nat) => i ≤ s.length) (fun (i : Nat) => s.length - i) (0) hst (Nat.zero_le _) ⟨rfl, trivial⟩ ?_
 intro i f w hst hK ih5
 have hLl := fillW_len (s := s) (i := i) hK
 refine SR <| CN <| Op1.lss rfl rfl <| NL <| SQ <| run_cond_dec rfl (fun g6 => ?_) (fun g6 => ?_)
 · skip
   have hlow := fill_low (s := s) (i := i) (by omega)
   refine run_skip <| SQ <| run_block <| SR <| MI rfl <| AI rfl <| NL <| RunD.start [] hst (bs := [0, 0, 2, 7, 15, 0, 0, 96, 224, 0, 512, 1536, 4064, 8191, 16383, 32767]) (ds := [some 28, some 29, some 30, some 31, some 32, some 33, some 34, some 35, some 36, some 37, some 38, some 39, some 40, some 41, some 42, none]) ⟨by kernel_rfl, by kernel_rfl, by kernel_rfl⟩ (fun tab7 => ?_)
   refine RunD.op (det _) tab7 1 (fun f' L' w' hc => Op1.move (v := .slice _ _ _) (hc.old (v := .slice _ _ _) rfl rfl rfl) ⟨[], ⟨rfl, rfl⟩, hc.st⟩) <| RunD.op (det _) tab7 2 (fun f' L' w' hc => Op1.move (v := .int .i64 _) (hc.old (v := .int .i64 _) rfl rfl rfl) ⟨[], ⟨rfl, rfl⟩, hc.st⟩) ?_
   first | refine RunD.op (det _) tab7 3 (fun f' L' w' hc => Op1.quoN (hc.det (j := 1) rfl rfl rfl rfl) rfl (by omega) (by omega) rfl (wrap_i64 (by omega) (by omega)) ⟨[], ⟨rfl, rfl⟩, hc.st⟩) ?_ | refine RunD.op (det _) tab7 3 (fun f' L' w' hc => Op1.quo (hc.det (j := 1) rfl rfl rfl rfl) rfl (by omega) ⟨[], ⟨rfl, rfl⟩, hc.st⟩) ?_
   refine RunD.op (det _) tab7 4 (fun f' L' w' hc => Op1.indexSl ty60 ty22 (hc.det (j := 0) rfl rfl rfl rfl) (hc.det (j := 2) rfl rfl rfl rfl) (by omega) (by omega) ⟨[], ⟨rfl, rfl⟩, hc.st⟩) <| RunD.op (det _) tab7 5 (fun f' L' w' hc => Op1.load1 (v := .int .u32 _) ty22 rfl (hc.det (j := 3) rfl rfl rfl rfl) (Res.sl_cell (hc.st.hL _ (List.mem_append_right _ (.head _))) (flat_cell0 (g := u32C) (d := 0) u32C_len rfl (by omega))) ⟨[], ⟨rfl, rfl⟩, hc.st⟩) <| RunD.op (det _) tab7 6 (fun f' L' w' hc => Op1.move (v := str _) (hc.old (v := str _) rfl rfl rfl) ⟨[], ⟨rfl, rfl⟩, hc.st⟩) <| RunD.op (det _) tab7 7 (fun f' L' w' hc => Op1.move (v := .int .i64 _) (hc.old (v := .int .i64 _) rfl rfl rfl) ⟨[], ⟨rfl, rfl⟩, hc.st⟩) <| RunD.op (det _) tab7 8 (fun f' L' w' hc => Op1.indexS ty9 (hc.det (j := 5) rfl rfl rfl rfl) (hc.det (j := 6) rfl rfl rfl rfl) (by omega) (by omega) ⟨[], ⟨rfl, rfl⟩, hc.st⟩) ?_
   first | refine RunD.op (det _) tab7 9 (fun f' L' w' hc => Op1.convN ty5 ty22 (hc.det (j := 7) rfl rfl rfl rfl) (wrap_u32 (by omega) (by omega)) ⟨[], ⟨rfl, rfl⟩, hc.st⟩) ?_ | refine RunD.op (det _) tab7 9 (fun f' L' w' hc => Op1.convN ty5 ty22 (hc.det (j := 7) rfl rfl rfl rfl) (wrapB_u32 _) ⟨[], ⟨rfl, rfl⟩, hc.st⟩) ?_ | refine RunD.op (det _) tab7 9 (fun f' L' w' hc => Op1.conv ty5 ty22 (hc.det (j := 7) rfl rfl rfl rfl) ⟨[], ⟨rfl, rfl⟩, hc.st⟩) ?_
   refine RunD.op (det _) tab7 10 (fun f' L' w' hc => Op1.move (v := .int .i64 _) (hc.old (v := .int .i64 _) rfl rfl rfl) ⟨[], ⟨rfl, rfl⟩, hc.st⟩) ?_
   first | refine RunD.op (det _) tab7 11 (fun f' L' w' hc => Op1.remN (hc.det (j := 9) rfl rfl rfl rfl) rfl (by omega) (by omega) rfl ⟨[], ⟨rfl, rfl⟩, hc.st⟩) ?_ | refine RunD.op (det _) tab7 11 (fun f' L' w' hc => Op1.rem (hc.det (j := 9) rfl rfl rfl rfl) rfl (by omega) ⟨[], ⟨rfl, rfl⟩, hc.st⟩) ?_
   refine RunD.op (det _) tab7 12 (fun f' L' w' hc => Op1.mulN rfl (hc.det (j := 10) rfl rfl rfl rfl) rfl (wrap_i64 (by omega) (by omega)) ⟨[], ⟨rfl, rfl⟩, hc.st⟩) <| RunD.op (det _) tab7 13 (fun f' L' w' hc => Op1.shlV (c := ((s.getD i 0).toNat : Int) * 256 ^ (i % 4)) (hc.det (j := 8) rfl rfl rfl rfl) (hc.det (j := 11) rfl rfl rfl rfl) (by omega) (by show _ ≤ 32; omega) (shl_byte (s.getD i 0) i) ⟨[], ⟨rfl, rfl⟩, hc.st⟩) <| RunD.fin followsMixed tab7 hst rfl (fun f8 w R11 hs9 hd10 hr12 hst => ?_)
   obtain ⟨h28_, r0⟩ := hd10 0 28 rfl rfl
   obtain ⟨h29_, r1⟩ := hd10 1 29 rfl rfl
   obtain ⟨h30_, r2⟩ := hd10 2 30 rfl rfl
   obtain ⟨h31_, r3⟩ := hd10 3 31 rfl rfl
   obtain ⟨h32_, r4⟩ := hd10 4 32 rfl rfl
   obtain ⟨h33_, r5⟩ := hd10 5 33 rfl rfl
   obtain ⟨h34_, r6⟩ := hd10 6 34 rfl rfl
   obtain ⟨h35_, r7⟩ := hd10 7 35 rfl rfl
   obtain ⟨h36_, r8⟩ := hd10 8 36 rfl rfl
   obtain ⟨h37_, r9⟩ := hd10 9 37 rfl rfl
   obtain ⟨h38_, r10⟩ := hd10 10 38 rfl rfl
   obtain ⟨h39_, r11⟩ := hd10 11 39 rfl rfl
   obtain ⟨h40_, r12⟩ := hd10 12 40 rfl rfl
   simp only [show List.range 13 = [0, 1, 2, 3, 4, 5, 6, 7, 8, 9, 10, 11, 12] from rfl, List.flatMap_cons, List.flatMap_nil, List.map_cons, List.map_nil, r0, r1, r2, r3, r4, r5, r6, r7, r8, r9, r10, r11, r12, List.nil_append, List.append_nil, List.cons_append] at hst
   refine RunL.slots (sl := [(0, str _), (5, .slice _ _ _), (24, .int .i64 _), (25, .int .i64 _), (28, .slice _ _ _), (30, .int .i64 _), (32, .int .u32 _), (40, .int .u32 _)]) ⟨(hs9 0 rfl).trans rfl, (hs9 5 rfl).trans rfl, (hs9 24 rfl).trans rfl, (hs9 25 rfl).trans rfl, h28_, h30_, h32_, h40_, trivial⟩ ?_
   clear hs9 hd10 hr12 tab7
   refine CN <| Op1.orHigh (a := (splitW (fillB s i)).getD (i / 4) 0) (m := 8 * (i % 4)) (q := ((s.getD i 0).toNat : Int)) (c := (splitW (fillB s i)).getD (i / 4) 0 + ((s.getD i 0).toNat : Int) * 256 ^ (i % 4)) rfl rfl hlow.1 hlow.2.1 (by rw [pow256 (by omega)]) (by omega) rfl hlow.2.2 <| CN <| Op1.indexSl ty60 ty22 rfl rfl (by omega) (by omega) <| CN <| Op1.storeSl (v := .int .u32 _) hst ty22 rfl rfl rfl rfl rfl (.here) (by simp only [List.length_cons, List.length_nil]; omega) fun w hst => NL <| run_inBlock <| RG <| CN <| Op1.addN rfl rfl rfl (wrap_i64 (by omega) (by omega)) <| MI rfl <| NL <| run_inLoop ?_
   exact ih5 (i + 1) _ w (by omega) (by (try dsimp only); rw [← fill_step (s := s) (i := i) (by omega)]; exact hst) (by omega) ⟨rfl, rfl, rfl, trivial⟩ ⟨(congrArg (Value.int .i64) (by omega)), trivial⟩
 have hi : i = s.length := by omega
 subst hi
 have hpd : fillB s s.length = padded s := rfl
 rw [hpd] at hst
 refine run_exit (id := 2) rfl <| SR <| ML rfl <| AL rfl <| AI rfl <| NL <| run_ret2 Tryz.func182 rfl (TP (v := .slice _ _ _) rfl) (TP (v := .int .i64 _) rfl) ?_
 replace hst := hst.pick (.cons (.here) .nil)
 have he := ofTextE_ok (s := s) (fun r hr => hJ.2 r (by omega)) (by omega)
 have hpl : (splitW (padded s)).length = s.length / 4 + 1 := by rw [splitW_len, padded_len]; omega
 rw [ofTextL_ok he, he, hpl]
 exact ⟨_, _, rfl, hst.noD⟩
end Go.SK
namespace Go.SK
open Go Go.Proofs
theorem ty62 : TyF Tryz.prog 62 (.struct (fieldsOf Tryz.prog 62)) 2 32 [.int .u16 0, .slice none 0 0] := TyF.of (by kernel_rfl) (by kernel_rfl)
end Go.SK
namespace Go.SK
open Go Go.Proofs
theorem stf62 : StructF Tryz.prog 62 [(0, 1), (1, 1)] := ⟨fieldsOf Tryz.prog 62, by kernel_rfl, fun w => by kernel_rfl⟩
end Go.SK
namespace Go.SK
open Go Go.Proofs
theorem fld44_0 : FldF Tryz.prog 44 0 0 := FldF.of (n := 0) (by kernel_rfl)
theorem fld44_1 : FldF Tryz.prog 44 1 1 := FldF.of (n := 0) (by kernel_rfl)
theorem fld44_2 : FldF Tryz.prog 44 2 2 := FldF.of (n := 0) (by kernel_rfl)
theorem fld44_3 : FldF Tryz.prog 44 3 3 := FldF.of (n := 0) (by kernel_rfl)
theorem ty42 : TyF Tryz.prog 42 (.slice 110) 1 24 [.slice none 0 0] := TyF.of (by kernel_rfl) (by kernel_rfl)
theorem ty44 : TyF Tryz.prog 44 (.struct (fieldsOf Tryz.prog 44)) 4 40 [.int .u16 0, .int .u32 0, .int .u32 0, .slice none 0 0] := TyF.of (by kernel_rfl) (by kernel_rfl)
theorem ent34 : Enters Tryz.prog 34 := ⟨Tryz.f34, _, Tryz.func34, by kernel_rfl, rfl⟩
end Go.SK
namespace Go.SK
open Go Go.Proofs
open Go.RowKit
theorem R7md_Inst (p q : InstP) (w : World) (hA : (Res.rargs p).holds w) (hB : (Res.rargs q).holds w) (hl : p.args.length ≤ 9000000000000000000) : Ret Tryz.prog 34 #[.agg #[.int .u16 p.op, .int .u32 p.ty, .int .u32 p.res, .slice p.ao p.args.length p.cap], .agg #[.int .u16 q.op, .int .u32 q.ty, .int .u32 q.res, .slice q.ao q.args.length q.cap]] w (fun v w' => v = .bool (decide (p.L = q.L)) ∧ St w NoM [] [] w') := by
 refine Ret.enter (args := [.agg #[.int .u16 p.op, .int .u32 p.ty, .int .u32 p.res, .slice p.ao p.args.length p.cap], .agg #[.int .u16 q.op, .int .u32 q.ty, .int .u32 q.res, .slice q.ao q.args.length q.cap]]) Tryz.func34 rfl rfl rfl ?_
 have hst : St w NoM [] [Res.rargs p, Res.rargs q] w := St.init_Ds (fun d hd => by cases hd with | head => exact hA | tail _ hd => cases hd with | head => exact hB | tail _ h => cases h)
 clear hA hB
 refine SR <| CN <| Op1.box (v := .agg #[.int .u16 _, .int .u32 _, .int .u32 _, .slice _ _ _]) hst rfl rfl fun w b2 hst => CN <| Op1.box (v := .agg #[.int .u16 _, .int .u32 _, .int .u32 _, .slice _ _ _]) hst rfl rfl fun w b3 hst => AB rfl <| NL <| SQ <| SR <| CN <| Op1.fieldAddr fld44_0 rfl <| CN <| Op1.load1 (v := .int .u16 _) ty41 rfl rfl (hst.cellL (.tail _ (.head _)) rfl) <| CN <| Op1.fieldAddr fld44_0 rfl <| CN <| Op1.load1 (v := .int .u16 _) ty41 rfl rfl (hst.cellL (.head _) rfl) <| CN <| Op1.neq rfl rfl <| MB rfl ?_
 refine RunL.splitD (d := 11) rfl (fun g1 => ?_) (fun g1 => ?_)
 · skip
   refine OM (t := 11) rfl (congrArg Value.bool (decide_eq_true g1)) rfl <| OM (t := 11) rfl (congrArg Value.bool (decide_eq_true g1)) rfl <| OM (t := 11) rfl (congrArg Value.bool (decide_eq_true g1)) rfl <| OM (t := 11) rfl (congrArg Value.bool (decide_eq_true g1)) rfl <| OM (t := 11) rfl (congrArg Value.bool (decide_eq_true g1)) rfl <| CN <| Op1.pickT (u := .bool _) (congrArg Value.bool (decide_eq_true g1)) rfl <| MB rfl <| OM (t := 18) rfl (congrArg Value.bool (rfl : true = _)) rfl <| OM (t := 18) rfl (congrArg Value.bool (rfl : true = _)) rfl <| OM (t := 18) rfl (congrArg Value.bool (rfl : true = _)) rfl <| OM (t := 18) rfl (congrArg Value.bool (rfl : true = _)) rfl <| OM (t := 18) rfl (congrArg Value.bool (rfl : true = _)) rfl <| CN <| Op1.pickT (u := .bool _) (congrArg Value.bool (rfl : true = _)) rfl <| MB rfl <| OM (t := 25) rfl (congrArg Value.bool (rfl : true = _)) rfl ?_
   refine OM (t := 25) rfl (congrArg Value.bool (rfl : true = _)) rfl <| OM (t := 25) rfl (congrArg Value.bool (rfl : true = _)) rfl <| OM (t := 25) rfl (congrArg Value.bool (rfl : true = _)) rfl <| OM (t := 25) rfl (congrArg Value.bool (rfl : true = _)) rfl <| OM (t := 25) rfl (congrArg Value.bool (rfl : true = _)) rfl <| OM (t := 25) rfl (congrArg Value.bool (rfl : true = _)) rfl <| CN <| Op1.pickT (u := .bool _) (congrArg Value.bool (rfl : true = _)) rfl <| NL <| run_cond_true (congrArg Value.bool (rfl : true = _)) <| SR <| AB rfl <| NL <| run_ret1 Tryz.func34 rfl (TP (v := .bool _) rfl) ?_
   exact ⟨congrArg Value.bool (decide_eq_false (fun h => by obtain ⟨h1, h2, h3, h4⟩ := InstP.L_eq.1 h; exact g1 h1)).symm, hst.pure⟩
 refine TK (t := 11) rfl (congrArg Value.bool (decide_eq_false g1)) <| Op1.fieldAddr fld44_1 rfl <| TK (t := 11) rfl (congrArg Value.bool (decide_eq_false g1)) <| Op1.load1 (v := .int .u32 _) ty22 rfl rfl (hst.cellL (.tail _ (.head _)) rfl) <| TK (t := 11) rfl (congrArg Value.bool (decide_eq_false g1)) <| Op1.fieldAddr fld44_1 rfl <| TK (t := 11) rfl (congrArg Value.bool (decide_eq_false g1)) <| Op1.load1 (v := .int .u32 _) ty22 rfl rfl (hst.cellL (.head _) rfl) <| TK (t := 11) rfl (congrArg Value.bool (decide_eq_false g1)) <| Op1.neq rfl rfl <| CN <| Op1.pickF (u := .bool _) (congrArg Value.bool (decide_eq_false g1)) rfl <| MB rfl <| RunL.splitD (d := 18) rfl (fun g2 => ?_) (fun g2 => ?_)
 · skip
   refine OM (t := 18) rfl (congrArg Value.bool (decide_eq_true g2)) rfl <| OM (t := 18) rfl (congrArg Value.bool (decide_eq_true g2)) rfl <| OM (t := 18) rfl (congrArg Value.bool (decide_eq_true g2)) rfl <| OM (t := 18) rfl (congrArg Value.bool (decide_eq_true g2)) rfl <| OM (t := 18) rfl (congrArg Value.bool (decide_eq_true g2)) rfl <| CN <| Op1.pickT (u := .bool _) (congrArg Value.bool (decide_eq_true g2)) rfl <| MB rfl <| OM (t := 25) rfl (congrArg Value.bool (rfl : true = _)) rfl <| OM (t := 25) rfl (congrArg Value.bool (rfl : true = _)) rfl <| OM (t := 25) rfl (congrArg Value.bool (rfl : true = _)) rfl <| OM (t := 25) rfl (congrArg Value.bool (rfl : true = _)) rfl <| OM (t := 25) rfl (congrArg Value.bool (rfl : true = _)) rfl <| OM (t := 25) rfl (congrArg Value.bool (rfl : true = _)) rfl <| OM (t := 25) rfl (congrArg Value.bool (rfl : true = _)) rfl <| CN (Op1.pickT (u := .bool _) (congrArg Value.bool (rfl : true = _)) rfl ?_)
   refine NL <| Run.forget [(2, .pointer (some ⟨_, _, none⟩)), (3, .pointer (some ⟨_, _, none⟩)), (33, .bool _)] ⟨rfl, rfl, rfl, trivial⟩ fun f => run_cond_true (congrArg Value.bool (rfl : true = _)) <| SR <| AB rfl <| NL <| run_ret1 Tryz.func34 rfl (TP (v := .bool _) rfl) ?_
   exact ⟨congrArg Value.bool (decide_eq_false (fun h => by obtain ⟨h1, h2, h3, h4⟩ := InstP.L_eq.1 h; exact g2 h2)).symm, hst.pure⟩
 refine TK (t := 18) rfl (congrArg Value.bool (decide_eq_false g2)) <| Op1.fieldAddr fld44_2 rfl <| TK (t := 18) rfl (congrArg Value.bool (decide_eq_false g2)) <| Op1.load1 (v := .int .u32 _) ty22 rfl rfl (hst.cellL (.tail _ (.head _)) rfl) <| TK (t := 18) rfl (congrArg Value.bool (decide_eq_false g2)) <| Op1.fieldAddr fld44_2 rfl <| TK (t := 18) rfl (congrArg Value.bool (decide_eq_false g2)) <| Op1.load1 (v := .int .u32 _) ty22 rfl rfl (hst.cellL (.head _) rfl) <| TK (t := 18) rfl (congrArg Value.bool (decide_eq_false g2)) <| Op1.neq rfl rfl <| CN <| Op1.pickF (u := .bool _) (congrArg Value.bool (decide_eq_false g2)) rfl <| MB rfl <| RunL.splitD (d := 25) rfl (fun g3 => ?_) (fun g3 => ?_)
 · skip
   refine OM (t := 25) rfl (congrArg Value.bool (decide_eq_true g3)) rfl <| OM (t := 25) rfl (congrArg Value.bool (decide_eq_true g3)) rfl <| OM (t := 25) rfl (congrArg Value.bool (decide_eq_true g3)) rfl <| OM (t := 25) rfl (congrArg Value.bool (decide_eq_true g3)) rfl <| OM (t := 25) rfl (congrArg Value.bool (decide_eq_true g3)) rfl <| OM (t := 25) rfl (congrArg Value.bool (decide_eq_true g3)) rfl <| OM (t := 25) rfl (congrArg Value.bool (decide_eq_true g3)) rfl <| CN <| Op1.pickT (u := .bool _) (congrArg Value.bool (decide_eq_true g3)) rfl <| NL <| Run.forget [(2, .pointer (some ⟨_, _, none⟩)), (3, .pointer (some ⟨_, _, none⟩)), (33, .bool _)] ⟨rfl, rfl, rfl, trivial⟩ fun f => run_cond_true (congrArg Value.bool (rfl : true = _)) <| SR <| AB rfl <| NL ?_
   refine run_ret1 Tryz.func34 rfl (TP (v := .bool _) rfl) ?_
   exact ⟨congrArg Value.bool (decide_eq_false (fun h => by obtain ⟨h1, h2, h3, h4⟩ := InstP.L_eq.1 h; exact g3 h3)).symm, hst.pure⟩
 refine TK (t := 25) rfl (congrArg Value.bool (decide_eq_false g3)) <| Op1.fieldAddr fld44_3 rfl <| TK (t := 25) rfl (congrArg Value.bool (decide_eq_false g3)) <| Op1.load1 (v := .slice _ _ _) ty42 rfl rfl (hst.cellL (.tail _ (.head _)) rfl) <| TK (t := 25) rfl (congrArg Value.bool (decide_eq_false g3)) <| Op1.lenSl (rest := []) ty42 rfl <| TK (t := 25) rfl (congrArg Value.bool (decide_eq_false g3)) <| Op1.fieldAddr fld44_3 rfl <| TK (t := 25) rfl (congrArg Value.bool (decide_eq_false g3)) <| Op1.load1 (v := .slice _ _ _) ty42 rfl rfl (hst.cellL (.head _) rfl) <| TK (t := 25) rfl (congrArg Value.bool (decide_eq_false g3)) <| Op1.lenSl (rest := []) ty42 rfl <| TK (t := 25) rfl (congrArg Value.bool (decide_eq_false g3)) <| Op1.neq rfl rfl <| CN <| Op1.pickF (u := .bool _) (congrArg Value.bool (decide_eq_false g3)) rfl <| NL <| Run.forget [(2, .pointer (some ⟨_, _, none⟩)), (3, .pointer (some ⟨_, _, none⟩)), (33, .bool _)] ⟨rfl, rfl, rfl, trivial⟩ fun f => run_cond_dec rfl (fun g4 => ?_) (fun g4 => ?_)
 · skip
   refine SR <| AB rfl <| NL <| run_ret1 Tryz.func34 rfl (TP (v := .bool _) rfl) ?_
   exact ⟨congrArg Value.bool (decide_eq_false (fun h => by obtain ⟨h1, h2, h3, h4⟩ := InstP.L_eq.1 h; have := congrArg List.length h4; omega)).symm, hst.pure⟩
 refine run_skip <| SQ <| SR <| AI rfl <| NL <| run_block <| run_loop <| Run.indW [(2, .pointer (some ⟨_, _, none⟩)), (3, .pointer (some ⟨_, _, none⟩))] ⟨rfl, rfl, trivial⟩ (fun (i : Nat) => [(5, .int .i64 (i : Int))]) (fun (i : Nat) => []) (fun (i : Nat) => i ≤ p.args.length ∧ ∀ j, j < i → p.args.getD j zeroA = q.args.getD j zeroA) (fun (i : Nat) => p.args.length - i) (0) hst ⟨Nat.zero_le _, fun j hj => absurd hj (by omega)⟩ ⟨rfl, trivial⟩ ?_
 intro i f w hst hJ ih5
 refine SQ <| SR <| MI rfl <| CN <| Op1.fieldAddr fld44_3 rfl <| CN <| Op1.load1 (v := .slice _ _ _) ty42 rfl rfl (hst.cellL (.tail _ (.head _)) rfl) <| CN <| Op1.lenSl (rest := []) ty42 rfl <| CN <| Op1.lss rfl rfl <| NL <| run_cond_dec rfl (fun g6 => ?_) (fun g6 => ?_)
 · skip
   refine run_skip <| SQ <| run_block <| SQ <| RunD.start [] hst (bs := [0, 1, 0, 7, 15, 0, 32, 0, 224, 480, 1023]) (ds := [some 41, some 42, some 43, some 44, some 45, some 46, some 47, some 48, some 49, some 50, some 51]) ⟨by kernel_rfl, by kernel_rfl, by kernel_rfl⟩ (fun tab7 => ?_)
   refine RunD.op (det _) tab7 1 (fun f' L' w' hc => Op1.fieldAddr fld44_3 (hc.old (v := .pointer (some ⟨_, _, none⟩)) rfl rfl rfl) ⟨[], ⟨rfl, rfl⟩, hc.st⟩) <| RunD.op (det _) tab7 2 (fun f' L' w' hc => Op1.load1 (v := .slice _ _ _) ty42 rfl (hc.det (j := 0) rfl rfl rfl rfl) (hc.st.cellL (List.mem_append_right _ (.tail _ (.head _))) rfl) ⟨[], ⟨rfl, rfl⟩, hc.st⟩) <| RunD.op (det _) tab7 3 (fun f' L' w' hc => Op1.move (v := .int .i64 _) (hc.old (v := .int .i64 _) rfl rfl rfl) ⟨[], ⟨rfl, rfl⟩, hc.st⟩) <| RunD.op (det _) tab7 4 (fun f' L' w' hc => Op1.indexRs ty42 ty110 (hc.st.hD _ (.head _)) (hc.det (j := 1) rfl rfl rfl rfl) (hc.det (j := 2) rfl rfl rfl rfl) (by omega) (by omega) ⟨[], ⟨rfl, rfl⟩, hc.st⟩) <| RunD.op (det _) tab7 5 (fun f' L' w' hc => Op1.loadA (vs := [.int .u8 _, .int .u32 _, str _]) ty110 rfl (hc.det (j := 3) rfl rfl rfl rfl) rfl (Res.rs2_cells (m := 3) (hc.st.hD _ (.head _)) _ (flat_seg (g := argC) (d := zeroA) argC_len _ _ (by omega))) ⟨[], ⟨rfl, rfl⟩, hc.st⟩) <| RunD.op (det _) tab7 6 (fun f' L' w' hc => Op1.fieldAddr fld44_3 (hc.old (v := .pointer (some ⟨_, _, none⟩)) rfl rfl rfl) ⟨[], ⟨rfl, rfl⟩, hc.st⟩) <| RunD.op (det _) tab7 7 (fun f' L' w' hc => Op1.load1 (v := .slice _ _ _) ty42 rfl (hc.det (j := 5) rfl rfl rfl rfl) (hc.st.cellL (List.mem_append_right _ (.head _)) rfl) ⟨[], ⟨rfl, rfl⟩, hc.st⟩) <| RunD.op (det _) tab7 8 (fun f' L' w' hc => Op1.move (v := .int .i64 _) (hc.old (v := .int .i64 _) rfl rfl rfl) ⟨[], ⟨rfl, rfl⟩, hc.st⟩) <| RunD.op (det _) tab7 9 (fun f' L' w' hc => Op1.indexRs ty42 ty110 (hc.st.hD _ (.tail _ (.head _))) (hc.det (j := 6) rfl rfl rfl rfl) (hc.det (j := 7) rfl rfl rfl rfl) (by omega) (by omega) ⟨[], ⟨rfl, rfl⟩, hc.st⟩) <| RunD.op (det _) tab7 10 (fun f' L' w' hc => Op1.loadA (vs := [.int .u8 _, .int .u32 _, str _]) ty110 rfl (hc.det (j := 8) rfl rfl rfl rfl) rfl (Res.rs2_cells (m := 3) (hc.st.hD _ (.tail _ (.head _))) _ (flat_seg (g := argC) (d := zeroA) argC_len _ _ (by omega))) ⟨[], ⟨rfl, rfl⟩, hc.st⟩) <| RunD.fin followsMixed tab7 hst rfl (fun f8 w R11 hs9 hd10 hr12 hst => ?_)
   obtain ⟨h41_, r0⟩ := hd10 0 41 rfl rfl
   obtain ⟨h42_, r1⟩ := hd10 1 42 rfl rfl
   obtain ⟨h43_, r2⟩ := hd10 2 43 rfl rfl
   obtain ⟨h44_, r3⟩ := hd10 3 44 rfl rfl
   obtain ⟨h45_, r4⟩ := hd10 4 45 rfl rfl
   obtain ⟨h46_, r5⟩ := hd10 5 46 rfl rfl
   obtain ⟨h47_, r6⟩ := hd10 6 47 rfl rfl
   obtain ⟨h48_, r7⟩ := hd10 7 48 rfl rfl
   obtain ⟨h49_, r8⟩ := hd10 8 49 rfl rfl
   obtain ⟨h50_, r9⟩ := hd10 9 50 rfl rfl
   simp only [show List.range 10 = [0, 1, 2, 3, 4, 5, 6, 7, 8, 9] from rfl, List.flatMap_cons, List.flatMap_nil, List.map_cons, List.map_nil, r0, r1, r2, r3, r4, r5, r6, r7, r8, r9, List.nil_append, List.append_nil, List.cons_append] at hst
   refine RunL.slots (sl := [(2, .pointer (some ⟨_, _, none⟩)), (3, .pointer (some ⟨_, _, none⟩)), (5, .int .i64 _), (45, .agg #[.int .u8 _, .int .u32 _, str _]), (50, .agg #[.int .u8 _, .int .u32 _, str _])]) ⟨(hs9 2 rfl).trans rfl, (hs9 3 rfl).trans rfl, (hs9 5 rfl).trans rfl, h45_, h50_, trivial⟩ ?_
   clear hs9 hd10 hr12 tab7
   refine CN <| Op1.neqA (xs := [.int .u8 _, .int .u32 _, str _]) (ys := [.int .u8 _, .int .u32 _, str _]) rfl rfl (by kernel_rfl) (EqOk.struct Tryz.underlying110 (by kernel_rfl) (.cons (by decide) (PartOk.one ty5 rfl rfl) (PartOk.one ty5 rfl rfl) (EqOk.int ty5) (.cons (by decide) (PartOk.one ty22 rfl rfl) (PartOk.one ty22 rfl rfl) (EqOk.int ty22) (.cons (by decide) (PartOk.one ty9 rfl rfl) (PartOk.one ty9 rfl rfl) (EqOk.str ty9) .nil)))) <| NL <| run_cond_split rfl (fun g13 => ?_) (fun g13 => ?_)
   · skip
     refine SR <| AB rfl <| NL <| run_ret1 Tryz.func34 rfl (TP (v := .bool _) rfl) ?_
     exact ⟨congrArg Value.bool (decide_eq_false (fun h => by obtain ⟨h1, h2, h3, h4⟩ := InstP.L_eq.1 h; have hg := g13; rw [arg_eq, h4] at hg; simp at hg)).symm, hst.pure⟩
   refine run_skip <| run_inBlock <| RG <| MI rfl <| CN <| Op1.addN rfl rfl rfl (wrap_i64 (by omega) (by omega)) <| AI rfl <| NL <| run_inLoop ?_
   exact ih5 (i + 1) _ w (by omega) hst (⟨by omega, step_all hJ.2 (by have hg := g13; rw [arg_eq] at hg; simpa using hg)⟩) ⟨rfl, rfl, trivial⟩ ⟨(congrArg (Value.int .i64) (by omega)), trivial⟩
 refine run_exit (id := 0) rfl <| SR <| AB rfl <| NL <| run_ret1 Tryz.func34 rfl (TP (v := .bool _) rfl) ?_
 exact ⟨congrArg Value.bool (decide_eq_true (InstP.L_eq.2 ⟨Classical.not_not.1 g1, Classical.not_not.1 g2, Classical.not_not.1 g3, list_ext_getD2 zeroA (by omega) (fun j hj => hJ.2 j (by omega))⟩)).symm, hst.pure⟩
end Go.SK
namespace Go.SK
open Go Go.Proofs
theorem ent152 : Enters Tryz.prog 152 := ⟨Tryz.f152, _, Tryz.func152, by kernel_rfl, rfl⟩
theorem fld110_0 : FldF Tryz.prog 110 0 0 := FldF.of (n := 0) (by kernel_rfl)
theorem fld113_0 : FldF Tryz.prog 113 0 0 := FldF.of (n := 0) (by kernel_rfl)
theorem ent133 : Enters Tryz.prog 133 := ⟨Tryz.f133, _, Tryz.func133, by kernel_rfl, rfl⟩
end Go.SK
namespace Go.SK
open Go Go.Proofs
open Go.RowKit
theorem R7cd_id (n bound : Int) (w : World) : Ret Tryz.prog 137 #[.int .u32 n, .int .u32 bound] w (fun v w' => v = .int .i64 (idE n bound) ∧ St w NoM [] [] w') := by
 refine Ret.enter (args := [.int .u32 n, .int .u32 bound]) Tryz.func137 rfl rfl rfl ?_
 have hst := St.init w
 refine SR <| AI rfl <| NL <| SQ <| SR <| MU rfl <| CN <| Op1.eql rfl rfl <| MB rfl <| RunL.splitD (d := 7) rfl (fun g1 => ?_) (fun g1 => ?_)
 · skip
   refine OM (t := 7) rfl (congrArg Value.bool (decide_eq_true g1)) rfl <| OM (t := 7) rfl (congrArg Value.bool (decide_eq_true g1)) rfl <| OM (t := 7) rfl (congrArg Value.bool (decide_eq_true g1)) rfl <| CN <| Op1.pickT (u := .bool _) (congrArg Value.bool (decide_eq_true g1)) rfl <| NL <| run_cond_true (congrArg Value.bool (rfl : true = _)) <| SR <| AI rfl <| NL <| run_ret1 Tryz.func137 rfl (TP (v := .int .i64 _) rfl) ?_
   exact ⟨congrArg (Value.int .i64) (by unfold idE; rw [if_pos (by omega)]), hst.pure⟩
 refine TK (t := 7) rfl (congrArg Value.bool (decide_eq_false g1)) <| Op1.move (v := .int .u32 _) rfl <| TK (t := 7) rfl (congrArg Value.bool (decide_eq_false g1)) <| Op1.move (v := .int .u32 _) rfl <| TK (t := 7) rfl (congrArg Value.bool (decide_eq_false g1)) <| Op1.geq rfl rfl <| CN <| Op1.pickF (u := .bool _) (congrArg Value.bool (decide_eq_false g1)) rfl <| NL <| run_cond_dec rfl (fun g2 => ?_) (fun g2 => ?_)
 · skip
   refine SR <| AI rfl <| NL <| run_ret1 Tryz.func137 rfl (TP (v := .int .i64 _) rfl) ?_
   exact ⟨congrArg (Value.int .i64) (by unfold idE; rw [if_pos (by omega)]), hst.pure⟩
 refine run_skip <| SR <| AI rfl <| NL <| run_ret1 Tryz.func137 rfl (TP (v := .int .i64 _) rfl) ?_
 exact ⟨congrArg (Value.int .i64) (by unfold idE; rw [if_neg (by omega)]), hst.pure⟩
theorem R7cd_named (c n : Int) (h0 : 0 ≤ c) (h1 : c ≤ 255) (w : World) : Ret Tryz.prog 140 #[.int .u8 c, .int .u32 n] w (fun v w' => v = .int .i64 (enumE c n) ∧ St w NoM [] [] w') := by
 refine Ret.enter (args := [.int .u8 c, .int .u32 n]) Tryz.func140 rfl rfl rfl ?_
 have hst := St.init w
 obtain ⟨o, ho⟩ : ∃ o, namesL.find? (enN c n) = o := ⟨_, rfl⟩
 refine SR <| AI rfl <| NL <| SQ <| SR <| MC rfl <| MU rfl <| CN <| Op1.call2 (v1 := .int .u8 _) (v2 := .int .u32 _) ent152 rfl rfl rfl <| Ret.det (R7gr_Enum2 ho h0 h1 _) hst fun w hst => CN <| Op1.move (v := .tuple #[str _, .bool _]) rfl <| CN <| Op1.extract (v := str _) rfl rfl <| CN <| Op1.extract (v := .bool _) rfl rfl <| AS rfl <| AB rfl ?_
 refine NSR <| MB rfl <| CN <| Op1.not rfl <| NL <| run_cond_split rfl (fun g1 => ?_) (fun g1 => ?_)
 · skip
   refine SR <| AI rfl <| NL <| run_ret1 Tryz.func140 rfl (TP (v := .int .i64 _) rfl) ?_
   exact ⟨congrArg (Value.int .i64) (by unfold enumE; rw [ho, if_neg (by simpa using g1)]), hst.pure⟩
 refine run_skip <| SR <| AI rfl <| NL <| run_ret1 Tryz.func140 rfl (TP (v := .int .i64 _) rfl) ?_
 exact ⟨congrArg (Value.int .i64) (by unfold enumE; rw [ho, if_pos (by simpa using g1)]), hst.pure⟩
theorem R7gr_Fits2 {op : Int} {ks : List Int} {fa : Int} {fb : Bool} {n : Nat} (hfit : fitsS op ks = (fa, fb)) (hn : n = ks.length) (h0 : 0 ≤ op) (ao : Option Addr) (cp : Nat) (w : World) (hA : (Res.rs ao n 1 (ks.flatMap u8C)).holds w) (hlen : n ≤ 9000000000000000) : Ret Tryz.prog 133 #[.int .u16 op, .slice ao n cp] w (fun v w' => v = .tuple #[.int .i64 fa, .bool fb] ∧ St w NoM [] [] w') := by
 subst hn
 exact (R7gr_Fits op h0 ks ao cp w hA (by omega)).mono fun v w' h => ⟨h.1.trans (by rw [hfit]), h.2⟩
theorem R7cd_whole (fm : FormL) (hf : FOk fm) (l : List ArgP) (ao : Option Addr) (cp : Nat) (w : World) (hA : (Res.rs ao l.length 3 (l.flatMap argC)).holds w) (hl : l.length ≤ 9000000000000) : Ret Tryz.prog 78 #[.agg #[.int .u16 fm.op, str fm.name, .bool fm.ty, .bool fm.res, str fm.fixed, str fm.rest, .int .i64 fm.most, .int .u8 fm.part], .slice ao l.length cp] w (fun v w' => v = .int .i64 (wholeE fm.op l) ∧ St w NoM [] [] w') := by
 refine Ret.enter (args := [.agg #[.int .u16 fm.op, str fm.name, .bool fm.ty, .bool fm.res, str fm.fixed, str fm.rest, .int .i64 fm.most, .int .u8 fm.part], .slice ao l.length cp]) Tryz.func78 rfl rfl rfl ?_
 have hst : St w NoM [] [Res.rs ao l.length 3 (l.flatMap argC)] w := St.init_D hA
 clear hA
 obtain ⟨fa, fb, hfit⟩ : ∃ fa fb, fitsS fm.op (l.map ArgP.kind) = (fa, fb) := ⟨_, _, rfl⟩
 refine SR <| CN <| Op1.box (v := .agg #[.int .u16 _, str _, .bool _, .bool _, str _, str _, .int .i64 _, .int .u8 _]) hst rfl rfl fun w b2 hst => AI rfl <| NSR <| AL rfl <| NL <| SQ <| SR <| ML rfl <| CN <| Op1.lenSl (rest := []) ty42 rfl <| MI rfl ?_
 refine NL <| run_block <| run_loop ?_
 replace hst := hst.pushNil 5 1
 refine Run.indW [(2, .pointer (some ⟨_, _, none⟩)), (10, .slice _ _ _), (11, .int .i64 _)] ⟨rfl, rfl, rfl, trivial⟩ (fun (q : Nat × Option Addr × Nat) => [(5, .slice q.2.1 q.1 q.2.2), (12, .int .i64 (q.1 : Int))]) (fun (q : Nat × Option Addr × Nat) => [Res.sl q.2.1 q.1 q.2.2 5 1 (((l.map ArgP.kind).take q.1).flatMap u8C)]) (fun (q : Nat × Option Addr × Nat) => q.1 ≤ l.length) (fun (q : Nat × Option Addr × Nat) => l.length - q.1) ((0, none, 0)) hst (Nat.zero_le _) ⟨rfl, rfl, trivial⟩ ?_
 intro ⟨i, aq, cq⟩ f w hst hJ ih1
 replace hst : St _ _ ([Res.sl aq i cq 5 1 (((l.map ArgP.kind).take i).flatMap u8C)] ++ [_]) _ _ := hst
 replace hJ : i ≤ l.length := hJ
 refine Run.slots (sl := [(5, .slice aq i cq), (12, .int .i64 (i : Int))]) ⟨rfl, rfl, trivial⟩ <| SR <| CN <| Op1.lss rfl rfl <| NL <| SQ <| run_cond_dec rfl (fun g2 => ?_) (fun g2 => ?_)
 · skip
   have hidx : l.getD ((i : Int)).toNat zeroA = l.getD i zeroA := rfl
   refine run_skip <| SQ <| run_block <| SR <| CN <| Op1.indexRs ty42 ty110 (hst.hD _ (.head _)) rfl rfl (by omega) (by omega) <| CN <| Op1.loadA (vs := [.int .u8 _, .int .u32 _, str _]) ty110 rfl rfl rfl (Res.rs2_cells (m := 3) (hst.hD _ (.head _)) _ (flat_seg (g := argC) (d := zeroA) argC_len _ _ (by omega))) <| CN <| Op1.alloc hst ty110 fun w b7 hst => CN (SO (v := .agg #[.int .u8 _, .int .u32 _, str _]) hst ty110 rfl rfl (.here) fun w hst => ?_)
   refine NR <| ML rfl <| CN <| Op1.fieldAddr fld110_0 rfl <| CN <| Op1.load1 (v := .int .u8 _) ty5 rfl rfl (hst.cellL (.head _) rfl) <| CN (Op1.buildSl (z0 := [.int .u8 0]) hst ty38 ty5 rfl rfl (by kernel_rfl) (.c (v := .int .u8 _) rfl (h := .nil)) fun w b19 hst => ?_)
   refine CN (Op1.append (news := [.int .u8 _]) hst ty38 ty5 rfl rfl (.there (.there (.here))) rfl rfl rfl (cells_of_obj (n := 1) (hst.objL (.head _)) _ rfl) rfl rfl (by omega) fun w ao3 cp4 hst => ?_)
   replace hst := hst.drop (.there (.here))
   refine AL rfl <| NL <| run_inBlock <| RG <| CN <| Op1.addN rfl rfl rfl (wrap_i64 (by omega) (by omega)) <| MI rfl <| NL <| run_inLoop ?_
   have e1 : ((l.map ArgP.kind).take i).flatMap u8C ++ [.int .u8 (l.getD i zeroA).kind] = ((l.map ArgP.kind).take (i + 1)).flatMap u8C := by rw [take_getD2 (l := l.map ArgP.kind) (d := zeroA.kind) (by rw [List.length_map]; omega), map_getD2 _ _ (by omega), List.flatMap_append]; rfl
   replace hst := hst.pick (.cons (.here) (.cons (.there (.here)) .nil))
   exact ih1 ((i + 1, ao3, cp4)) _ w (by (try dsimp only); omega) (by (try dsimp only); rw [← e1]; exact hst) (by (try dsimp only); omega) ⟨rfl, rfl, rfl, trivial⟩ ⟨rfl, (congrArg (Value.int .i64) (by (try dsimp only); omega)), trivial⟩
 obtain rfl : i = l.length := by omega
 have hlk : l.length = (l.map ArgP.kind).length := by rw [List.length_map]
 rw [List.take_of_length_le (by omega)] at hst
 refine run_exit (id := 0) rfl <| SQ <| SR <| CN <| Op1.fieldAddr fld113_0 rfl <| CN <| Op1.load1 (v := .int .u16 _) ty41 rfl rfl (hst.cellL (.tail _ (.head _)) rfl) <| ML rfl <| CN <| Op1.call2 (v1 := .int .u16 _) (v2 := .slice _ _ _) ent133 rfl rfl rfl <| Ret.det (R7gr_Fits2 hfit hlk hf.op.1 _ _ _ (Res.rs_of_sl (hst.hL _ (.head _))) (by omega)) hst fun w hst => CN <| Op1.move (v := .tuple #[.int .i64 _, .bool _]) rfl <| CN <| Op1.extract (v := .int .i64 _) rfl rfl <| CN <| Op1.extract (v := .bool _) rfl rfl <| AI rfl <| AB rfl <| NL <| SQ ?_
 refine RG <| MB rfl <| CN <| Op1.not rfl <| NL <| run_cond_split rfl (fun g5 => ?_) (fun g5 => ?_)
 · skip
   refine SR <| AI rfl <| NL <| run_ret1 Tryz.func78 rfl (TP (v := .int .i64 _) rfl) ?_
   exact ⟨congrArg (Value.int .i64) (by unfold wholeE; rw [hfit, if_neg (by simpa using g5)]), hst.pure⟩
 refine run_skip <| SR <| AI rfl <| NL <| run_ret1 Tryz.func78 rfl (TP (v := .int .i64 _) rfl) ?_
 exact ⟨congrArg (Value.int .i64) (by unfold wholeE; rw [hfit, if_pos (by simpa using g5)]), hst.pure⟩
end Go.SK
namespace Go.SK
open Go Go.Proofs
theorem ent137 : Enters Tryz.prog 137 := ⟨Tryz.f137, _, Tryz.func137, by kernel_rfl, rfl⟩
end Go.SK
namespace Go.SK
open Go Go.Proofs
theorem ent131 : Enters Tryz.prog 131 := ⟨Tryz.f131, _, Tryz.func131, by kernel_rfl, rfl⟩
theorem fld110_2 : FldF Tryz.prog 110 2 2 := FldF.of (n := 0) (by kernel_rfl)
theorem fld110_1 : FldF Tryz.prog 110 1 1 := FldF.of (n := 0) (by kernel_rfl)
theorem ent140 : Enters Tryz.prog 140 := ⟨Tryz.f140, _, Tryz.func140, by kernel_rfl, rfl⟩
end Go.SK
namespace Go.SK
open Go Go.Proofs
open Go.RowKit
theorem R7gr_Letter3 {op c : Int} {fm : FormL} {i : Int} (h0 : 0 ≤ op) (hfm : refD op = fm) (hc : letterS fm i = c) (h1 : i ≤ 9223372036854775807) (w : World) : Ret Tryz.prog 131 #[.int .u16 op, .int .i64 i] w (fun v w' => v = .int .u8 c ∧ St w NoM [] [] w') := by
 subst hfm; subst hc; exact R7gr_Letter op h0 i h1 w
theorem R7gr_Kind2 {c kd : Int} (hk : kindS c = kd) (w : World) : Ret Tryz.prog 138 #[.int .u8 c] w (fun v w' => v = .int .u8 kd ∧ St w NoM [] [] w') := by
 subst hk; exact R7gr_Kind c w
end Go.SK
namespace Go.SK
open Go Go.Proofs
theorem stf44 : StructF Tryz.prog 44 [(0, 1), (1, 1), (2, 1), (3, 1)] := ⟨fieldsOf Tryz.prog 44, by kernel_rfl, fun w => by kernel_rfl⟩
theorem ent78 : Enters Tryz.prog 78 := ⟨Tryz.f78, _, Tryz.func78, by kernel_rfl, rfl⟩
end Go.SK
namespace Go.SK
open Go Go.Proofs
theorem ent146 : Enters Tryz.prog 146 := ⟨Tryz.f146, _, Tryz.func146, by kernel_rfl, rfl⟩
end Go.SK
namespace Go.SK
open Go Go.Proofs
open Go.RowKit
theorem R7ix_lite (s : List UInt8) (w : World) : Ret Tryz.prog 146 #[str s, .int .u8 0] w (fun v w' => v = .int .i64 (idxZ s) ∧ St w NoM [] [] w') := by
 refine Ret.enter (args := [str s, .int .u8 0]) Tryz.func146 rfl rfl rfl ?_
 have hst := St.init w
 refine SR <| AI rfl <| NSR <| MS rfl <| MC rfl <| CN <| Op1.ext2 (v1 := str s) (v2 := .int .u8 0) Tryz.func193 (by kernel_rfl) (by kernel_rfl) (by kernel_rfl) (by kernel_rfl) rfl rfl rfl (run_indexByte_string ⟨s.toArray⟩ 0 _) <| AI rfl <| NL <| run_ret1 Tryz.func146 rfl (TP (v := .int .i64 _) rfl) ?_
 exact ⟨congrArg (Value.int .i64) (firstIdx_zero s), hst.pure⟩
theorem R7ix_strings (s : List UInt8) (w : World) : Ret Tryz.prog 87 #[str s, .int .u8 0] w (fun v w' => v = .int .i64 (idxZ s) ∧ St w NoM [] [] w') := by
 refine Ret.enter (args := [str s, .int .u8 0]) Tryz.func87 rfl rfl rfl ?_
 have hst := St.init w
 refine SR <| AI rfl <| NSR <| MS rfl <| MC rfl <| CN <| Op1.call2 (v1 := str _) (v2 := .int .u8 _) ent146 rfl rfl rfl <| Ret.det (R7ix_lite _ _) hst fun w hst => AI rfl <| NL <| run_ret1 Tryz.func87 rfl (TP (v := .int .i64 _) rfl) ?_
 exact ⟨rfl, hst.pure⟩
end Go.SK
namespace Go.SK
open Go Go.Proofs
theorem fld134_2 : FldF Tryz.prog 134 2 9 := FldF.of (n := 0) (by kernel_rfl)
theorem fld134_3 : FldF Tryz.prog 134 3 10 := FldF.of (n := 0) (by kernel_rfl)
theorem ent136 : Enters Tryz.prog 136 := ⟨Tryz.f136, _, Tryz.func136, by kernel_rfl, rfl⟩
theorem fld134_1 : FldF Tryz.prog 134 1 8 := FldF.of (n := 0) (by kernel_rfl)
theorem ent182 : Enters Tryz.prog 182 := ⟨Tryz.f182, _, Tryz.func182, by kernel_rfl, rfl⟩
end Go.SK
namespace Go.SK
open Go Go.Proofs
open Go.RowKit
theorem R7cd_put (bq : Nat) (fm : FormL) (bound : Int) (ao : Option Addr) (cp : Nat) (ws : List Int) (room : Int) (n : Int) (w : World) (hR : (WrC 134 22 bq fm bound ao cp ws room).holds w) (hl : ws.length ≤ 1000000000000) (hr0 : 0 ≤ room) (hr1 : room ≤ 1000000000000) : Ret Tryz.prog 136 #[.pointer (some ⟨bq, 0, none⟩), .int .u32 n] w (fun v w' => ∃ ao' cp', St w (WrC 134 22 bq fm bound ao cp ws room).foot [WrC 134 22 bq fm bound ao' cp' (ws ++ [n]) (room + 1)] [] w') := by
 refine Ret.enter (args := [.pointer (some ⟨bq, 0, none⟩), .int .u32 n]) Tryz.func136 rfl rfl rfl ?_
 have hst : St w (WrC 134 22 bq fm bound ao cp ws room).foot [WrC 134 22 bq fm bound ao cp ws room] [] w := St.enter1 hR (fun d hd => by cases hd) (fun d hd => by cases hd)
 replace hst : St _ _ [_, _] _ _ := hst.unpack
 refine SR <| MP rfl <| MP rfl <| CN <| Op1.nilCheckP rfl <| CN <| Op1.fieldAddr fld134_2 rfl <| CN <| Op1.load1 (v := .slice _ _ _) ty60 rfl rfl (hst.cellL (.head _) rfl) <| MU rfl <| CN (Op1.buildSl (z0 := [.int .u32 0]) hst ty60 ty22 rfl rfl (by kernel_rfl) (.c (v := .int .u32 _) rfl (h := .nil)) fun w b10 hst => ?_)
 refine CN (Op1.append (news := [.int .u32 _]) hst ty60 ty22 rfl rfl (.there (.there (.here))) rfl rfl rfl (cells_of_obj (n := 1) (hst.objL (.head _)) _ rfl) rfl rfl (by omega) fun w ao1 cp2 hst => ?_)
 replace hst := hst.drop (.there (.here))
 refine CN <| Op1.nilCheckP rfl <| CN <| Op1.fieldAddr fld134_2 rfl <| CN (SO (v := .slice _ _ _) hst ty60 rfl rfl (.there (.here)) fun w hst => ?_)
 refine NR <| MP rfl <| CN <| Op1.nilCheckP rfl <| CN <| Op1.fieldAddr fld134_3 rfl <| CN <| Op1.load1 (v := .int .i64 _) ty3 rfl rfl (hst.cellL (.tail _ (.head _)) rfl) <| CN <| Op1.addN rfl rfl rfl (wrap_i64 (by omega) (by omega)) <| CN <| Op1.nilCheckP rfl <| CN <| Op1.fieldAddr fld134_3 rfl <| CN (SO (v := .int .i64 _) hst ty3 rfl rfl (.there (.here)) fun w hst => ?_)
 refine NL <| run_end0 Tryz.func136 rfl  ?_
 replace hst := hst.pick (.cons (.there (.here)) (.cons (.here) .nil))
 have e1 : ws.length + 1 = (ws ++ [n]).length := by simp
 have e2 : ws.flatMap u32C ++ [.int .u32 n] = (ws ++ [n]).flatMap u32C := by simp
 rw [e1, e2] at hst
 exact ⟨_, _, (St.pack (L1 := [_, _]) (L2 := []) hst)⟩
theorem R7cd_whead (bq : Nat) (fm : FormL) (bound : Int) (ao : Option Addr) (cp : Nat) (ws : List Int) (room : Int) (must : Bool) (n lacks : Int) (hk : lacks ≠ 0) (w : World) (hR : (WrC 134 22 bq fm bound ao cp ws room).holds w) (hl : ws.length ≤ 1000000000000) (hr0 : 0 ≤ room) (hr1 : room ≤ 1000000000000) : Ret Tryz.prog 76 #[.pointer (some ⟨bq, 0, none⟩), .bool must, .int .u32 n, .int .i64 lacks] w (fun v w' => ∃ ao' cp' ws' room', v = .int .i64 (idH must n bound lacks) ∧ ((idH must n bound lacks) = 0 → ws' = ws ++ mustW must n ∧ room' = room + b2n must) ∧ ws'.length ≤ ws.length + 1 ∧ 0 ≤ room' ∧ room' ≤ room + 1 ∧ St w (WrC 134 22 bq fm bound ao cp ws room).foot [WrC 134 22 bq fm bound ao' cp' ws' room'] [] w') := by
 refine Ret.enter (args := [.pointer (some ⟨bq, 0, none⟩), .bool must, .int .u32 n, .int .i64 lacks]) Tryz.func76 rfl rfl rfl ?_
 have hst : St w (WrC 134 22 bq fm bound ao cp ws room).foot [WrC 134 22 bq fm bound ao cp ws room] [] w := St.enter1 hR (fun d hd => by cases hd) (fun d hd => by cases hd)
 replace hst : St _ _ [_, _] _ _ := hst.unpack
 refine SR <| AI rfl <| NL <| SQ <| run_block <| SR <| MB rfl <| MU rfl <| CN <| Op1.neq rfl rfl <| CN <| Op1.neqB ty4 rfl rfl <| AB rfl <| NL <| run_cond_split rfl (fun g1 => ?_) (fun g1 => ?_)
 · skip
   refine SR <| MI rfl <| AI rfl <| NL <| run_ret1 Tryz.func76 rfl (TP (v := .int .i64 _) rfl) ?_
   replace hst := hst.pick (.cons (.here) (.cons (.here) .nil))
   have hE := idH_lacks (must := must) (n := n) (bound := bound) (e := lacks) (bne_iff_ne.1 g1)
   rw [hE]
   exact ⟨ao, cp, ws, room, rfl, fun h => absurd h hk, by omega, hr0, by omega, (St.pack (L1 := [_, _]) (L2 := []) hst)⟩
 refine SR <| MB rfl <| CN <| Op1.not rfl <| AB rfl <| NL <| run_cond_split rfl (fun g2 => ?_) (fun g2 => ?_)
 · skip
   refine SR <| AI rfl <| NL <| run_ret1 Tryz.func76 rfl (TP (v := .int .i64 _) rfl) ?_
   replace hst := hst.pick (.cons (.here) (.cons (.here) .nil))
   have hm : must = false := by simpa using g2
   have hE := idH_no (must := must) (n := n) (bound := bound) (e := lacks) (fun hx => by have hy := bne_iff_ne.2 hx; rw [g1] at hy; cases hy) hm
   rw [hE]
   exact ⟨ao, cp, ws, room, rfl, fun _ => ⟨by rw [mustW, hm]; simp, by rw [b2n, hm]; simp⟩, by omega, hr0, by omega, (St.pack (L1 := [_, _]) (L2 := []) hst)⟩
 refine run_skip <| run_inBlock <| SR <| MP rfl <| MU rfl ?_
 replace hst := hst.pick (.cons (.here) (.cons (.here) .nil))
 replace hst : St _ _ (WrC 134 22 bq fm bound ao cp ws room :: _) _ _ := hst.pack (L1 := [_, _])
 refine CN (Op1.call2 (v1 := .pointer (some ⟨_, _, none⟩)) (v2 := .int .u32 _) ent136 rfl rfl rfl ((R7cd_put bq fm bound ao cp ws room _ _ (hst.hL _ (.head _)) hl hr0 hr1).mono fun v w hp => ?_))
 obtain ⟨ao2, cp2, hp⟩ := hp
 replace hst : St _ _ (WrC 134 22 bq fm bound ao2 cp2 (ws ++ [n]) (room + 1) :: _) _ _ := hst.call1 hp
 replace hst : St _ _ (_ :: _ :: _) _ _ := hst.unpack
 clear hp
 refine NSR <| MU rfl <| MP rfl <| CN <| Op1.nilCheckP rfl <| CN <| Op1.fieldAddr fld134_1 rfl <| CN <| Op1.load1 (v := .int .u32 _) ty22 rfl rfl (hst.cellL (.head _) rfl) <| CN <| Op1.call2 (v1 := .int .u32 _) (v2 := .int .u32 _) ent137 rfl rfl rfl <| Ret.det (R7cd_id _ _ _) hst fun w hst => AI rfl <| NL <| run_ret1 Tryz.func76 rfl (TP (v := .int .i64 _) rfl) ?_
 replace hst := hst.pick (.cons (.here) (.cons (.here) .nil))
 have hm : must = true := by simpa using g2
 have hE := idH_id (must := must) (n := n) (bound := bound) (e := lacks) (fun hx => by have hy := bne_iff_ne.2 hx; rw [g1] at hy; cases hy) hm
 rw [hE]
 exact ⟨ao2, cp2, ws ++ [n], room + 1, rfl, fun _ => ⟨by rw [mustW, hm]; rfl, by rw [b2n, hm]; rfl⟩, by simp, by omega, by omega, (St.pack (L1 := [_, _]) (L2 := []) hst)⟩
theorem R7cd_wtext (bq : Nat) (fm : FormL) (bound : Int) (ao : Option Addr) (cp : Nat) (ws : List Int) (room : Int) (s : List UInt8) (hs : s.length ≤ 100000000000) (w : World) (hR : (WrC 134 22 bq fm bound ao cp ws room).holds w) (hl : ws.length ≤ 1000000000000) (hr0 : 0 ≤ room) (hr1 : room ≤ 1000000000000) : Ret Tryz.prog 139 #[.pointer (some ⟨bq, 0, none⟩), str s] w (fun v w' => ∃ ao' cp' ws' room', v = .int .i64 (textE s) ∧ ((textE s) = 0 → ws' = ws ++ ofTextL s ∧ room' = room + ((s.length / 4 + 1 : Nat) : Int)) ∧ ws'.length ≤ ws.length + (s.length / 4 + 1) ∧ 0 ≤ room' ∧ room' ≤ room + ((s.length / 4 + 1 : Nat) : Int) ∧ St w (WrC 134 22 bq fm bound ao cp ws room).foot [WrC 134 22 bq fm bound ao' cp' ws' room'] [] w') := by
 refine Ret.enter (args := [.pointer (some ⟨bq, 0, none⟩), str s]) Tryz.func139 rfl rfl rfl ?_
 have hst : St w (WrC 134 22 bq fm bound ao cp ws room).foot [WrC 134 22 bq fm bound ao cp ws room] [] w := St.enter1 hR (fun d hd => by cases hd) (fun d hd => by cases hd)
 replace hst : St _ _ [_, _] _ _ := hst.unpack
 have hle := ofText_le s
 refine SR <| AI rfl <| NL <| SQ <| SR <| MS rfl <| CN <| Op1.call2 (v1 := str _) (v2 := .int .u8 _) ent87 rfl rfl rfl <| Ret.det (R7ix_strings s _) hst fun w hst => CN <| Op1.geq rfl rfl <| NL <| run_cond_dec rfl (fun g1 => ?_) (fun g1 => ?_)
 · skip
   refine SR <| AI rfl <| NL <| run_ret1 Tryz.func139 rfl (TP (v := .int .i64 _) rfl) ?_
   replace hst := hst.pick (.cons (.here) (.cons (.here) .nil))
   have hE : textE s = 13 := if_pos (idxZ_neg.1 (by omega))
   rw [hE]
   exact ⟨ao, cp, ws, room, rfl, fun h => absurd h (by decide), by omega, hr0, by omega, (St.pack (L1 := [_, _]) (L2 := []) hst)⟩
 refine run_skip <| SR <| MS rfl <| CN (Op1.call1 (v1 := str _) ent182 rfl rfl ((R7wd_OfText s _ (by omega)).mono fun v w hp => ?_))
 obtain ⟨aT, cT, rfl, hp⟩ := hp
 replace hst : St _ _ (_ :: _) _ _ := hst.call0 hp
 clear hp
 refine CN <| Op1.move (v := .tuple #[.slice _ _ _, .int .i64 _]) rfl <| CN <| Op1.extract (v := .slice _ _ _) rfl rfl <| CN <| Op1.extract (v := .int .i64 _) rfl rfl <| AL rfl <| AI rfl <| NL <| SQ <| SR <| MI rfl <| CN <| Op1.neq rfl rfl <| NL <| run_cond_dec rfl (fun g2 => ?_) (fun g2 => ?_)
 · skip
   refine SQ <| RunD.start [] hst (bs := [0, 1, 3, 7, 0, 16, 63, 127, 255, 511]) (ds := [some 17, some 18, some 19, some 20, some 21, some 22, some 23, some 24, some 25, none]) ⟨by kernel_rfl, by kernel_rfl, by kernel_rfl⟩ (fun tab3 => ?_)
   refine RunD.op (det _) tab3 1 (fun f' L' w' hc => Op1.move (v := .pointer (some ⟨_, _, none⟩)) (hc.old (v := .pointer (some ⟨_, _, none⟩)) rfl rfl rfl) ⟨[], ⟨rfl, rfl⟩, hc.st⟩) <| RunD.op (det _) tab3 2 (fun f' L' w' hc => Op1.nilCheckP (hc.det (j := 0) rfl rfl rfl rfl) ⟨[], ⟨rfl, rfl⟩, hc.st⟩) <| RunD.op (det _) tab3 3 (fun f' L' w' hc => Op1.fieldAddr fld134_3 (hc.det (j := 1) rfl rfl rfl rfl) ⟨[], ⟨rfl, rfl⟩, hc.st⟩) <| RunD.op (det _) tab3 4 (fun f' L' w' hc => Op1.load1 (v := .int .i64 _) ty3 rfl (hc.det (j := 2) rfl rfl rfl rfl) (hc.st.cellL (List.mem_append_right _ (.tail _ (.head _))) rfl) ⟨[], ⟨rfl, rfl⟩, hc.st⟩) <| RunD.op (det _) tab3 5 (fun f' L' w' hc => Op1.move (v := str _) (hc.old (v := str _) rfl rfl rfl) ⟨[], ⟨rfl, rfl⟩, hc.st⟩) <| RunD.op (det _) tab3 6 (fun f' L' w' hc => Op1.call1 (v1 := str _) ent183 rfl (hc.det (j := 4) rfl rfl rfl rfl) ((R7wd_Room s _ (by omega)).mono fun v w hp => ⟨[], ⟨hp.1, rfl⟩, hc.st.keepc hp.2⟩)) <| RunD.fin followsMixed tab3 hst rfl (fun f4 w R7 hs5 hd6 hr8 hst => ?_)
   obtain ⟨h17_, r0⟩ := hd6 0 17 rfl rfl
   obtain ⟨h18_, r1⟩ := hd6 1 18 rfl rfl
   obtain ⟨h19_, r2⟩ := hd6 2 19 rfl rfl
   obtain ⟨h20_, r3⟩ := hd6 3 20 rfl rfl
   obtain ⟨h21_, r4⟩ := hd6 4 21 rfl rfl
   obtain ⟨h22_, r5⟩ := hd6 5 22 rfl rfl
   simp only [show List.range 6 = [0, 1, 2, 3, 4, 5] from rfl, List.flatMap_cons, List.flatMap_nil, List.map_cons, List.map_nil, r0, r1, r2, r3, r4, r5, List.nil_append, List.append_nil, List.cons_append] at hst
   refine RunL.slots (sl := [(17, .pointer (some ⟨_, _, none⟩)), (20, .int .i64 _), (22, .int .i64 _)]) ⟨h17_, h20_, h22_, trivial⟩ ?_
   clear hs5 hd6 hr8 tab3
   refine CN <| Op1.addN rfl rfl rfl (wrap_i64 (by omega) (by omega)) <| CN <| Op1.nilCheckP rfl <| CN <| Op1.fieldAddr fld134_3 rfl <| CN (SO (v := .int .i64 _) hst ty3 rfl rfl (.there (.here)) fun w hst => ?_)
   refine NL <| Run.forget [] trivial fun f => SR <| AI rfl <| NL <| run_ret1 Tryz.func139 rfl (TP (v := .int .i64 _) rfl) ?_
   replace hst := hst.pick (.cons (.there (.here)) (.cons (.there (.here)) .nil))
   have hE : textE s = 0 := if_neg (fun h => by have := idxZ_neg.2 h; omega)
   rw [hE]
   have hT : ofTextL s = [] := ofTextL_err g2
   exact ⟨ao, cp, ws, room + ((s.length / 4 + 1 : Nat) : Int), rfl, fun _ => ⟨by rw [hT]; simp, rfl⟩, by omega, by omega, by omega, (St.pack (L1 := [_, _]) (L2 := []) hst)⟩
 refine run_skip <| SR <| MP rfl <| MP rfl <| CN <| Op1.nilCheckP rfl <| CN <| Op1.fieldAddr fld134_2 rfl <| CN <| Op1.load1 (v := .slice _ _ _) ty60 rfl rfl (hst.cellL (.tail _ (.head _)) rfl) <| ML rfl <| CN <| Op1.appendRs hst ty60 ty22 rfl rfl (.there (.there (.here))) rfl rfl (Res.rs_of_sl (hst.hL _ (.head _))) (flat_ok (fun _ => rfl) _) rfl (by omega) fun w ao2 cp2 hst => CN <| Op1.nilCheckP rfl <| CN <| Op1.fieldAddr fld134_2 rfl <| CN (SO (v := .slice _ _ _) hst ty60 rfl rfl (.there (.there (.here))) fun w hst => ?_)
 refine NL <| Run.forget [(0, .pointer (some ⟨_, _, none⟩)), (5, .slice _ _ _)] ⟨rfl, rfl, trivial⟩ fun f => SR <| MP rfl <| CN <| Op1.nilCheckP rfl <| CN <| Op1.fieldAddr fld134_3 rfl <| CN <| Op1.load1 (v := .int .i64 _) ty3 rfl rfl (hst.cellL (.tail _ (.tail _ (.head _))) rfl) <| ML rfl <| CN <| Op1.lenSl (rest := []) ty60 rfl <| CN <| Op1.addN rfl rfl rfl (wrap_i64 (by omega) (by omega)) <| CN <| Op1.nilCheckP rfl <| CN <| Op1.fieldAddr fld134_3 rfl <| CN (SO (v := .int .i64 _) hst ty3 rfl rfl (.there (.there (.here))) fun w hst => ?_)
 refine NSR <| AI rfl <| NL <| run_ret1 Tryz.func139 rfl (TP (v := .int .i64 _) rfl) ?_
 replace hst := hst.pick (.cons (.there (.there (.here))) (.cons (.here) .nil))
 have hE : textE s = 0 := if_neg (fun h => by have := idxZ_neg.2 h; omega)
 rw [hE]
 have hT := ofText_len (Classical.not_not.1 g2)
 have e1 : ws.length + (ofTextL s).length = (ws ++ ofTextL s).length := by simp
 have e2 : ws.flatMap u32C ++ (ofTextL s).flatMap u32C = (ws ++ ofTextL s).flatMap u32C := by simp
 rw [e1, e2] at hst
 exact ⟨ao2, cp2, ws ++ ofTextL s, room + ((ofTextL s).length : Int), rfl, fun _ => ⟨rfl, by rw [hT]⟩, by rw [List.length_append]; omega, by omega, by omega, (St.pack (L1 := [_, _]) (L2 := []) hst)⟩
end Go.SK
namespace Go.SK
open Go Go.Proofs
theorem fld134_0 : FldF Tryz.prog 134 0 0 := FldF.of (n := 7) (by kernel_rfl)
theorem ent139 : Enters Tryz.prog 139 := ⟨Tryz.f139, _, Tryz.func139, by kernel_rfl, rfl⟩
end Go.SK
namespace Go.SK
open Go Go.Proofs
open Go.RowKit
theorem R7cd_warg (bq : Nat) (fm : FormL) (bound : Int) (ao : Option Addr) (cp : Nat) (ws : List Int) (room : Int) (k : Nat) (hk : k ≤ 9000000000000000) (a : ArgP) (hs : a.s.length ≤ 100000000000) (c : Int) (hfm : refD fm.op = fm) (hc : letterS fm (k : Int) = c) (w : World) (hR : (WrC 134 22 bq fm bound ao cp ws room).holds w) (hl : ws.length ≤ 1000000000000) (hr0 : 0 ≤ room) (hr1 : room ≤ 1000000000000) : Ret Tryz.prog 77 #[.pointer (some ⟨bq, 0, none⟩), .int .i64 (k : Int), .agg #[.int .u8 a.kind, .int .u32 a.n, str a.s]] w (fun v w' => ∃ ao' cp' ws' room', v = .int .i64 (wrongA c a bound) ∧ ((wrongA c a bound) = 0 → ws' = ws ++ argW a ∧ room' = room + (argRoom a : Int)) ∧ ws'.length ≤ ws.length + argRoom a ∧ 0 ≤ room' ∧ room' ≤ room + (argRoom a : Int) ∧ St w (WrC 134 22 bq fm bound ao cp ws room).foot [WrC 134 22 bq fm bound ao' cp' ws' room'] [] w') := by
 refine Ret.enter (args := [.pointer (some ⟨bq, 0, none⟩), .int .i64 (k : Int), .agg #[.int .u8 a.kind, .int .u32 a.n, str a.s]]) Tryz.func77 rfl rfl rfl ?_
 have hst : St w (WrC 134 22 bq fm bound ao cp ws room).foot [WrC 134 22 bq fm bound ao cp ws room] [] w := St.enter1 hR (fun d hd => by cases hd) (fun d hd => by cases hd)
 replace hst : St _ _ [_, _] _ _ := hst.unpack
 have hf : FOk fm := hfm ▸ refD_fok fm.op
 have hop := hf.op
 have hcb : 0 ≤ c ∧ c ≤ 255 := hc ▸ letterS_bd fm _
 obtain ⟨kd, hkd⟩ : ∃ kd, kindS c = kd := ⟨_, rfl⟩
 refine SR <| CN <| Op1.box (v := .agg #[.int .u8 _, .int .u32 _, str _]) hst rfl rfl fun w b5 hst => AI rfl <| NSR <| MP rfl <| CN <| Op1.nilCheckP rfl <| CN <| Op1.fieldAddr fld134_0 rfl <| CN <| Op1.fieldAddr fld113_0 rfl <| CN <| Op1.load1 (v := .int .u16 _) ty41 rfl rfl (hst.cellL (.tail _ (.head _)) rfl) <| MI rfl <| CN <| Op1.call2 (v1 := .int .u16 _) (v2 := .int .i64 _) ent131 rfl rfl rfl <| Ret.det (R7gr_Letter3 hop.1 hfm hc (by omega) _) hst fun w hst => AC rfl ?_
 refine NSR <| CN <| Op1.fieldAddr fld110_0 rfl <| CN <| Op1.load1 (v := .int .u8 _) ty5 rfl rfl (hst.cellL (.head _) rfl) <| CN <| Op1.eql rfl rfl <| AB rfl <| NL <| SQ <| run_block <| SQ <| RunD.start [] hst (bs := [0, 1, 3, 7, 15, 7, 39, 127, 255, 511, 1023, 2047, 4095, 8191, 16383, 32767, 65535, 131071, 262143, 524287, 1048575, 2097151, 4194303, 8388607, 16777215, 33554431, 67108863]) (ds := [some 20, some 21, some 22, some 23, some 24, some 25, some 26, some 27, some 28, some 29, some 30, some 31, some 32, some 33, some 34, some 35, some 36, some 37, some 38, some 39, some 40, some 41, some 42, some 43, some 44, some 45, some 19]) ⟨by kernel_rfl, by kernel_rfl, by kernel_rfl⟩ (fun tab1 => ?_)
 refine RunD.op (det _) tab1 1 (fun f' L' w' hc => Op1.move (v := .int .u8 _) (hc.old (v := .int .u8 _) rfl rfl rfl) ⟨[], ⟨rfl, rfl⟩, hc.st⟩) <| RunD.op (det _) tab1 2 (fun f' L' w' hc => Op1.eql (hc.det (j := 0) rfl rfl rfl rfl) rfl ⟨[], ⟨rfl, rfl⟩, hc.st⟩) <| RunD.op (det _) tab1 3 (fun f' L' w' hc => Op1.move (v := .bool _) (hc.det (j := 1) rfl rfl rfl rfl) ⟨[], ⟨rfl, rfl⟩, hc.st⟩) <| RunD.splitD (j := 2) rfl (fun g2 => ?_) (fun g2 => ?_)
 · skip
   refine RunD.omit tab1 4 rfl rfl (fun f' L' w' hc => (hc.det (j := 2) rfl rfl rfl rfl).trans (congrArg Value.bool (decide_eq_true g2))) <| RunD.omit tab1 5 rfl rfl (fun f' L' w' hc => (hc.det (j := 2) rfl rfl rfl rfl).trans (congrArg Value.bool (decide_eq_true g2))) <| RunD.omit tab1 6 rfl rfl (fun f' L' w' hc => (hc.det (j := 2) rfl rfl rfl rfl).trans (congrArg Value.bool (decide_eq_true g2))) <| RunD.omit tab1 7 rfl rfl (fun f' L' w' hc => (hc.det (j := 2) rfl rfl rfl rfl).trans (congrArg Value.bool (decide_eq_true g2))) <| RunD.fin followsMixed tab1 hst rfl (fun f3 w R6 hs4 hd5 hr7 hst => ?_)
   obtain ⟨h20_, r0⟩ := hd5 0 20 rfl rfl
   obtain ⟨h21_, r1⟩ := hd5 1 21 rfl rfl
   obtain ⟨h22_, r2⟩ := hd5 2 22 rfl rfl
   obtain ⟨h23_, r3⟩ := hd5 3 23 rfl rfl
   obtain ⟨h24_, r4⟩ := hd5 4 24 rfl rfl
   obtain ⟨h25_, r5⟩ := hd5 5 25 rfl rfl
   obtain ⟨h26_, r6⟩ := hd5 6 26 rfl rfl
   simp only [show List.range 7 = [0, 1, 2, 3, 4, 5, 6] from rfl, List.flatMap_cons, List.flatMap_nil, List.map_cons, List.map_nil, r0, r1, r2, r3, r4, r5, r6, List.nil_append, List.append_nil, List.cons_append] at hst
   refine RunL.slots (sl := [(0, .pointer (some ⟨_, _, none⟩)), (5, .pointer (some ⟨_, _, none⟩)), (7, .int .u8 _), (8, .bool _), (22, .bool _), (24, _), (26, _)]) ⟨(hs4 0 rfl).trans rfl, (hs4 5 rfl).trans rfl, (hs4 7 rfl).trans rfl, (hs4 8 rfl).trans rfl, h22_, h24_, h26_, trivial⟩ ?_
   clear hs4 hd5 hr7 tab1
   refine OM (t := 22) rfl (congrArg Value.bool (decide_eq_true g2)) rfl <| CN <| Op1.pickT (u := .bool _) (congrArg Value.bool (decide_eq_true g2)) rfl <| MB rfl <| OM (t := 29) rfl (congrArg Value.bool (rfl : true = _)) rfl <| OM (t := 29) rfl (congrArg Value.bool (rfl : true = _)) rfl <| RunL.omitU (t := 31) rfl rfl <| RunL.omitU (t := 31) rfl rfl <| RunL.omitU (t := 31) rfl rfl <| OM (t := 29) rfl (congrArg Value.bool (rfl : true = _)) rfl <| CN <| Op1.pickT (u := .bool _) (congrArg Value.bool (rfl : true = _)) rfl <| MB rfl <| OM (t := 37) rfl (congrArg Value.bool (rfl : true = _)) rfl <| OM (t := 37) rfl (congrArg Value.bool (rfl : true = _)) rfl <| OM (t := 37) rfl (congrArg Value.bool (rfl : true = _)) rfl <| RunL.omitU (t := 40) rfl rfl ?_
   refine RunL.omitU (t := 40) rfl rfl <| RunL.omitU (t := 40) rfl rfl <| OM (t := 37) rfl (congrArg Value.bool (rfl : true = _)) rfl <| CN <| Op1.pickT (u := .bool _) (congrArg Value.bool (rfl : true = _)) rfl <| AB rfl <| NL <| Run.forget [(0, .pointer (some ⟨_, _, none⟩)), (5, .pointer (some ⟨_, _, none⟩)), (7, .int .u8 _), (8, .bool _), (19, .bool _)] ⟨rfl, rfl, rfl, rfl, rfl, trivial⟩ fun f => run_cond_true (congrArg Value.bool (rfl : true = _)) <| SR <| AI rfl <| NL <| run_ret1 Tryz.func77 rfl (TP (v := .int .i64 _) rfl) ?_
   replace hst := hst.pick (.cons (.there (.here)) (.cons (.there (.here)) .nil))
   have hX : wrongA c a bound = 42 := wrongA_form (.inl (by omega))
   rw [hX]
   exact ⟨ao, cp, ws, room, rfl, fun h => absurd h (by decide), by omega, hr0, by omega, (St.pack (L1 := [_, _]) (L2 := []) hst)⟩
 refine RunD.take (det _) tab1 4 rfl (fun f' L' w' hc => (hc.det (j := 2) rfl rfl rfl rfl).trans (congrArg Value.bool (decide_eq_false g2))) (fun f' L' w' hc => Op1.fieldAddr fld110_0 (hc.old (v := .pointer (some ⟨_, _, none⟩)) rfl rfl rfl) ⟨[], ⟨rfl, rfl⟩, hc.st⟩) <| RunD.take (det _) tab1 5 rfl (fun f' L' w' hc => (hc.det (j := 2) rfl rfl rfl rfl).trans (congrArg Value.bool (decide_eq_false g2))) (fun f' L' w' hc => Op1.load1 (v := .int .u8 _) ty5 rfl (hc.det (j := 3) rfl rfl rfl rfl) (hc.st.cellL (List.mem_append_right _ (.head _)) rfl) ⟨[], ⟨rfl, rfl⟩, hc.st⟩) <| RunD.take (det _) tab1 6 rfl (fun f' L' w' hc => (hc.det (j := 2) rfl rfl rfl rfl).trans (congrArg Value.bool (decide_eq_false g2))) (fun f' L' w' hc => Op1.move (v := .int .u8 _) (hc.old (v := .int .u8 _) rfl rfl rfl) ⟨[], ⟨rfl, rfl⟩, hc.st⟩) <| RunD.take (det _) tab1 7 rfl (fun f' L' w' hc => (hc.det (j := 2) rfl rfl rfl rfl).trans (congrArg Value.bool (decide_eq_false g2))) (fun f' L' w' hc => Op1.call1 (v1 := .int .u8 _) ent138 rfl (hc.det (j := 5) rfl rfl rfl rfl) ((R7gr_Kind2 hkd _).mono fun v w hp => ⟨[], ⟨hp.1, rfl⟩, hc.st.keepc hp.2⟩)) <| RunD.fin followsMixed tab1 hst rfl (fun f8 w R11 hs9 hd10 hr12 hst => ?_)
 obtain ⟨h20_, r0⟩ := hd10 0 20 rfl rfl
 obtain ⟨h21_, r1⟩ := hd10 1 21 rfl rfl
 obtain ⟨h22_, r2⟩ := hd10 2 22 rfl rfl
 obtain ⟨h23_, r3⟩ := hd10 3 23 rfl rfl
 obtain ⟨h24_, r4⟩ := hd10 4 24 rfl rfl
 obtain ⟨h25_, r5⟩ := hd10 5 25 rfl rfl
 obtain ⟨h26_, r6⟩ := hd10 6 26 rfl rfl
 simp only [show List.range 7 = [0, 1, 2, 3, 4, 5, 6] from rfl, List.flatMap_cons, List.flatMap_nil, List.map_cons, List.map_nil, r0, r1, r2, r3, r4, r5, r6, List.nil_append, List.append_nil, List.cons_append] at hst
 refine RunL.slots (sl := [(0, .pointer (some ⟨_, _, none⟩)), (5, .pointer (some ⟨_, _, none⟩)), (7, .int .u8 _), (8, .bool _), (22, .bool _), (24, .int .u8 _), (26, .int .u8 _)]) ⟨(hs9 0 rfl).trans rfl, (hs9 5 rfl).trans rfl, (hs9 7 rfl).trans rfl, (hs9 8 rfl).trans rfl, h22_, h24_, h26_, trivial⟩ ?_
 clear hs9 hd10 hr12 tab1
 refine TK (t := 22) rfl (congrArg Value.bool (decide_eq_false g2)) <| Op1.neq rfl rfl <| CN <| Op1.pickF (u := .bool _) (congrArg Value.bool (decide_eq_false g2)) rfl <| MB rfl <| RunL.splitD (d := 29) rfl (fun g13 => ?_) (fun g13 => ?_)
 · skip
   refine OM (t := 29) rfl (congrArg Value.bool (decide_eq_true g13)) rfl <| OM (t := 29) rfl (congrArg Value.bool (decide_eq_true g13)) rfl <| RunL.omitU (t := 31) rfl rfl <| RunL.omitU (t := 31) rfl rfl <| RunL.omitU (t := 31) rfl rfl <| OM (t := 29) rfl (congrArg Value.bool (decide_eq_true g13)) rfl <| CN <| Op1.pickT (u := .bool _) (congrArg Value.bool (decide_eq_true g13)) rfl <| MB rfl <| OM (t := 37) rfl (congrArg Value.bool (rfl : true = _)) rfl <| OM (t := 37) rfl (congrArg Value.bool (rfl : true = _)) rfl <| OM (t := 37) rfl (congrArg Value.bool (rfl : true = _)) rfl <| RunL.omitU (t := 40) rfl rfl <| RunL.omitU (t := 40) rfl rfl <| RunL.omitU (t := 40) rfl rfl <| OM (t := 37) rfl (congrArg Value.bool (rfl : true = _)) rfl ?_
   refine CN <| Op1.pickT (u := .bool _) (congrArg Value.bool (rfl : true = _)) rfl <| AB rfl <| NL <| Run.forget [(0, .pointer (some ⟨_, _, none⟩)), (5, .pointer (some ⟨_, _, none⟩)), (7, .int .u8 _), (8, .bool _), (19, .bool _)] ⟨rfl, rfl, rfl, rfl, rfl, trivial⟩ fun f => run_cond_true (congrArg Value.bool (rfl : true = _)) <| SR <| AI rfl <| NL <| run_ret1 Tryz.func77 rfl (TP (v := .int .i64 _) rfl) ?_
   replace hst := hst.pick (.cons (.there (.here)) (.cons (.there (.here)) .nil))
   have hX : wrongA c a bound = 42 := wrongA_form (.inr (.inl (by rw [hkd]; omega)))
   rw [hX]
   exact ⟨ao, cp, ws, room, rfl, fun h => absurd h (by decide), by omega, hr0, by omega, (St.pack (L1 := [_, _]) (L2 := []) hst)⟩
 refine TK (t := 29) rfl (congrArg Value.bool (decide_eq_false g13)) <| Op1.move (v := .bool _) rfl <| TK (t := 29) rfl (congrArg Value.bool (decide_eq_false g13)) <| Op1.move (v := .bool _) rfl <| RunL.splitD (d := 31) rfl (fun g14 => ?_) (fun g14 => ?_)
 · skip
   refine TK (t := 31) rfl (congrArg Value.bool (decide_eq_true g14)) <| Op1.fieldAddr fld110_1 rfl <| TK (t := 31) rfl (congrArg Value.bool (decide_eq_true g14)) <| Op1.load1 (v := .int .u32 _) ty22 rfl rfl (hst.cellL (.head _) rfl) <| TK (t := 31) rfl (congrArg Value.bool (decide_eq_true g14)) <| Op1.neq rfl rfl <| TK (t := 29) rfl (congrArg Value.bool (decide_eq_false g13)) <| Op1.pickT (u := .bool _) (congrArg Value.bool (decide_eq_true g14)) rfl <| CN <| Op1.pickF (u := .bool _) (congrArg Value.bool (decide_eq_false g13)) rfl <| MB rfl <| RunL.splitD (d := 37) rfl (fun g15 => ?_) (fun g15 => ?_)
   · skip
     refine OM (t := 37) rfl (congrArg Value.bool (decide_eq_true g15)) rfl <| OM (t := 37) rfl (congrArg Value.bool (decide_eq_true g15)) rfl <| OM (t := 37) rfl (congrArg Value.bool (decide_eq_true g15)) rfl <| RunL.omitU (t := 40) rfl rfl <| RunL.omitU (t := 40) rfl rfl <| RunL.omitU (t := 40) rfl rfl <| OM (t := 37) rfl (congrArg Value.bool (decide_eq_true g15)) rfl <| CN <| Op1.pickT (u := .bool _) (congrArg Value.bool (decide_eq_true g15)) rfl <| AB rfl <| NL <| Run.forget [(0, .pointer (some ⟨_, _, none⟩)), (5, .pointer (some ⟨_, _, none⟩)), (7, .int .u8 _), (8, .bool _), (19, .bool _)] ⟨rfl, rfl, rfl, rfl, rfl, trivial⟩ fun f => run_cond_true (congrArg Value.bool (rfl : true = _)) <| SR <| AI rfl ?_
     refine NL <| run_ret1 Tryz.func77 rfl (TP (v := .int .i64 _) rfl) ?_
     replace hst := hst.pick (.cons (.there (.here)) (.cons (.there (.here)) .nil))
     have hX : wrongA c a bound = 42 := wrongA_form (.inr (.inr (.inl ⟨by omega, by omega⟩)))
     rw [hX]
     exact ⟨ao, cp, ws, room, rfl, fun h => absurd h (by decide), by omega, hr0, by omega, (St.pack (L1 := [_, _]) (L2 := []) hst)⟩
   refine TK (t := 37) rfl (congrArg Value.bool (decide_eq_false g15)) <| Op1.move (v := .bool _) rfl <| TK (t := 37) rfl (congrArg Value.bool (decide_eq_false g15)) <| Op1.notD rfl <| TK (t := 37) rfl (congrArg Value.bool (decide_eq_false g15)) <| Op1.move (v := .bool _) rfl <| RunL.splitD (d := 40) rfl (fun g16 => ?_) (fun g16 => ?_)
   · skip
     exfalso
     omega
   refine OM (t := 40) rfl (congrArg Value.bool (decide_eq_false g16)) rfl <| OM (t := 40) rfl (congrArg Value.bool (decide_eq_false g16)) rfl <| OM (t := 40) rfl (congrArg Value.bool (decide_eq_false g16)) rfl <| TK (t := 37) rfl (congrArg Value.bool (decide_eq_false g15)) <| Op1.pickF (u := .bool _) (congrArg Value.bool (decide_eq_false g16)) rfl <| CN <| Op1.pickF (u := .bool _) (congrArg Value.bool (decide_eq_false g15)) rfl <| AB rfl <| NL <| Run.forget [(0, .pointer (some ⟨_, _, none⟩)), (5, .pointer (some ⟨_, _, none⟩)), (7, .int .u8 _), (8, .bool _), (19, .bool _)] ⟨rfl, rfl, rfl, rfl, rfl, trivial⟩ fun f => run_cond_false (congrArg Value.bool (rfl : false = _)) <| SR <| MB rfl <| AB rfl <| NL <| run_cond_dec rfl (fun g17 => ?_) (fun g17 => ?_)
   · skip
     refine SR <| MP rfl <| CN <| Op1.fieldAddr fld110_2 rfl <| CN (Op1.load1 (v := str _) ty9 rfl rfl (hst.cellL (.head _) rfl) ?_)
     replace hst := hst.pick (.cons (.there (.here)) (.cons (.there (.here)) (.cons (.here) .nil)))
     replace hst : St _ _ (WrC 134 22 bq fm bound ao cp ws room :: _) _ _ := hst.pack (L1 := [_, _])
     refine CN (Op1.call2 (v1 := .pointer (some ⟨_, _, none⟩)) (v2 := str _) ent139 rfl rfl rfl ((R7cd_wtext bq fm bound ao cp ws room a.s hs _ (hst.hL _ (.head _)) hl hr0 hr1).mono fun v w hp => ?_))
     obtain ⟨ao2, cp2, ws2, room2, rfl, hE, hw2, hr2, hr3, hp⟩ := hp
     replace hst : St _ _ (WrC 134 22 bq fm bound ao2 cp2 ws2 room2 :: _) _ _ := hst.call1 hp
     clear hp
     refine AI rfl <| NL <| run_ret1 Tryz.func77 rfl (TP (v := .int .i64 _) rfl) ?_
     replace hst := hst.pick (.cons (.here) .nil)
     have hX := wrongA_text (c := c) (a := a) (bound := bound) (by omega) (by rw [hkd]; omega) (by omega) (by omega)
     have hY := argW_text (a := a) (by omega)
     rw [hX, hY.1, hY.2]
     exact ⟨ao2, cp2, ws2, room2, rfl, hE, hw2, hr2, hr3, hst⟩
   exfalso
   omega
 refine OM (t := 31) rfl (congrArg Value.bool (decide_eq_false g14)) rfl <| OM (t := 31) rfl (congrArg Value.bool (decide_eq_false g14)) rfl <| OM (t := 31) rfl (congrArg Value.bool (decide_eq_false g14)) rfl <| TK (t := 29) rfl (congrArg Value.bool (decide_eq_false g13)) <| Op1.pickF (u := .bool _) (congrArg Value.bool (decide_eq_false g14)) rfl <| CN <| Op1.pickF (u := .bool _) (congrArg Value.bool (decide_eq_false g13)) rfl <| MB rfl <| TK (t := 37) rfl (congrArg Value.bool (rfl : false = _)) <| Op1.move (v := .bool _) rfl <| TK (t := 37) rfl (congrArg Value.bool (rfl : false = _)) <| Op1.notD rfl <| TK (t := 37) rfl (congrArg Value.bool (rfl : false = _)) <| Op1.move (v := .bool _) rfl <| RunL.splitD (d := 40) rfl (fun g18 => ?_) (fun g18 => ?_)
 · skip
   refine TK (t := 40) rfl (congrArg Value.bool (decide_eq_true g18)) <| Op1.fieldAddr fld110_2 rfl <| TK (t := 40) rfl (congrArg Value.bool (decide_eq_true g18)) <| Op1.load1 (v := str _) ty9 rfl rfl (hst.cellL (.head _) rfl) <| TK (t := 40) rfl (congrArg Value.bool (decide_eq_true g18)) <| Op1.neqS rfl rfl <| TK (t := 37) rfl (congrArg Value.bool (rfl : false = _)) <| Op1.pickT (u := .bool _) (congrArg Value.bool (decide_eq_true g18)) rfl <| CN <| Op1.pickF (u := .bool _) (congrArg Value.bool (rfl : false = _)) rfl <| AB rfl <| NL <| Run.forget [(0, .pointer (some ⟨_, _, none⟩)), (5, .pointer (some ⟨_, _, none⟩)), (7, .int .u8 _), (8, .bool _), (19, .bool _)] ⟨rfl, rfl, rfl, rfl, rfl, trivial⟩ fun f => run_cond_dec rfl (fun g19 => ?_) (fun g19 => ?_)
   · skip
     refine SR <| AI rfl <| NL <| run_ret1 Tryz.func77 rfl (TP (v := .int .i64 _) rfl) ?_
     replace hst := hst.pick (.cons (.there (.here)) (.cons (.there (.here)) .nil))
     have hX : wrongA c a bound = 42 := wrongA_form (.inr (.inr (.inr ⟨by omega, by simpa using g19⟩)))
     rw [hX]
     exact ⟨ao, cp, ws, room, rfl, fun h => absurd h (by decide), by omega, hr0, by omega, (St.pack (L1 := [_, _]) (L2 := []) hst)⟩
   refine SR <| MB rfl <| AB rfl <| NL <| run_cond_dec rfl (fun g20 => ?_) (fun g20 => ?_)
   · skip
     exfalso
     omega
   refine run_skip <| run_inBlock <| SR <| MP rfl <| CN <| Op1.fieldAddr fld110_1 rfl <| CN (Op1.load1 (v := .int .u32 _) ty22 rfl rfl (hst.cellL (.head _) rfl) ?_)
   replace hst := hst.pick (.cons (.there (.here)) (.cons (.there (.here)) (.cons (.here) .nil)))
   replace hst : St _ _ (WrC 134 22 bq fm bound ao cp ws room :: _) _ _ := hst.pack (L1 := [_, _])
   refine CN (Op1.call2 (v1 := .pointer (some ⟨_, _, none⟩)) (v2 := .int .u32 _) ent136 rfl rfl rfl ((R7cd_put bq fm bound ao cp ws room _ _ (hst.hL _ (.head _)) hl hr0 hr1).mono fun v w hp => ?_))
   obtain ⟨ao2, cp2, hp⟩ := hp
   replace hst : St _ _ (WrC 134 22 bq fm bound ao2 cp2 (ws ++ [a.n]) (room + 1) :: _) _ _ := hst.call1 hp
   replace hst : St _ _ (_ :: _ :: _) _ _ := hst.unpack
   clear hp
   refine NL <| SQ <| SR <| CN <| Op1.fieldAddr fld110_0 rfl <| CN <| Op1.load1 (v := .int .u8 _) ty5 rfl rfl (hst.cellL (.tail _ (.tail _ (.head _))) rfl) <| NL <| run_block <| SR <| CN <| Op1.eql rfl rfl <| AB rfl <| NL <| run_cond_dec rfl (fun g21 => ?_) (fun g21 => ?_)
   · skip
     refine SQ <| RunD.start [] hst (bs := [0, 1, 0, 4, 12, 28, 63, 127]) (ds := [some 60, some 61, some 62, some 63, some 64, some 65, some 66, some 6]) ⟨by kernel_rfl, by kernel_rfl, by kernel_rfl⟩ (fun tab22 => ?_)
     refine RunD.op (det _) tab22 1 (fun f' L' w' hc => Op1.fieldAddr fld110_1 (hc.old (v := .pointer (some ⟨_, _, none⟩)) rfl rfl rfl) ⟨[], ⟨rfl, rfl⟩, hc.st⟩) <| RunD.op (det _) tab22 2 (fun f' L' w' hc => Op1.load1 (v := .int .u32 _) ty22 rfl (hc.det (j := 0) rfl rfl rfl rfl) (hc.st.cellL (List.mem_append_right _ (.tail _ (.tail _ (.head _)))) rfl) ⟨[], ⟨rfl, rfl⟩, hc.st⟩) <| RunD.op (det _) tab22 3 (fun f' L' w' hc => Op1.move (v := .pointer (some ⟨_, _, none⟩)) (hc.old (v := .pointer (some ⟨_, _, none⟩)) rfl rfl rfl) ⟨[], ⟨rfl, rfl⟩, hc.st⟩) <| RunD.op (det _) tab22 4 (fun f' L' w' hc => Op1.nilCheckP (hc.det (j := 2) rfl rfl rfl rfl) ⟨[], ⟨rfl, rfl⟩, hc.st⟩) <| RunD.op (det _) tab22 5 (fun f' L' w' hc => Op1.fieldAddr fld134_1 (hc.det (j := 3) rfl rfl rfl rfl) ⟨[], ⟨rfl, rfl⟩, hc.st⟩) <| RunD.op (det _) tab22 6 (fun f' L' w' hc => Op1.load1 (v := .int .u32 _) ty22 rfl (hc.det (j := 4) rfl rfl rfl rfl) (hc.st.cellL (List.mem_append_right _ (.head _)) rfl) ⟨[], ⟨rfl, rfl⟩, hc.st⟩) <| RunD.fin followsMixed tab22 hst rfl (fun f23 w R26 hs24 hd25 hr27 hst => ?_)
     obtain ⟨h60_, r0⟩ := hd25 0 60 rfl rfl
     obtain ⟨h61_, r1⟩ := hd25 1 61 rfl rfl
     obtain ⟨h62_, r2⟩ := hd25 2 62 rfl rfl
     obtain ⟨h63_, r3⟩ := hd25 3 63 rfl rfl
     obtain ⟨h64_, r4⟩ := hd25 4 64 rfl rfl
     obtain ⟨h65_, r5⟩ := hd25 5 65 rfl rfl
     simp only [show List.range 6 = [0, 1, 2, 3, 4, 5] from rfl, List.flatMap_cons, List.flatMap_nil, List.map_cons, List.map_nil, r0, r1, r2, r3, r4, r5, List.nil_append, List.append_nil, List.cons_append] at hst
     refine RunL.slots (sl := [(61, .int .u32 _), (65, .int .u32 _)]) ⟨h61_, h65_, trivial⟩ ?_
     clear hs24 hd25 hr27 tab22
     refine CN <| Op1.call2 (v1 := .int .u32 _) (v2 := .int .u32 _) ent137 rfl rfl rfl <| Ret.det (R7cd_id _ _ _) hst fun w hst => AI rfl <| NL <| run_ret1 Tryz.func77 rfl (TP (v := .int .i64 _) rfl) ?_
     replace hst := hst.pick (.cons (.here) (.cons (.here) .nil))
     have hX := wrongA_one (c := c) (a := a) (bound := bound) (by omega) (by rw [hkd]; omega) (by omega) (by simpa using g19)
     have hY := argW_one (a := a) (by omega)
     rw [if_pos (by omega)] at hX
     rw [hX, hY.1, hY.2]
     exact ⟨ao2, cp2, ws ++ [a.n], room + 1, rfl, fun _ => ⟨rfl, rfl⟩, by simp, by omega, by omega, (St.pack (L1 := [_, _]) (L2 := []) hst)⟩
   refine SR <| CN <| Op1.eql rfl rfl <| AB rfl <| NL <| run_cond_dec rfl (fun g28 => ?_) (fun g28 => ?_)
   · skip
     refine SR <| MC rfl <| CN <| Op1.fieldAddr fld110_1 rfl <| CN <| Op1.load1 (v := .int .u32 _) ty22 rfl rfl (hst.cellL (.tail _ (.tail _ (.head _))) rfl) <| CN <| Op1.call2 (v1 := .int .u8 _) (v2 := .int .u32 _) ent140 rfl rfl rfl <| Ret.det (R7cd_named _ _ hcb.1 hcb.2 _) hst fun w hst => AI rfl <| NL <| run_ret1 Tryz.func77 rfl (TP (v := .int .i64 _) rfl) ?_
     replace hst := hst.pick (.cons (.here) (.cons (.here) .nil))
     have hX := wrongA_one (c := c) (a := a) (bound := bound) (by omega) (by rw [hkd]; omega) (by omega) (by simpa using g19)
     have hY := argW_one (a := a) (by omega)
     rw [if_neg (by omega), if_pos (by omega)] at hX
     rw [hX, hY.1, hY.2]
     exact ⟨ao2, cp2, ws ++ [a.n], room + 1, rfl, fun _ => ⟨rfl, rfl⟩, by simp, by omega, by omega, (St.pack (L1 := [_, _]) (L2 := []) hst)⟩
   refine run_skip <| run_inBlock <| SR <| AI rfl <| NL <| run_ret1 Tryz.func77 rfl (TP (v := .int .i64 _) rfl) ?_
   replace hst := hst.pick (.cons (.here) (.cons (.here) .nil))
   have hX := wrongA_one (c := c) (a := a) (bound := bound) (by omega) (by rw [hkd]; omega) (by omega) (by simpa using g19)
   have hY := argW_one (a := a) (by omega)
   rw [if_neg (by omega), if_neg (by omega)] at hX
   rw [hX, hY.1, hY.2]
   exact ⟨ao2, cp2, ws ++ [a.n], room + 1, rfl, fun _ => ⟨rfl, rfl⟩, by simp, by omega, by omega, (St.pack (L1 := [_, _]) (L2 := []) hst)⟩
 exfalso
 omega
end Go.SK
namespace Go.SK
open Go Go.Proofs
theorem ty134 : TyF Tryz.prog 134 (.struct (fieldsOf Tryz.prog 134)) 11 120 [.int .u16 0, str [], .bool false, .bool false, str [], str [], .int .i64 0, .int .u8 0, .int .u32 0, .slice none 0 0, .int .i64 0] := TyF.of (by kernel_rfl) (by kernel_rfl)
theorem stf134 : StructF Tryz.prog 134 [(0, 8), (8, 1), (9, 1), (10, 1)] := ⟨fieldsOf Tryz.prog 134, by kernel_rfl, fun w => by kernel_rfl⟩
theorem ent76 : Enters Tryz.prog 76 := ⟨Tryz.f76, _, Tryz.func76, by kernel_rfl, rfl⟩
theorem ent77 : Enters Tryz.prog 77 := ⟨Tryz.f77, _, Tryz.func77, by kernel_rfl, rfl⟩
end Go.SK
namespace Go.SK
open Go Go.Proofs
open Go.RowKit
theorem R7cd_Raw (p : InstP) (bound : Int) (h0 : 0 ≤ p.op) (w : World) (hA : (Res.rargs p).holds w) (hsm : (p.args.map argRoom).sum ≤ 900000000) (hla : ∀ a ∈ p.args, a.s.length ≤ 100000000000) : Ret Tryz.prog 37 #[.agg #[.int .u16 p.op, .int .u32 p.ty, .int .u32 p.res, .slice p.ao p.args.length p.cap], .int .u32 bound] w (fun v w' => ∃ ro rc, v = .tuple #[.agg #[.int .u16 (rawF bound p.L).1.1, .slice ro (rawF bound p.L).1.2.length rc], .int .i64 (rawF bound p.L).2] ∧ St w NoM [Res.sl ro (rawF bound p.L).1.2.length rc 22 1 ((rawF bound p.L).1.2.flatMap u32C)] [] w') := by
 refine Ret.enter (args := [.agg #[.int .u16 p.op, .int .u32 p.ty, .int .u32 p.res, .slice p.ao p.args.length p.cap], .int .u32 bound]) Tryz.func37 rfl rfl rfl ?_
 have hst : St w NoM [] [Res.rargs p] w := St.init_D hA
 clear hA
 obtain ⟨fm, hfm⟩ : ∃ fm, refD p.op = fm := ⟨_, rfl⟩
 obtain ⟨ob, hob⟩ : ∃ ob, (refS p.op).isSome = ob := ⟨_, rfl⟩
 obtain ⟨we, hwe⟩ : ∃ we, wholeE fm.op p.args = we := ⟨_, rfl⟩
 have hf : FOk fm := hfm ▸ refD_fok p.op
 have hlen := len_sum p.args
 refine SR <| CN <| Op1.box (v := .agg #[.int .u16 _, .int .u32 _, .int .u32 _, .slice _ _ _]) hst rfl rfl fun w b2 hst => CN <| Op1.alloc hst ty62 fun w b4 hst => AI rfl <| NSR <| CN <| Op1.fieldAddr fld44_0 rfl <| CN <| Op1.load1 (v := .int .u16 _) ty41 rfl rfl (hst.cellL (.tail _ (.head _)) rfl) <| CN <| Op1.call1 (v1 := .int .u16 _) ent75 rfl rfl <| Ret.det (R7gr_Of2 h0 hfm hob _) hst fun w hst => CN <| Op1.move (v := .tuple #[.agg #[.int .u16 _, str _, .bool _, .bool _, str _, str _, .int .i64 _, .int .u8 _], .bool _]) rfl <| CN <| Op1.extract (v := .agg #[.int .u16 _, str _, .bool _, .bool _, str _, str _, .int .i64 _, .int .u8 _]) rfl rfl <| CN <| Op1.extract (v := .bool _) rfl rfl <| CN (Op1.alloc hst ty113 fun w b6 hst => ?_)
 refine CN (SO (v := .agg #[.int .u16 _, str _, .bool _, .bool _, str _, str _, .int .i64 _, .int .u8 _]) hst ty113 rfl rfl (.here) fun w hst => ?_)
 refine AB rfl <| NL <| SQ <| SR <| MB rfl <| CN <| Op1.not rfl <| NL <| run_cond_split rfl (fun g1 => ?_) (fun g1 => ?_)
 · skip
   refine SR <| CN (Op1.buildStruct ty62 stf62 .nil ?_)
   refine CN (SO (v := .agg #[.int .u16 _, .slice _ _ _]) hst ty62 rfl rfl (.there (.here)) fun w hst => ?_)
   refine AI rfl <| NL <| run_ret2 Tryz.func37 rfl (RV.cellA (vs := [.int .u16 _, .slice _ _ _]) rfl ty62 rfl rfl (cells_of_obj (n := 2) (hst.objL (.tail _ (.head _))) _ rfl)) (TP (v := .int .i64 _) rfl) ?_
   replace hst := hst.pick .nil
   have hI := rawF_err (bound := bound) (i := p.L) (faultF_op (by rw [hob]; simpa using g1)) (by decide)
   rw [hI]
   exact ⟨none, 0, rfl, (hst.pushNil 22 1).noD⟩
 have hobt : ob = true := by simpa using g1
 have hisS : (refS p.op).isSome = true := hob.trans hobt
 have hfo : fm.op = p.op := by rw [← hfm]; exact (refD_some hisS).2
 have hfm2 : refD fm.op = fm := by rw [hfo]; exact hfm
 refine run_skip <| SR <| CN <| Op1.loadA (vs := [.int .u16 _, str _, .bool _, .bool _, str _, str _, .int .i64 _, .int .u8 _]) ty113 rfl rfl rfl (cells_of_obj (n := 8) (hst.objL (.head _)) _ rfl) <| MU rfl <| CN (Op1.buildStruct ty134 stf134 (.c (v := .agg #[.int .u16 _, str _, .bool _, .bool _, str _, str _, .int .i64 _, .int .u8 _]) rfl (h := (.c (v := .int .u32 _) rfl (h := .nil)))) ?_)
 refine CN <| Op1.box (v := .agg #[.int .u16 _, str _, .bool _, .bool _, str _, str _, .int .i64 _, .int .u8 _, .int .u32 _, .slice _ _ _, .int .i64 _]) hst rfl rfl fun w b25 hst => AP rfl <| NL <| SQ ?_
 replace hst := hst.pushNil 22 1
 replace hst := hst.pick (.cons (.there (.here)) (.cons (.here) (.cons (.here) (.cons (.here) (.cons (.here) .nil)))))
 replace hst : St _ _ (WrC 134 22 b25 fm bound none 0 [] 0 :: _) _ _ := hst.pack (L1 := [_, _])
 refine RG <| MP rfl <| CN <| Op1.fieldAddr fld113_2 rfl <| CN <| Op1.load1 (v := .bool _) ty4 rfl rfl (hst.cellL (.tail _ (.head _)) rfl) <| CN <| Op1.fieldAddr fld44_1 rfl <| CN (Op1.load1 (v := .int .u32 _) ty22 rfl rfl (hst.cellL (.tail _ (.tail _ (.tail _ (.head _)))) rfl) ?_)
 replace hst := hst.pick (.cons (.here) (.cons (.here) (.cons (.here) (.cons (.here) .nil))))
 refine CN (Op1.call4 (v1 := .pointer (some ⟨_, _, none⟩)) (v2 := .bool _) (v3 := .int .u32 _) (v4 := .int .i64 _) ent76 rfl rfl rfl rfl rfl ((R7cd_whead b25 fm bound none 0 [] 0 fm.ty p.ty 40 (by decide) _ (hst.hL _ (.head _)) (by decide) (by decide) (by decide)).mono fun v w hp => ?_))
 obtain ⟨ao1, cp1, ws1, rm1, rfl, hE1, hw1, hr1, hs1, hp⟩ := hp
 replace hst : St _ _ (WrC 134 22 b25 fm bound ao1 cp1 ws1 rm1 :: _) _ _ := hst.call1 hp
 clear hp
 refine AI rfl <| NL <| Run.forget [(2, .pointer (some ⟨_, _, none⟩)), (4, .pointer (some ⟨_, _, none⟩)), (6, .pointer (some ⟨_, _, none⟩)), (8, .pointer (some ⟨_, _, none⟩)), (9, .int .i64 _)] ⟨rfl, rfl, rfl, rfl, rfl, trivial⟩ fun f => SQ <| Run.cutW (L1 := [_]) [(2, .pointer (some ⟨_, _, none⟩)), (4, .pointer (some ⟨_, _, none⟩)), (6, .pointer (some ⟨_, _, none⟩)), (8, .pointer (some ⟨_, _, none⟩))] hst ⟨rfl, rfl, rfl, rfl, trivial⟩ (fun (q : Option Addr × Nat × List Int × Int × Int) => [(9, .int .i64 q.2.2.2.2)]) (fun (q : Option Addr × Nat × List Int × Int × Int) => [WrC 134 22 b25 fm bound q.1 q.2.1 q.2.2.1 q.2.2.2.1]) (fun (q : Option Addr × Nat × List Int × Int × Int) => RW bound p.L 0 q.2.2.1 q.2.2.2.1 q.2.2.2.2) (fun ⟨ao0, cp0, ws0, rm0, e0⟩ f w hst hJ1 => ?_) (fun cut2 => ?_)
 replace hst : St _ _ ([WrC 134 22 b25 fm bound ao0 cp0 ws0 rm0] ++ [_, _, _]) _ _ := hst
 replace hJ1 : RW bound p.L 0 ws0 rm0 e0 := hJ1
 refine Run.slots (sl := [(9, .int .i64 e0)]) ⟨rfl, trivial⟩ ?_
 · skip
   refine SR <| MP rfl <| CN <| Op1.makeFunc <| CN <| Op1.assign (v := .func _ _ _) rfl <| NL <| SQ <| SR <| CN <| Op1.fieldAddr fld44_3 rfl <| CN <| Op1.load1 (v := .slice _ _ _) ty42 rfl rfl (hst.cellL (.tail _ (.tail _ (.tail _ (.head _)))) rfl) <| CN <| Op1.lenSl (rest := []) ty42 rfl <| MI rfl <| NL <| run_block ?_
   refine run_loop <| Run.indW [(2, .pointer (some ⟨_, _, none⟩)), (4, .pointer (some ⟨_, _, none⟩)), (6, .pointer (some ⟨_, _, none⟩)), (8, .pointer (some ⟨_, _, none⟩)), (10, .func _ _ _), (43, .slice _ _ _), (44, .int .i64 _)] ⟨rfl, rfl, rfl, rfl, rfl, rfl, rfl, trivial⟩ (fun (q : Nat × Option Addr × Nat × List Int × Int × Int) => [(9, .int .i64 q.2.2.2.2.2), (45, .int .i64 (q.1 : Int))]) (fun (q : Nat × Option Addr × Nat × List Int × Int × Int) => [WrC 134 22 b25 fm bound q.2.1 q.2.2.1 q.2.2.2.1 q.2.2.2.2.1]) (fun (q : Nat × Option Addr × Nat × List Int × Int × Int) => q.1 ≤ p.args.length ∧ RW bound p.L q.1 q.2.2.2.1 q.2.2.2.2.1 q.2.2.2.2.2) (fun (q : Nat × Option Addr × Nat × List Int × Int × Int) => p.args.length - q.1) ((0, ao0, cp0, ws0, rm0, e0)) hst ⟨Nat.zero_le _, hJ1⟩ ⟨rfl, rfl, trivial⟩ ?_
   intro ⟨k, ao, cp, ws, room, e⟩ f w hst hK0 ih4
   replace hst : St _ _ ([WrC 134 22 b25 fm bound ao cp ws room] ++ [_, _, _]) _ _ := hst
   replace hK0 : k ≤ p.args.length ∧ RW bound p.L k ws room e := hK0
   refine Run.slots (sl := [(9, .int .i64 e), (45, .int .i64 (k : Int))]) ⟨rfl, rfl, trivial⟩ ?_
   have hK := hK0.2
   refine SR <| CN <| Op1.lss rfl rfl <| NL <| SQ <| run_cond_dec rfl (fun g5 => ?_) (fun g5 => ?_)
   · skip
     have hsum : sumR p.L.args k ≤ (p.args.map argRoom).sum := sumR_le
     have hlk := hK.len
     have hrk := hK.r1
     have hr0 := hK.r0
     have hmem : (p.args.getD k zeroA) ∈ p.args := getD_memD (by omega)
     have hsl := hla _ hmem
     have hidx : p.args.getD ((k : Int)).toNat zeroA = (p.args.getD k zeroA) := rfl
     refine run_skip <| SQ <| run_block <| SR <| MI rfl <| CN <| Op1.indexRs ty42 ty110 (hst.hD _ (.head _)) rfl rfl (by omega) (by omega) <| CN <| Op1.loadA (vs := [.int .u8 _, .int .u32 _, str _]) ty110 rfl rfl rfl (Res.rs2_cells (m := 3) (hst.hD _ (.head _)) _ (flat_seg (g := argC) (d := zeroA) argC_len _ _ (by omega))) <| CN <| Op1.alloc hst ty110 fun w b12 hst => AI rfl <| CN (SO (v := .agg #[.int .u8 _, .int .u32 _, str _]) hst ty110 rfl rfl (.here) fun w hst => ?_)
     refine NSR <| MI rfl <| CN <| Op1.eql rfl rfl <| NL <| run_cond_dec rfl (fun g6 => ?_) (fun g6 => ?_)
     · skip
       refine RG <| CN <| Op1.move (v := .func _ _ _) rfl <| MI rfl <| CN (Op1.loadA (vs := [.int .u8 _, .int .u32 _, str _]) ty110 rfl rfl rfl (cells_of_obj (n := 3) (hst.objL (.head _)) _ rfl) ?_)
       replace hst := hst.pick (.cons (.there (.here)) (.cons (.here) (.cons (.here) (.cons (.here) (.cons (.here) .nil)))))
       obtain rfl : e = 0 := by omega
       refine CN (Op1.callV2 (v1 := .int .i64 _) (v2 := .agg #[.int .u8 _, .int .u32 _, str _]) rfl rfl rfl (CallV.funcF ent77 ((R7cd_warg b25 fm bound ao cp ws room k (by omega) (p.args.getD k zeroA) hsl _ hfm2 rfl _ (hst.hL _ (.head _)) (by omega) hr0 (by omega)).mono fun v w hp => ?_)))
       obtain ⟨ao3, cp3, ws3, rm3, rfl, hE3, hw3, hr3, hs3, hp⟩ := hp
       replace hst : St _ _ (WrC 134 22 b25 fm bound ao3 cp3 ws3 rm3 :: _) _ _ := hst.call1 hp
       clear hp
       refine AI rfl <| NL <| run_inBlock <| RG <| CN <| Op1.addN rfl rfl rfl (wrap_i64 (by omega) (by omega)) <| MI rfl <| NL <| run_inLoop ?_
       replace hst := hst.pick (.cons (.here) (.cons (.here) (.cons (.here) (.cons (.here) (.cons (.here) .nil)))))
       have hst2 := hK.step (ws2 := ws3) (room2 := rm3) hisS (by (try dsimp only); omega) (by rw [hfm]; exact hE3) hw3 hr3 hs3
       rw [hfm] at hst2
       replace hst := hst.pick (.cons (.here) (.cons (.there (.here)) (.cons (.there (.here)) (.cons (.there (.here)) .nil))))
       exact ih4 ((k + 1, ao3, cp3, ws3, rm3, (wrongA (letterS fm (k : Int)) (p.args.getD k zeroA) bound))) _ w (by (try dsimp only); omega) hst (⟨by (try dsimp only); omega, hst2⟩) ⟨rfl, rfl, rfl, rfl, rfl, rfl, rfl, trivial⟩ ⟨rfl, (congrArg (Value.int .i64) (by (try dsimp only); omega)), trivial⟩
     refine run_skip <| run_inBlock <| RG <| CN <| Op1.addN rfl rfl rfl (wrap_i64 (by omega) (by omega)) <| MI rfl <| NL <| run_inLoop ?_
     replace hst := hst.pick (.cons (.there (.here)) (.cons (.here) (.cons (.here) (.cons (.here) (.cons (.here) .nil)))))
     have hst2 := hK.skip g6 (by (try dsimp only); omega)
     replace hst := hst.pick (.cons (.here) (.cons (.there (.here)) (.cons (.there (.here)) (.cons (.there (.here)) .nil))))
     exact ih4 ((k + 1, ao, cp, ws, room, e)) _ w (by (try dsimp only); omega) hst (⟨by (try dsimp only); omega, hst2⟩) ⟨rfl, rfl, rfl, rfl, rfl, rfl, rfl, trivial⟩ ⟨rfl, (congrArg (Value.int .i64) (by (try dsimp only); omega)), trivial⟩
   obtain rfl : k = p.args.length := by omega
   refine run_exit (id := 0) rfl <| SQ <| SR <| MI rfl <| CN <| Op1.eql rfl rfl <| NL <| run_cond_dec rfl (fun g7 => ?_) (fun g7 => ?_)
   · skip
     refine RG <| CN <| Op1.loadA (vs := [.int .u16 _, str _, .bool _, .bool _, str _, str _, .int .i64 _, .int .u8 _]) ty113 rfl rfl rfl (cells_of_obj (n := 8) (hst.objL (.tail _ (.head _))) _ rfl) <| CN <| Op1.fieldAddr fld44_3 rfl <| CN (Op1.load1 (v := .slice _ _ _) ty42 rfl rfl (hst.cellL (.tail _ (.tail _ (.tail _ (.head _)))) rfl) ?_)
     obtain rfl : e = 0 := by omega
     have hfu := hK.full hisS
     have hsum := sumR_le (l := p.args) (k := p.args.length)
     have hrk := hK.r1
     have hr0 := hK.r0
     refine CN <| Op1.call2 (v1 := .agg #[.int .u16 _, str _, .bool _, .bool _, str _, str _, .int .i64 _, .int .u8 _]) (v2 := .slice _ _ _) ent78 rfl rfl rfl <| Ret.detE (R7cd_whole fm hf p.args _ _ _ (hst.hD _ (.head _)) (by omega)) (congrArg (Value.int .i64) hwe) hst fun w hst => AI rfl <| NL <| SQ <| SQ ?_
     replace hst := hst.pick (.cons (.here) (.cons (.here) (.cons (.here) (.cons (.here) .nil))))
     replace hst : St _ _ (_ :: _ :: _) _ _ := hst.unpack
     refine RG <| MI rfl <| CN <| Op1.eql rfl rfl <| MB rfl <| RunL.splitD (d := 65) rfl (fun g8 => ?_) (fun g8 => ?_)
     · skip
       refine TK (t := 65) rfl (congrArg Value.bool (decide_eq_true g8)) <| Op1.move (v := .pointer (some ⟨_, _, none⟩)) rfl <| TK (t := 65) rfl (congrArg Value.bool (decide_eq_true g8)) <| Op1.nilCheckP rfl <| TK (t := 65) rfl (congrArg Value.bool (decide_eq_true g8)) <| Op1.fieldAddr fld134_3 rfl <| TK (t := 65) rfl (congrArg Value.bool (decide_eq_true g8)) <| Op1.load1 (v := .int .i64 _) ty3 rfl rfl (hst.cellL (.head _) rfl) <| TK (t := 65) rfl (congrArg Value.bool (decide_eq_true g8)) <| Op1.geq rfl rfl <| CN <| Op1.pickT (u := .bool _) (congrArg Value.bool (decide_eq_true g8)) rfl <| NL <| run_cond_dec rfl (fun g9 => ?_) (fun g9 => ?_)
       · skip
         refine RG <| AI rfl <| NL <| SQ <| SR <| MI rfl <| CN <| Op1.neq rfl rfl <| NL <| Run.forget [(2, .pointer (some ⟨_, _, none⟩)), (4, .pointer (some ⟨_, _, none⟩)), (8, .pointer (some ⟨_, _, none⟩)), (9, .int .i64 _), (73, .bool _)] ⟨rfl, rfl, rfl, rfl, rfl, trivial⟩ fun f => run_cond_dec rfl (fun g10 => ?_) (fun g10 => ?_)
         · skip
           refine SR <| CN (Op1.buildStruct ty62 stf62 .nil ?_)
           refine MI rfl <| CN (SO (v := .agg #[.int .u16 _, .slice _ _ _]) hst ty62 rfl rfl (.there (.there (.there (.here)))) fun w hst => ?_)
           refine AI rfl <| NL <| run_ret2 Tryz.func37 rfl (RV.cellA (vs := [.int .u16 _, .slice _ _ _]) rfl ty62 rfl rfl (cells_of_obj (n := 2) (hst.objL (.tail _ (.tail _ (.tail _ (.head _))))) _ rfl)) (TP (v := .int .i64 _) rfl) ?_
           replace hst := hst.pick .nil
           have hf2 := hfu.2.2
           rw [show wholeE p.L.op p.L.args = we from by rw [← hwe, hfo]] at hf2
           rw [if_neg (fun h => h (by omega))] at hf2
           have hr2 := hfu.2.1
           rw [hfm] at hr2 hf2
           rw [if_pos (by (try dsimp only at hr2 ⊢); omega)] at hf2
           have hI := rawF_err (bound := bound) (i := p.L) (hf2) (by decide)
           rw [hI]
           exact ⟨none, 0, rfl, (hst.pushNil 22 1).noD⟩
         exfalso
         exact g10 (by decide)
       refine run_skip <| SQ <| SR <| MI rfl <| CN <| Op1.neq rfl rfl <| NL <| Run.forget [(2, .pointer (some ⟨_, _, none⟩)), (4, .pointer (some ⟨_, _, none⟩)), (8, .pointer (some ⟨_, _, none⟩)), (9, .int .i64 _), (73, .bool _)] ⟨rfl, rfl, rfl, rfl, rfl, trivial⟩ fun f => run_cond_dec rfl (fun g11 => ?_) (fun g11 => ?_)
       · skip
         exfalso
         omega
       refine run_skip <| SQ <| RunD.start [] hst (bs := [0, 1, 0, 4, 12, 28, 63, 127, 255]) (ds := [some 76, some 77, some 78, some 79, some 80, some 81, some 82, none, some 5]) ⟨by kernel_rfl, by kernel_rfl, by kernel_rfl⟩ (fun tab12 => ?_)
       refine RunD.op (det _) tab12 1 (fun f' L' w' hc => Op1.fieldAddr fld44_0 (hc.old (v := .pointer (some ⟨_, _, none⟩)) rfl rfl rfl) ⟨[], ⟨rfl, rfl⟩, hc.st⟩) <| RunD.op (det _) tab12 2 (fun f' L' w' hc => Op1.load1 (v := .int .u16 _) ty41 rfl (hc.det (j := 0) rfl rfl rfl rfl) (hc.st.cellL (List.mem_append_right _ (.tail _ (.tail _ (.tail _ (.tail _ (.head _)))))) rfl) ⟨[], ⟨rfl, rfl⟩, hc.st⟩) <| RunD.op (det _) tab12 3 (fun f' L' w' hc => Op1.move (v := .pointer (some ⟨_, _, none⟩)) (hc.old (v := .pointer (some ⟨_, _, none⟩)) rfl rfl rfl) ⟨[], ⟨rfl, rfl⟩, hc.st⟩) <| RunD.op (det _) tab12 4 (fun f' L' w' hc => Op1.nilCheckP (hc.det (j := 2) rfl rfl rfl rfl) ⟨[], ⟨rfl, rfl⟩, hc.st⟩) <| RunD.op (det _) tab12 5 (fun f' L' w' hc => Op1.fieldAddr fld134_2 (hc.det (j := 3) rfl rfl rfl rfl) ⟨[], ⟨rfl, rfl⟩, hc.st⟩) <| RunD.op (det _) tab12 6 (fun f' L' w' hc => Op1.load1 (v := .slice _ _ _) ty60 rfl (hc.det (j := 4) rfl rfl rfl rfl) (hc.st.cellL (List.mem_append_right _ (.head _)) rfl) ⟨[], ⟨rfl, rfl⟩, hc.st⟩) <| RunD.fin followsMixed tab12 hst rfl (fun f13 w R16 hs14 hd15 hr17 hst => ?_)
       obtain ⟨h76_, r0⟩ := hd15 0 76 rfl rfl
       obtain ⟨h77_, r1⟩ := hd15 1 77 rfl rfl
       obtain ⟨h78_, r2⟩ := hd15 2 78 rfl rfl
       obtain ⟨h79_, r3⟩ := hd15 3 79 rfl rfl
       obtain ⟨h80_, r4⟩ := hd15 4 80 rfl rfl
       obtain ⟨h81_, r5⟩ := hd15 5 81 rfl rfl
       simp only [show List.range 6 = [0, 1, 2, 3, 4, 5] from rfl, List.flatMap_cons, List.flatMap_nil, List.map_cons, List.map_nil, r0, r1, r2, r3, r4, r5, List.nil_append, List.append_nil, List.cons_append] at hst
       refine RunL.slots (sl := [(4, .pointer (some ⟨_, _, none⟩)), (77, .int .u16 _), (81, .slice _ _ _)]) ⟨(hs14 4 rfl).trans rfl, h77_, h81_, trivial⟩ ?_
       clear hs14 hd15 hr17 tab12
       refine CN (Op1.buildStruct ty62 stf62 (.c (v := .int .u16 _) rfl (h := (.c (v := .slice _ _ _) rfl (h := .nil)))) ?_)
       refine CN (SO (v := .agg #[.int .u16 _, .slice _ _ _]) hst ty62 rfl rfl (.there (.there (.there (.here)))) fun w hst => ?_)
       refine AI rfl <| NL <| run_ret2 Tryz.func37 rfl (RV.cellA (vs := [.int .u16 _, .slice _ _ _]) rfl ty62 rfl rfl (cells_of_obj (n := 2) (hst.objL (.tail _ (.tail _ (.tail _ (.head _))))) _ rfl)) (TP (v := .int .i64 _) rfl) ?_
       replace hst := hst.pick (.cons (.there (.here)) .nil)
       have hf2 := hfu.2.2
       rw [show wholeE p.L.op p.L.args = we from by rw [← hwe, hfo]] at hf2
       rw [if_neg (fun h => h (by omega))] at hf2
       have hr2 := hfu.2.1
       rw [hfm] at hr2 hf2
       rw [if_neg (by (try dsimp only at hr2 ⊢); omega)] at hf2
       have hI := rawF_ok (bound := bound) (i := p.L) hf2
       rw [hI, ← hfu.1]
       exact ⟨ao, cp, rfl, hst.noD⟩
     refine OM (t := 65) rfl (congrArg Value.bool (decide_eq_false g8)) rfl <| OM (t := 65) rfl (congrArg Value.bool (decide_eq_false g8)) rfl <| OM (t := 65) rfl (congrArg Value.bool (decide_eq_false g8)) rfl <| OM (t := 65) rfl (congrArg Value.bool (decide_eq_false g8)) rfl <| OM (t := 65) rfl (congrArg Value.bool (decide_eq_false g8)) rfl <| CN <| Op1.pickF (u := .bool _) (congrArg Value.bool (decide_eq_false g8)) rfl <| NL <| run_cond_false (congrArg Value.bool (rfl : false = _)) <| run_skip <| SQ <| SR <| MI rfl <| CN <| Op1.neq rfl rfl <| NL ?_
     refine run_cond_dec rfl (fun g18 => ?_) (fun g18 => ?_)
     · skip
       refine SR <| CN (Op1.buildStruct ty62 stf62 .nil ?_)
       refine MI rfl <| CN (SO (v := .agg #[.int .u16 _, .slice _ _ _]) hst ty62 rfl rfl (.there (.there (.there (.here)))) fun w hst => ?_)
       refine AI rfl <| NL <| run_ret2 Tryz.func37 rfl (RV.cellA (vs := [.int .u16 _, .slice _ _ _]) rfl ty62 rfl rfl (cells_of_obj (n := 2) (hst.objL (.tail _ (.tail _ (.tail _ (.head _))))) _ rfl)) (TP (v := .int .i64 _) rfl) ?_
       replace hst := hst.pick .nil
       have hf2 := hfu.2.2
       rw [show wholeE p.L.op p.L.args = we from by rw [← hwe, hfo]] at hf2
       rw [if_pos g8] at hf2
       have hI := rawF_err (bound := bound) (i := p.L) (hf2) g8
       rw [hI]
       exact ⟨none, 0, rfl, (hst.pushNil 22 1).noD⟩
     exfalso
     omega
   refine run_skip <| SQ <| SQ ?_
   replace hst := hst.pick (.cons (.here) (.cons (.here) (.cons (.here) (.cons (.here) .nil))))
   replace hst : St _ _ (_ :: _ :: _) _ _ := hst.unpack
   refine RG <| MI rfl <| CN <| Op1.eql rfl rfl <| MB rfl <| RunL.splitD (d := 65) rfl (fun g19 => ?_) (fun g19 => ?_)
   · skip
     exfalso
     omega
   refine OM (t := 65) rfl (congrArg Value.bool (decide_eq_false g19)) rfl <| OM (t := 65) rfl (congrArg Value.bool (decide_eq_false g19)) rfl <| OM (t := 65) rfl (congrArg Value.bool (decide_eq_false g19)) rfl <| OM (t := 65) rfl (congrArg Value.bool (decide_eq_false g19)) rfl <| OM (t := 65) rfl (congrArg Value.bool (decide_eq_false g19)) rfl <| CN <| Op1.pickF (u := .bool _) (congrArg Value.bool (decide_eq_false g19)) rfl <| NL <| run_cond_false (congrArg Value.bool (rfl : false = _)) <| run_skip <| SQ <| SR <| MI rfl <| CN <| Op1.neq rfl rfl <| NL ?_
   refine run_cond_dec rfl (fun g20 => ?_) (fun g20 => ?_)
   · skip
     refine SR <| CN (Op1.buildStruct ty62 stf62 .nil ?_)
     refine MI rfl <| CN (SO (v := .agg #[.int .u16 _, .slice _ _ _]) hst ty62 rfl rfl (.there (.there (.there (.here)))) fun w hst => ?_)
     refine AI rfl <| NL <| run_ret2 Tryz.func37 rfl (RV.cellA (vs := [.int .u16 _, .slice _ _ _]) rfl ty62 rfl rfl (cells_of_obj (n := 2) (hst.objL (.tail _ (.tail _ (.tail _ (.head _))))) _ rfl)) (TP (v := .int .i64 _) rfl) ?_
     replace hst := hst.pick .nil
     have hI := rawF_err (bound := bound) (i := p.L) (hK.err g7) g7
     rw [hI]
     exact ⟨none, 0, rfl, (hst.pushNil 22 1).noD⟩
   exfalso
   omega
 · skip
   refine SR <| MI rfl <| CN <| Op1.eql rfl rfl <| NL <| run_cond_dec rfl (fun g21 => ?_) (fun g21 => ?_)
   · skip
     refine RG <| MP rfl <| CN <| Op1.fieldAddr fld113_3 rfl <| CN <| Op1.load1 (v := .bool _) ty4 rfl rfl (hst.cellL (.tail _ (.head _)) rfl) <| CN <| Op1.fieldAddr fld44_2 rfl <| CN (Op1.load1 (v := .int .u32 _) ty22 rfl rfl (hst.cellL (.tail _ (.tail _ (.tail _ (.head _)))) rfl) ?_)
     replace hst := hst.pick (.cons (.here) (.cons (.here) (.cons (.here) (.cons (.here) .nil))))
     have h10 : idH fm.ty p.ty bound 40 = 0 := by simpa using g21
     have hx1 := hE1 h10
     have hw1b : ws1.length ≤ 1 := hw1
     refine CN (Op1.call4 (v1 := .pointer (some ⟨_, _, none⟩)) (v2 := .bool _) (v3 := .int .u32 _) (v4 := .int .i64 _) ent76 rfl rfl rfl rfl rfl ((R7cd_whead b25 fm bound ao1 cp1 ws1 rm1 fm.res p.res 41 (by decide) _ (hst.hL _ (.head _)) (by omega) hr1 (by omega)).mono fun v w hp => ?_))
     obtain ⟨ao2, cp2, ws2, rm2, rfl, hE2, hw2, hr2, hs2, hp⟩ := hp
     replace hst : St _ _ (WrC 134 22 b25 fm bound ao2 cp2 ws2 rm2 :: _) _ _ := hst.call1 hp
     clear hp
     refine AI rfl <| NL ?_
     replace hst := hst.pick (.cons (.here) (.cons (.here) (.cons (.here) (.cons (.here) .nil))))
     exact cut2 ((ao2, cp2, ws2, rm2, idH fm.res p.res bound 41)) _ w (hst) ((by have hq := RW.start (i := p.L) (bound := bound) (ws2 := ws2) (room2 := rm2) hisS (by rw [hfm]; exact h10) (fun he => by rw [hfm] at he ⊢; have h2 := hE2 he; rw [hx1.1, hx1.2] at h2; exact h2) (by omega) hr2 (by omega); rw [hfm] at hq; exact hq)) ⟨rfl, rfl, rfl, rfl, trivial⟩ ⟨rfl, trivial⟩
   refine run_skip ?_
   replace hst := hst.pick (.cons (.here) (.cons (.here) (.cons (.here) (.cons (.here) .nil))))
   have hq := RW.ty (i := p.L) (bound := bound) (ws := ws1) (room := rm1) hisS (by rw [hfm]; exact g21) hw1 hr1 (by omega)
   rw [hfm] at hq
   exact cut2 ((ao1, cp1, ws1, rm1, idH fm.ty p.ty bound 40)) _ w (hst) (hq) ⟨rfl, rfl, rfl, rfl, trivial⟩ ⟨rfl, trivial⟩
end Go.SK
namespace Go.SK
open Go Go.Proofs
open Go.RowKit
theorem R7ref4_Room (p : InstP) (fm : FormL) (w : World) (hA : (Res.rargs p).holds w) (hsm : (p.args.map argRoom).sum ≤ 900000000) (hla : ∀ a ∈ p.args, a.s.length ≤ 100000000000) : Ret Tryz.prog 71 #[.agg #[.int .u16 p.op, .int .u32 p.ty, .int .u32 p.res, .slice p.ao p.args.length p.cap], .agg #[.int .u16 fm.op, str fm.name, .bool fm.ty, .bool fm.res, str fm.fixed, str fm.rest, .int .i64 fm.most, .int .u8 fm.part]] w (fun v w' => v = .int .i64 (roomI fm p.args : Int) ∧ St w NoM [] [] w') := by
 refine Ret.enter (args := [.agg #[.int .u16 p.op, .int .u32 p.ty, .int .u32 p.res, .slice p.ao p.args.length p.cap], .agg #[.int .u16 fm.op, str fm.name, .bool fm.ty, .bool fm.res, str fm.fixed, str fm.rest, .int .i64 fm.most, .int .u8 fm.part]]) Tryz.func71 rfl rfl rfl ?_
 have hst : St w NoM [] [Res.rargs p] w := St.init_D hA
 clear hA
 have hlen := len_sum p.args
 have hbt : b2n fm.ty ≤ 1 := by unfold b2n; split <;> omega
 have hbr : b2n fm.res ≤ 1 := by unfold b2n; split <;> omega
 refine SR <| CN <| Op1.box (v := .agg #[.int .u16 _, .int .u32 _, .int .u32 _, .slice _ _ _]) hst rfl rfl fun w b2 hst => CN <| Op1.box (v := .agg #[.int .u16 _, str _, .bool _, .bool _, str _, str _, .int .i64 _, .int .u8 _]) hst rfl rfl fun w b3 hst => AI rfl <| NSR <| AI rfl <| NL <| SQ <| Run.cutW (L1 := []) [(2, .pointer (some ⟨_, _, none⟩)), (3, .pointer (some ⟨_, _, none⟩))] hst ⟨rfl, rfl, trivial⟩ (fun (q : Int) => [(5, .int .i64 q)]) (fun (q : Int) => []) (fun (q : Int) => q = ((1 + b2n fm.ty : Nat) : Int)) (fun n1 f w hst hJ1 => ?_) (fun cut1 => ?_)
 replace hst : St _ _ ([] ++ [_, _]) _ _ := hst
 replace hJ1 : n1 = ((1 + b2n fm.ty : Nat) : Int) := hJ1
 refine Run.slots (sl := [(5, .int .i64 n1)]) ⟨rfl, trivial⟩ ?_
 · skip
   refine SQ <| Run.cutW (L1 := []) [(2, .pointer (some ⟨_, _, none⟩))] hst ⟨rfl, trivial⟩ (fun (q : Int) => [(5, .int .i64 q)]) (fun (q : Int) => []) (fun (q : Int) => q = ((1 + b2n fm.ty + b2n fm.res : Nat) : Int)) (fun n2 f w hst hJ2 => ?_) (fun cut3 => ?_)
   replace hst : St _ _ ([] ++ [_, _]) _ _ := hst
   replace hJ2 : n2 = ((1 + b2n fm.ty + b2n fm.res : Nat) : Int) := hJ2
   refine Run.slots (sl := [(5, .int .i64 n2)]) ⟨rfl, trivial⟩ ?_
   · skip
     refine SQ <| SR <| AI rfl <| NL <| run_block <| run_loop <| Run.indW [(2, .pointer (some ⟨_, _, none⟩))] ⟨rfl, trivial⟩ (fun (k : Nat) => [(5, .int .i64 ((1 + b2n fm.ty + b2n fm.res + sumR p.args k : Nat) : Int)), (6, .int .i64 (k : Int))]) (fun (k : Nat) => []) (fun (k : Nat) => k ≤ p.args.length) (fun (k : Nat) => p.args.length - k) (0) hst (Nat.zero_le _) ⟨(congrArg (Value.int .i64) (by rw [hJ2]; simp [sumR])), rfl, trivial⟩ ?_
     intro k f w hst hJ ih5
     refine SQ <| SR <| MI rfl <| CN <| Op1.fieldAddr fld44_3 rfl <| CN <| Op1.load1 (v := .slice _ _ _) ty42 rfl rfl (hst.cellL (.tail _ (.head _)) rfl) <| CN <| Op1.lenSl (rest := []) ty42 rfl <| CN <| Op1.lss rfl rfl <| NL <| run_cond_dec rfl (fun g6 => ?_) (fun g6 => ?_)
     · skip
       have hss := sumR_step (l := p.args) (k := k) (by omega)
       have hsum : sumR p.args k ≤ (p.args.map argRoom).sum := sumR_le
       have hmem : (p.args.getD k zeroA) ∈ p.args := getD_memD (by omega)
       have hsl := hla _ hmem
       have hidx : p.args.getD ((k : Int)).toNat zeroA = (p.args.getD k zeroA) := rfl
       have hidx2 : (p.args.getD ((k : Int)).toNat zeroA).kind = (p.args.getD k zeroA).kind := rfl
       refine run_skip <| SQ <| run_block <| SR <| CN <| Op1.fieldAddr fld44_3 rfl <| CN <| Op1.load1 (v := .slice _ _ _) ty42 rfl rfl (hst.cellL (.tail _ (.head _)) rfl) <| MI rfl <| CN <| Op1.indexRs ty42 ty110 (hst.hD _ (.head _)) rfl rfl (by omega) (by omega) <| CN <| Op1.fieldAddr fld110_0 rfl <| CN <| Op1.load1 (v := .int .u8 _) ty5 rfl rfl (Res.rs2_cellF (hst.hD _ (.head _)) (flat_cell (g := argC) (d := zeroA) argC_len rfl (by omega))) <| CN <| Op1.eql rfl rfl <| NL <| run_cond_dec rfl (fun g7 => ?_) (fun g7 => ?_)
       · skip
         refine RG <| MI rfl <| CN <| Op1.fieldAddr fld44_3 rfl <| CN <| Op1.load1 (v := .slice _ _ _) ty42 rfl rfl (hst.cellL (.tail _ (.head _)) rfl) <| MI rfl <| CN <| Op1.indexRs ty42 ty110 (hst.hD _ (.head _)) rfl rfl (by omega) (by omega) <| CN <| Op1.fieldAddr fld110_2 rfl <| CN <| Op1.load1 (v := str _) ty9 rfl rfl (Res.rs2_cellF (hst.hD _ (.head _)) (flat_cell (g := argC) (d := zeroA) argC_len rfl (by omega))) <| CN <| Op1.call1 (v1 := str _) ent125 rfl rfl <| Ret.det (R7ref1_Room (p.args.getD k zeroA).s _ (by omega)) hst fun w hst => CN <| Op1.addN rfl rfl rfl (wrap_i64 (by omega) (by omega)) <| AI rfl <| NL <| run_inBlock <| Run.forget [(2, .pointer (some ⟨_, _, none⟩)), (5, .int .i64 _), (6, .int .i64 _)] ⟨rfl, rfl, rfl, trivial⟩ fun f => RG ?_
         refine MI rfl <| CN <| Op1.addN rfl rfl rfl (wrap_i64 (by omega) (by omega)) <| AI rfl <| NL <| run_inLoop ?_
         have hy := (argW_text (a := (p.args.getD k zeroA)) (by omega)).2
         rw [hy] at hss
         exact ih5 (k + 1) _ w (by omega) hst (by omega) ⟨rfl, trivial⟩ ⟨(congrArg (Value.int .i64) (by rw [hss]; omega)), (congrArg (Value.int .i64) (by omega)), trivial⟩
       refine RG <| MI rfl <| CN <| Op1.addN rfl rfl rfl (wrap_i64 (by omega) (by omega)) <| AI rfl <| NL <| run_inBlock <| RG <| MI rfl <| CN <| Op1.addN rfl rfl rfl (wrap_i64 (by omega) (by omega)) <| AI rfl <| NL <| run_inLoop ?_
       have hy := (argW_one (a := (p.args.getD k zeroA)) (by omega)).2
       rw [hy] at hss
       exact ih5 (k + 1) _ w (by omega) hst (by omega) ⟨rfl, trivial⟩ ⟨(congrArg (Value.int .i64) (by rw [hss]; omega)), (congrArg (Value.int .i64) (by omega)), trivial⟩
     obtain rfl : k = p.args.length := by omega
     refine run_exit (id := 0) rfl <| SR <| MI rfl <| AI rfl <| NL <| run_ret1 Tryz.func71 rfl (TP (v := .int .i64 _) rfl) ?_
     exact ⟨congrArg (Value.int .i64) (by unfold roomI sumR; rw [List.take_length]; omega), hst.pure⟩
   · skip
     refine SR <| CN <| Op1.fieldAddr fld113_3 rfl <| CN <| Op1.load1 (v := .bool _) ty4 rfl rfl (hst.cellL (.head _) rfl) <| NL <| run_cond_split rfl (fun g8 => ?_) (fun g8 => ?_)
     · skip
       have hr : fm.res = true := by simpa using g8
       refine RG <| MI rfl <| CN <| Op1.addN rfl rfl rfl (wrap_i64 (by omega) (by omega)) <| AI rfl <| NL ?_
       exact cut3 ((n1 + 1)) _ w (hst) ((by rw [hJ1, b2n.eq_def fm.res, hr]; simp)) ⟨rfl, trivial⟩ ⟨rfl, trivial⟩
     have hr : fm.res = false := by simpa using g8
     refine run_skip ?_
     exact cut3 (n1) _ w (hst) ((by rw [hJ1, b2n.eq_def fm.res, hr]; rfl)) ⟨rfl, trivial⟩ ⟨rfl, trivial⟩
 · skip
   refine SR <| CN <| Op1.fieldAddr fld113_2 rfl <| CN <| Op1.load1 (v := .bool _) ty4 rfl rfl (hst.cellL (.head _) rfl) <| NL <| run_cond_split rfl (fun g9 => ?_) (fun g9 => ?_)
   · skip
     have ht : fm.ty = true := by simpa using g9
     refine RG <| MI rfl <| CN <| Op1.addN rfl rfl rfl (wrap_i64 (by omega) (by omega)) <| AI rfl <| NL ?_
     exact cut1 (2) _ w (hst) ((by rw [b2n, ht]; rfl)) ⟨rfl, rfl, trivial⟩ ⟨rfl, trivial⟩
   have ht : fm.ty = false := by simpa using g9
   refine run_skip ?_
   exact cut1 (1) _ w (hst) ((by rw [b2n, ht]; rfl)) ⟨rfl, rfl, trivial⟩ ⟨rfl, trivial⟩
end Go.SK
namespace Go.SK
open Go Go.Proofs
theorem ent71 : Enters Tryz.prog 71 := ⟨Tryz.f71, _, Tryz.func71, by kernel_rfl, rfl⟩
end Go.SK
namespace Go.SK
open Go Go.Proofs
theorem ent37 : Enters Tryz.prog 37 := ⟨Tryz.f37, _, Tryz.func37, by kernel_rfl, rfl⟩
end Go.SK
namespace Go.SK
open Go Go.Proofs
open Go.RowKit
theorem R7cd_Raw2 {p : InstP} {bound rop re : Int} {rws : List Int} (hR : rawF bound p.L = ((rop, rws), re)) (h0 : 0 ≤ p.op) (w : World) (hA : (Res.rargs p).holds w) (hsm : (p.args.map argRoom).sum ≤ 900000000) (hla : ∀ a ∈ p.args, a.s.length ≤ 100000000000) : Ret Tryz.prog 37 #[.agg #[.int .u16 p.op, .int .u32 p.ty, .int .u32 p.res, .slice p.ao p.args.length p.cap], .int .u32 bound] w (fun v w' => ∃ ro rc, v = .tuple #[.agg #[.int .u16 rop, .slice ro rws.length rc], .int .i64 re] ∧ St w NoM [Res.sl ro rws.length rc 22 1 (rws.flatMap u32C)] [] w') := by
 have h := R7cd_Raw p bound h0 w hA hsm hla
 rw [hR] at h; exact h
end Go.SK
namespace Go.SK
open Go Go.Proofs
theorem ent127 : Enters Tryz.prog 127 := ⟨Tryz.f127, _, Tryz.func127, by kernel_rfl, rfl⟩
theorem ent132 : Enters Tryz.prog 132 := ⟨Tryz.f132, _, Tryz.func132, by kernel_rfl, rfl⟩
end Go.SK
namespace Go.SK
open Go Go.Proofs
open Go.RowKit
theorem R7gr_Named3 {q : Byts} {fm : FormL} {ob : Bool} (h1 : (refT.find? (nmF q)).getD zeroF = fm) (h2 : (refT.find? (nmF q)).isSome = ob) (w : World) : Ret Tryz.prog 127 #[str q] w fun v w' => v = .tuple #[.agg (formC fm).toArray, .bool ob] ∧ St w NoM [] [] w' := by
 subst h1; subst h2; exact R7gr_Named q w
theorem R7ref_Named3 {q : Byts} {fm : FormL} {ob : Bool} (h1 : (refT.find? (nmF q)).getD zeroF = fm) (h2 : (refT.find? (nmF q)).isSome = ob) (w : World) : Ret Tryz.prog 66 #[str q] w fun v w' => v = .tuple #[.agg (formC fm).toArray, .bool ob] ∧ St w NoM [] [] w' := by
 subst h1; subst h2; exact R7ref_Named q w
theorem R7gr_LetterJ {fm : FormL} (hop : refD fm.op = fm) (h0 : 0 ≤ fm.op) (k j : Nat) (hk : k = j) (hb : j ≤ 9000000000000000000) (w : World) : Ret Tryz.prog 131 #[.int .u16 fm.op, .int .i64 (k : Int)] w fun v w' => v = .int .u8 (letterS fm (j : Int)) ∧ St w NoM [] [] w' := by
 subst hk
 have := R7gr_Letter fm.op h0 (k : Int) (by omega) w
 rw [hop] at this; exact this
theorem R7as_inst (bq : Nat) (s : Tx) (ao : Option Addr) (cp : Nat) (l : List TokL) (bound e p : Int) (w : World) (h0 : 0 < l.length) (hB : (Res.row bq 130 [str s, .slice ao l.length cp, .int .i64 ((0 : Nat) : Int), .int .u32 bound, .int .i64 e, .int .i64 p]).holds w) (hT : (Res.sl ao l.length cp 72 3 (l.flatMap tokC)).holds w) (hTA : Apart (Res.row bq 130 [str s, .slice ao l.length cp, .int .i64 ((0 : Nat) : Int), .int .u32 bound, .int .i64 e, .int .i64 p]) (Res.sl ao l.length cp 72 3 (l.flatMap tokC))) (hl : s.length ≤ 1099511627776) (hll : l.length ≤ s.length) (hts : wsz l ≤ 7 * s.length) (hl24 : s.length ≤ 16777216) (hG : LxG.holds w) (hGA : Apart (Res.row bq 130 [str s, .slice ao l.length cp, .int .i64 ((0 : Nat) : Int), .int .u32 bound, .int .i64 e, .int .i64 p]) LxG) (hbd : 0 ≤ bound ∧ bound < 4294967296) (hpl : ∀ i, i < l.length → (l.getD i tok0).kind = 2 → ∃ m, plainF (l.getD i tok0).text = some m) : Ret Tryz.prog 74 #[.pointer (some ⟨bq, 0, none⟩)] w (fun v w' => (∃ (q1 q2 : Int) (o1 t1 r1 : Int) (xo : Option Addr) (xn xc : Nat) (a' : Int), lineL s.length l bound = (zeroIL, false, (q1, q2)) ∧ v = .tuple #[.agg #[.int .u16 o1, .int .u32 t1, .int .u32 r1, .slice xo xn xc], .bool false] ∧ St w (Res.row bq 130 [str s, .slice ao l.length cp, .int .i64 ((0 : Nat) : Int), .int .u32 bound, .int .i64 e, .int .i64 p]).foot [Res.row bq 130 [str s, .slice ao l.length cp, .int .i64 (a' : Int), .int .u32 bound, .int .i64 q1, .int .i64 q2]] [] w') ∨ (∃ (x : InstP) (a' : Int), lineL s.length l bound = (x.L, true, (0, 0)) ∧ (x.args.map argRoom).sum ≤ 900000000 ∧ (∀ a ∈ x.args, a.s.length ≤ 100000000000) ∧ (0 ≤ x.op ∧ x.op < 65536) ∧ v = .tuple #[.agg #[.int .u16 x.op, .int .u32 x.ty, .int .u32 x.res, .slice x.ao x.args.length x.cap], .bool true] ∧ St w (Res.row bq 130 [str s, .slice ao l.length cp, .int .i64 ((0 : Nat) : Int), .int .u32 bound, .int .i64 e, .int .i64 p]).foot [Res.row bq 130 [str s, .slice ao l.length cp, .int .i64 (a' : Int), .int .u32 bound, .int .i64 e, .int .i64 p], Res.oargs 110 x] [] w')) := by
 refine Ret.enter (args := [.pointer (some ⟨bq, 0, none⟩)]) Tryz.func74 rfl rfl rfl ?_
 have hst : St w (Res.row bq 130 [str s, .slice ao l.length cp, .int .i64 ((0 : Nat) : Int), .int .u32 bound, .int .i64 e, .int .i64 p]).foot [Res.row bq 130 [str s, .slice ao l.length cp, .int .i64 ((0 : Nat) : Int), .int .u32 bound, .int .i64 e, .int .i64 p]] [Res.sl ao l.length cp 72 3 (l.flatMap tokC), LxG] w := St.enter1 hB (by simp only [List.forall_mem_cons]; exact ⟨hT, hG, fun _ h => absurd h List.not_mem_nil⟩) (by simp only [List.forall_mem_cons]; exact ⟨hTA, hGA, fun _ h => absurd h List.not_mem_nil⟩)
 obtain ⟨bT, rfl⟩ := Res.sl_some (hst.hD _ (.head _)) h0
 refine SR <| CN <| Op1.alloc hst ty44 fun w b2 hst => AB rfl <| NL <| run_scope <| SR <| CN <| Op1.alloc hst ty44 fun w b4 hst => NSR <| CN <| Op1.alloc hst ty113 fun w b5 hst => NL <| SQ ?_
 refine RG <| CN <| Op1.alloc hst ty72 fun w b6 hst => NSR <| AL rfl <| NSR <| AB rfl <| AB rfl <| NSR <| MP rfl ?_
 refine CN <| Op1.nilCheckP rfl <| CN <| Op1.fieldAddr fld130_1 rfl <| CN <| Op1.load1 (v := .slice _ _ _) ty65 rfl rfl (hst.cellL (.tail _ (.tail _ (.tail _ (.tail _ (.head _))))) rfl) <| CN <| Op1.indexSl ty65 ty72 rfl rfl (by omega) (by omega) <| CN <| Op1.loadA (vs := [.int .u8 _, str _, .int .i64 _]) ty72 rfl rfl rfl (Res.sl_cells (k := 3) (hst.hD _ (.head _)) _ (flat_seg (g := tokC) (d := tok0) tokC_len _ _ (by omega))) <| CN <| Op1.alloc hst ty72 fun w b10 hst => CN (SO (v := .agg #[.int .u8 _, str _, .int .i64 _]) hst ty72 rfl rfl (.here) fun w hst => ?_)
 refine NSR <| CN <| Op1.fieldAddr fld72_0 rfl <| CN <| Op1.load1 (v := .int .u8 _) ty5 rfl rfl (hst.cellL (.head _) rfl) <| CN <| Op1.eql rfl rfl <| AB rfl <| NL <| Run.forget [(0, .pointer (some ⟨_, _, none⟩)), (2, .pointer (some ⟨_, _, none⟩)), (4, .pointer (some ⟨_, _, none⟩)), (5, .pointer (some ⟨_, _, none⟩)), (6, .pointer (some ⟨_, _, none⟩)), (7, .slice _ _ _), (10, .pointer (some ⟨_, _, none⟩)), (11, .bool _)] ⟨rfl, rfl, rfl, rfl, rfl, rfl, rfl, rfl, trivial⟩ fun f => SQ ?_
 replace hst := hst.pick (.cons (.there (.there (.there (.there (.there (.here)))))) (.cons (.here) (.cons (.here) (.cons (.here) (.cons (.here) (.cons (.here) .nil))))))
 refine Run.cutG (l := 0) (L1 := [_]) rfl [(0, .pointer (some ⟨_, _, none⟩)), (2, .pointer (some ⟨_, _, none⟩)), (4, .pointer (some ⟨_, _, none⟩)), (5, .pointer (some ⟨_, _, none⟩)), (6, .pointer (some ⟨_, _, none⟩)), (7, .slice _ _ _), (10, .pointer (some ⟨_, _, none⟩)), (11, .bool _)] hst ⟨rfl, rfl, rfl, rfl, rfl, rfl, rfl, rfl, trivial⟩ (fun (qq : Nat) => []) (fun (qq : Nat) => [Res.row bq 130 [str s, .slice (some ⟨bT, 0, none⟩) l.length cp, .int .i64 (((qq : Nat) : Int) : Int), .int .u32 bound, .int .i64 e, .int .i64 p]]) (fun (qq : Nat) => LnA l qq) (fun m f w hst hA => ?_) (fun cut1 => ?_)
 replace hst : St _ _ ([Res.row bq 130 [str s, .slice (some ⟨bT, 0, none⟩) l.length cp, .int .i64 (((m : Nat) : Int) : Int), .int .u32 bound, .int .i64 e, .int .i64 p]] ++ [_, _, _, _, _]) _ _ := hst
 replace hA : LnA l m := hA
 · skip
   refine SQ <| SR <| MP rfl <| CN (Op1.call2 (v1 := .pointer (some ⟨_, _, none⟩)) (v2 := .int .u8 _) ent126 rfl rfl rfl ((R7as_take _ _ _ _ l m _ _ _ 1 _ (hst.hL _ (.head _)) (hst.hD _ (.head _)) (hst.sepD _ (.head _) _ (.head _)) hl hll hts).mono fun v w hp => ?_))
   rcases hp with ⟨hk47, rfl, hp⟩ | ⟨hk47, hd47, rfl, hp⟩ | ⟨hk47, hd47, rfl, hp⟩
   · skip
     replace hst := hst.call1 hp
     clear hp
     refine CN <| Op1.move (v := .tuple #[.agg #[.int .u8 _, str _, .int .i64 _], .bool _]) rfl <| CN <| Op1.extract (v := .agg #[.int .u8 _, str _, .int .i64 _]) rfl rfl <| CN <| Op1.extract (v := .bool _) rfl rfl <| CN (SO (v := .agg #[.int .u8 _, str _, .int .i64 _]) hst ty72 rfl rfl (.there (.there (.here))) fun w hst => ?_)
     refine AB rfl <| NSR <| MB rfl <| CN <| Op1.not rfl <| NL <| run_cond_true (congrArg Value.bool (congrArg not (rfl : false = _))) <| SR <| CN <| Op1.loadA (vs := [.int .u16 _, .int .u32 _, .int .u32 _, .slice _ _ _]) ty44 rfl rfl rfl (cells_of_obj (n := 4) (hst.objL (.tail _ (.tail _ (.tail _ (.tail _ (.head _)))))) _ rfl) <| CN (SO (v := .agg #[.int .u16 _, .int .u32 _, .int .u32 _, .slice _ _ _]) hst ty44 rfl rfl (.there (.there (.there (.there (.there (.here)))))) fun w hst => ?_)
     refine AB rfl <| NL <| run_ret2 Tryz.func74 rfl (RV.cellA (vs := [.int .u16 _, .int .u32 _, .int .u32 _, .slice _ _ _]) rfl ty44 rfl rfl (cells_of_obj (n := 4) (hst.objL (.tail _ (.tail _ (.tail _ (.tail _ (.tail _ (.head _))))))) _ rfl)) (TP (v := .bool _) rfl) ?_
     replace hst := hst.pick (.cons (.here) .nil)
     exact .inl ⟨_, _, _, _, _, _, _, _, _, hA.early hk47, rfl, hst.noD⟩
   · skip
     replace hst := hst.call1 hp
     clear hp
     refine CN <| Op1.move (v := .tuple #[.agg #[.int .u8 _, str _, .int .i64 _], .bool _]) rfl <| CN <| Op1.extract (v := .agg #[.int .u8 _, str _, .int .i64 _]) rfl rfl <| CN <| Op1.extract (v := .bool _) rfl rfl <| CN (SO (v := .agg #[.int .u8 _, str _, .int .i64 _]) hst ty72 rfl rfl (.there (.there (.here))) fun w hst => ?_)
     refine AB rfl <| NSR <| MB rfl <| CN <| Op1.not rfl <| NL <| run_cond_true (congrArg Value.bool (congrArg not (rfl : false = _))) <| SR <| CN <| Op1.loadA (vs := [.int .u16 _, .int .u32 _, .int .u32 _, .slice _ _ _]) ty44 rfl rfl rfl (cells_of_obj (n := 4) (hst.objL (.tail _ (.tail _ (.tail _ (.tail _ (.head _)))))) _ rfl) <| CN (SO (v := .agg #[.int .u16 _, .int .u32 _, .int .u32 _, .slice _ _ _]) hst ty44 rfl rfl (.there (.there (.there (.there (.there (.here)))))) fun w hst => ?_)
     refine AB rfl <| NL <| run_ret2 Tryz.func74 rfl (RV.cellA (vs := [.int .u16 _, .int .u32 _, .int .u32 _, .slice _ _ _]) rfl ty44 rfl rfl (cells_of_obj (n := 4) (hst.objL (.tail _ (.tail _ (.tail _ (.tail _ (.tail _ (.head _))))))) _ rfl)) (TP (v := .bool _) rfl) ?_
     replace hst := hst.pick (.cons (.here) .nil)
     exact .inl ⟨_, _, _, _, _, _, _, _, _, hA.noword hk47 hd47, rfl, hst.noD⟩
   · skip
     replace hst := hst.call1 hp
     clear hp
     refine CN <| Op1.move (v := .tuple #[.agg #[.int .u8 _, str _, .int .i64 _], .bool _]) rfl <| CN <| Op1.extract (v := .agg #[.int .u8 _, str _, .int .i64 _]) rfl rfl <| CN <| Op1.extract (v := .bool _) rfl rfl <| CN (SO (v := .agg #[.int .u8 _, str _, .int .i64 _]) hst ty72 rfl rfl (.there (.there (.here))) fun w hst => ?_)
     refine AB rfl <| NSR <| MB rfl <| CN <| Op1.not rfl <| NL <| run_cond_false (congrArg Value.bool (congrArg not (rfl : true = _))) <| run_skip <| SQ <| SR <| CN <| Op1.fieldAddr fld72_1 rfl <| CN (Op1.load1 (v := str _) ty9 rfl rfl (hst.cellL (.tail _ (.tail _ (.head _))) rfl) ?_)
     obtain ⟨fm, hfn⟩ : ∃ x, (refT.find? (nmF (l.getD m tok0).text)).getD zeroF = x := ⟨_, rfl⟩
     obtain ⟨ob, hob⟩ : ∃ x, (refT.find? (nmF (l.getD m tok0).text)).isSome = x := ⟨_, rfl⟩
     refine CN <| Op1.call1 (v1 := str _) ent127 rfl rfl <| Ret.det (R7gr_Named3 hfn hob _) hst fun w hst => CN <| Op1.move (v := .tuple #[.agg #[.int .u16 _, str _, .bool _, .bool _, str _, str _, .int .i64 _, .int .u8 _], .bool _]) rfl <| CN <| Op1.extract (v := .agg #[.int .u16 _, str _, .bool _, .bool _, str _, str _, .int .i64 _, .int .u8 _]) rfl rfl <| CN <| Op1.extract (v := .bool _) rfl rfl <| CN (SO (v := .agg #[.int .u16 _, str _, .bool _, .bool _, str _, str _, .int .i64 _, .int .u8 _]) hst ty113 rfl rfl (.there (.there (.there (.here)))) fun w hst => ?_)
     refine AB rfl <| NSR <| MB rfl <| CN <| Op1.not rfl <| NL <| run_cond_split rfl (fun g2 => ?_) (fun g2 => ?_)
     · skip
       refine SQ ?_
       apply RunD.start [(4, Res.row bq 130 _, Res.emp)] hst (bs := [0, 0, 0, 4, 14, 31, 63]) (ds := [some 61, some 62, some 63, some 64, some 65, none, some 3]) (htab := ⟨by kernel_rfl, by kernel_rfl, by kernel_rfl⟩)
       intro tab3
       refine RunD.op (det _) tab3 1 (fun f' L' w' hc => Op1.loadA (vs := [.int .u16 _, .int .u32 _, .int .u32 _, .slice _ _ _]) ty44 rfl (hc.old (v := .pointer (some ⟨_, _, none⟩)) rfl rfl rfl) rfl (cells_of_obj (n := 4) (hc.st.objL (List.mem_append_right _ (.tail _ (.tail _ (.tail _ (.head _)))))) _ rfl) ⟨[], ⟨rfl, rfl⟩, hc.st⟩) <| RunD.op (det _) tab3 2 (fun f' L' w' hc => Op1.move (v := .pointer (some ⟨_, _, none⟩)) (hc.old (v := .pointer (some ⟨_, _, none⟩)) rfl rfl rfl) ⟨[], ⟨rfl, rfl⟩, hc.st⟩) <| RunD.op (det _) tab3 3 (fun f' L' w' hc => Op1.fieldAddr fld72_2 (hc.old (v := .pointer (some ⟨_, _, none⟩)) rfl rfl rfl) ⟨[], ⟨rfl, rfl⟩, hc.st⟩) <| RunD.op (det _) tab3 4 (fun f' L' w' hc => Op1.load1 (v := .int .i64 _) ty3 rfl (hc.det (j := 2) rfl rfl rfl rfl) (hc.st.cellL (List.mem_append_right _ (.tail _ (.head _))) rfl) ⟨[], ⟨rfl, rfl⟩, hc.st⟩) <| RunD.ownC (fun g v rs => v = .bool false ∧ rs = [Res.row bq 130 [str s, .slice (some ⟨bT, 0, none⟩) l.length cp, .int .i64 (((m + 1 : Nat) : Int) : Int), .int .u32 bound, .int .i64 71, .int .i64 ((l.getD m tok0).at_)]]) tab3 5 (.head _) (fun f' L' L'' w' hc ⟨X, hrem, hX⟩ => Op1.call3 (v1 := .pointer (some ⟨_, _, none⟩)) (v2 := .int .i64 _) (v3 := .int .i64 _) ent128 rfl (hc.det (j := 1) rfl rfl rfl rfl) rfl (hc.det (j := 3) rfl rfl rfl rfl) ((R7as_fails bq s _ cp l (m + 1) bound e p 71 ((l.getD m tok0).at_) _ (hc.st.hL _ hrem.mem2)).mono fun v w hp => ⟨[_], fun g hg => ⟨hp.1, rfl⟩, hX _ _ (St.callRem hc.st hrem hp.2)⟩)) <| RunD.fin followsMixed tab3 hst rfl (fun f4 w R7 hs5 hd6 hr8 hst => ?_)
       obtain ⟨h61_, r0⟩ := hd6 0 61 rfl rfl
       obtain ⟨h62_, r1⟩ := hd6 1 62 rfl rfl
       obtain ⟨h63_, r2⟩ := hd6 2 63 rfl rfl
       obtain ⟨h64_, r3⟩ := hd6 3 64 rfl rfl
       obtain ⟨h65_, r4⟩ := hd6 4 65 rfl rfl
       simp only [show List.range 5 = [0, 1, 2, 3, 4] from rfl, List.flatMap_cons, List.flatMap_nil, List.map_cons, List.map_nil, r0, r1, r2, r3, r4, List.nil_append, List.append_nil, List.cons_append] at hst
       refine RunL.slots (sl := [(2, .pointer (some ⟨_, _, none⟩)), (61, .agg #[.int .u16 _, .int .u32 _, .int .u32 _, .slice _ _ _]), (65, .bool _)]) ⟨(hs5 2 rfl).trans rfl, h61_, h65_, trivial⟩ ?_
       clear hs5 hd6 hr8 tab3
       refine CN (SO (v := .agg #[.int .u16 _, .int .u32 _, .int .u32 _, .slice _ _ _]) hst ty44 rfl rfl (.there (.there (.there (.there (.there (.there (.here))))))) fun w hst => ?_)
       refine AB rfl <| NL <| run_ret2 Tryz.func74 rfl (RV.cellA (vs := [.int .u16 _, .int .u32 _, .int .u32 _, .slice _ _ _]) rfl ty44 rfl rfl (cells_of_obj (n := 4) (hst.objL (.tail _ (.tail _ (.tail _ (.tail _ (.tail _ (.tail _ (.head _)))))))) _ rfl)) (TP (v := .bool _) rfl) ?_
       replace hst := hst.pick (.cons (.here) .nil)
       exact .inl ⟨_, _, _, _, _, _, _, _, _, hA.noname hk47 hd47 (hob.trans (by simpa using g2)), rfl, hst.noD⟩
     have hB := LnB.mk2 hA hk47 hd47 (hob.trans (by simpa using g2)) hfn
     have hop := hB.op
     have hop0 := hB.op0
     refine run_skip <| SQ <| SR <| CN <| Op1.fieldAddr fld113_3 rfl <| CN <| Op1.load1 (v := .bool _) ty4 rfl rfl (hst.cellL (.tail _ (.tail _ (.tail _ (.head _)))) rfl) <| MB rfl <| CN <| Op1.neqB ty4 rfl rfl <| NL <| Run.forget [(0, .pointer (some ⟨_, _, none⟩)), (2, .pointer (some ⟨_, _, none⟩)), (4, .pointer (some ⟨_, _, none⟩)), (5, .pointer (some ⟨_, _, none⟩)), (7, .slice _ _ _), (10, .pointer (some ⟨_, _, none⟩)), (11, .bool _), (69, .bool _)] ⟨rfl, rfl, rfl, rfl, rfl, rfl, rfl, rfl, trivial⟩ fun f => run_cond_split rfl (fun g9 => ?_) (fun g9 => ?_)
     · skip
       refine SQ ?_
       apply RunD.start [(4, Res.row bq 130 _, Res.emp)] hst (bs := [0, 0, 0, 4, 14, 31, 63]) (ds := [some 70, some 71, some 72, some 73, some 74, none, some 3]) (htab := ⟨by kernel_rfl, by kernel_rfl, by kernel_rfl⟩)
       intro tab10
       refine RunD.op (det _) tab10 1 (fun f' L' w' hc => Op1.loadA (vs := [.int .u16 _, .int .u32 _, .int .u32 _, .slice _ _ _]) ty44 rfl (hc.old (v := .pointer (some ⟨_, _, none⟩)) rfl rfl rfl) rfl (cells_of_obj (n := 4) (hc.st.objL (List.mem_append_right _ (.tail _ (.tail _ (.tail _ (.head _)))))) _ rfl) ⟨[], ⟨rfl, rfl⟩, hc.st⟩) <| RunD.op (det _) tab10 2 (fun f' L' w' hc => Op1.move (v := .pointer (some ⟨_, _, none⟩)) (hc.old (v := .pointer (some ⟨_, _, none⟩)) rfl rfl rfl) ⟨[], ⟨rfl, rfl⟩, hc.st⟩) <| RunD.op (det _) tab10 3 (fun f' L' w' hc => Op1.fieldAddr fld72_2 (hc.old (v := .pointer (some ⟨_, _, none⟩)) rfl rfl rfl) ⟨[], ⟨rfl, rfl⟩, hc.st⟩) <| RunD.op (det _) tab10 4 (fun f' L' w' hc => Op1.load1 (v := .int .i64 _) ty3 rfl (hc.det (j := 2) rfl rfl rfl rfl) (hc.st.cellL (List.mem_append_right _ (.head _)) rfl) ⟨[], ⟨rfl, rfl⟩, hc.st⟩) <| RunD.ownC (fun g v rs => v = .bool false ∧ rs = [Res.row bq 130 [str s, .slice (some ⟨bT, 0, none⟩) l.length cp, .int .i64 (((m + 1 : Nat) : Int) : Int), .int .u32 bound, .int .i64 41, .int .i64 ((l.getD 0 tok0).at_)]]) tab10 5 (.head _) (fun f' L' L'' w' hc ⟨X, hrem, hX⟩ => Op1.call3 (v1 := .pointer (some ⟨_, _, none⟩)) (v2 := .int .i64 _) (v3 := .int .i64 _) ent128 rfl (hc.det (j := 1) rfl rfl rfl rfl) rfl (hc.det (j := 3) rfl rfl rfl rfl) ((R7as_fails bq s _ cp l (m + 1) bound e p 41 ((l.getD 0 tok0).at_) _ (hc.st.hL _ hrem.mem2)).mono fun v w hp => ⟨[_], fun g hg => ⟨hp.1, rfl⟩, hX _ _ (St.callRem hc.st hrem hp.2)⟩)) <| RunD.fin followsMixed tab10 hst rfl (fun f11 w R14 hs12 hd13 hr15 hst => ?_)
       obtain ⟨h70_, r0⟩ := hd13 0 70 rfl rfl
       obtain ⟨h71_, r1⟩ := hd13 1 71 rfl rfl
       obtain ⟨h72_, r2⟩ := hd13 2 72 rfl rfl
       obtain ⟨h73_, r3⟩ := hd13 3 73 rfl rfl
       obtain ⟨h74_, r4⟩ := hd13 4 74 rfl rfl
       simp only [show List.range 5 = [0, 1, 2, 3, 4] from rfl, List.flatMap_cons, List.flatMap_nil, List.map_cons, List.map_nil, r0, r1, r2, r3, r4, List.nil_append, List.append_nil, List.cons_append] at hst
       refine RunL.slots (sl := [(2, .pointer (some ⟨_, _, none⟩)), (70, .agg #[.int .u16 _, .int .u32 _, .int .u32 _, .slice _ _ _]), (74, .bool _)]) ⟨(hs12 2 rfl).trans rfl, h70_, h74_, trivial⟩ ?_
       clear hs12 hd13 hr15 tab10
       refine CN (SO (v := .agg #[.int .u16 _, .int .u32 _, .int .u32 _, .slice _ _ _]) hst ty44 rfl rfl (.there (.there (.there (.there (.there (.there (.here))))))) fun w hst => ?_)
       refine AB rfl <| NL <| run_ret2 Tryz.func74 rfl (RV.cellA (vs := [.int .u16 _, .int .u32 _, .int .u32 _, .slice _ _ _]) rfl ty44 rfl rfl (cells_of_obj (n := 4) (hst.objL (.tail _ (.tail _ (.tail _ (.tail _ (.tail _ (.tail _ (.head _)))))))) _ rfl)) (TP (v := .bool _) rfl) ?_
       replace hst := hst.pick (.cons (.here) .nil)
       exact .inl ⟨_, _, _, _, _, _, _, _, _, hB.nores (by simpa using g9), rfl, hst.noD⟩
     have hrs : fm.res = decide ((l.getD 0 tok0).kind = 2) := by simpa using g9
     refine run_skip <| SR <| CN <| Op1.fieldAddr fld113_0 rfl <| CN <| Op1.load1 (v := .int .u16 _) ty41 rfl rfl (hst.cellL (.tail _ (.tail _ (.tail _ (.head _)))) rfl) <| CN <| Op1.fieldAddr fld44_0 rfl <| CN (SO (v := .int .u16 _) hst ty41 rfl rfl (.there (.there (.there (.there (.here))))) fun w hst => ?_)
     refine NL <| SQ ?_
     replace hst := hst.pick (.cons (.there (.there (.there (.there (.here))))) (.cons (.here) (.cons (.here) (.cons (.here) (.cons (.here) (.cons (.here) .nil))))))
     refine Run.cutW (L1 := [_]) [(0, .pointer (some ⟨_, _, none⟩)), (2, .pointer (some ⟨_, _, none⟩)), (4, .pointer (some ⟨_, _, none⟩)), (5, .pointer (some ⟨_, _, none⟩)), (7, .slice _ _ _)] hst ⟨rfl, rfl, rfl, rfl, rfl, trivial⟩ (fun (qq : Int) => []) (fun (qq : Int) => [Res.row b4 44 [.int .u16 fm.op, .int .u32 0, .int .u32 qq, .slice none 0 0]]) (fun (qq : Int) => ((l.getD 0 tok0).kind = 2 → qq = idL (l.getD 0 tok0).text bound ∧ qq ≠ 0) ∧ (¬ (l.getD 0 tok0).kind = 2 → qq = 0)) (fun res f w hst hR0 => ?_) (fun cut16 => ?_)
     replace hst : St _ _ ([Res.row b4 44 [.int .u16 fm.op, .int .u32 0, .int .u32 res, .slice none 0 0]] ++ [_, _, _, _, _]) _ _ := hst
     replace hR0 : ((l.getD 0 tok0).kind = 2 → res = idL (l.getD 0 tok0).text bound ∧ res ≠ 0) ∧ (¬ (l.getD 0 tok0).kind = 2 → res = 0) := hR0
     skip
     · skip
       have hC : LnC bound l m fm res := ⟨hB, hrs, hR0.1, hR0.2⟩
       refine SQ <| Run.cutW (L1 := [_, _]) [(0, .pointer (some ⟨_, _, none⟩)), (2, .pointer (some ⟨_, _, none⟩)), (4, .pointer (some ⟨_, _, none⟩)), (5, .pointer (some ⟨_, _, none⟩)), (7, .slice _ _ _)] hst ⟨rfl, rfl, rfl, rfl, rfl, trivial⟩ (fun (qq : Int × Nat) => []) (fun (qq : Int × Nat) => [Res.row b4 44 [.int .u16 fm.op, .int .u32 qq.1, .int .u32 res, .slice none 0 0], Res.row bq 130 [str s, .slice (some ⟨bT, 0, none⟩) l.length cp, .int .i64 (((qq.2 : Nat) : Int) : Int), .int .u32 bound, .int .i64 e, .int .i64 p]]) (fun (qq : Int × Nat) => LnI bound l m fm res qq.1 qq.2) (fun ⟨ty, q⟩ f w hst hI => ?_) (fun cut18 => ?_)
       replace hst : St _ _ ([Res.row b4 44 [.int .u16 fm.op, .int .u32 ty, .int .u32 res, .slice none 0 0], Res.row bq 130 [str s, .slice (some ⟨bT, 0, none⟩) l.length cp, .int .i64 (((q : Nat) : Int) : Int), .int .u32 bound, .int .i64 e, .int .i64 p]] ++ [_, _, _, _]) _ _ := hst
       replace hI : LnI bound l m fm res ty q := hI
       skip
       · skip
         refine SQ <| run_label ?_
         replace hst := hst.pushNil 110 3
         replace hst := hst.pushNil 5 1
         refine Run.indW [(0, .pointer (some ⟨_, _, none⟩)), (2, .pointer (some ⟨_, _, none⟩)), (4, .pointer (some ⟨_, _, none⟩)), (5, .pointer (some ⟨_, _, none⟩))] ⟨rfl, rfl, rfl, rfl, trivial⟩ (fun (qq : Nat × List ArgP × Option Addr × Nat × Option Addr × Nat) => [(7, .slice qq.2.2.2.2.1 (qq.2.1.map ArgP.kind).length qq.2.2.2.2.2)]) (fun (qq : Nat × List ArgP × Option Addr × Nat × Option Addr × Nat) => [Res.sl qq.2.2.2.2.1 (qq.2.1.map ArgP.kind).length qq.2.2.2.2.2 5 1 ((qq.2.1.map ArgP.kind).flatMap u8C), Res.sl qq.2.2.1 qq.2.1.length qq.2.2.2.1 110 3 (qq.2.1.flatMap argC), Res.row b4 44 [.int .u16 fm.op, .int .u32 ty, .int .u32 res, .slice qq.2.2.1 qq.2.1.length qq.2.2.2.1], Res.row bq 130 [str s, .slice (some ⟨bT, 0, none⟩) l.length cp, .int .i64 (((q + qq.1 : Nat) : Int) : Int), .int .u32 bound, .int .i64 e, .int .i64 p]]) (fun (qq : Nat × List ArgP × Option Addr × Nat × Option Addr × Nat) => ArI fm bound l q qq.1 qq.2.1) (fun (qq : Nat × List ArgP × Option Addr × Nat × Option Addr × Nat) => l.length - qq.1) ((0, [], none, 0, none, 0)) hst (ArI.start hI.le) ⟨rfl, trivial⟩ ?_
         intro ⟨j, ags, xo, xc, ko, kc⟩ f w hst hJ ih20
         replace hst : St _ _ ([Res.sl ko (ags.map ArgP.kind).length kc 5 1 ((ags.map ArgP.kind).flatMap u8C), Res.sl xo ags.length xc 110 3 (ags.flatMap argC), Res.row b4 44 [.int .u16 fm.op, .int .u32 ty, .int .u32 res, .slice xo ags.length xc], Res.row bq 130 [str s, .slice (some ⟨bT, 0, none⟩) l.length cp, .int .i64 (((q + j : Nat) : Int) : Int), .int .u32 bound, .int .i64 e, .int .i64 p]] ++ [_, _, _, _]) _ _ := hst
         replace hJ : ArI fm bound l q j ags := hJ
         refine Run.slots (sl := [(7, .slice ko (ags.map ArgP.kind).length kc)]) ⟨rfl, trivial⟩ ?_
         have hjl := hJ.len
         have hjle := hJ.le
         have hkl : (ags.map ArgP.kind).length = ags.length := List.length_map _
         refine SQ <| SR <| MP rfl ?_
         replace hst := hst.pick (.cons (.there (.there (.there (.here)))) (.cons (.here) (.cons (.here) (.cons (.here) (.cons (.here) (.cons (.here) (.cons (.here) (.cons (.here) .nil))))))))
         refine CN (Op1.call1 (v1 := .pointer (some ⟨_, _, none⟩)) ent73 rfl rfl ((R7as_more _ _ _ _ _ (q + j) _ _ _ _ (hst.hL _ (.head _))).mono fun v w hp => ?_))
         obtain ⟨rfl, hp⟩ := hp
         replace hst := hst.call1 hp
         clear hp
         refine NL <| run_cond_dec rfl (fun g21 => ?_) (fun g21 => ?_)
         · skip
           refine SR <| CN <| Op1.fieldAddr fld113_0 rfl <| CN <| Op1.load1 (v := .int .u16 _) ty41 rfl rfl (hst.cellL (.tail _ (.tail _ (.tail _ (.tail _ (.tail _ (.tail _ (.head _))))))) rfl) <| CN <| Op1.fieldAddr fld44_3 rfl <| CN <| Op1.load1 (v := .slice _ _ _) ty42 rfl rfl (hst.cellL (.tail _ (.tail _ (.tail _ (.head _)))) rfl) <| CN <| Op1.lenSl (rest := []) ty42 rfl <| CN <| Op1.call2 (v1 := .int .u16 _) (v2 := .int .i64 _) ent131 rfl rfl rfl <| Ret.det (R7gr_LetterJ hop hop0.1 _ j hjl (by omega) _) hst fun w hst => AC rfl <| NL <| SQ <| SR <| MC rfl <| CN (Op1.eql rfl rfl ?_)
           refine NL <| run_cond_dec rfl (fun g22 => ?_) (fun g22 => ?_)
           · skip
             refine SQ ?_
             apply RunD.start [(13, Res.row bq 130 _, Res.emp)] hst (bs := [0, 0, 0, 4, 12, 28, 0, 64, 192, 448, 1020, 2044, 4092, 8190, 16383, 32767]) (ds := [some 113, some 114, some 115, some 116, some 117, some 118, some 119, some 120, some 121, some 122, some 123, some 124, some 125, some 126, none, some 3]) (htab := ⟨by kernel_rfl, by kernel_rfl, by kernel_rfl⟩)
             intro tab23
             refine RunD.op (det _) tab23 1 (fun f' L' w' hc => Op1.loadA (vs := [.int .u16 _, .int .u32 _, .int .u32 _, .slice _ _ _]) ty44 rfl (hc.old (v := .pointer (some ⟨_, _, none⟩)) rfl rfl rfl) rfl (cells_of_obj (n := 4) (hc.st.objL (List.mem_append_right _ (.tail _ (.tail _ (.head _))))) _ rfl) ⟨[], ⟨rfl, rfl⟩, hc.st⟩) <| RunD.op (det _) tab23 2 (fun f' L' w' hc => Op1.move (v := .pointer (some ⟨_, _, none⟩)) (hc.old (v := .pointer (some ⟨_, _, none⟩)) rfl rfl rfl) ⟨[], ⟨rfl, rfl⟩, hc.st⟩) <| RunD.op (det _) tab23 3 (fun f' L' w' hc => Op1.move (v := .pointer (some ⟨_, _, none⟩)) (hc.old (v := .pointer (some ⟨_, _, none⟩)) rfl rfl rfl) ⟨[], ⟨rfl, rfl⟩, hc.st⟩) <| RunD.op (det _) tab23 4 (fun f' L' w' hc => Op1.nilCheckP (hc.det (j := 2) rfl rfl rfl rfl) ⟨[], ⟨rfl, rfl⟩, hc.st⟩) <| RunD.op (det _) tab23 5 (fun f' L' w' hc => Op1.fieldAddr fld130_1 (hc.det (j := 3) rfl rfl rfl rfl) ⟨[], ⟨rfl, rfl⟩, hc.st⟩) <| RunD.opP (det _) tab23 6 (fun f' L' w' hc hlate => Op1.load1 (v := .slice _ _ _) ty65 rfl (hc.det (j := 4) rfl rfl rfl rfl) (hc.st.cellL (List.mem_append_left _ (hlate _ _ _ (.head _) rfl)) rfl) ⟨[], ⟨rfl, rfl⟩, hc.st⟩) <| RunD.op (det _) tab23 7 (fun f' L' w' hc => Op1.move (v := .pointer (some ⟨_, _, none⟩)) (hc.old (v := .pointer (some ⟨_, _, none⟩)) rfl rfl rfl) ⟨[], ⟨rfl, rfl⟩, hc.st⟩) <| RunD.op (det _) tab23 8 (fun f' L' w' hc => Op1.nilCheckP (hc.det (j := 6) rfl rfl rfl rfl) ⟨[], ⟨rfl, rfl⟩, hc.st⟩) <| RunD.op (det _) tab23 9 (fun f' L' w' hc => Op1.fieldAddr fld130_2 (hc.det (j := 7) rfl rfl rfl rfl) ⟨[], ⟨rfl, rfl⟩, hc.st⟩) <| RunD.opP (det _) tab23 10 (fun f' L' w' hc hlate => Op1.load1 (v := .int .i64 _) ty3 rfl (hc.det (j := 8) rfl rfl rfl rfl) (hc.st.cellL (List.mem_append_left _ (hlate _ _ _ (.head _) rfl)) rfl) ⟨[], ⟨rfl, rfl⟩, hc.st⟩) <| RunD.op (det _) tab23 11 (fun f' L' w' hc => Op1.indexSl ty65 ty72 (hc.det (j := 5) rfl rfl rfl rfl) (hc.det (j := 9) rfl rfl rfl rfl) (by omega) (by omega) ⟨[], ⟨rfl, rfl⟩, hc.st⟩) <| RunD.op (det _) tab23 12 (fun f' L' w' hc => Op1.fieldAddr fld72_2 (hc.det (j := 10) rfl rfl rfl rfl) ⟨[], ⟨rfl, rfl⟩, hc.st⟩) <| RunD.op (det _) tab23 13 (fun f' L' w' hc => Op1.load1 (v := .int .i64 _) ty3 rfl (hc.det (j := 11) rfl rfl rfl rfl) (Res.sl_cell (hc.st.hD _ (.head _)) (flat_cell (g := tokC) (d := tok0) tokC_len rfl (by omega))) ⟨[], ⟨rfl, rfl⟩, hc.st⟩) <| RunD.ownC (fun g v rs => v = .bool false ∧ rs = [Res.row bq 130 [str s, .slice (some ⟨bT, 0, none⟩) l.length cp, .int .i64 (((q + j : Nat) : Int) : Int), .int .u32 bound, .int .i64 70, .int .i64 ((l.getD (q + j) tok0).at_)]]) tab23 14 (.head _) (fun f' L' L'' w' hc ⟨X, hrem, hX⟩ => Op1.call3 (v1 := .pointer (some ⟨_, _, none⟩)) (v2 := .int .i64 _) (v3 := .int .i64 _) ent128 rfl (hc.det (j := 1) rfl rfl rfl rfl) rfl (hc.det (j := 12) rfl rfl rfl rfl) ((R7as_fails bq s _ cp l (q + j) bound e p 70 ((l.getD (q + j) tok0).at_) _ (hc.st.hL _ hrem.mem2)).mono fun v w hp => ⟨[_], fun g hg => ⟨hp.1, rfl⟩, hX _ _ (St.callRem hc.st hrem hp.2)⟩)) <| RunD.fin followsMixed tab23 hst rfl (fun f24 w R27 hs25 hd26 hr28 hst => ?_)
             obtain ⟨h113_, r0⟩ := hd26 0 113 rfl rfl
             obtain ⟨h114_, r1⟩ := hd26 1 114 rfl rfl
             obtain ⟨h115_, r2⟩ := hd26 2 115 rfl rfl
             obtain ⟨h116_, r3⟩ := hd26 3 116 rfl rfl
             obtain ⟨h117_, r4⟩ := hd26 4 117 rfl rfl
             obtain ⟨h118_, r5⟩ := hd26 5 118 rfl rfl
             obtain ⟨h119_, r6⟩ := hd26 6 119 rfl rfl
             obtain ⟨h120_, r7⟩ := hd26 7 120 rfl rfl
             obtain ⟨h121_, r8⟩ := hd26 8 121 rfl rfl
             obtain ⟨h122_, r9⟩ := hd26 9 122 rfl rfl
             obtain ⟨h123_, r10⟩ := hd26 10 123 rfl rfl
             obtain ⟨h124_, r11⟩ := hd26 11 124 rfl rfl
             obtain ⟨h125_, r12⟩ := hd26 12 125 rfl rfl
             obtain ⟨h126_, r13⟩ := hd26 13 126 rfl rfl
             simp only [show List.range 14 = [0, 1, 2, 3, 4, 5, 6, 7, 8, 9, 10, 11, 12, 13] from rfl, List.flatMap_cons, List.flatMap_nil, List.map_cons, List.map_nil, r0, r1, r2, r3, r4, r5, r6, r7, r8, r9, r10, r11, r12, r13, List.nil_append, List.append_nil, List.cons_append] at hst
             refine RunL.slots (sl := [(2, .pointer (some ⟨_, _, none⟩)), (113, .agg #[.int .u16 _, .int .u32 _, .int .u32 _, .slice _ _ _]), (126, .bool _)]) ⟨(hs25 2 rfl).trans rfl, h113_, h126_, trivial⟩ ?_
             clear hs25 hd26 hr28 tab23
             refine CN (SO (v := .agg #[.int .u16 _, .int .u32 _, .int .u32 _, .slice _ _ _]) hst ty44 rfl rfl (.there (.there (.there (.there (.there (.there (.there (.there (.here))))))))) fun w hst => ?_)
             refine AB rfl <| NL <| run_ret2 Tryz.func74 rfl (RV.cellA (vs := [.int .u16 _, .int .u32 _, .int .u32 _, .slice _ _ _]) rfl ty44 rfl rfl (cells_of_obj (n := 4) (hst.objL (.tail _ (.tail _ (.tail _ (.tail _ (.tail _ (.tail _ (.tail _ (.tail _ (.head _)))))))))) _ rfl)) (TP (v := .bool _) rfl) ?_
             replace hst := hst.pick (.cons (.here) .nil)
             exact .inl ⟨_, _, _, _, _, _, _, _, _, hI.zero hJ (by omega) g22, rfl, hst.noD⟩
           refine run_skip <| SR <| MP rfl <| MC rfl ?_
           have hc0 : letterS fm (j : Int) ≠ 0 := g22
           refine CN (Op1.call2 (v1 := .pointer (some ⟨_, _, none⟩)) (v2 := .int .u8 _) ent132 rfl rfl rfl ((R7as_asksC bq s (some ⟨bT, 0, none⟩) cp l (q + j) bound e p (letterS fm (j : Int)) (letterS_bd fm _) hc0 _ (by omega) hl hll hts hbd hpl).mono fun v w hp => ?_))
           obtain ⟨fn, fi, ca, R, rfl, hp, hcl⟩ := hp
           replace hst : St _ _ (_ :: _) _ _ := hst.call0 hp
           clear hp
           replace hst := hst.pick (.cons (.there (.here)) (.cons (.here) (.cons (.here) (.cons (.here) (.cons (.here) (.cons (.here) (.cons (.here) (.cons (.here) (.cons (.here) .nil)))))))))
           refine CN (Op1.callV0  rfl  (((hcl _ (hst.hL _ (.head _)) (hst.hD _ (.head _)) (hst.sepD _ (.head _) _ (.head _)) (hst.hD _ (.tail _ (.head _))) (hst.sepD _ (.head _) _ (.tail _ (.head _))) (hst.hL _ (.tail _ (.head _))) ((List.pairwise_cons.1 hst.sep).1 _ (.head _)))).mono fun v w hp => ?_))
           rcases hp with ⟨z1, z2, z3, a2, hne, rfl, hp⟩ | ⟨hz, rfl, hp⟩
           · skip
             replace hst := hst.call1 hp
             clear hp
             refine CN <| Op1.move (v := .tuple #[.agg #[.int .u8 _, .int .u32 _, str _], .bool _]) rfl <| CN <| Op1.extract (v := .agg #[.int .u8 _, .int .u32 _, str _]) rfl rfl <| CN <| Op1.extract (v := .bool _) rfl rfl <| CN <| Op1.alloc hst ty110 fun w b13 hst => CN (SO (v := .agg #[.int .u8 _, .int .u32 _, str _]) hst ty110 rfl rfl (.here) fun w hst => ?_)
             refine AB rfl <| NL <| Run.forget [(0, .pointer (some ⟨_, _, none⟩)), (2, .pointer (some ⟨_, _, none⟩)), (4, .pointer (some ⟨_, _, none⟩)), (5, .pointer (some ⟨_, _, none⟩)), (7, .slice _ _ _), (13, .pointer (some ⟨_, _, none⟩)), (14, .bool _)] ⟨rfl, rfl, rfl, rfl, rfl, rfl, rfl, trivial⟩ fun f => SQ <| SR <| MB rfl <| CN <| Op1.not rfl <| NL <| run_cond_true (congrArg Value.bool (congrArg not (rfl : false = _))) <| SR <| CN <| Op1.loadA (vs := [.int .u16 _, .int .u32 _, .int .u32 _, .slice _ _ _]) ty44 rfl rfl rfl (cells_of_obj (n := 4) (hst.objL (.tail _ (.tail _ (.tail _ (.tail _ (.tail _ (.head _))))))) _ rfl) <| CN (SO (v := .agg #[.int .u16 _, .int .u32 _, .int .u32 _, .slice _ _ _]) hst ty44 rfl rfl (.there (.there (.there (.there (.there (.there (.there (.there (.there (.here)))))))))) fun w hst => ?_)
             refine AB rfl <| NL <| run_ret2 Tryz.func74 rfl (RV.cellA (vs := [.int .u16 _, .int .u32 _, .int .u32 _, .slice _ _ _]) rfl ty44 rfl rfl (cells_of_obj (n := 4) (hst.objL (.tail _ (.tail _ (.tail _ (.tail _ (.tail _ (.tail _ (.tail _ (.tail _ (.tail _ (.head _))))))))))) _ rfl)) (TP (v := .bool _) rfl) ?_
             replace hst := hst.pick (.cons (.there (.here)) .nil)
             exact .inl ⟨_, _, _, _, _, _, _, _, _, hI.bad hJ (by omega) hne, rfl, hst.noD⟩
           · skip
             replace hst := hst.call1 hp
             clear hp
             refine CN <| Op1.move (v := .tuple #[.agg #[.int .u8 _, .int .u32 _, str _], .bool _]) rfl <| CN <| Op1.extract (v := .agg #[.int .u8 _, .int .u32 _, str _]) rfl rfl <| CN <| Op1.extract (v := .bool _) rfl rfl <| CN <| Op1.alloc hst ty110 fun w b13 hst => CN (SO (v := .agg #[.int .u8 _, .int .u32 _, str _]) hst ty110 rfl rfl (.here) fun w hst => ?_)
             refine AB rfl <| NL <| Run.forget [(0, .pointer (some ⟨_, _, none⟩)), (2, .pointer (some ⟨_, _, none⟩)), (4, .pointer (some ⟨_, _, none⟩)), (5, .pointer (some ⟨_, _, none⟩)), (7, .slice _ _ _), (13, .pointer (some ⟨_, _, none⟩)), (14, .bool _)] ⟨rfl, rfl, rfl, rfl, rfl, rfl, rfl, trivial⟩ fun f => SQ <| SR <| MB rfl <| CN <| Op1.not rfl <| NL <| run_cond_false (congrArg Value.bool (congrArg not (rfl : true = _))) <| run_skip <| SR <| CN <| Op1.fieldAddr fld44_3 rfl <| CN (Op1.load1 (v := .slice _ _ _) ty42 rfl rfl (hst.cellL (.tail _ (.tail _ (.tail _ (.tail _ (.tail _ (.head _)))))) rfl) ?_)
             refine CN <| Op1.loadA (vs := [.int .u8 _, .int .u32 _, str _]) ty110 rfl rfl rfl (cells_of_obj (n := 3) (hst.objL (.head _)) _ rfl) <| CN (Op1.buildSl (z0 := [.int .u8 0, .int .u32 0, str []]) hst ty42 ty110 rfl rfl (by kernel_rfl) (.c (v := .agg #[.int .u8 _, .int .u32 _, str _]) rfl (h := .nil)) fun w b140 hst => ?_)
             refine CN (Op1.append (news := [.int .u8 _, .int .u32 _, str _]) hst ty42 ty110 rfl rfl (.there (.there (.there (.there (.there (.here)))))) rfl rfl rfl (cells_of_obj (n := 3) (hst.objL (.head _)) _ rfl) rfl rfl (by omega) fun w ao29 cp30 hst => ?_)
             replace hst := hst.drop (.there (.here))
             refine CN <| Op1.fieldAddr fld44_3 rfl <| CN (SO (v := .slice _ _ _) hst ty42 rfl rfl (.there (.there (.there (.there (.there (.here)))))) fun w hst => ?_)
             refine NSR <| ML rfl <| CN <| Op1.fieldAddr fld110_0 rfl <| CN <| Op1.load1 (v := .int .u8 _) ty5 rfl rfl (hst.cellL (.tail _ (.head _)) rfl) <| CN (Op1.buildSl (z0 := [.int .u8 0]) hst ty38 ty5 rfl rfl (by kernel_rfl) (.c (v := .int .u8 _) rfl (h := .nil)) fun w b146 hst => ?_)
             refine CN (Op1.append (news := [.int .u8 _]) hst ty38 ty5 rfl rfl (.there (.there (.there (.there (.there (.here)))))) rfl rfl rfl (cells_of_obj (n := 1) (hst.objL (.head _)) _ rfl) rfl rfl (by omega) fun w ao31 cp32 hst => ?_)
             replace hst := hst.drop (.there (.here))
             refine AL rfl <| NL ?_
             have e1 : (ags ++ [(argT (letterS fm (j : Int)) (l.getD (q + j) tok0) bound).1]).length = ags.length + 1 := List.length_append
             have e2 : (ags ++ [(argT (letterS fm (j : Int)) (l.getD (q + j) tok0) bound).1]).flatMap argC = ags.flatMap argC ++ argC (argT (letterS fm (j : Int)) (l.getD (q + j) tok0) bound).1 := by rw [List.flatMap_append]; simp
             have e3 : ((ags ++ [(argT (letterS fm (j : Int)) (l.getD (q + j) tok0) bound).1]).map ArgP.kind).flatMap u8C = (ags.map ArgP.kind).flatMap u8C ++ [.int .u8 (argT (letterS fm (j : Int)) (l.getD (q + j) tok0) bound).1.kind] := by rw [List.map_append, List.flatMap_append]; rfl
             have e4 : ((ags ++ [(argT (letterS fm (j : Int)) (l.getD (q + j) tok0) bound).1]).map ArgP.kind).length = (ags.map ArgP.kind).length + 1 := by rw [List.length_map, List.length_map, e1]
             replace hst := hst.pick (.cons (.here) (.cons (.here) (.cons (.there (.there (.there (.here)))) (.cons (.there (.here)) (.cons (.there (.there (.here))) (.cons (.there (.there (.here))) (.cons (.there (.there (.here))) (.cons (.there (.there (.here))) .nil))))))))
             refine run_goto ?_ (SQ (run_skip (ih20 ((j + 1, ags ++ [(argT (letterS fm (j : Int)) (l.getD (q + j) tok0) bound).1], ao29, cp30, ao31, cp32)) _ w ((by (try dsimp only); omega)) (by (try dsimp only); rw [e1, e2, e3, e4]; exact hst) (hJ.step (by omega) hz) ⟨rfl, rfl, rfl, rfl, trivial⟩ ⟨(by (try dsimp only); rw [e4]; rfl), trivial⟩)))
             rfl
         refine run_skip <| SQ <| SR <| CN <| Op1.fieldAddr fld113_0 rfl <| CN <| Op1.load1 (v := .int .u16 _) ty41 rfl rfl (hst.cellL (.tail _ (.tail _ (.tail _ (.tail _ (.tail _ (.tail _ (.head _))))))) rfl) <| ML rfl <| CN <| Op1.call2 (v1 := .int .u16 _) (v2 := .slice _ _ _) ent133 rfl rfl rfl <| Ret.det (R7gr_Fits fm.op hop0.1 (ags.map ArgP.kind) _ _ _ (Res.rs_of_sl (hst.hL _ (.tail _ (.head _)))) (by rw [List.length_map]; omega)) hst fun w hst => CN <| Op1.move (v := .tuple #[.int .i64 _, .bool _]) rfl <| CN <| Op1.extract (v := .int .i64 _) rfl rfl <| CN <| Op1.extract (v := .bool _) rfl rfl <| AI rfl <| AB rfl <| NL <| SQ ?_
         refine RG <| MB rfl <| CN <| Op1.not rfl <| NL <| run_cond_split rfl (fun g33 => ?_) (fun g33 => ?_)
         · skip
           refine SQ ?_
           apply RunD.start [(7, Res.row bq 130 _, Res.emp)] hst (bs := [0, 0, 0, 4, 12, 28, 60, 126, 255, 511]) (ds := [some 157, some 158, some 159, some 160, some 161, some 162, some 163, some 164, none, some 3]) (htab := ⟨by kernel_rfl, by kernel_rfl, by kernel_rfl⟩)
           intro tab34
           refine RunD.op (det _) tab34 1 (fun f' L' w' hc => Op1.loadA (vs := [.int .u16 _, .int .u32 _, .int .u32 _, .slice _ _ _]) ty44 rfl (hc.old (v := .pointer (some ⟨_, _, none⟩)) rfl rfl rfl) rfl (cells_of_obj (n := 4) (hc.st.objL (List.mem_append_right _ (.tail _ (.tail _ (.head _))))) _ rfl) ⟨[], ⟨rfl, rfl⟩, hc.st⟩) <| RunD.op (det _) tab34 2 (fun f' L' w' hc => Op1.move (v := .pointer (some ⟨_, _, none⟩)) (hc.old (v := .pointer (some ⟨_, _, none⟩)) rfl rfl rfl) ⟨[], ⟨rfl, rfl⟩, hc.st⟩) <| RunD.op (det _) tab34 3 (fun f' L' w' hc => Op1.move (v := .pointer (some ⟨_, _, none⟩)) (hc.old (v := .pointer (some ⟨_, _, none⟩)) rfl rfl rfl) ⟨[], ⟨rfl, rfl⟩, hc.st⟩) <| RunD.op (det _) tab34 4 (fun f' L' w' hc => Op1.nilCheckP (hc.det (j := 2) rfl rfl rfl rfl) ⟨[], ⟨rfl, rfl⟩, hc.st⟩) <| RunD.op (det _) tab34 5 (fun f' L' w' hc => Op1.fieldAddr fld130_0 (hc.det (j := 3) rfl rfl rfl rfl) ⟨[], ⟨rfl, rfl⟩, hc.st⟩) <| RunD.opP (det _) tab34 6 (fun f' L' w' hc hlate => Op1.load1 (v := str _) ty9 rfl (hc.det (j := 4) rfl rfl rfl rfl) (hc.st.cellL (List.mem_append_left _ (hlate _ _ _ (.head _) rfl)) rfl) ⟨[], ⟨rfl, rfl⟩, hc.st⟩) <| RunD.op (det _) tab34 7 (fun f' L' w' hc => Op1.lenS (rest := []) ty9 (hc.det (j := 5) rfl rfl rfl rfl) ⟨[], ⟨rfl, rfl⟩, hc.st⟩) <| RunD.ownC (fun g v rs => v = .bool false ∧ rs = [Res.row bq 130 [str s, .slice (some ⟨bT, 0, none⟩) l.length cp, .int .i64 (((q + j : Nat) : Int) : Int), .int .u32 bound, .int .i64 72, .int .i64 (s.length)]]) tab34 8 (.head _) (fun f' L' L'' w' hc ⟨X, hrem, hX⟩ => Op1.call3 (v1 := .pointer (some ⟨_, _, none⟩)) (v2 := .int .i64 _) (v3 := .int .i64 _) ent128 rfl (hc.det (j := 1) rfl rfl rfl rfl) rfl (hc.det (j := 6) rfl rfl rfl rfl) ((R7as_fails bq s _ cp l (q + j) bound e p 72 (s.length) _ (hc.st.hL _ hrem.mem2)).mono fun v w hp => ⟨[_], fun g hg => ⟨hp.1, rfl⟩, hX _ _ (St.callRem hc.st hrem hp.2)⟩)) <| RunD.fin followsMixed tab34 hst rfl (fun f35 w R38 hs36 hd37 hr39 hst => ?_)
           obtain ⟨h157_, r0⟩ := hd37 0 157 rfl rfl
           obtain ⟨h158_, r1⟩ := hd37 1 158 rfl rfl
           obtain ⟨h159_, r2⟩ := hd37 2 159 rfl rfl
           obtain ⟨h160_, r3⟩ := hd37 3 160 rfl rfl
           obtain ⟨h161_, r4⟩ := hd37 4 161 rfl rfl
           obtain ⟨h162_, r5⟩ := hd37 5 162 rfl rfl
           obtain ⟨h163_, r6⟩ := hd37 6 163 rfl rfl
           obtain ⟨h164_, r7⟩ := hd37 7 164 rfl rfl
           simp only [show List.range 8 = [0, 1, 2, 3, 4, 5, 6, 7] from rfl, List.flatMap_cons, List.flatMap_nil, List.map_cons, List.map_nil, r0, r1, r2, r3, r4, r5, r6, r7, List.nil_append, List.append_nil, List.cons_append] at hst
           refine RunL.slots (sl := [(2, .pointer (some ⟨_, _, none⟩)), (157, .agg #[.int .u16 _, .int .u32 _, .int .u32 _, .slice _ _ _]), (164, .bool _)]) ⟨(hs36 2 rfl).trans rfl, h157_, h164_, trivial⟩ ?_
           clear hs36 hd37 hr39 tab34
           refine CN (SO (v := .agg #[.int .u16 _, .int .u32 _, .int .u32 _, .slice _ _ _]) hst ty44 rfl rfl (.there (.there (.there (.there (.there (.there (.there (.there (.here))))))))) fun w hst => ?_)
           refine AB rfl <| NL <| run_ret2 Tryz.func74 rfl (RV.cellA (vs := [.int .u16 _, .int .u32 _, .int .u32 _, .slice _ _ _]) rfl ty44 rfl rfl (cells_of_obj (n := 4) (hst.objL (.tail _ (.tail _ (.tail _ (.tail _ (.tail _ (.tail _ (.tail _ (.tail _ (.head _)))))))))) _ rfl)) (TP (v := .bool _) rfl) ?_
           replace hst := hst.pick (.cons (.here) .nil)
           exact .inl ⟨_, _, _, _, _, _, _, _, _, hI.nofit hJ (by omega) (by simpa using g33), rfl, hst.noD⟩
         have hfit : (fitsS fm.op (ags.map ArgP.kind)).2 = true := by simpa using g33
         have hsm := hJ.small hts hll hl24
         obtain ⟨rop, rws, re, hR⟩ : ∃ rop rws re, rawF bound (⟨fm.op, ty, res, ags⟩ : InstL) = ((rop, rws), re) := ⟨_, _, _, rfl⟩
         have hre : re = faultF bound ⟨fm.op, ty, res, ags⟩ := by rw [← rawF_fault, hR]
         refine run_skip <| SQ <| SQ <| RunD.startT [(9, 10)] [] hst (bs := [0, 0, 2, 6, 14, 31, 63, 127, 127, 0, 767, 2047]) (ds := [some 166, some 167, some 168, some 169, some 170, some 171, some 165, some 172, some 173, some 17, none, some 18]) ⟨by kernel_rfl, by kernel_rfl, by kernel_rfl⟩ (fun tab40 => ?_)
         refine RunD.op (det _) tab40 1 (fun f' L' w' hc => Op1.loadA (vs := [.int .u16 _, .int .u32 _, .int .u32 _, .slice _ _ _]) ty44 rfl (hc.old (v := .pointer (some ⟨_, _, none⟩)) rfl rfl rfl) rfl (cells_of_obj (n := 4) (hc.st.objL (List.mem_append_right _ (.tail _ (.tail _ (.tail _ (.head _)))))) _ rfl) ⟨[], ⟨rfl, rfl⟩, hc.st⟩) <| RunD.op (det _) tab40 2 (fun f' L' w' hc => Op1.move (v := .pointer (some ⟨_, _, none⟩)) (hc.old (v := .pointer (some ⟨_, _, none⟩)) rfl rfl rfl) ⟨[], ⟨rfl, rfl⟩, hc.st⟩) <| RunD.op (det _) tab40 3 (fun f' L' w' hc => Op1.nilCheckP (hc.det (j := 1) rfl rfl rfl rfl) ⟨[], ⟨rfl, rfl⟩, hc.st⟩) <| RunD.op (det _) tab40 4 (fun f' L' w' hc => Op1.fieldAddr fld130_3 (hc.det (j := 2) rfl rfl rfl rfl) ⟨[], ⟨rfl, rfl⟩, hc.st⟩) <| RunD.op (det _) tab40 5 (fun f' L' w' hc => Op1.load1 (v := .int .u32 _) ty22 rfl (hc.det (j := 3) rfl rfl rfl rfl) (hc.st.cellL (List.mem_append_right _ (.head _)) rfl) ⟨[], ⟨rfl, rfl⟩, hc.st⟩) <| RunD.op (fun v rs => ∃ ro rc, v = .tuple #[.agg #[.int .u16 rop, .slice ro rws.length rc], .int .i64 re] ∧ rs = [Res.sl ro rws.length rc 22 1 (rws.flatMap u32C)]) tab40 6 (fun f' L' w' hc => Op1.call2 (v1 := .agg #[.int .u16 _, .int .u32 _, .int .u32 _, .slice _ _ _]) (v2 := .int .u32 _) ent37 rfl (hc.det (j := 0) rfl rfl rfl rfl) (hc.det (j := 4) rfl rfl rfl rfl) ((R7cd_Raw2 (p := ⟨fm.op, ty, res, xo, xc, ags⟩) hR hop0.1 _ (Res.rs_of_sl (hc.st.hL _ (List.mem_append_right _ (.tail _ (.tail _ (.head _)))))) hsm.1 hsm.2).mono fun v w hp => (by obtain ⟨ro, rc, rfl, hp⟩ := hp; exact ⟨_, ⟨ro, rc, rfl, rfl⟩, hc.st.call0 hp⟩))) <| RunD.opR (fun g v rs => v = g 171 ∧ rs = []) tab40 7 (fun f' L' w' hc => Op1.move (evs rfl rfl) ⟨[], fun g hg => ⟨(hg 5 171 rfl rfl).symm, rfl⟩, hc.st⟩) <| RunD.opR (fun g v rs => (∀ ro rc, g 171 = .tuple #[.agg #[.int .u16 rop, .slice ro rws.length rc], .int .i64 re] → v = .agg #[.int .u16 rop, .slice ro rws.length rc]) ∧ rs = []) tab40 8 (fun f' L' w' hc => by obtain ⟨_, _, q1, _⟩ := hc.dep 5 171 rfl rfl; obtain ⟨ro, rc, htc, _⟩ := q1; obtain ⟨gm, _, q2, hgm, _⟩ := hc.dep 6 165 rfl rfl; have htm : f' 165 = .tuple #[.agg #[.int .u16 rop, .slice ro rws.length rc], .int .i64 re] := (by rw [q2.1, hgm 5 171 rfl rfl, htc]); exact Op1.extract (v := .agg #[.int .u16 rop, .slice ro rws.length rc]) (evs htm rfl) rfl ⟨[], fun g hg => ⟨fun ro2 rc2 e => (by rw [hg 5 171 rfl rfl, htc] at e; cases e; rfl), rfl⟩, hc.st⟩) <| RunD.op (det (.int .i64 re)) tab40 9 (fun f' L' w' hc => by obtain ⟨_, _, q1, _⟩ := hc.dep 5 171 rfl rfl; obtain ⟨ro, rc, htc, _⟩ := q1; obtain ⟨gm, _, q2, hgm, _⟩ := hc.dep 6 165 rfl rfl; have htm : f' 165 = .tuple #[.agg #[.int .u16 rop, .slice ro rws.length rc], .int .i64 re] := (by rw [q2.1, hgm 5 171 rfl rfl, htc]); exact Op1.extract (v := .int .i64 re) (evs htm rfl) rfl ⟨[], ⟨rfl, rfl⟩, hc.st⟩) <| RunD.op (fun v rs => ∃ b, v = .pointer (some ⟨b, 0, none⟩) ∧ rs = [Res.row b 62 [.int .u16 0, .slice none 0 0]]) tab40 10 (fun f' L' w' hc => Op1.alloc hc.st ty62 fun w b hst => ⟨[_], ⟨b, rfl, rfl⟩, hst⟩) <| RunD.over (fun g v rs => v = undef ∧ ∃ b, g 17 = .pointer (some ⟨b, 0, none⟩) ∧ ∀ ro rc, g 171 = .tuple #[.agg #[.int .u16 rop, .slice ro rws.length rc], .int .i64 re] → rs = [Res.row b 62 [.int .u16 rop, .slice ro rws.length rc]]) tab40 11 9 17 (.head _) rfl (fun f' L' L'' w' hc hq => by obtain ⟨_, rs, hz, _, hp⟩ := hq; obtain ⟨b, hb, hrs⟩ := hz; subst hrs; obtain ⟨_, _, q1, _⟩ := hc.dep 5 171 rfl rfl; obtain ⟨ro, rc, htc, _⟩ := q1; obtain ⟨gx, _, q3, hgx, _⟩ := hc.dep 7 172 rfl rfl; have htx := q3.1 ro rc ((hgx 5 171 rfl rfl).trans htc); have hst := hc.st.perm (hp.append_right _); exact Op1.store (v := .agg #[.int .u16 _, .slice _ _ _]) hst ty62 (evs hb rfl) (evs htx rfl) rfl rfl rfl .here (by repeat (first | exact Put.nil | apply Put.put | apply Put.skip)) fun w hst => ⟨[_], fun g hg => ⟨rfl, b, (hg 9 17 rfl rfl).trans hb, fun ro2 rc2 e => (by rw [hg 5 171 rfl rfl, htc] at e; cases e; rfl)⟩, hst⟩) ?_
         refine RunD.finT followsMixed tab40 hst rfl (fun f41 w R44 hs42 hd43 hr45 hst => ?_)
         obtain ⟨h166_, r0⟩ := hd43 0 166 rfl rfl
         obtain ⟨h167_, r1⟩ := hd43 1 167 rfl rfl
         obtain ⟨h168_, r2⟩ := hd43 2 168 rfl rfl
         obtain ⟨h169_, r3⟩ := hd43 3 169 rfl rfl
         obtain ⟨h170_, r4⟩ := hd43 4 170 rfl rfl
         obtain ⟨ro, rc, h171_, r5⟩ := hd43 5 171 rfl rfl
         obtain ⟨h165_, r6⟩ := hd43 6 165 rfl rfl
         rw [DrawTab.mask tab40 _ (j := 6) (l := 5) (t := 171) rfl rfl, h171_] at h165_
         obtain ⟨h172_, r7⟩ := hd43 7 172 rfl rfl
         replace h172_ := h172_ ro rc ((DrawTab.mask tab40 _ (j := 7) (l := 5) (t := 171) rfl rfl).trans h171_)
         obtain ⟨h173_, r8⟩ := hd43 8 173 rfl rfl
         obtain ⟨_, _, b17, h17_, r10⟩ := hr45 10 rfl
         rw [DrawTab.mask tab40 _ (j := 10) (l := 9) (t := 17) rfl rfl] at h17_
         replace r10 := r10 ro rc ((DrawTab.mask tab40 _ (j := 10) (l := 5) (t := 171) rfl rfl).trans h171_)
         simp only [show List.range 11 = [0, 1, 2, 3, 4, 5, 6, 7, 8, 9, 10] from rfl, List.flatMap_cons, List.flatMap_nil, List.map_cons, List.map_nil, show finR [(9, 10)] R44 0 = R44 0 from rfl, show finR [(9, 10)] R44 1 = R44 1 from rfl, show finR [(9, 10)] R44 2 = R44 2 from rfl, show finR [(9, 10)] R44 3 = R44 3 from rfl, show finR [(9, 10)] R44 4 = R44 4 from rfl, show finR [(9, 10)] R44 5 = R44 5 from rfl, show finR [(9, 10)] R44 6 = R44 6 from rfl, show finR [(9, 10)] R44 7 = R44 7 from rfl, show finR [(9, 10)] R44 8 = R44 8 from rfl, show finR [(9, 10)] R44 9 = [] from rfl, show finR [(9, 10)] R44 10 = R44 10 from rfl, r0, r1, r2, r3, r4, r5, r6, r7, r8, r10, List.nil_append, List.append_nil, List.cons_append] at hst
         refine RunL.slots (sl := [(0, .pointer (some ⟨_, _, none⟩)), (2, .pointer (some ⟨_, _, none⟩)), (4, .pointer (some ⟨_, _, none⟩)), (173, .int .i64 _)]) ⟨(hs42 0 rfl).trans rfl, (hs42 2 rfl).trans rfl, (hs42 4 rfl).trans rfl, h173_, trivial⟩ ?_
         clear hs42 hd43 hr45 tab40
         refine AI rfl <| NL <| Run.forget [(0, .pointer (some ⟨_, _, none⟩)), (2, .pointer (some ⟨_, _, none⟩)), (4, .pointer (some ⟨_, _, none⟩)), (18, .int .i64 _)] ⟨rfl, rfl, rfl, rfl, trivial⟩ fun f => SR <| MI rfl <| CN <| Op1.neq rfl rfl <| NL <| run_cond_dec rfl (fun g46 => ?_) (fun g46 => ?_)
         · skip
           refine SQ ?_
           replace hst := hst.pick (.cons (.there (.there (.here))) (.cons (.here) (.cons (.here) (.cons (.here) (.cons (.here) (.cons (.here) (.cons (.here) (.cons (.here) (.cons (.here) (.cons (.here) .nil))))))))))
           apply RunD.start [(3, Res.row bq 130 _, Res.emp)] hst (bs := [0, 0, 0, 6, 15, 31]) (ds := [some 176, some 177, some 178, some 179, none, some 3]) (htab := ⟨by kernel_rfl, by kernel_rfl, by kernel_rfl⟩)
           intro tab47
           refine RunD.op (det _) tab47 1 (fun f' L' w' hc => Op1.loadA (vs := [.int .u16 _, .int .u32 _, .int .u32 _, .slice _ _ _]) ty44 rfl (hc.old (v := .pointer (some ⟨_, _, none⟩)) rfl rfl rfl) rfl (cells_of_obj (n := 4) (hc.st.objL (List.mem_append_right _ (.tail _ (.tail _ (.tail _ (.tail _ (.head _))))))) _ rfl) ⟨[], ⟨rfl, rfl⟩, hc.st⟩) <| RunD.op (det _) tab47 2 (fun f' L' w' hc => Op1.move (v := .pointer (some ⟨_, _, none⟩)) (hc.old (v := .pointer (some ⟨_, _, none⟩)) rfl rfl rfl) ⟨[], ⟨rfl, rfl⟩, hc.st⟩) <| RunD.op (det _) tab47 3 (fun f' L' w' hc => Op1.move (v := .int .i64 _) (hc.old (v := .int .i64 _) rfl rfl rfl) ⟨[], ⟨rfl, rfl⟩, hc.st⟩) <| RunD.ownC (fun g v rs => v = .bool false ∧ rs = [Res.row bq 130 [str s, .slice (some ⟨bT, 0, none⟩) l.length cp, .int .i64 (((q + j : Nat) : Int) : Int), .int .u32 bound, .int .i64 re, .int .i64 0]]) tab47 4 (.head _) (fun f' L' L'' w' hc ⟨X, hrem, hX⟩ => Op1.call3 (v1 := .pointer (some ⟨_, _, none⟩)) (v2 := .int .i64 _) (v3 := .int .i64 _) ent128 rfl (hc.det (j := 1) rfl rfl rfl rfl) (hc.det (j := 2) rfl rfl rfl rfl) rfl ((R7as_fails bq s _ cp l (q + j) bound e p re 0 _ (hc.st.hL _ hrem.mem2)).mono fun v w hp => ⟨[_], fun g hg => ⟨hp.1, rfl⟩, hX _ _ (St.callRem hc.st hrem hp.2)⟩)) <| RunD.fin followsMixed tab47 hst rfl (fun f48 w R51 hs49 hd50 hr52 hst => ?_)
           obtain ⟨h176_, r0⟩ := hd50 0 176 rfl rfl
           obtain ⟨h177_, r1⟩ := hd50 1 177 rfl rfl
           obtain ⟨h178_, r2⟩ := hd50 2 178 rfl rfl
           obtain ⟨h179_, r3⟩ := hd50 3 179 rfl rfl
           simp only [show List.range 4 = [0, 1, 2, 3] from rfl, List.flatMap_cons, List.flatMap_nil, List.map_cons, List.map_nil, r0, r1, r2, r3, List.nil_append, List.append_nil, List.cons_append] at hst
           refine RunL.slots (sl := [(2, .pointer (some ⟨_, _, none⟩)), (176, .agg #[.int .u16 _, .int .u32 _, .int .u32 _, .slice _ _ _]), (179, .bool _)]) ⟨(hs49 2 rfl).trans rfl, h176_, h179_, trivial⟩ ?_
           clear hs49 hd50 hr52 tab47
           refine CN (SO (v := .agg #[.int .u16 _, .int .u32 _, .int .u32 _, .slice _ _ _]) hst ty44 rfl rfl (.there (.there (.there (.there (.there (.there (.there (.there (.there (.there (.here))))))))))) fun w hst => ?_)
           refine AB rfl <| NL <| run_ret2 Tryz.func74 rfl (RV.cellA (vs := [.int .u16 _, .int .u32 _, .int .u32 _, .slice _ _ _]) rfl ty44 rfl rfl (cells_of_obj (n := 4) (hst.objL (.tail _ (.tail _ (.tail _ (.tail _ (.tail _ (.tail _ (.tail _ (.tail _ (.tail _ (.tail _ (.head _)))))))))))) _ rfl)) (TP (v := .bool _) rfl) ?_
           replace hst := hst.pick (.cons (.here) .nil)
           exact .inl ⟨_, _, _, _, _, _, _, _, _, hI.wrong hJ (by omega) hfit hre g46, rfl, hst.noD⟩
         refine run_skip <| SR <| CN <| Op1.loadA (vs := [.int .u16 _, .int .u32 _, .int .u32 _, .slice _ _ _]) ty44 rfl rfl rfl (cells_of_obj (n := 4) (hst.objL (.tail _ (.tail _ (.tail _ (.tail _ (.tail _ (.head _))))))) _ rfl) <| CN (SO (v := .agg #[.int .u16 _, .int .u32 _, .int .u32 _, .slice _ _ _]) hst ty44 rfl rfl (.there (.there (.there (.there (.there (.there (.there (.there (.there (.here)))))))))) fun w hst => ?_)
         refine AB rfl <| NL <| run_ret2 Tryz.func74 rfl (RV.cellA (vs := [.int .u16 _, .int .u32 _, .int .u32 _, .slice _ _ _]) rfl ty44 rfl rfl (cells_of_obj (n := 4) (hst.objL (.tail _ (.tail _ (.tail _ (.tail _ (.tail _ (.tail _ (.tail _ (.tail _ (.tail _ (.head _))))))))))) _ rfl)) (TP (v := .bool _) rfl) ?_
         replace hst := hst.pick (.cons (.there (.there (.here))) (.cons (.there (.there (.there (.here)))) .nil))
         exact .inr ⟨⟨fm.op, ty, res, xo, xc, ags⟩, _, hI.good hJ (by omega) hfit hre (by omega), hsm.1, hsm.2, hop0, rfl, hst.noD⟩
       · skip
         refine SR <| CN <| Op1.fieldAddr fld113_2 rfl <| CN <| Op1.load1 (v := .bool _) ty4 rfl rfl (hst.cellL (.tail _ (.tail _ (.tail _ (.tail _ (.head _))))) rfl) <| NL <| run_cond_split rfl (fun g53 => ?_) (fun g53 => ?_)
         · skip
           refine SR <| MP rfl ?_
           replace hst := hst.pick (.cons (.there (.here)) (.cons (.here) (.cons (.here) (.cons (.here) (.cons (.here) (.cons (.here) .nil))))))
           refine CN (Op1.call1 (v1 := .pointer (some ⟨_, _, none⟩)) ent130 rfl rfl ((R7as_id _ _ _ _ l (m + 1) _ _ _ _ (hst.hL _ (.head _)) (hst.hD _ (.head _)) (hst.sepD _ (.head _) _ (.head _)) hl hll hts hbd hpl).mono fun v w hp => ?_))
           rcases hp with ⟨hk96, rfl, hp⟩ | ⟨hk96, hd96, rfl, hp⟩ | ⟨hk96, hd96, he96, rfl, hp⟩ | ⟨hk96, hd96, he96, rfl, hp⟩
           · skip
             replace hst := hst.call1 hp
             clear hp
             refine CN <| Op1.move (v := .tuple #[.int .u32 _, .bool _]) rfl <| CN <| Op1.extract (v := .int .u32 _) rfl rfl <| CN <| Op1.extract (v := .bool _) rfl rfl <| CN <| Op1.fieldAddr fld44_1 rfl <| CN (SO (v := .int .u32 _) hst ty22 rfl rfl (.there (.here)) fun w hst => ?_)
             refine AB rfl <| NSR <| MB rfl <| CN <| Op1.not rfl <| NL <| run_cond_true (congrArg Value.bool (congrArg not (rfl : false = _))) <| SR <| CN <| Op1.loadA (vs := [.int .u16 _, .int .u32 _, .int .u32 _, .slice _ _ _]) ty44 rfl rfl rfl (cells_of_obj (n := 4) (hst.objL (.tail _ (.head _))) _ rfl) <| CN (SO (v := .agg #[.int .u16 _, .int .u32 _, .int .u32 _, .slice _ _ _]) hst ty44 rfl rfl (.there (.there (.there (.there (.there (.here)))))) fun w hst => ?_)
             refine AB rfl <| NL <| run_ret2 Tryz.func74 rfl (RV.cellA (vs := [.int .u16 _, .int .u32 _, .int .u32 _, .slice _ _ _]) rfl ty44 rfl rfl (cells_of_obj (n := 4) (hst.objL (.tail _ (.tail _ (.tail _ (.tail _ (.tail _ (.head _))))))) _ rfl)) (TP (v := .bool _) rfl) ?_
             replace hst := hst.pick (.cons (.here) .nil)
             exact .inl ⟨_, _, _, _, _, _, _, _, _, hC.early g53 hk96, rfl, hst.noD⟩
           · skip
             replace hst := hst.call1 hp
             clear hp
             refine CN <| Op1.move (v := .tuple #[.int .u32 _, .bool _]) rfl <| CN <| Op1.extract (v := .int .u32 _) rfl rfl <| CN <| Op1.extract (v := .bool _) rfl rfl <| CN <| Op1.fieldAddr fld44_1 rfl <| CN (SO (v := .int .u32 _) hst ty22 rfl rfl (.there (.here)) fun w hst => ?_)
             refine AB rfl <| NSR <| MB rfl <| CN <| Op1.not rfl <| NL <| run_cond_true (congrArg Value.bool (congrArg not (rfl : false = _))) <| SR <| CN <| Op1.loadA (vs := [.int .u16 _, .int .u32 _, .int .u32 _, .slice _ _ _]) ty44 rfl rfl rfl (cells_of_obj (n := 4) (hst.objL (.tail _ (.head _))) _ rfl) <| CN (SO (v := .agg #[.int .u16 _, .int .u32 _, .int .u32 _, .slice _ _ _]) hst ty44 rfl rfl (.there (.there (.there (.there (.there (.here)))))) fun w hst => ?_)
             refine AB rfl <| NL <| run_ret2 Tryz.func74 rfl (RV.cellA (vs := [.int .u16 _, .int .u32 _, .int .u32 _, .slice _ _ _]) rfl ty44 rfl rfl (cells_of_obj (n := 4) (hst.objL (.tail _ (.tail _ (.tail _ (.tail _ (.tail _ (.head _))))))) _ rfl)) (TP (v := .bool _) rfl) ?_
             replace hst := hst.pick (.cons (.here) .nil)
             exact .inl ⟨_, _, _, _, _, _, _, _, _, hC.notid g53 hk96 hd96, rfl, hst.noD⟩
           · skip
             replace hst := hst.call1 hp
             clear hp
             refine CN <| Op1.move (v := .tuple #[.int .u32 _, .bool _]) rfl <| CN <| Op1.extract (v := .int .u32 _) rfl rfl <| CN <| Op1.extract (v := .bool _) rfl rfl <| CN <| Op1.fieldAddr fld44_1 rfl <| CN (SO (v := .int .u32 _) hst ty22 rfl rfl (.there (.here)) fun w hst => ?_)
             refine AB rfl <| NSR <| MB rfl <| CN <| Op1.not rfl <| NL <| run_cond_true (congrArg Value.bool (congrArg not (rfl : false = _))) <| SR <| CN <| Op1.loadA (vs := [.int .u16 _, .int .u32 _, .int .u32 _, .slice _ _ _]) ty44 rfl rfl rfl (cells_of_obj (n := 4) (hst.objL (.tail _ (.head _))) _ rfl) <| CN (SO (v := .agg #[.int .u16 _, .int .u32 _, .int .u32 _, .slice _ _ _]) hst ty44 rfl rfl (.there (.there (.there (.there (.there (.here)))))) fun w hst => ?_)
             refine AB rfl <| NL <| run_ret2 Tryz.func74 rfl (RV.cellA (vs := [.int .u16 _, .int .u32 _, .int .u32 _, .slice _ _ _]) rfl ty44 rfl rfl (cells_of_obj (n := 4) (hst.objL (.tail _ (.tail _ (.tail _ (.tail _ (.tail _ (.head _))))))) _ rfl)) (TP (v := .bool _) rfl) ?_
             replace hst := hst.pick (.cons (.here) .nil)
             exact .inl ⟨_, _, _, _, _, _, _, _, _, hC.noid g53 hk96 hd96 he96, rfl, hst.noD⟩
           · skip
             replace hst := hst.call1 hp
             clear hp
             refine CN <| Op1.move (v := .tuple #[.int .u32 _, .bool _]) rfl <| CN <| Op1.extract (v := .int .u32 _) rfl rfl <| CN <| Op1.extract (v := .bool _) rfl rfl <| CN <| Op1.fieldAddr fld44_1 rfl <| CN (SO (v := .int .u32 _) hst ty22 rfl rfl (.there (.here)) fun w hst => ?_)
             refine AB rfl <| NSR <| MB rfl <| CN <| Op1.not rfl <| NL <| run_cond_false (congrArg Value.bool (congrArg not (rfl : true = _))) <| run_skip ?_
             replace hst := hst.pick (.cons (.there (.here)) (.cons (.here) (.cons (.here) (.cons (.here) (.cons (.here) (.cons (.here) .nil))))))
             exact cut18 ((idL (l.getD (m + 1) tok0).text bound, m + 2)) _ w (hst) (LnI.yes hC g53 rfl he96 hk96 hd96) ⟨rfl, rfl, rfl, rfl, rfl, trivial⟩ trivial
         refine run_skip ?_
         exact cut18 ((0, m + 1)) _ w (hst) (LnI.no hC (by simpa using g53)) ⟨rfl, rfl, rfl, rfl, rfl, trivial⟩ trivial
     · skip
       refine SR <| MB rfl <| NL <| run_cond_dec rfl (fun g54 => ?_) (fun g54 => ?_)
       · skip
         refine SR <| MP rfl <| CN <| Op1.fieldAddr fld72_1 rfl <| CN (Op1.load1 (v := str _) ty9 rfl rfl (hst.cellL (.tail _ (.tail _ (.head _))) rfl) ?_)
         obtain ⟨m0, hm0⟩ := hpl 0 h0 g54
         replace hst := hst.pick (.cons (.there (.here)) (.cons (.here) (.cons (.here) (.cons (.here) (.cons (.here) (.cons (.here) .nil))))))
         refine CN (Op1.call2 (v1 := .pointer (some ⟨_, _, none⟩)) (v2 := str _) ent129 rfl rfl rfl ((R7as_named _ _ _ _ _ _ _ _ _ _ m0 hm0 _ (hst.hL _ (.head _)) hbd).mono fun v w hp => ?_))
         obtain ⟨rfl, hp⟩ := hp
         replace hst := hst.call1 hp
         clear hp
         refine CN <| Op1.fieldAddr fld44_2 rfl <| CN (SO (v := .int .u32 _) hst ty22 rfl rfl (.there (.here)) fun w hst => ?_)
         refine NSR <| CN <| Op1.fieldAddr fld44_2 rfl <| CN <| Op1.load1 (v := .int .u32 _) ty22 rfl rfl (hst.cellL (.tail _ (.head _)) rfl) <| CN <| Op1.eql rfl rfl <| NL <| run_cond_dec rfl (fun g55 => ?_) (fun g55 => ?_)
         · skip
           refine SQ ?_
           apply RunD.start [(4, Res.row bq 130 _, Res.emp)] hst (bs := [0, 0, 0, 4, 14, 31, 63]) (ds := [some 87, some 88, some 89, some 90, some 91, none, some 3]) (htab := ⟨by kernel_rfl, by kernel_rfl, by kernel_rfl⟩)
           intro tab56
           refine RunD.op (det _) tab56 1 (fun f' L' w' hc => Op1.loadA (vs := [.int .u16 _, .int .u32 _, .int .u32 _, .slice _ _ _]) ty44 rfl (hc.old (v := .pointer (some ⟨_, _, none⟩)) rfl rfl rfl) rfl (cells_of_obj (n := 4) (hc.st.objL (List.mem_append_right _ (.head _))) _ rfl) ⟨[], ⟨rfl, rfl⟩, hc.st⟩) <| RunD.op (det _) tab56 2 (fun f' L' w' hc => Op1.move (v := .pointer (some ⟨_, _, none⟩)) (hc.old (v := .pointer (some ⟨_, _, none⟩)) rfl rfl rfl) ⟨[], ⟨rfl, rfl⟩, hc.st⟩) <| RunD.op (det _) tab56 3 (fun f' L' w' hc => Op1.fieldAddr fld72_2 (hc.old (v := .pointer (some ⟨_, _, none⟩)) rfl rfl rfl) ⟨[], ⟨rfl, rfl⟩, hc.st⟩) <| RunD.op (det _) tab56 4 (fun f' L' w' hc => Op1.load1 (v := .int .i64 _) ty3 rfl (hc.det (j := 2) rfl rfl rfl rfl) (hc.st.cellL (List.mem_append_right _ (.tail _ (.head _))) rfl) ⟨[], ⟨rfl, rfl⟩, hc.st⟩) <| RunD.ownC (fun g v rs => v = .bool false ∧ rs = [Res.row bq 130 [str s, .slice (some ⟨bT, 0, none⟩) l.length cp, .int .i64 (((m + 1 : Nat) : Int) : Int), .int .u32 bound, .int .i64 43, .int .i64 ((l.getD 0 tok0).at_)]]) tab56 5 (.head _) (fun f' L' L'' w' hc ⟨X, hrem, hX⟩ => Op1.call3 (v1 := .pointer (some ⟨_, _, none⟩)) (v2 := .int .i64 _) (v3 := .int .i64 _) ent128 rfl (hc.det (j := 1) rfl rfl rfl rfl) rfl (hc.det (j := 3) rfl rfl rfl rfl) ((R7as_fails bq s _ cp l (m + 1) bound e p 43 ((l.getD 0 tok0).at_) _ (hc.st.hL _ hrem.mem2)).mono fun v w hp => ⟨[_], fun g hg => ⟨hp.1, rfl⟩, hX _ _ (St.callRem hc.st hrem hp.2)⟩)) <| RunD.fin followsMixed tab56 hst rfl (fun f57 w R60 hs58 hd59 hr61 hst => ?_)
           obtain ⟨h87_, r0⟩ := hd59 0 87 rfl rfl
           obtain ⟨h88_, r1⟩ := hd59 1 88 rfl rfl
           obtain ⟨h89_, r2⟩ := hd59 2 89 rfl rfl
           obtain ⟨h90_, r3⟩ := hd59 3 90 rfl rfl
           obtain ⟨h91_, r4⟩ := hd59 4 91 rfl rfl
           simp only [show List.range 5 = [0, 1, 2, 3, 4] from rfl, List.flatMap_cons, List.flatMap_nil, List.map_cons, List.map_nil, r0, r1, r2, r3, r4, List.nil_append, List.append_nil, List.cons_append] at hst
           refine RunL.slots (sl := [(2, .pointer (some ⟨_, _, none⟩)), (87, .agg #[.int .u16 _, .int .u32 _, .int .u32 _, .slice _ _ _]), (91, .bool _)]) ⟨(hs58 2 rfl).trans rfl, h87_, h91_, trivial⟩ ?_
           clear hs58 hd59 hr61 tab56
           refine CN (SO (v := .agg #[.int .u16 _, .int .u32 _, .int .u32 _, .slice _ _ _]) hst ty44 rfl rfl (.there (.there (.there (.there (.there (.there (.here))))))) fun w hst => ?_)
           refine AB rfl <| NL <| run_ret2 Tryz.func74 rfl (RV.cellA (vs := [.int .u16 _, .int .u32 _, .int .u32 _, .slice _ _ _]) rfl ty44 rfl rfl (cells_of_obj (n := 4) (hst.objL (.tail _ (.tail _ (.tail _ (.tail _ (.tail _ (.tail _ (.head _)))))))) _ rfl)) (TP (v := .bool _) rfl) ?_
           replace hst := hst.pick (.cons (.here) .nil)
           exact .inl ⟨_, _, _, _, _, _, _, _, _, hB.noid hrs g54 g55, rfl, hst.noD⟩
         refine run_skip ?_
         replace hst := hst.pick (.cons (.there (.here)) (.cons (.here) (.cons (.here) (.cons (.here) (.cons (.here) (.cons (.here) .nil))))))
         exact cut16 ((idL (l.getD 0 tok0).text bound)) _ w (hst) (⟨fun _ => ⟨rfl, g55⟩, fun q => absurd g54 q⟩) ⟨rfl, rfl, rfl, rfl, rfl, trivial⟩ trivial
       refine run_skip ?_
       exact cut16 (0) _ w (hst) (⟨fun q => absurd q g54, fun _ => rfl⟩) ⟨rfl, rfl, rfl, rfl, rfl, trivial⟩ trivial
 · skip
   refine SR <| MB rfl <| CN <| Op1.notD rfl <| NL <| run_cond_dec rfl (fun g62 => ?_) (fun g62 => ?_)
   · skip
     refine run_goto rfl (SQ (run_skip ?_))
     exact cut1 (0) _ w (hst) (LnA.start h0 g62) ⟨rfl, rfl, rfl, rfl, rfl, rfl, rfl, rfl, trivial⟩ trivial
   refine run_skip <| SR <| MP rfl <| CN <| Op1.nilCheckP rfl <| CN <| Op1.fieldAddr fld130_2 rfl <| CN <| Op1.load1 (v := .int .i64 _) ty3 rfl rfl (hst.cellL (.head _) rfl) <| CN <| Op1.addN rfl rfl rfl (wrap_i64 (by omega) (by omega)) <| CN <| Op1.nilCheckP rfl <| CN <| Op1.fieldAddr fld130_2 rfl <| CN (SO (v := .int .i64 _) hst ty3 rfl rfl (.here) fun w hst => ?_)
   refine NL <| SQ <| SR <| MP rfl <| CN (Op1.call2 (v1 := .pointer (some ⟨_, _, none⟩)) (v2 := .int .u8 _) ent126 rfl rfl rfl ((R7as_take _ _ _ _ l 1 _ _ _ 5 _ (hst.hL _ (.head _)) (hst.hD _ (.head _)) (hst.sepD _ (.head _) _ (.head _)) hl hll hts).mono fun v w hp => ?_))
   rcases hp with ⟨hk39, rfl, hp⟩ | ⟨hk39, hd39, rfl, hp⟩ | ⟨hk39, hd39, rfl, hp⟩
   · skip
     replace hst := hst.call1 hp
     clear hp
     refine CN <| Op1.move (v := .tuple #[.agg #[.int .u8 _, str _, .int .i64 _], .bool _]) rfl <| CN <| Op1.extract (v := .agg #[.int .u8 _, str _, .int .i64 _]) rfl rfl <| CN <| Op1.extract (v := .bool _) rfl rfl <| AB rfl <| NSR <| MB rfl <| CN <| Op1.not rfl <| NL <| run_cond_true (congrArg Value.bool (congrArg not (rfl : false = _))) <| SR <| CN <| Op1.loadA (vs := [.int .u16 _, .int .u32 _, .int .u32 _, .slice _ _ _]) ty44 rfl rfl rfl (cells_of_obj (n := 4) (hst.objL (.tail _ (.tail _ (.tail _ (.tail _ (.head _)))))) _ rfl) <| CN (SO (v := .agg #[.int .u16 _, .int .u32 _, .int .u32 _, .slice _ _ _]) hst ty44 rfl rfl (.there (.there (.there (.there (.there (.here)))))) fun w hst => ?_)
     refine AB rfl <| NL <| run_ret2 Tryz.func74 rfl (RV.cellA (vs := [.int .u16 _, .int .u32 _, .int .u32 _, .slice _ _ _]) rfl ty44 rfl rfl (cells_of_obj (n := 4) (hst.objL (.tail _ (.tail _ (.tail _ (.tail _ (.tail _ (.head _))))))) _ rfl)) (TP (v := .bool _) rfl) ?_
     replace hst := hst.pick (.cons (.here) .nil)
     exact .inl ⟨_, _, _, _, _, _, _, _, _, line_one (Classical.not_not.1 g62) h0 hk39, rfl, hst.noD⟩
   · skip
     replace hst := hst.call1 hp
     clear hp
     refine CN <| Op1.move (v := .tuple #[.agg #[.int .u8 _, str _, .int .i64 _], .bool _]) rfl <| CN <| Op1.extract (v := .agg #[.int .u8 _, str _, .int .i64 _]) rfl rfl <| CN <| Op1.extract (v := .bool _) rfl rfl <| AB rfl <| NSR <| MB rfl <| CN <| Op1.not rfl <| NL <| run_cond_true (congrArg Value.bool (congrArg not (rfl : false = _))) <| SR <| CN <| Op1.loadA (vs := [.int .u16 _, .int .u32 _, .int .u32 _, .slice _ _ _]) ty44 rfl rfl rfl (cells_of_obj (n := 4) (hst.objL (.tail _ (.tail _ (.tail _ (.tail _ (.head _)))))) _ rfl) <| CN (SO (v := .agg #[.int .u16 _, .int .u32 _, .int .u32 _, .slice _ _ _]) hst ty44 rfl rfl (.there (.there (.there (.there (.there (.here)))))) fun w hst => ?_)
     refine AB rfl <| NL <| run_ret2 Tryz.func74 rfl (RV.cellA (vs := [.int .u16 _, .int .u32 _, .int .u32 _, .slice _ _ _]) rfl ty44 rfl rfl (cells_of_obj (n := 4) (hst.objL (.tail _ (.tail _ (.tail _ (.tail _ (.tail _ (.head _))))))) _ rfl)) (TP (v := .bool _) rfl) ?_
     replace hst := hst.pick (.cons (.here) .nil)
     exact .inl ⟨_, _, _, _, _, _, _, _, _, line_noeq (Classical.not_not.1 g62) hk39 hd39, rfl, hst.noD⟩
   · skip
     replace hst := hst.call1 hp
     clear hp
     refine CN <| Op1.move (v := .tuple #[.agg #[.int .u8 _, str _, .int .i64 _], .bool _]) rfl <| CN <| Op1.extract (v := .agg #[.int .u8 _, str _, .int .i64 _]) rfl rfl <| CN <| Op1.extract (v := .bool _) rfl rfl <| AB rfl <| NSR <| MB rfl <| CN <| Op1.not rfl <| NL <| run_cond_false (congrArg Value.bool (congrArg not (rfl : true = _))) <| run_skip <| SQ <| run_label ?_
     exact cut1 (2) _ w (hst) (LnA.said (Classical.not_not.1 g62) hk39 hd39) ⟨rfl, rfl, rfl, rfl, rfl, rfl, rfl, rfl, trivial⟩ trivial
end Go.SK
namespace Go.SK
open Go Go.Proofs
theorem ent74 : Enters Tryz.prog 74 := ⟨Tryz.f74, _, Tryz.func74, by kernel_rfl, rfl⟩
end Go.SK
