/-
  Walks of functions, and of the laws over them.
-/
import Derived.Test.YtheckaonphmmiaaSkGrP
import Derived.Test.YtheckaonphmmiaaSkGrP2
import Derived.Test.YtheckaonphmmiaaSkQ
import Derived.Test.YtheckaonphmmiaaSkR2GrG
import Derived.Test.YtheckaonphmmiaaSkR2GrHF
set_option linter.unusedVariables false
set_option linter.unusedSimpArgs false
namespace Go.SK
open Go Go.Proofs
open Go.RowKit
theorem R2gr_Fits (op : Int) (h0 : 0 ≤ op) (ks : List Int) (ao : Option Addr) (cp : Nat) (w : World) (hA : (Res.rs ao ks.length 1 (ks.flatMap u8C)).holds w) (hlen : ks.length ≤ 9000000000000000000) : Ret Try.prog 29 #[.int .u16 op, .slice ao ks.length cp] w (fun v w' => v = fitsV (fitsS op ks) ∧ St w NoM [] [] w') := by
  refine Ret.enter (args := [.int .u16 op, .slice ao ks.length cp]) Try.func29 rfl rfl rfl ?_
  have hst : St w NoM [] [Res.rs ao ks.length 1 (ks.flatMap u8C)] w := St.init_D hA
  clear hA
  obtain ⟨fm, hfm⟩ : ∃ x, refD op = x := ⟨_, rfl⟩
  obtain ⟨ob, hob⟩ : ∃ x, (refS op).isSome = x := ⟨_, rfl⟩
  have hf := refD_fok op
  rw [hfm] at hf
  have hz : ob = false → fm = zeroF := fun e => by subst e; rw [← hfm]; exact refD_none hob
  obtain ⟨hop, hmost, hfx, hrs, _, _, _, _⟩ := hf
  refine run_seq ?_
  refine run_region ?_
  refine RunL.cons (Op1.assign (v := .int .i64 _) rfl ?_)
  refine RunL.cons (Op1.assign (v := .bool _) rfl ?_)
  refine RunL.nil ?_
  refine run_seq ?_
  refine run_region ?_
  refine RunL.cons (Op1.move (v := .int .u16 _) rfl ?_)
  refine RunL.cons (Op1.call1 (v1 := .int .u16 _) ent19 rfl rfl ((R2gr_Of2 (by omega) hfm hob _).mono fun v w hp => ?_))
  obtain ⟨rfl, hp⟩ := hp
  replace hst := hst.keepc hp
  clear hp
  refine RunL.cons (Op1.move (v := .tuple #[.agg #[.int .u16 _, str _, .bool _, .bool _, str _, str _, .int .i64 _, .int .u8 _], .bool _]) rfl ?_)
  refine RunL.cons (Op1.extract (v := .agg #[.int .u16 _, str _, .bool _, .bool _, str _, str _, .int .i64 _, .int .u8 _]) rfl rfl ?_)
  refine RunL.cons (Op1.extract (v := .bool _) rfl rfl ?_)
  refine RunL.cons (Op1.alloc hst ty38 fun w b6 hst => ?_)
  refine RunL.cons (Op1.store (v := .agg #[.int .u16 _, str _, .bool _, .bool _, str _, str _, .int .i64 _, .int .u8 _]) hst ty38 rfl rfl rfl rfl rfl (.here) (by repeat (first | exact Put.nil | apply Put.put | apply Put.skip)) fun w hst => ?_)
  refine RunL.cons (Op1.assign (v := .bool _) rfl ?_)
  refine RunL.nil ?_
  refine run_seq ?_
  refine run_seq ?_
  refine run_region ?_
  refine RunL.cons (Op1.move (v := .bool _) rfl ?_)
  refine RunL.cons (Op1.not rfl ?_)
  refine RunL.nil ?_
  refine run_cond_split rfl (fun g1 => ?_) (fun g1 => ?_)
  · skip
    refine run_seq ?_
    refine run_region ?_
    refine RunL.cons (Op1.assign (v := .int .i64 _) rfl ?_)
    refine RunL.cons (Op1.assign (v := .bool _) rfl ?_)
    refine RunL.nil ?_
    refine run_ret2 Try.func29 rfl (RV.tmp (v := .int .i64 _) rfl) (RV.tmp (v := .bool _) rfl) ?_
    exact ⟨(congrArg fitsV (fits_no hob (by simpa using g1))).symm, hst.pure⟩
  refine run_skip ?_
  refine run_seq ?_
  refine run_region ?_
  refine RunL.cons (Op1.loadA (vs := [.int .u16 _, str _, .bool _, .bool _, str _, str _, .int .i64 _, .int .u8 _]) ty38 rfl rfl rfl (cells_of_obj (n := 8) (hst.objL (.head _)) _ rfl) ?_)
  refine RunL.cons (Op1.buildStruct ty68 stf68 (.cons rfl (v := .agg #[.int .u16 _, str _, .bool _, .bool _, str _, str _, .int .i64 _, .int .u8 _]) rfl rfl rfl rfl (by repeat (first | exact Put.nil | apply Put.put | apply Put.skip)) .nil) ?_)
  refine RunL.cons (Op1.alloc hst ty68 fun w b8 hst => ?_)
  refine RunL.cons (Op1.store (v := .agg #[.int .u16 _, str _, .bool _, .bool _, str _, str _, .int .i64 _, .int .u8 _]) hst ty68 rfl rfl rfl rfl rfl (.here) (by repeat (first | exact Put.nil | apply Put.put | apply Put.skip)) fun w hst => ?_)
  refine RunL.nil ?_
  refine run_seq ?_
  refine run_seq ?_
  refine run_region ?_
  refine RunL.cons (Op1.move (v := .slice _ _ _) rfl ?_)
  refine RunL.cons (Op1.lenSl (rest := []) ty53 rfl ?_)
  refine RunL.cons (Op1.move (v := .int .i64 _) rfl ?_)
  refine RunL.nil ?_
  refine run_block ?_
  refine run_loop ?_
  refine Run.indW [(1, .slice _ _ _), (8, .pointer (some ⟨_, _, none⟩)), (21, .slice _ _ _), (22, .int .i64 _)] ⟨rfl, rfl, rfl, rfl, trivial⟩ (fun (i : Nat) => [(23, .int .i64 (i : Int))]) (fun (i : Nat) => []) (fun (i : Nat) => i ≤ ks.length ∧ badI fm i (ks.drop i) = badI fm 0 ks) (fun (i : Nat) => ks.length - i) (0) hst ⟨Nat.zero_le _, rfl⟩ ⟨rfl, trivial⟩ ?_
  intro i f w hst hJ ih2
  refine run_seq ?_
  refine run_region ?_
  refine RunL.cons (Op1.lss rfl rfl ?_)
  refine RunL.nil ?_
  refine run_seq ?_
  refine run_cond_dec rfl (fun g3 => ?_) (fun g3 => ?_)
  · skip
    refine run_skip ?_
    refine run_seq ?_
    refine run_block ?_
    refine run_seq ?_
    refine run_region ?_
    refine RunL.cons (Op1.move (v := .int .i64 _) rfl ?_)
    obtain ⟨bs4, os5, rfl⟩ := Res.rs_some (hst.hD _ (.head _)) (by omega)
    refine RunL.cons (Op1.indexSl ty53 ty5 rfl rfl (by omega) (by omega) ?_)
    refine RunL.cons (Op1.load1 (v := .int .u8 _) ty5 rfl rfl (Res.rs_cell (hst.hD _ (.head _)) (flat_cell0 (g := u8C) (d := 0) u8C_len rfl (by omega))) ?_)
    refine RunL.cons (Op1.assign (v := .int .i64 _) rfl ?_)
    refine RunL.cons (Op1.assign (v := .int .u8 _) rfl ?_)
    refine RunL.nil ?_
    refine run_seq ?_
    refine run_region ?_
    refine RunL.cons (Op1.move (v := .int .u8 _) rfl ?_)
    refine RunL.cons (Op1.eql rfl rfl ?_)
    refine RunL.cons (Op1.move (v := .bool _) rfl ?_)
    refine RunL.splitD (d := 30) rfl (fun g6 => ?_) (fun g6 => ?_)
    · skip
      refine RunL.omit (t := 30) rfl (congrArg Value.bool (decide_eq_true g6)) rfl ?_
      refine RunL.omit (t := 30) rfl (congrArg Value.bool (decide_eq_true g6)) rfl ?_
      refine RunL.omit (t := 30) rfl (congrArg Value.bool (decide_eq_true g6)) rfl ?_
      refine RunL.omit (t := 30) rfl (congrArg Value.bool (decide_eq_true g6)) rfl ?_
      refine RunL.omit (t := 30) rfl (congrArg Value.bool (decide_eq_true g6)) rfl ?_
      refine RunL.omit (t := 30) rfl (congrArg Value.bool (decide_eq_true g6)) rfl ?_
      refine RunL.cons (Op1.pickT (u := .bool _) (congrArg Value.bool (decide_eq_true g6)) rfl ?_)
      refine RunL.nil ?_
      refine run_cond_true (congrArg Value.bool (rfl : true = _)) ?_
      refine run_seq ?_
      refine run_region ?_
      refine RunL.cons (Op1.move (v := .int .i64 _) rfl ?_)
      refine RunL.cons (Op1.assign (v := .int .i64 _) rfl ?_)
      refine RunL.cons (Op1.assign (v := .bool _) rfl ?_)
      refine RunL.nil ?_
      refine run_ret2 Try.func29 rfl (RV.tmp (v := .int .i64 _) rfl) (RV.tmp (v := .bool _) rfl) ?_
      exact ⟨(congrArg fitsV ((fits_yes hob hfm (by simpa using g1)).trans (fitsF_bad (bad_hit hJ.2 (by omega) (.inl g6))))).symm, hst.pure⟩
    refine RunL.take (t := 30) rfl (congrArg Value.bool (decide_eq_false g6)) (Op1.loadA (vs := [.int .u16 _, str _, .bool _, .bool _, str _, str _, .int .i64 _, .int .u8 _]) ty68 rfl rfl rfl (cells_of_obj (n := 8) (hst.objL (.head _)) _ rfl) ?_)
    refine RunL.take (t := 30) rfl (congrArg Value.bool (decide_eq_false g6)) (Op1.move (v := .int .i64 _) rfl ?_)
    refine RunL.take (t := 30) rfl (congrArg Value.bool (decide_eq_false g6)) (Op1.call2 (v1 := .agg #[.int .u16 _, str _, .bool _, .bool _, str _, str _, .int .i64 _, .int .u8 _]) (v2 := .int .i64 _) ent37 rfl rfl rfl ((R2gr_letter fm (by rw [← hfm]; exact refD_fok op) _ (by omega) _).mono fun v w hp => ?_))
    obtain ⟨rfl, hp⟩ := hp
    replace hst := hst.keepc hp
    clear hp
    refine RunL.take (t := 30) rfl (congrArg Value.bool (decide_eq_false g6)) (Op1.call1 (v1 := .int .u8 _) ent26 rfl rfl ((R2gr_Kind _ _).mono fun v w hp => ?_))
    obtain ⟨rfl, hp⟩ := hp
    replace hst := hst.keepc hp
    clear hp
    refine RunL.take (t := 30) rfl (congrArg Value.bool (decide_eq_false g6)) (Op1.move (v := .int .u8 _) rfl ?_)
    refine RunL.take (t := 30) rfl (congrArg Value.bool (decide_eq_false g6)) (Op1.neq rfl rfl ?_)
    refine RunL.cons (Op1.pickF (u := .bool _) (congrArg Value.bool (decide_eq_false g6)) rfl ?_)
    refine RunL.nil ?_
    refine run_cond_dec rfl (fun g7 => ?_) (fun g7 => ?_)
    · skip
      refine run_seq ?_
      refine run_region ?_
      refine RunL.cons (Op1.move (v := .int .i64 _) rfl ?_)
      refine RunL.cons (Op1.assign (v := .int .i64 _) rfl ?_)
      refine RunL.cons (Op1.assign (v := .bool _) rfl ?_)
      refine RunL.nil ?_
      refine run_ret2 Try.func29 rfl (RV.tmp (v := .int .i64 _) rfl) (RV.tmp (v := .bool _) rfl) ?_
      exact ⟨(congrArg fitsV ((fits_yes hob hfm (by simpa using g1)).trans (fitsF_bad (bad_hit hJ.2 (by omega) (.inr g7))))).symm, hst.pure⟩
    refine run_skip ?_
    refine run_inBlock ?_
    refine run_region ?_
    refine RunL.cons (Op1.addN rfl rfl rfl (wrap_i64 (by omega) (by omega)) ?_)
    refine RunL.cons (Op1.move (v := .int .i64 _) rfl ?_)
    refine RunL.nil ?_
    refine run_inLoop ?_
    exact ih2 (i + 1) _ w (by omega) hst (⟨by omega, bad_miss hJ.2 (by omega) (fun h => h.elim g6 g7)⟩) ⟨rfl, rfl, rfl, rfl, trivial⟩ ⟨(congrArg (Value.int .i64) (by omega)), trivial⟩
  refine run_exit (id := 0) rfl ?_
  refine run_seq ?_
  refine run_region ?_
  refine RunL.cons (Op1.move (v := .slice _ _ _) rfl ?_)
  refine RunL.cons (Op1.lenSl (rest := []) ty53 rfl ?_)
  refine RunL.cons (Op1.fieldAddr fld68_0 rfl ?_)
  refine RunL.cons (Op1.fieldAddr fld38_4 rfl ?_)
  refine RunL.cons (Op1.load1 (v := str _) ty9 rfl rfl (hst.cellL (.head _) rfl) ?_)
  refine RunL.cons (Op1.lenS (rest := []) ty9 rfl ?_)
  refine RunL.cons (Op1.subN rfl rfl rfl (wrap_i64 (by omega) (by omega)) ?_)
  refine RunL.cons (Op1.assign (v := .int .i64 _) rfl ?_)
  refine RunL.nil ?_
  refine run_seq ?_
  refine run_seq ?_
  refine run_region ?_
  refine RunL.cons (Op1.move (v := .int .i64 _) rfl ?_)
  refine RunL.cons (Op1.lss rfl rfl ?_)
  refine RunL.cons (Op1.move (v := .bool _) rfl ?_)
  refine RunL.splitD (d := 49) rfl (fun g8 => ?_) (fun g8 => ?_)
  · skip
    refine RunL.omit (t := 49) rfl (congrArg Value.bool (decide_eq_true g8)) rfl ?_
    refine RunL.omit (t := 49) rfl (congrArg Value.bool (decide_eq_true g8)) rfl ?_
    refine RunL.omit (t := 49) rfl (congrArg Value.bool (decide_eq_true g8)) rfl ?_
    refine RunL.omit (t := 49) rfl (congrArg Value.bool (decide_eq_true g8)) rfl ?_
    refine RunL.omit (t := 49) rfl (congrArg Value.bool (decide_eq_true g8)) rfl ?_
    refine RunL.omitU (t := 54) rfl rfl ?_
    refine RunL.omitU (t := 54) rfl rfl ?_
    refine RunL.omitU (t := 54) rfl rfl ?_
    refine RunL.omitU (t := 54) rfl rfl ?_
    refine RunL.omitU (t := 54) rfl rfl ?_
    refine RunL.omitU (t := 54) rfl rfl ?_
    refine RunL.omitU (t := 54) rfl rfl ?_
    refine RunL.omit (t := 49) rfl (congrArg Value.bool (decide_eq_true g8)) rfl ?_
    refine RunL.cons (Op1.pickT (u := .bool _) (congrArg Value.bool (decide_eq_true g8)) rfl ?_)
    refine RunL.nil ?_
    refine run_cond_true (congrArg Value.bool (rfl : true = _)) ?_
    refine run_seq ?_
    refine run_region ?_
    refine RunL.cons (Op1.move (v := .slice _ _ _) rfl ?_)
    refine RunL.cons (Op1.lenSl (rest := []) ty53 rfl ?_)
    refine RunL.cons (Op1.assign (v := .int .i64 _) rfl ?_)
    refine RunL.cons (Op1.assign (v := .bool _) rfl ?_)
    refine RunL.nil ?_
    refine run_ret2 Try.func29 rfl (RV.tmp (v := .int .i64 _) rfl) (RV.tmp (v := .bool _) rfl) ?_
    exact ⟨(congrArg fitsV ((fits_yes hob hfm (by simpa using g1)).trans (fitsF_off (bad_end hJ.2 (by omega)) (by simp only [offR]; exact .inl (by omega))))).symm, hst.pure⟩
  refine RunL.take (t := 49) rfl (congrArg Value.bool (decide_eq_false g8)) (Op1.fieldAddr fld68_0 rfl ?_)
  refine RunL.take (t := 49) rfl (congrArg Value.bool (decide_eq_false g8)) (Op1.fieldAddr fld38_5 rfl ?_)
  refine RunL.take (t := 49) rfl (congrArg Value.bool (decide_eq_false g8)) (Op1.load1 (v := str _) ty9 rfl rfl (hst.cellL (.head _) rfl) ?_)
  refine RunL.take (t := 49) rfl (congrArg Value.bool (decide_eq_false g8)) (Op1.neqS rfl rfl ?_)
  refine RunL.take (t := 49) rfl (congrArg Value.bool (decide_eq_false g8)) (Op1.move (v := .bool _) rfl ?_)
  refine RunL.splitD (d := 54) rfl (fun g9 => ?_) (fun g9 => ?_)
  · skip
    have hrp : 0 < fm.rest.length := List.length_pos_iff.2 g9
    refine RunL.take (t := 54) rfl (congrArg Value.bool (decide_eq_true g9)) (Op1.move (v := .int .i64 _) rfl ?_)
    refine RunL.take (t := 54) rfl (congrArg Value.bool (decide_eq_true g9)) (Op1.fieldAddr fld68_0 rfl ?_)
    refine RunL.take (t := 54) rfl (congrArg Value.bool (decide_eq_true g9)) (Op1.fieldAddr fld38_5 rfl ?_)
    refine RunL.take (t := 54) rfl (congrArg Value.bool (decide_eq_true g9)) (Op1.load1 (v := str _) ty9 rfl rfl (hst.cellL (.head _) rfl) ?_)
    refine RunL.take (t := 54) rfl (congrArg Value.bool (decide_eq_true g9)) (Op1.lenS (rest := []) ty9 rfl ?_)
    first | refine RunL.take (t := 54) rfl (congrArg Value.bool (decide_eq_true g9)) (Op1.remN rfl rfl (by omega) (by omega) rfl ?_) | refine RunL.take (t := 54) rfl (congrArg Value.bool (decide_eq_true g9)) (Op1.rem rfl rfl (by omega) ?_)
    refine RunL.take (t := 54) rfl (congrArg Value.bool (decide_eq_true g9)) (Op1.neq rfl rfl ?_)
    refine RunL.take (t := 49) rfl (congrArg Value.bool (decide_eq_false g8)) (Op1.pickT (u := .bool _) (congrArg Value.bool (decide_eq_true g9)) rfl ?_)
    refine RunL.cons (Op1.pickF (u := .bool _) (congrArg Value.bool (decide_eq_false g8)) rfl ?_)
    refine RunL.nil ?_
    refine Run.forget [(1, .slice _ _ _), (63, .bool _)] ⟨rfl, rfl, trivial⟩ (fun f => ?_)
    refine run_cond_dec rfl (fun g10 => ?_) (fun g10 => ?_)
    · skip
      refine run_seq ?_
      refine run_region ?_
      refine RunL.cons (Op1.move (v := .slice _ _ _) rfl ?_)
      refine RunL.cons (Op1.lenSl (rest := []) ty53 rfl ?_)
      refine RunL.cons (Op1.assign (v := .int .i64 _) rfl ?_)
      refine RunL.cons (Op1.assign (v := .bool _) rfl ?_)
      refine RunL.nil ?_
      refine run_ret2 Try.func29 rfl (RV.tmp (v := .int .i64 _) rfl) (RV.tmp (v := .bool _) rfl) ?_
      exact ⟨(congrArg fitsV ((fits_yes hob hfm (by simpa using g1)).trans (fitsF_off (bad_end hJ.2 (by omega)) (by simp only [offR]; exact .inr ⟨g9, g10⟩)))).symm, hst.pure⟩
    refine run_skip ?_
    refine run_seq ?_
    refine run_region ?_
    refine RunL.cons (Op1.assign (v := .int .i64 _) rfl ?_)
    refine RunL.cons (Op1.assign (v := .bool _) rfl ?_)
    refine RunL.nil ?_
    refine run_ret2 Try.func29 rfl (RV.tmp (v := .int .i64 _) rfl) (RV.tmp (v := .bool _) rfl) ?_
    exact ⟨(congrArg fitsV ((fits_yes hob hfm (by simpa using g1)).trans (fitsF_on (bad_end hJ.2 (by omega)) (by simp only [offR]; exact fun h => h.elim (by omega) (fun h => g10 h.2))))).symm, hst.pure⟩
  refine RunL.omit (t := 54) rfl (congrArg Value.bool (decide_eq_false g9)) rfl ?_
  refine RunL.omit (t := 54) rfl (congrArg Value.bool (decide_eq_false g9)) rfl ?_
  refine RunL.omit (t := 54) rfl (congrArg Value.bool (decide_eq_false g9)) rfl ?_
  refine RunL.omit (t := 54) rfl (congrArg Value.bool (decide_eq_false g9)) rfl ?_
  refine RunL.omit (t := 54) rfl (congrArg Value.bool (decide_eq_false g9)) rfl ?_
  refine RunL.omit (t := 54) rfl (congrArg Value.bool (decide_eq_false g9)) rfl ?_
  refine RunL.omit (t := 54) rfl (congrArg Value.bool (decide_eq_false g9)) rfl ?_
  refine RunL.take (t := 49) rfl (congrArg Value.bool (decide_eq_false g8)) (Op1.pickF (u := .bool _) (congrArg Value.bool (decide_eq_false g9)) rfl ?_)
  refine RunL.cons (Op1.pickF (u := .bool _) (congrArg Value.bool (decide_eq_false g8)) rfl ?_)
  refine RunL.nil ?_
  refine Run.forget [(1, .slice _ _ _), (63, .bool _)] ⟨rfl, rfl, trivial⟩ (fun f => ?_)
  refine run_cond_false (congrArg Value.bool (rfl : false = _)) ?_
  refine run_skip ?_
  refine run_seq ?_
  refine run_region ?_
  refine RunL.cons (Op1.assign (v := .int .i64 _) rfl ?_)
  refine RunL.cons (Op1.assign (v := .bool _) rfl ?_)
  refine RunL.nil ?_
  refine run_ret2 Try.func29 rfl (RV.tmp (v := .int .i64 _) rfl) (RV.tmp (v := .bool _) rfl) ?_
  exact ⟨(congrArg fitsV ((fits_yes hob hfm (by simpa using g1)).trans (fitsF_on (bad_end hJ.2 (by omega)) (by simp only [offR]; exact fun h => h.elim (by omega) (fun h => g9 h.1))))).symm, hst.pure⟩

theorem R2ref_Letter2 {op : Int} {fm : FormL} (h0 : 0 ≤ op) (hfm : refD op = fm) (i : Int) (h1 : i ≤ 9223372036854775807) (w : World) : Ret Try.prog 25 #[.int .u16 op, .int .i64 i] w fun v w' => v = .int .u8 (letterS fm i) ∧ St w NoM [] [] w' := by
  subst hfm; exact R2ref_Letter op h0 i h1 w
theorem R2ref_Fits (op : Int) (h0 : 0 ≤ op) (ks : List Int) (ao : Option Addr) (cp : Nat) (w : World) (hA : (Res.rs ao ks.length 1 (ks.flatMap u8C)).holds w) (hlen : ks.length ≤ 9000000000000000000) : Ret Try.prog 28 #[.int .u16 op, .slice ao ks.length cp] w (fun v w' => v = fitsV (fitsS op ks) ∧ St w NoM [] [] w') := by
  refine Ret.enter (args := [.int .u16 op, .slice ao ks.length cp]) Try.func28 rfl rfl rfl ?_
  have hst : St w NoM [] [Res.rs ao ks.length 1 (ks.flatMap u8C)] w := St.init_D hA
  clear hA
  obtain ⟨fm, hfm⟩ : ∃ x, refD op = x := ⟨_, rfl⟩
  obtain ⟨ob, hob⟩ : ∃ x, (refS op).isSome = x := ⟨_, rfl⟩
  have hf := refD_fok op
  rw [hfm] at hf
  have hz : ob = false → fm = zeroF := fun e => by subst e; rw [← hfm]; exact refD_none hob
  obtain ⟨hop, hmost, hfx, hrs, _, _, _, _⟩ := hf
  refine run_seq ?_
  refine run_region ?_
  refine RunL.cons (Op1.assign (v := .int .i64 _) rfl ?_)
  refine RunL.cons (Op1.assign (v := .bool _) rfl ?_)
  refine RunL.nil ?_
  refine run_seq ?_
  refine run_region ?_
  refine RunL.cons (Op1.move (v := .int .u16 _) rfl ?_)
  refine RunL.cons (Op1.call1 (v1 := .int .u16 _) ent18 rfl rfl ((R2ref_Of2 hfm hob _).mono fun v w hp => ?_))
  obtain ⟨rfl, hp⟩ := hp
  replace hst := hst.keepc hp
  clear hp
  refine RunL.cons (Op1.move (v := .tuple #[.agg #[.int .u16 _, str _, .bool _, .bool _, str _, str _, .int .i64 _, .int .u8 _], .bool _]) rfl ?_)
  refine RunL.cons (Op1.extract (v := .agg #[.int .u16 _, str _, .bool _, .bool _, str _, str _, .int .i64 _, .int .u8 _]) rfl rfl ?_)
  refine RunL.cons (Op1.extract (v := .bool _) rfl rfl ?_)
  refine RunL.cons (Op1.alloc hst ty38 fun w b6 hst => ?_)
  refine RunL.cons (Op1.store (v := .agg #[.int .u16 _, str _, .bool _, .bool _, str _, str _, .int .i64 _, .int .u8 _]) hst ty38 rfl rfl rfl rfl rfl (.here) (by repeat (first | exact Put.nil | apply Put.put | apply Put.skip)) fun w hst => ?_)
  refine RunL.cons (Op1.assign (v := .bool _) rfl ?_)
  refine RunL.nil ?_
  refine run_seq ?_
  refine run_seq ?_
  refine run_region ?_
  refine RunL.cons (Op1.move (v := .bool _) rfl ?_)
  refine RunL.cons (Op1.not rfl ?_)
  refine RunL.nil ?_
  refine run_cond_split rfl (fun g1 => ?_) (fun g1 => ?_)
  · skip
    refine run_seq ?_
    refine run_region ?_
    refine RunL.cons (Op1.assign (v := .int .i64 _) rfl ?_)
    refine RunL.cons (Op1.assign (v := .bool _) rfl ?_)
    refine RunL.nil ?_
    refine run_ret2 Try.func28 rfl (RV.tmp (v := .int .i64 _) rfl) (RV.tmp (v := .bool _) rfl) ?_
    exact ⟨(congrArg fitsV (fits_no hob (by simpa using g1))).symm, hst.pure⟩
  refine run_skip ?_
  refine run_seq ?_
  refine run_seq ?_
  refine run_region ?_
  refine RunL.cons (Op1.assign (v := .int .i64 _) rfl ?_)
  refine RunL.nil ?_
  refine run_block ?_
  refine run_loop ?_
  refine Run.indW [(0, .int .u16 _), (1, .slice _ _ _), (6, .pointer (some ⟨_, _, none⟩))] ⟨rfl, rfl, rfl, trivial⟩ (fun (i : Nat) => [(8, .int .i64 (i : Int))]) (fun (i : Nat) => []) (fun (i : Nat) => i ≤ ks.length ∧ badI fm i (ks.drop i) = badI fm 0 ks) (fun (i : Nat) => ks.length - i) (0) hst ⟨Nat.zero_le _, rfl⟩ ⟨rfl, trivial⟩ ?_
  intro i f w hst hJ ih2
  refine run_seq ?_
  refine run_seq ?_
  refine run_region ?_
  refine RunL.cons (Op1.move (v := .int .i64 _) rfl ?_)
  refine RunL.cons (Op1.move (v := .slice _ _ _) rfl ?_)
  refine RunL.cons (Op1.lenSl (rest := []) ty53 rfl ?_)
  refine RunL.cons (Op1.lss rfl rfl ?_)
  refine RunL.nil ?_
  refine run_cond_dec rfl (fun g3 => ?_) (fun g3 => ?_)
  · skip
    refine run_skip ?_
    refine run_seq ?_
    refine run_block ?_
    refine run_seq ?_
    refine run_region ?_
    refine RunL.cons (Op1.move (v := .int .u16 _) rfl ?_)
    refine RunL.cons (Op1.move (v := .int .i64 _) rfl ?_)
    refine RunL.cons (Op1.call2 (v1 := .int .u16 _) (v2 := .int .i64 _) ent25 rfl rfl rfl ((R2ref_Letter2 (by omega) hfm _ (by omega) _).mono fun v w hp => ?_))
    obtain ⟨rfl, hp⟩ := hp
    replace hst := hst.keepc hp
    clear hp
    refine RunL.cons (Op1.assign (v := .int .u8 _) rfl ?_)
    refine RunL.nil ?_
    refine run_seq ?_
    obtain ⟨bs4, os5, rfl⟩ := Res.rs_some (hst.hD _ (.head _)) (by omega)
    refine RunD.start [] hst (bs := [0, 1, 3, 7, 15, 7, 7, 103, 231, 511, 1023]) (ds := [some 27, some 28, some 29, some 30, some 31, some 32, some 33, some 34, some 35, some 36, some 37]) ⟨by kernel_rfl, by kernel_rfl, by kernel_rfl⟩ (fun tab6 => ?_)
    refine RunD.op (det _) tab6 1 (fun f' L' w' hc => Op1.move (v := .int .u8 _) (hc.old (v := .int .u8 _) rfl rfl rfl) ⟨[], ⟨rfl, rfl⟩, hc.st⟩) ?_
    refine RunD.op (det _) tab6 2 (fun f' L' w' hc => Op1.eql (hc.det (j := 0) rfl rfl rfl rfl) rfl ⟨[], ⟨rfl, rfl⟩, hc.st⟩) ?_
    refine RunD.op (det _) tab6 3 (fun f' L' w' hc => Op1.move (v := .bool _) (hc.det (j := 1) rfl rfl rfl rfl) ⟨[], ⟨rfl, rfl⟩, hc.st⟩) ?_
    refine RunD.splitD (j := 2) rfl (fun g7 => ?_) (fun g7 => ?_)
    · skip
      refine RunD.omit tab6 4 rfl rfl (fun f' L' w' hc => (hc.det (j := 2) rfl rfl rfl rfl).trans (congrArg Value.bool (decide_eq_true g7))) ?_
      refine RunD.omit tab6 5 rfl rfl (fun f' L' w' hc => (hc.det (j := 2) rfl rfl rfl rfl).trans (congrArg Value.bool (decide_eq_true g7))) ?_
      refine RunD.omit tab6 6 rfl rfl (fun f' L' w' hc => (hc.det (j := 2) rfl rfl rfl rfl).trans (congrArg Value.bool (decide_eq_true g7))) ?_
      refine RunD.omit tab6 7 rfl rfl (fun f' L' w' hc => (hc.det (j := 2) rfl rfl rfl rfl).trans (congrArg Value.bool (decide_eq_true g7))) ?_
      refine RunD.omit tab6 8 rfl rfl (fun f' L' w' hc => (hc.det (j := 2) rfl rfl rfl rfl).trans (congrArg Value.bool (decide_eq_true g7))) ?_
      refine RunD.omit tab6 9 rfl rfl (fun f' L' w' hc => (hc.det (j := 2) rfl rfl rfl rfl).trans (congrArg Value.bool (decide_eq_true g7))) ?_
      refine RunD.fin followsMixed tab6 hst rfl (fun f8 w R11 hs9 hd10 hr12 hst => ?_)
      obtain ⟨h27_, r0⟩ := hd10 0 27 rfl rfl
      obtain ⟨h28_, r1⟩ := hd10 1 28 rfl rfl
      obtain ⟨h29_, r2⟩ := hd10 2 29 rfl rfl
      obtain ⟨h30_, r3⟩ := hd10 3 30 rfl rfl
      obtain ⟨h31_, r4⟩ := hd10 4 31 rfl rfl
      obtain ⟨h32_, r5⟩ := hd10 5 32 rfl rfl
      obtain ⟨h33_, r6⟩ := hd10 6 33 rfl rfl
      obtain ⟨h34_, r7⟩ := hd10 7 34 rfl rfl
      obtain ⟨h35_, r8⟩ := hd10 8 35 rfl rfl
      simp only [show List.range 9 = [0, 1, 2, 3, 4, 5, 6, 7, 8] from rfl, List.flatMap_cons, List.flatMap_nil, List.map_cons, List.map_nil, r0, r1, r2, r3, r4, r5, r6, r7, r8, List.nil_append, List.append_nil, List.cons_append] at hst
      refine RunL.slots (sl := [(0, .int .u16 _), (1, .slice _ _ _), (6, .pointer (some ⟨_, _, none⟩)), (8, .int .i64 _), (29, .bool _), (31, _), (35, _)]) ⟨(hs9 0 rfl).trans rfl, (hs9 1 rfl).trans rfl, (hs9 6 rfl).trans rfl, (hs9 8 rfl).trans rfl, h29_, h31_, h35_, trivial⟩ ?_
      clear hs9 hd10 hr12 tab6
      refine RunL.omit (t := 29) rfl (congrArg Value.bool (decide_eq_true g7)) rfl ?_
      refine RunL.cons (Op1.pickT (u := .bool _) (congrArg Value.bool (decide_eq_true g7)) rfl ?_)
      refine RunL.nil ?_
      refine run_cond_true (congrArg Value.bool (rfl : true = _)) ?_
      refine run_seq ?_
      refine run_region ?_
      refine RunL.cons (Op1.move (v := .int .i64 _) rfl ?_)
      refine RunL.cons (Op1.assign (v := .int .i64 _) rfl ?_)
      refine RunL.cons (Op1.assign (v := .bool _) rfl ?_)
      refine RunL.nil ?_
      refine run_ret2 Try.func28 rfl (RV.tmp (v := .int .i64 _) rfl) (RV.tmp (v := .bool _) rfl) ?_
      exact ⟨(congrArg fitsV ((fits_yes hob hfm (by simpa using g1)).trans (fitsF_bad (bad_hit hJ.2 (by omega) ((bad_ref hfm).1 (.inl g7)))))).symm, hst.pure⟩
    refine RunD.take (det _) tab6 4 rfl (fun f' L' w' hc => (hc.det (j := 2) rfl rfl rfl rfl).trans (congrArg Value.bool (decide_eq_false g7))) (fun f' L' w' hc => Op1.move (v := .int .u8 _) (hc.old (v := .int .u8 _) rfl rfl rfl) ⟨[], ⟨rfl, rfl⟩, hc.st⟩) ?_
    refine RunD.take (det _) tab6 5 rfl (fun f' L' w' hc => (hc.det (j := 2) rfl rfl rfl rfl).trans (congrArg Value.bool (decide_eq_false g7))) (fun f' L' w' hc => Op1.call1 (v1 := .int .u8 _) ent27 rfl (hc.det (j := 3) rfl rfl rfl rfl) ((R2ref_Kind _ (letterS_bd fm i).1 (letterS_bd fm i).2 _).mono fun v w hp => ⟨[], ⟨hp.1, rfl⟩, hc.st.keepc hp.2⟩)) ?_
    refine RunD.take (det _) tab6 6 rfl (fun f' L' w' hc => (hc.det (j := 2) rfl rfl rfl rfl).trans (congrArg Value.bool (decide_eq_false g7))) (fun f' L' w' hc => Op1.move (v := .slice _ _ _) (hc.old (v := .slice _ _ _) rfl rfl rfl) ⟨[], ⟨rfl, rfl⟩, hc.st⟩) ?_
    refine RunD.take (det _) tab6 7 rfl (fun f' L' w' hc => (hc.det (j := 2) rfl rfl rfl rfl).trans (congrArg Value.bool (decide_eq_false g7))) (fun f' L' w' hc => Op1.move (v := .int .i64 _) (hc.old (v := .int .i64 _) rfl rfl rfl) ⟨[], ⟨rfl, rfl⟩, hc.st⟩) ?_
    refine RunD.take (det _) tab6 8 rfl (fun f' L' w' hc => (hc.det (j := 2) rfl rfl rfl rfl).trans (congrArg Value.bool (decide_eq_false g7))) (fun f' L' w' hc => Op1.indexSl ty53 ty5 (hc.det (j := 5) rfl rfl rfl rfl) (hc.det (j := 6) rfl rfl rfl rfl) (by omega) (by omega) ⟨[], ⟨rfl, rfl⟩, hc.st⟩) ?_
    refine RunD.take (det _) tab6 9 rfl (fun f' L' w' hc => (hc.det (j := 2) rfl rfl rfl rfl).trans (congrArg Value.bool (decide_eq_false g7))) (fun f' L' w' hc => Op1.load1 (v := .int .u8 _) ty5 rfl (hc.det (j := 7) rfl rfl rfl rfl) (Res.rs_cell (hc.st.hD _ (.head _)) (flat_cell0 (g := u8C) (d := 0) u8C_len rfl (by omega))) ⟨[], ⟨rfl, rfl⟩, hc.st⟩) ?_
    refine RunD.fin followsMixed tab6 hst rfl (fun f13 w R16 hs14 hd15 hr17 hst => ?_)
    obtain ⟨h27_, r0⟩ := hd15 0 27 rfl rfl
    obtain ⟨h28_, r1⟩ := hd15 1 28 rfl rfl
    obtain ⟨h29_, r2⟩ := hd15 2 29 rfl rfl
    obtain ⟨h30_, r3⟩ := hd15 3 30 rfl rfl
    obtain ⟨h31_, r4⟩ := hd15 4 31 rfl rfl
    obtain ⟨h32_, r5⟩ := hd15 5 32 rfl rfl
    obtain ⟨h33_, r6⟩ := hd15 6 33 rfl rfl
    obtain ⟨h34_, r7⟩ := hd15 7 34 rfl rfl
    obtain ⟨h35_, r8⟩ := hd15 8 35 rfl rfl
    simp only [show List.range 9 = [0, 1, 2, 3, 4, 5, 6, 7, 8] from rfl, List.flatMap_cons, List.flatMap_nil, List.map_cons, List.map_nil, r0, r1, r2, r3, r4, r5, r6, r7, r8, List.nil_append, List.append_nil, List.cons_append] at hst
    refine RunL.slots (sl := [(0, .int .u16 _), (1, .slice _ _ _), (6, .pointer (some ⟨_, _, none⟩)), (8, .int .i64 _), (29, .bool _), (31, .int .u8 _), (35, .int .u8 _)]) ⟨(hs14 0 rfl).trans rfl, (hs14 1 rfl).trans rfl, (hs14 6 rfl).trans rfl, (hs14 8 rfl).trans rfl, h29_, h31_, h35_, trivial⟩ ?_
    clear hs14 hd15 hr17 tab6
    refine RunL.take (t := 29) rfl (congrArg Value.bool (decide_eq_false g7)) (Op1.neq rfl rfl ?_)
    refine RunL.cons (Op1.pickF (u := .bool _) (congrArg Value.bool (decide_eq_false g7)) rfl ?_)
    refine RunL.nil ?_
    refine Run.forget [(0, .int .u16 _), (1, .slice _ _ _), (6, .pointer (some ⟨_, _, none⟩)), (8, .int .i64 _), (37, .bool _)] ⟨rfl, rfl, rfl, rfl, rfl, trivial⟩ (fun f => ?_)
    refine run_cond_dec rfl (fun g18 => ?_) (fun g18 => ?_)
    · skip
      refine run_seq ?_
      refine run_region ?_
      refine RunL.cons (Op1.move (v := .int .i64 _) rfl ?_)
      refine RunL.cons (Op1.assign (v := .int .i64 _) rfl ?_)
      refine RunL.cons (Op1.assign (v := .bool _) rfl ?_)
      refine RunL.nil ?_
      refine run_ret2 Try.func28 rfl (RV.tmp (v := .int .i64 _) rfl) (RV.tmp (v := .bool _) rfl) ?_
      exact ⟨(congrArg fitsV ((fits_yes hob hfm (by simpa using g1)).trans (fitsF_bad (bad_hit hJ.2 (by omega) ((bad_ref hfm).1 (.inr g18)))))).symm, hst.pure⟩
    refine run_skip ?_
    refine run_inBlock ?_
    refine run_region ?_
    refine RunL.cons (Op1.move (v := .int .i64 _) rfl ?_)
    refine RunL.cons (Op1.addN rfl rfl rfl (wrap_i64 (by omega) (by omega)) ?_)
    refine RunL.cons (Op1.assign (v := .int .i64 _) rfl ?_)
    refine RunL.nil ?_
    refine run_inLoop ?_
    exact ih2 (i + 1) _ w (by omega) hst (⟨by omega, bad_miss hJ.2 (by omega) (fun h => ((bad_ref hfm).2 h).elim g7 g18)⟩) ⟨rfl, rfl, rfl, trivial⟩ ⟨(congrArg (Value.int .i64) (by omega)), trivial⟩
  have hbn := bad_end hJ.2 (by omega)
  refine run_exit (id := 0) rfl ?_
  refine run_seq ?_
  refine run_region ?_
  refine RunL.cons (Op1.fieldAddr fld38_4 rfl ?_)
  refine RunL.cons (Op1.load1 (v := str _) ty9 rfl rfl (hst.cellL (.head _) rfl) ?_)
  refine RunL.cons (Op1.lenS (rest := []) ty9 rfl ?_)
  refine RunL.cons (Op1.assign (v := .int .i64 _) rfl ?_)
  refine RunL.nil ?_
  refine run_seq ?_
  refine run_block ?_
  refine run_loop ?_
  refine Run.indW [(1, .slice _ _ _), (6, .pointer (some ⟨_, _, none⟩))] ⟨rfl, rfl, trivial⟩ (fun (q : Nat × Nat) => [(10, .int .i64 (q.1 : Int))]) (fun (q : Nat × Nat) => []) (fun (q : Nat × Nat) => q.1 = fm.fixed.length + q.2 * fm.rest.length ∧ (q.1 < ks.length + fm.rest.length ∨ q.2 = 0)) (fun (q : Nat × Nat) => ks.length - q.1) ((fm.fixed.length, 0)) hst ⟨by simp, .inr rfl⟩ ⟨rfl, trivial⟩ ?_
  intro ⟨m, t⟩ f w hst hM ih19
  replace hst : St _ _ ([] ++ [_]) _ _ := hst
  replace hM : m = fm.fixed.length + t * fm.rest.length ∧ (m < ks.length + fm.rest.length ∨ t = 0) := hM
  refine Run.slots (sl := [(10, .int .i64 (m : Int))]) ⟨rfl, trivial⟩ ?_
  refine run_seq ?_
  refine run_seq ?_
  refine run_region ?_
  refine RunL.cons (Op1.move (v := .int .i64 _) rfl ?_)
  refine RunL.cons (Op1.move (v := .slice _ _ _) rfl ?_)
  refine RunL.cons (Op1.lenSl (rest := []) ty53 rfl ?_)
  refine RunL.cons (Op1.lss rfl rfl ?_)
  refine RunL.nil ?_
  refine run_cond_dec rfl (fun g20 => ?_) (fun g20 => ?_)
  · skip
    have hrp : 0 < fm.rest.length := by refine Classical.byContradiction fun hn => ?_; have hr : fm.rest = [] := List.length_eq_zero_iff.1 (by omega); have := bad_long hr hbn; have h3 := hM.1; rw [show fm.rest.length = 0 by omega] at h3; omega
    refine run_skip ?_
    refine run_block ?_
    refine run_region ?_
    refine RunL.cons (Op1.move (v := .int .i64 _) rfl ?_)
    refine RunL.cons (Op1.fieldAddr fld38_5 rfl ?_)
    refine RunL.cons (Op1.load1 (v := str _) ty9 rfl rfl (hst.cellL (.head _) rfl) ?_)
    refine RunL.cons (Op1.lenS (rest := []) ty9 rfl ?_)
    refine RunL.cons (Op1.addN rfl rfl rfl (wrap_i64 (by omega) (by omega)) ?_)
    refine RunL.cons (Op1.assign (v := .int .i64 _) rfl ?_)
    refine RunL.nil ?_
    refine run_inBlock ?_
    refine run_inLoop ?_
    exact ih19 ((m + fm.rest.length, t + 1)) _ w (by (try dsimp only); omega) hst (⟨by rw [Nat.add_mul, ← Nat.add_assoc, ← hM.1]; omega, .inl (by (try dsimp only); omega)⟩) ⟨rfl, rfl, trivial⟩ ⟨(congrArg (Value.int .i64) (by (try dsimp only); omega)), trivial⟩
  refine run_exit (id := 2) rfl ?_
  refine run_seq ?_
  refine run_seq ?_
  refine run_region ?_
  refine RunL.cons (Op1.move (v := .int .i64 _) rfl ?_)
  refine RunL.cons (Op1.move (v := .slice _ _ _) rfl ?_)
  refine RunL.cons (Op1.lenSl (rest := []) ty53 rfl ?_)
  refine RunL.cons (Op1.neq rfl rfl ?_)
  refine RunL.nil ?_
  refine run_cond_dec rfl (fun g21 => ?_) (fun g21 => ?_)
  · skip
    refine run_seq ?_
    refine run_region ?_
    refine RunL.cons (Op1.move (v := .slice _ _ _) rfl ?_)
    refine RunL.cons (Op1.lenSl (rest := []) ty53 rfl ?_)
    refine RunL.cons (Op1.assign (v := .int .i64 _) rfl ?_)
    refine RunL.cons (Op1.assign (v := .bool _) rfl ?_)
    refine RunL.nil ?_
    refine run_ret2 Try.func28 rfl (RV.tmp (v := .int .i64 _) rfl) (RV.tmp (v := .bool _) rfl) ?_
    have hoff := off_iff (f := fm) (n := ks.length) hM.1 (by omega) hM.2 (fun hr => bad_long hr hbn)
    exact ⟨(congrArg fitsV ((fits_yes hob hfm (by simpa using g1)).trans (fitsF_off hbn (hoff.1 (by omega))))).symm, hst.pure⟩
  refine run_skip ?_
  refine run_seq ?_
  refine run_region ?_
  refine RunL.cons (Op1.assign (v := .int .i64 _) rfl ?_)
  refine RunL.cons (Op1.assign (v := .bool _) rfl ?_)
  refine RunL.nil ?_
  refine run_ret2 Try.func28 rfl (RV.tmp (v := .int .i64 _) rfl) (RV.tmp (v := .bool _) rfl) ?_
  have hoff := off_iff (f := fm) (n := ks.length) hM.1 (by omega) hM.2 (fun hr => bad_long hr hbn)
  exact ⟨(congrArg fitsV ((fits_yes hob hfm (by simpa using g1)).trans (fitsF_on hbn (fun h => (hoff.2 h) (by omega))))).symm, hst.pure⟩

end Go.SK
