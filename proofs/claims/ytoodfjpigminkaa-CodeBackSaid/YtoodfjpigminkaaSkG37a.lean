/-
  Steps of functions, plain law, and walks of functions: what the laws rest on.
-/
import Derived.Test.YtoodfjpigminkaaSkG0d
import Derived.Test.YtoodfjpigminkaaSkG1a
import Derived.Test.YtoodfjpigminkaaSkG2a
import Derived.Test.YtoodfjpigminkaaSkG3a
import Derived.Test.YtoodfjpigminkaaSkG5a
import Derived.Test.YtoodfjpigminkaaSkG6a
import Derived.Test.YtoodfjpigminkaaSkG8a
import Derived.Test.YtoodfjpigminkaaSkG13a
import Derived.Test.YtoodfjpigminkaaSkG14a
import Derived.Test.YtoodfjpigminkaaSkG15a
import Derived.Test.YtoodfjpigminkaaSkG29a
set_option linter.unusedVariables false
set_option linter.unusedSimpArgs false
set_option linter.unusedSectionVars false
namespace Go.SK
open Go Go.Proofs
open Go.RowKit
theorem R3kit_None (gn bd : Int) (n : Nat) (ao : Option Addr) (cp : Nat) (w : World) : Ret Try.prog 33 #[.agg #[.int .u32 gn, .int .u32 bd, .slice ao n cp]] w (fun v w' => v = .bool (decide (gn = 0 ∧ bd = 0 ∧ n = 0)) ∧ St w NoM [] [] w') := by
 refine Ret.enter (args := [.agg #[.int .u32 gn, .int .u32 bd, .slice ao n cp]]) Try.func33 rfl rfl rfl ?_
 have hst := St.init w
 refine SR <| CN <| Op1.box (v := .agg #[.int .u32 _, .int .u32 _, .slice _ _ _]) hst rfl rfl fun w b1 hst => AB rfl <| NSR <| CN <| Op1.fieldAddr fld26_0 rfl <| CN <| Op1.load1 (v := .int .u32 _) ty23 rfl rfl (hst.cellL (.head _) rfl) <| CN <| Op1.eql rfl rfl <| MB rfl <| RunL.splitD (d := 6) rfl (fun g1 => ?_) (fun g1 => ?_)
 · skip
   refine TK (t := 6) rfl (congrArg Value.bool (decide_eq_true g1)) <| Op1.fieldAddr fld26_1 rfl <| TK (t := 6) rfl (congrArg Value.bool (decide_eq_true g1)) <| Op1.load1 (v := .int .u32 _) ty23 rfl rfl (hst.cellL (.head _) rfl) <| TK (t := 6) rfl (congrArg Value.bool (decide_eq_true g1)) <| Op1.eql rfl rfl <| CN <| Op1.pickT (u := .bool _) (congrArg Value.bool (decide_eq_true g1)) rfl <| MB rfl <| RunL.splitD (d := 11) rfl (fun g2 => ?_) (fun g2 => ?_)
   · skip
     refine TK (t := 11) rfl (congrArg Value.bool (decide_eq_true g2)) <| Op1.fieldAddr fld26_2 rfl <| TK (t := 11) rfl (congrArg Value.bool (decide_eq_true g2)) <| Op1.load1 (v := .slice _ _ _) ty24 rfl rfl (hst.cellL (.head _) rfl) <| TK (t := 11) rfl (congrArg Value.bool (decide_eq_true g2)) <| Op1.lenSl (rest := []) ty24 rfl <| TK (t := 11) rfl (congrArg Value.bool (decide_eq_true g2)) <| Op1.eql rfl rfl <| CN <| Op1.pickT (u := .bool _) (congrArg Value.bool (decide_eq_true g2)) rfl <| AB rfl <| NL <| run_ret1 Try.func33 rfl (TP (v := .bool _) rfl) ?_
     exact ⟨congrArg Value.bool (by first | (simp; done) | (simp; omega) | simp_all), hst.pure⟩
   refine OM (t := 11) rfl (congrArg Value.bool (decide_eq_false g2)) rfl <| OM (t := 11) rfl (congrArg Value.bool (decide_eq_false g2)) rfl <| OM (t := 11) rfl (congrArg Value.bool (decide_eq_false g2)) rfl <| OM (t := 11) rfl (congrArg Value.bool (decide_eq_false g2)) rfl <| CN <| Op1.pickF (u := .bool _) (congrArg Value.bool (decide_eq_false g2)) rfl <| AB rfl <| NL <| run_ret1 Try.func33 rfl (TP (v := .bool _) rfl) ?_
   exact ⟨congrArg Value.bool (by first | (simp; done) | (simp; omega) | simp_all), hst.pure⟩
 refine OM (t := 6) rfl (congrArg Value.bool (decide_eq_false g1)) rfl <| OM (t := 6) rfl (congrArg Value.bool (decide_eq_false g1)) rfl <| OM (t := 6) rfl (congrArg Value.bool (decide_eq_false g1)) rfl <| CN <| Op1.pickF (u := .bool _) (congrArg Value.bool (decide_eq_false g1)) rfl <| MB rfl <| OM (t := 11) rfl (congrArg Value.bool (rfl : false = _)) rfl <| OM (t := 11) rfl (congrArg Value.bool (rfl : false = _)) rfl <| OM (t := 11) rfl (congrArg Value.bool (rfl : false = _)) rfl <| OM (t := 11) rfl (congrArg Value.bool (rfl : false = _)) rfl <| CN <| Op1.pickF (u := .bool _) (congrArg Value.bool (rfl : false = _)) rfl <| AB rfl <| NL <| run_ret1 Try.func33 rfl (TP (v := .bool _) rfl) ?_
 exact ⟨congrArg Value.bool (by first | (simp; done) | (simp; omega) | simp_all), hst.pure⟩
end Go.SK
namespace Go.SK
theorem decode_split {b : List UInt8} {gn bd e a : Int} {il : List InstL} (h : decodeF b = ((gn, bd, il), (e, a))) : (e ≠ 0 → gn = 0 ∧ bd = 0 ∧ il = []) ∧ (e = 0 → encodeF gn bd il = (b, (0, 0)) ∧ shapeF bd il = (0, 0) ∧ bd ≠ 0 ∧ ¬ bd > 65536) := by
  constructor
  · intro he
    have h1 := decode_bad (b := b) (by rw [h]; exact he)
    rw [h] at h1
    simp only [Prod.mk.injEq] at h1
    exact h1
  · intro he
    have h1 := encode_decode (b := b) (by rw [h]; exact he)
    rw [h] at h1
    exact ⟨h1.1, h1.2.1, h1.2.2.2.1⟩
end Go.SK
namespace Go.SK
open Go Go.Proofs
theorem ent33 : Enters Try.prog 33 := ⟨Try.f33, _, Try.func33, by kernel_rfl, rfl⟩
end Go.SK
namespace Go.SK
open Go Go.Proofs
open Go.RowKit
theorem R3law_CodeBack (b : List UInt8) (ao : Option Addr) (cp : Nat) (w : World) (hA : (Res.rs ao b.length 1 (b.flatMap byC)).holds w) (hb : b.length ≤ 140737488355328) : Ret Try.prog 7 #[.slice ao b.length cp] w (fun v w' => v = .bool true ∧ St w NoM [] [] w') := by
 refine Ret.enter (args := [.slice ao b.length cp]) Try.func7 rfl rfl rfl ?_
 have hst : St w NoM [] [Res.rs ao b.length 1 (b.flatMap byC)] w := St.init_D hA
 clear hA
 obtain ⟨gn, bd, il, e, a, hD⟩ : ∃ gn bd il e a, decodeF b = ((gn, bd, il), (e, a)) := ⟨_, _, _, _, _, rfl⟩
 refine SR <| AB rfl <| NSR <| ML rfl <| CN (Op1.call1 (v1 := .slice _ _ _) ent14 rfl rfl ((R3wd_CopyBytes b _ _ _ (hst.hD _ (.head _)) hb).mono fun v w hp => ?_))
 obtain ⟨bC, rfl, hp⟩ := hp
 replace hst : St _ _ (_ :: _) _ _ := hst.call0 hp
 clear hp
 refine CN (Op1.call1 (v1 := .slice _ _ _) ent15 rfl rfl ((R3cd_DecodeD hD _ _ _ (Res.rs_of_sl (hst.hL _ (.head _))) hb).mono fun v w hp => ?_))
 obtain ⟨aO2, cO2, dO2, rfl, hdO2, hp⟩ := hp
 replace hst : St _ _ (_ :: _) _ _ := hst.call0 hp
 clear hp
 refine CN <| Op1.move (v := .tuple #[.agg #[.int .u32 _, .int .u32 _, .slice _ _ _], .agg #[.int .i64 _, .int .i64 _]]) rfl <| CN <| Op1.extract (v := .agg #[.int .u32 _, .int .u32 _, .slice _ _ _]) rfl rfl <| CN <| Op1.extract (v := .agg #[.int .i64 _, .int .i64 _]) rfl rfl <| CN <| Op1.alloc hst ty26 fun w b3 hst => CN <| Op1.alloc hst ty29 fun w b4 hst => CN (SO (v := .agg #[.int .u32 _, .int .u32 _, .slice _ _ _]) hst ty26 rfl rfl (.there (.here)) fun w hst => ?_)
 refine CN (SO (v := .agg #[.int .i64 _, .int .i64 _]) hst ty29 rfl rfl (.here) fun w hst => ?_)
 refine NL <| SQ <| SR <| CN <| Op1.fieldAddr fld29_0 rfl <| CN <| Op1.load1 (v := .int .i64 _) ty27 rfl rfl (hst.cellL (.head _) rfl) <| CN <| Op1.neq rfl rfl <| NL <| run_cond_dec rfl (fun g1 => ?_) (fun g1 => ?_)
 · skip
   obtain ⟨rfl, rfl, rfl⟩ := (decode_split hD).1 g1
   have hz0 : dO2.length = 0 := by simpa using congrArg List.length hdO2
   refine SR <| CN <| Op1.loadA (vs := [.int .u32 _, .int .u32 _, .slice _ _ _]) ty26 rfl rfl rfl (cells_of_obj (n := 3) (hst.objL (.tail _ (.head _))) _ rfl) <| CN <| Op1.call1 (v1 := .agg #[.int .u32 _, .int .u32 _, .slice _ _ _]) ent33 rfl rfl <| Ret.detE (R3kit_None 0 0 dO2.length _ _ _) (congrArg Value.bool (decide_eq_true ⟨rfl, rfl, hz0⟩)) hst fun w hst => MB rfl <| TK (t := 18) rfl (congrArg Value.bool (rfl : true = _)) (Op1.call0  ent19 rfl  ((R3law_awake _).mono fun v w hp => ?_))
   obtain ⟨rfl, hp⟩ := hp
   replace hst := hst.keepc hp
   clear hp
   refine CN <| Op1.pickT (u := .bool _) (congrArg Value.bool (rfl : true = _)) rfl <| AB rfl <| NL <| run_ret1 Try.func7 rfl (TP (v := .bool _) rfl) ?_
   exact ⟨rfl, hst.pure⟩
 have he0 : e = 0 := Classical.not_not.1 g1
 obtain ⟨hE, hS, hbd0, hbd1⟩ := (decode_split hD).2 he0
 have hs2 := decode_smallD hD hdO2
 refine run_skip <| SQ <| SR <| CN <| Op1.fieldAddr fld26_1 rfl <| CN <| Op1.load1 (v := .int .u32 _) ty23 rfl rfl (hst.cellL (.tail _ (.head _)) rfl) <| CN <| Op1.eql rfl rfl <| MB rfl <| RunL.splitD (d := 24) rfl (fun g2 => ?_) (fun g2 => ?_)
 · skip
   exfalso
   exact hbd0 g2
 refine TK (t := 24) rfl (congrArg Value.bool (decide_eq_false g2)) <| Op1.fieldAddr fld26_1 rfl <| TK (t := 24) rfl (congrArg Value.bool (decide_eq_false g2)) <| Op1.load1 (v := .int .u32 _) ty23 rfl rfl (hst.cellL (.tail _ (.head _)) rfl) <| TK (t := 24) rfl (congrArg Value.bool (decide_eq_false g2)) <| Op1.gtr rfl rfl <| CN <| Op1.pickF (u := .bool _) (congrArg Value.bool (decide_eq_false g2)) rfl <| MB rfl <| RunL.splitD (d := 29) rfl (fun g3 => ?_) (fun g3 => ?_)
 · skip
   exfalso
   exact hbd1 g3
 refine TK (t := 29) rfl (congrArg Value.bool (decide_eq_false g3)) <| Op1.loadA (vs := [.int .u32 _, .int .u32 _, .slice _ _ _]) ty26 rfl rfl rfl (cells_of_obj (n := 3) (hst.objL (.tail _ (.head _))) _ rfl) <| TK (t := 29) rfl (congrArg Value.bool (decide_eq_false g3)) (Op1.call1 (v1 := .agg #[.int .u32 _, .int .u32 _, .slice _ _ _]) ent21 rfl rfl ((R3md_CopyModule _ _ dO2 _ _ _ (Res.rmod_of_omod (hst.hL _ (.tail _ (.tail _ (.head _))))) hs2.lenC hs2.laC).mono fun v w hp => ?_))
 obtain ⟨bM1, dM1, rfl, hdM1, hp⟩ := hp
 replace hst : St _ _ (_ :: _) _ _ := hst.call0 hp
 clear hp
 refine TK (t := 29) rfl (congrArg Value.bool (decide_eq_false g3)) (Op1.call1 (v1 := .agg #[.int .u32 _, .int .u32 _, .slice _ _ _]) ent23 rfl rfl ((R3cd_ShapeD (se := 0) (sa := 0) (by rw [hdM1, hdO2]; exact hS) _ _ _ (Res.rmod_of_omod (hst.hL _ (.head _))) (Small.of hdM1 hs2)).mono fun v w hp => ?_))
 obtain ⟨rfl, hp⟩ := hp
 replace hst := hst.keepc hp
 clear hp
 refine TK (t := 29) rfl (congrArg Value.bool (decide_eq_false g3)) <| Op1.fieldV (v := .int .i64 _) Try.underlying29 rfl rfl (PartOk.one ty27 rfl rfl) <| TK (t := 29) rfl (congrArg Value.bool (decide_eq_false g3)) <| Op1.neq rfl rfl <| CN <| Op1.pickF (u := .bool _) (congrArg Value.bool (decide_eq_false g3)) rfl <| NL <| Run.forget [(0, .slice _ _ _), (3, .pointer (some ⟨_, _, none⟩)), (35, .bool _)] ⟨rfl, rfl, rfl, trivial⟩ fun f => run_cond_dec rfl (fun g4 => ?_) (fun g4 => ?_)
 · skip
   exfalso
   exact g4 rfl
 refine run_skip <| SR <| CN <| Op1.loadA (vs := [.int .u32 _, .int .u32 _, .slice _ _ _]) ty26 rfl rfl rfl (cells_of_obj (n := 3) (hst.objL (.tail _ (.tail _ (.head _)))) _ rfl) <| CN (Op1.call1 (v1 := .agg #[.int .u32 _, .int .u32 _, .slice _ _ _]) ent21 rfl rfl ((R3md_CopyModule _ _ dO2 _ _ _ (Res.rmod_of_omod (hst.hL _ (.tail _ (.tail _ (.tail _ (.head _)))))) hs2.lenC hs2.laC).mono fun v w hp => ?_))
 obtain ⟨bM2, dM2, rfl, hdM2, hp⟩ := hp
 replace hst : St _ _ (_ :: _) _ _ := hst.call0 hp
 clear hp
 refine CN (Op1.call1 (v1 := .agg #[.int .u32 _, .int .u32 _, .slice _ _ _]) ent22 rfl rfl ((R3cd_EncodeD (se := 0) (sa := 0) (bs := b) (by rw [hdM2, hdO2]; exact hE) _ _ _ (Res.rmod_of_omod (hst.hL _ (.head _))) (Small.of hdM2 hs2)).mono fun v w hp => ?_))
 obtain ⟨aB, rB, rfl, hp⟩ := hp
 replace hst : St _ _ (_ :: _) _ _ := hst.call0 hp
 clear hp
 refine CN <| Op1.move (v := .tuple #[.slice _ _ _, .agg #[.int .i64 _, .int .i64 _]]) rfl <| CN <| Op1.extract (v := .slice _ _ _) rfl rfl <| CN <| Op1.extract (v := .agg #[.int .i64 _, .int .i64 _]) rfl rfl <| CN <| Op1.alloc hst ty29 fun w b6 hst => AL rfl <| CN (SO (v := .agg #[.int .i64 _, .int .i64 _]) hst ty29 rfl rfl (.here) fun w hst => ?_)
 refine NSR <| CN <| Op1.fieldAddr fld29_0 rfl <| CN <| Op1.load1 (v := .int .i64 _) ty27 rfl rfl (hst.cellL (.head _) rfl) <| CN <| Op1.eql rfl rfl <| MB rfl <| RunL.splitD (d := 45) rfl (fun g5 => ?_) (fun g5 => ?_)
 · skip
   refine TK (t := 45) rfl (congrArg Value.bool (decide_eq_true g5)) <| Op1.move (v := .slice _ _ _) rfl <| TK (t := 45) rfl (congrArg Value.bool (decide_eq_true g5)) <| Op1.move (v := .slice _ _ _) rfl <| TK (t := 45) rfl (congrArg Value.bool (decide_eq_true g5)) (Op1.call2 (v1 := .slice _ _ _) (v2 := .slice _ _ _) ent17 rfl rfl rfl ((R3wd_Bytes b b _ _ _ _ _ (Res.rs_of_sl (hst.hL _ (.tail _ (.head _)))) (hst.hD _ (.head _)) (by omega)).mono fun v w hp => ?_))
   obtain ⟨he, hp⟩ := hp
   replace he := he.trans (congrArg Value.bool (decide_eq_true rfl))
   subst he
   replace hst := hst.keepc hp
   clear hp
   refine CN <| Op1.pickT (u := .bool _) (congrArg Value.bool (decide_eq_true g5)) rfl <| MB rfl <| TK (t := 50) rfl (congrArg Value.bool (rfl : true = _)) (Op1.call0  ent19 rfl  ((R3law_awake _).mono fun v w hp => ?_))
   obtain ⟨rfl, hp⟩ := hp
   replace hst := hst.keepc hp
   clear hp
   refine CN <| Op1.pickT (u := .bool _) (congrArg Value.bool (rfl : true = _)) rfl <| AB rfl <| NL <| run_ret1 Try.func7 rfl (TP (v := .bool _) rfl) ?_
   exact ⟨rfl, hst.pure⟩
 exfalso
 exact g5 rfl
end Go.SK
