/-
  Steps of functions, plain law, and walks of functions: what the laws rest on.
-/
import Derived.Test.YtoodfjpigminkaaSkG0b
set_option linter.unusedVariables false
set_option linter.unusedSimpArgs false
set_option linter.unusedSectionVars false
namespace Go.SK
open Go Go.Proofs
open Go.RowKit
theorem R3wd_Word (b : Nat) (ao : Option Addr) (cp : Nat) (l : List Int) (a : Nat) (w : World) (hR : (RdR 135 23 b ao cp l a).holds w) (hl : l.length ≤ 35184372088832) (ha : a ≤ l.length) : Ret Try.prog 84 #[.pointer (some ⟨b, 0, none⟩)] w (fun v w' => (a < l.length ∧ v = .tuple #[.int .u32 (l.getD a 0), .int .i64 0] ∧ St w (RdR 135 23 b ao cp l a).foot [RdR 135 23 b ao cp l (a + 1)] [] w') ∨ (a = l.length ∧ v = .tuple #[.int .u32 0, .int .i64 14] ∧ St w (RdR 135 23 b ao cp l a).foot [RdR 135 23 b ao cp l a] [] w')) := by
 rcases Nat.lt_or_ge a l.length with h | h
 · exact (R3wd_WordOk b ao cp l a w hR hl h).mono fun v w' hp => .inl ⟨h, hp⟩
 · exact (R3wd_WordEnd b ao cp l a w hR hl (by omega)).mono fun v w' hp => .inr ⟨by omega, hp⟩
theorem R3fr_head (b : Nat) (ao : Option Addr) (cp : Nat) (l : List Int) (w : World) (hR : (RdR 135 23 b ao cp l 0).holds w) (hl : l.length ≤ 35184372088832) : Ret Try.prog 69 #[.pointer (some ⟨b, 0, none⟩)] w (fun v w' => v = headV l ∧ St w (RdR 135 23 b ao cp l 0).foot [] [] w') := by
 refine Ret.enter (args := [.pointer (some ⟨b, 0, none⟩)]) Try.func69 rfl rfl rfl ?_
 have hst : St w (RdR 135 23 b ao cp l 0).foot [RdR 135 23 b ao cp l 0] [] w := St.enter1 hR (fun d hd => by cases hd) (fun d hd => by cases hd)
 refine SR <| CN <| Op1.alloc hst ty66 fun w b2 hst => CN <| Op1.alloc hst ty29 fun w b3 hst => NSR <| CN <| Op1.alloc hst ty66 fun w b4 hst => NL <| SQ <| SR <| MI rfl <| NL <| run_block ?_
 refine run_loop <| SR <| CN <| Op1.lss rfl rfl <| NL <| SQ ?_
 have hq0 : ∀ j, j < 0 → hd1 l j = 0 := no_lt
 refine run_cond_true (congrArg Value.bool (decide_eq_true (by decide))) <| run_skip <| SQ <| run_block <| SR <| MI rfl <| AI rfl <| NL <| SQ ?_
 replace hst := hst.pick (.cons (.there (.there (.there (.here)))) (.cons (.here) (.cons (.here) (.cons (.here) .nil))))
 refine RG <| MP rfl <| CN (Op1.call1 (v1 := .pointer (some ⟨_, _, none⟩)) ent84 rfl rfl ((R3wd_Word _ _ _ l 0 _ (hst.hL _ (.head _)) hl (by omega)).mono fun v w hp => ?_))
 rcases hp with ⟨hin0, rfl, hp⟩ | ⟨hin0, rfl, hp⟩
 · skip
   replace hst : St _ _ (RdR 135 23 b ao cp l 1 :: _) _ _ := hst.call1 hp
   clear hp
   refine CN <| Op1.move (v := .tuple #[.int .u32 _, .int .i64 _]) rfl <| CN <| Op1.extract (v := .int .u32 _) rfl rfl <| CN <| Op1.extract (v := .int .i64 _) rfl rfl <| AU rfl <| AI rfl <| NL <| SQ <| run_block <| SR <| MI rfl <| CN <| Op1.neq rfl rfl <| AB rfl <| NL <| run_cond_dec rfl (fun g1 => ?_) (fun g1 => ?_)
   · skip
     exfalso
     exact g1 rfl
   refine SR <| MI rfl <| CN <| Op1.eql rfl rfl <| MB rfl <| RunL.splitD (d := 22) rfl (fun g2 => ?_) (fun g2 => ?_)
   · skip
     refine TK (t := 22) rfl (congrArg Value.bool (decide_eq_true g2)) <| Op1.move (v := .int .u32 _) rfl <| TK (t := 22) rfl (congrArg Value.bool (decide_eq_true g2)) (Op1.call1 (v1 := .int .u32 _) ent97 rfl rfl ((R3wd_Turned _).mono fun v w hp => ?_))
     obtain ⟨rfl, hp⟩ := hp
     replace hst := hst.keepc hp
     clear hp
     refine TK (t := 22) rfl (congrArg Value.bool (decide_eq_true g2)) <| Op1.eql rfl rfl <| CN <| Op1.pickT (u := .bool _) (congrArg Value.bool (decide_eq_true g2)) rfl <| AB rfl <| NL <| Run.forget [(0, .pointer (some ⟨_, _, none⟩)), (2, .pointer (some ⟨_, _, none⟩)), (3, .pointer (some ⟨_, _, none⟩)), (4, .pointer (some ⟨_, _, none⟩)), (5, .int .i64 _), (6, .int .u32 _), (7, .int .i64 _), (8, .int .i64 _), (19, .bool _)] ⟨rfl, rfl, rfl, rfl, rfl, rfl, rfl, rfl, rfl, trivial⟩ fun f => run_cond_dec rfl (fun g3 => ?_) (fun g3 => ?_)
     · skip
       refine RG <| AI rfl <| NL <| run_inBlock <| SR <| MI rfl <| CN <| Op1.neq rfl rfl <| NL <| run_cond_dec rfl (fun g4 => ?_) (fun g4 => ?_)
       · skip
         refine SR <| CN (Op1.buildStruct ty66 stf66 .nil ?_)
         refine MI rfl <| MI rfl <| CN (Op1.buildStruct ty29 stf29 (.c (v := .int .i64 _) rfl (h := (.c (v := .int .i64 _) rfl (h := .nil)))) ?_)
         refine CN (SO (v := .agg #[.int .u32 _, .int .u32 _]) hst ty66 rfl rfl (.there (.there (.there (.here)))) fun w hst => ?_)
         refine CN (SO (v := .agg #[.int .i64 _, .int .i64 _]) hst ty29 rfl rfl (.there (.there (.here))) fun w hst => ?_)
         refine NL <| run_ret2 Try.func69 rfl (RV.cellA (vs := [.int .u32 _, .int .u32 _]) rfl ty66 rfl rfl (cells_of_obj (n := 2) (hst.objL (.tail _ (.tail _ (.tail _ (.head _))))) _ rfl)) (RV.cellA (vs := [.int .i64 _, .int .i64 _]) rfl ty29 rfl rfl (cells_of_obj (n := 2) (hst.objL (.tail _ (.tail _ (.head _)))) _ rfl)) ?_
         replace hst := hst.pick .nil
         exact ⟨(headV_bad (headE_at (k := 0) (e := 21) (by decide) hq0 (hd_in hin0 (wf0s (by omega))) (by decide)) (by decide)).symm, hst⟩
       exfalso
       exact g4 (by decide)
     refine SR <| MI rfl <| CN <| Op1.eql rfl rfl <| MB rfl <| RunL.splitD (d := 30) rfl (fun g5 => ?_) (fun g5 => ?_)
     · skip
       refine TK (t := 30) rfl (congrArg Value.bool (decide_eq_true g5)) <| Op1.move (v := .int .u32 _) rfl <| TK (t := 30) rfl (congrArg Value.bool (decide_eq_true g5)) <| Op1.neq rfl rfl <| CN <| Op1.pickT (u := .bool _) (congrArg Value.bool (decide_eq_true g5)) rfl <| AB rfl <| NL <| run_cond_dec rfl (fun g6 => ?_) (fun g6 => ?_)
       · skip
         refine RG <| AI rfl <| NL <| run_inBlock <| SR <| MI rfl <| CN <| Op1.neq rfl rfl <| NL <| run_cond_dec rfl (fun g7 => ?_) (fun g7 => ?_)
         · skip
           refine SR <| CN (Op1.buildStruct ty66 stf66 .nil ?_)
           refine MI rfl <| MI rfl <| CN (Op1.buildStruct ty29 stf29 (.c (v := .int .i64 _) rfl (h := (.c (v := .int .i64 _) rfl (h := .nil)))) ?_)
           refine CN (SO (v := .agg #[.int .u32 _, .int .u32 _]) hst ty66 rfl rfl (.there (.there (.there (.here)))) fun w hst => ?_)
           refine CN (SO (v := .agg #[.int .i64 _, .int .i64 _]) hst ty29 rfl rfl (.there (.there (.here))) fun w hst => ?_)
           refine NL <| run_ret2 Try.func69 rfl (RV.cellA (vs := [.int .u32 _, .int .u32 _]) rfl ty66 rfl rfl (cells_of_obj (n := 2) (hst.objL (.tail _ (.tail _ (.tail _ (.head _))))) _ rfl)) (RV.cellA (vs := [.int .i64 _, .int .i64 _]) rfl ty29 rfl rfl (cells_of_obj (n := 2) (hst.objL (.tail _ (.tail _ (.head _)))) _ rfl)) ?_
           replace hst := hst.pick .nil
           exact ⟨(headV_bad (headE_at (k := 0) (e := 20) (by decide) hq0 (hd_in hin0 (wf0m (by omega) (by omega))) (by decide)) (by decide)).symm, hst⟩
         exfalso
         exact g7 (by decide)
       refine SR <| MI rfl <| CN <| Op1.eql rfl rfl <| MB rfl <| RunL.splitD (d := 37) rfl (fun g8 => ?_) (fun g8 => ?_)
       · skip
         exfalso
         first | exact g8 (by decide) | exact absurd g8 (by decide)
       refine OM (t := 37) rfl (congrArg Value.bool (decide_eq_false g8)) rfl <| OM (t := 37) rfl (congrArg Value.bool (decide_eq_false g8)) rfl <| CN <| Op1.pickF (u := .bool _) (congrArg Value.bool (decide_eq_false g8)) rfl <| AB rfl <| NL <| run_cond_false (congrArg Value.bool (rfl : false = _)) <| SR <| MI rfl <| CN <| Op1.eql rfl rfl <| AB rfl <| NL <| run_cond_dec rfl (fun g9 => ?_) (fun g9 => ?_)
       · skip
         exfalso
         first | exact g9 (by decide) | exact absurd g9 (by decide)
       refine SR <| MI rfl <| CN <| Op1.eql rfl rfl <| MB rfl <| RunL.splitD (d := 49) rfl (fun g10 => ?_) (fun g10 => ?_)
       · skip
         exfalso
         first | exact g10 (by decide) | exact absurd g10 (by decide)
       refine OM (t := 49) rfl (congrArg Value.bool (decide_eq_false g10)) rfl <| OM (t := 49) rfl (congrArg Value.bool (decide_eq_false g10)) rfl <| OM (t := 49) rfl (congrArg Value.bool (decide_eq_false g10)) rfl <| RunL.omitU (t := 52) rfl rfl <| RunL.omitU (t := 52) rfl rfl <| OM (t := 49) rfl (congrArg Value.bool (decide_eq_false g10)) rfl <| CN <| Op1.pickF (u := .bool _) (congrArg Value.bool (decide_eq_false g10)) rfl <| AB rfl <| NL <| Run.forget [(0, .pointer (some ⟨_, _, none⟩)), (2, .pointer (some ⟨_, _, none⟩)), (3, .pointer (some ⟨_, _, none⟩)), (4, .pointer (some ⟨_, _, none⟩)), (5, .int .i64 _), (6, .int .u32 _), (7, .int .i64 _), (8, .int .i64 _), (46, .bool _)] ⟨rfl, rfl, rfl, rfl, rfl, rfl, rfl, rfl, rfl, trivial⟩ fun f => run_cond_false (congrArg Value.bool (rfl : false = _)) <| SR <| MI rfl <| CN (Op1.eql rfl rfl ?_)
       refine AB rfl <| NL <| run_cond_dec rfl (fun g11 => ?_) (fun g11 => ?_)
       · skip
         exfalso
         first | exact g11 (by decide) | exact absurd g11 (by decide)
       refine SR <| MI rfl <| CN <| Op1.eql rfl rfl <| MB rfl <| RunL.splitD (d := 65) rfl (fun g12 => ?_) (fun g12 => ?_)
       · skip
         exfalso
         first | exact g12 (by decide) | exact absurd g12 (by decide)
       refine OM (t := 65) rfl (congrArg Value.bool (decide_eq_false g12)) rfl <| OM (t := 65) rfl (congrArg Value.bool (decide_eq_false g12)) rfl <| CN <| Op1.pickF (u := .bool _) (congrArg Value.bool (decide_eq_false g12)) rfl <| AB rfl <| NL <| run_cond_false (congrArg Value.bool (rfl : false = _)) <| run_skip <| run_inBlock <| SR <| MI rfl <| CN <| Op1.neq rfl rfl <| NL <| run_cond_dec rfl (fun g13 => ?_) (fun g13 => ?_)
       · skip
         exfalso
         exact g13 rfl
       have hq1 : ∀ j, j < 1 → hd1 l j = 0 := step_all hq0 (hd_in hin0 (wf0k (by omega)))
       refine run_skip <| run_inBlock <| RG <| CN <| Op1.addN rfl rfl rfl (wrap_i64 (by omega) (by omega)) <| MI rfl <| NL <| run_inLoop <| SR <| CN <| Op1.lss rfl rfl <| NL <| SQ <| run_cond_true (congrArg Value.bool (decide_eq_true (by decide))) <| run_skip <| SQ ?_
       refine run_block <| SR <| MI rfl <| AI rfl <| NSR <| MP rfl <| CN (Op1.call1 (v1 := .pointer (some ⟨_, _, none⟩)) ent84 rfl rfl ((R3wd_Word _ _ _ l 1 _ (hst.hL _ (.head _)) hl (by omega)).mono fun v w hp => ?_))
       rcases hp with ⟨hin1, rfl, hp⟩ | ⟨hin1, rfl, hp⟩
       · skip
         replace hst : St _ _ (RdR 135 23 b ao cp l 2 :: _) _ _ := hst.call1 hp
         clear hp
         refine CN <| Op1.move (v := .tuple #[.int .u32 _, .int .i64 _]) rfl <| CN <| Op1.extract (v := .int .u32 _) rfl rfl <| CN <| Op1.extract (v := .int .i64 _) rfl rfl <| AU rfl <| AI rfl <| NL <| Run.forget [(0, .pointer (some ⟨_, _, none⟩)), (2, .pointer (some ⟨_, _, none⟩)), (3, .pointer (some ⟨_, _, none⟩)), (4, .pointer (some ⟨_, _, none⟩)), (5, .int .i64 _), (6, .int .u32 _), (7, .int .i64 _), (8, .int .i64 _)] ⟨rfl, rfl, rfl, rfl, rfl, rfl, rfl, rfl, trivial⟩ fun f => SQ <| run_block <| SR <| MI rfl <| CN <| Op1.neq rfl rfl <| AB rfl <| NL ?_
         refine run_cond_dec rfl (fun g14 => ?_) (fun g14 => ?_)
         · skip
           exfalso
           exact g14 rfl
         refine SR <| MI rfl <| CN <| Op1.eql rfl rfl <| MB rfl <| RunL.splitD (d := 22) rfl (fun g15 => ?_) (fun g15 => ?_)
         · skip
           exfalso
           first | exact g15 (by decide) | exact absurd g15 (by decide)
         refine OM (t := 22) rfl (congrArg Value.bool (decide_eq_false g15)) rfl <| OM (t := 22) rfl (congrArg Value.bool (decide_eq_false g15)) rfl <| OM (t := 22) rfl (congrArg Value.bool (decide_eq_false g15)) rfl <| CN <| Op1.pickF (u := .bool _) (congrArg Value.bool (decide_eq_false g15)) rfl <| AB rfl <| NL <| run_cond_false (congrArg Value.bool (rfl : false = _)) <| SR <| MI rfl <| CN <| Op1.eql rfl rfl <| MB rfl <| RunL.splitD (d := 30) rfl (fun g16 => ?_) (fun g16 => ?_)
         · skip
           exfalso
           first | exact g16 (by decide) | exact absurd g16 (by decide)
         refine OM (t := 30) rfl (congrArg Value.bool (decide_eq_false g16)) rfl <| OM (t := 30) rfl (congrArg Value.bool (decide_eq_false g16)) rfl <| CN <| Op1.pickF (u := .bool _) (congrArg Value.bool (decide_eq_false g16)) rfl <| AB rfl <| NL <| run_cond_false (congrArg Value.bool (rfl : false = _)) <| SR <| MI rfl <| CN <| Op1.eql rfl rfl <| MB rfl <| RunL.splitD (d := 37) rfl (fun g17 => ?_) (fun g17 => ?_)
         · skip
           refine TK (t := 37) rfl (congrArg Value.bool (decide_eq_true g17)) <| Op1.move (v := .int .u32 _) rfl <| TK (t := 37) rfl (congrArg Value.bool (decide_eq_true g17)) <| Op1.neq rfl rfl <| CN <| Op1.pickT (u := .bool _) (congrArg Value.bool (decide_eq_true g17)) rfl <| AB rfl <| NL <| Run.forget [(0, .pointer (some ⟨_, _, none⟩)), (2, .pointer (some ⟨_, _, none⟩)), (3, .pointer (some ⟨_, _, none⟩)), (4, .pointer (some ⟨_, _, none⟩)), (5, .int .i64 _), (6, .int .u32 _), (7, .int .i64 _), (8, .int .i64 _), (34, .bool _)] ⟨rfl, rfl, rfl, rfl, rfl, rfl, rfl, rfl, rfl, trivial⟩ fun f => run_cond_dec rfl (fun g18 => ?_) (fun g18 => ?_)
           · skip
             refine RG <| AI rfl <| NL <| run_inBlock <| SR <| MI rfl <| CN <| Op1.neq rfl rfl <| NL <| run_cond_dec rfl (fun g19 => ?_) (fun g19 => ?_)
             · skip
               refine SR <| CN (Op1.buildStruct ty66 stf66 .nil ?_)
               refine MI rfl <| MI rfl <| CN (Op1.buildStruct ty29 stf29 (.c (v := .int .i64 _) rfl (h := (.c (v := .int .i64 _) rfl (h := .nil)))) ?_)
               refine CN (SO (v := .agg #[.int .u32 _, .int .u32 _]) hst ty66 rfl rfl (.there (.there (.there (.here)))) fun w hst => ?_)
               refine CN (SO (v := .agg #[.int .i64 _, .int .i64 _]) hst ty29 rfl rfl (.there (.there (.here))) fun w hst => ?_)
               refine NL <| run_ret2 Try.func69 rfl (RV.cellA (vs := [.int .u32 _, .int .u32 _]) rfl ty66 rfl rfl (cells_of_obj (n := 2) (hst.objL (.tail _ (.tail _ (.tail _ (.head _))))) _ rfl)) (RV.cellA (vs := [.int .i64 _, .int .i64 _]) rfl ty29 rfl rfl (cells_of_obj (n := 2) (hst.objL (.tail _ (.tail _ (.head _)))) _ rfl)) ?_
               replace hst := hst.pick .nil
               exact ⟨(headV_bad (headE_at (k := 1) (e := 22) (by decide) hq1 (hd_in hin1 (wf1v (by omega))) (by decide)) (by decide)).symm, hst⟩
             exfalso
             exact g19 (by decide)
           refine SR <| MI rfl <| CN <| Op1.eql rfl rfl <| AB rfl <| NL <| run_cond_dec rfl (fun g20 => ?_) (fun g20 => ?_)
           · skip
             exfalso
             first | exact g20 (by decide) | exact absurd g20 (by decide)
           refine SR <| MI rfl <| CN <| Op1.eql rfl rfl <| MB rfl <| RunL.splitD (d := 49) rfl (fun g21 => ?_) (fun g21 => ?_)
           · skip
             exfalso
             first | exact g21 (by decide) | exact absurd g21 (by decide)
           refine OM (t := 49) rfl (congrArg Value.bool (decide_eq_false g21)) rfl <| OM (t := 49) rfl (congrArg Value.bool (decide_eq_false g21)) rfl <| OM (t := 49) rfl (congrArg Value.bool (decide_eq_false g21)) rfl <| RunL.omitU (t := 52) rfl rfl <| RunL.omitU (t := 52) rfl rfl <| OM (t := 49) rfl (congrArg Value.bool (decide_eq_false g21)) rfl <| CN <| Op1.pickF (u := .bool _) (congrArg Value.bool (decide_eq_false g21)) rfl <| AB rfl <| NL <| run_cond_false (congrArg Value.bool (rfl : false = _)) <| SR <| MI rfl <| CN <| Op1.eql rfl rfl <| AB rfl ?_
           refine NL <| run_cond_dec rfl (fun g22 => ?_) (fun g22 => ?_)
           · skip
             exfalso
             first | exact g22 (by decide) | exact absurd g22 (by decide)
           refine SR <| MI rfl <| CN <| Op1.eql rfl rfl <| MB rfl <| RunL.splitD (d := 65) rfl (fun g23 => ?_) (fun g23 => ?_)
           · skip
             exfalso
             first | exact g23 (by decide) | exact absurd g23 (by decide)
           refine OM (t := 65) rfl (congrArg Value.bool (decide_eq_false g23)) rfl <| OM (t := 65) rfl (congrArg Value.bool (decide_eq_false g23)) rfl <| CN <| Op1.pickF (u := .bool _) (congrArg Value.bool (decide_eq_false g23)) rfl <| AB rfl <| NL <| run_cond_false (congrArg Value.bool (rfl : false = _)) <| run_skip <| run_inBlock <| SR <| MI rfl <| CN <| Op1.neq rfl rfl <| NL <| run_cond_dec rfl (fun g24 => ?_) (fun g24 => ?_)
           · skip
             exfalso
             exact g24 rfl
           have hq2 : ∀ j, j < 2 → hd1 l j = 0 := step_all hq1 (hd_in hin1 (wf1k (by omega)))
           refine run_skip <| run_inBlock <| RG <| CN <| Op1.addN rfl rfl rfl (wrap_i64 (by omega) (by omega)) <| MI rfl <| NL <| run_inLoop <| Run.forget [(0, .pointer (some ⟨_, _, none⟩)), (2, .pointer (some ⟨_, _, none⟩)), (3, .pointer (some ⟨_, _, none⟩)), (4, .pointer (some ⟨_, _, none⟩)), (8, .int .i64 _)] ⟨rfl, rfl, rfl, rfl, rfl, trivial⟩ fun f => SR <| CN <| Op1.lss rfl rfl <| NL <| SQ <| run_cond_true (congrArg Value.bool (decide_eq_true (by decide))) <| run_skip ?_
           refine SQ <| run_block <| SR <| MI rfl <| AI rfl <| NSR <| MP rfl <| CN (Op1.call1 (v1 := .pointer (some ⟨_, _, none⟩)) ent84 rfl rfl ((R3wd_Word _ _ _ l 2 _ (hst.hL _ (.head _)) hl (by omega)).mono fun v w hp => ?_))
           rcases hp with ⟨hin2, rfl, hp⟩ | ⟨hin2, rfl, hp⟩
           · skip
             replace hst : St _ _ (RdR 135 23 b ao cp l 3 :: _) _ _ := hst.call1 hp
             clear hp
             refine CN <| Op1.move (v := .tuple #[.int .u32 _, .int .i64 _]) rfl <| CN <| Op1.extract (v := .int .u32 _) rfl rfl <| CN <| Op1.extract (v := .int .i64 _) rfl rfl <| AU rfl <| AI rfl <| NL <| SQ <| run_block <| SR <| MI rfl <| CN <| Op1.neq rfl rfl <| AB rfl <| NL <| run_cond_dec rfl (fun g25 => ?_) (fun g25 => ?_)
             · skip
               exfalso
               exact g25 rfl
             refine SR <| MI rfl <| CN <| Op1.eql rfl rfl <| MB rfl <| RunL.splitD (d := 22) rfl (fun g26 => ?_) (fun g26 => ?_)
             · skip
               exfalso
               first | exact g26 (by decide) | exact absurd g26 (by decide)
             refine OM (t := 22) rfl (congrArg Value.bool (decide_eq_false g26)) rfl <| OM (t := 22) rfl (congrArg Value.bool (decide_eq_false g26)) rfl <| OM (t := 22) rfl (congrArg Value.bool (decide_eq_false g26)) rfl <| CN <| Op1.pickF (u := .bool _) (congrArg Value.bool (decide_eq_false g26)) rfl <| AB rfl <| NL <| run_cond_false (congrArg Value.bool (rfl : false = _)) <| SR <| MI rfl <| CN <| Op1.eql rfl rfl <| MB rfl <| RunL.splitD (d := 30) rfl (fun g27 => ?_) (fun g27 => ?_)
             · skip
               exfalso
               first | exact g27 (by decide) | exact absurd g27 (by decide)
             refine OM (t := 30) rfl (congrArg Value.bool (decide_eq_false g27)) rfl <| OM (t := 30) rfl (congrArg Value.bool (decide_eq_false g27)) rfl <| CN <| Op1.pickF (u := .bool _) (congrArg Value.bool (decide_eq_false g27)) rfl <| AB rfl <| NL <| Run.forget [(0, .pointer (some ⟨_, _, none⟩)), (2, .pointer (some ⟨_, _, none⟩)), (3, .pointer (some ⟨_, _, none⟩)), (4, .pointer (some ⟨_, _, none⟩)), (5, .int .i64 _), (6, .int .u32 _), (7, .int .i64 _), (8, .int .i64 _), (27, .bool _)] ⟨rfl, rfl, rfl, rfl, rfl, rfl, rfl, rfl, rfl, trivial⟩ fun f => run_cond_false (congrArg Value.bool (rfl : false = _)) <| SR <| MI rfl <| CN <| Op1.eql rfl rfl <| MB rfl <| RunL.splitD (d := 37) rfl (fun g28 => ?_) (fun g28 => ?_)
             · skip
               exfalso
               first | exact g28 (by decide) | exact absurd g28 (by decide)
             refine OM (t := 37) rfl (congrArg Value.bool (decide_eq_false g28)) rfl <| OM (t := 37) rfl (congrArg Value.bool (decide_eq_false g28)) rfl <| CN <| Op1.pickF (u := .bool _) (congrArg Value.bool (decide_eq_false g28)) rfl <| AB rfl <| NL <| run_cond_false (congrArg Value.bool (rfl : false = _)) <| SR <| MI rfl <| CN <| Op1.eql rfl rfl <| AB rfl <| NL <| run_cond_dec rfl (fun g29 => ?_) (fun g29 => ?_)
             · skip
               refine RG <| MU rfl <| CN <| Op1.fieldAddr fld66_0 rfl <| CN (SO (v := .int .u32 _) hst ty23 rfl rfl (.there (.here)) fun w hst => ?_)
               refine NL <| run_inBlock <| SR <| MI rfl <| CN <| Op1.neq rfl rfl <| NL <| run_cond_dec rfl (fun g30 => ?_) (fun g30 => ?_)
               · skip
                 exfalso
                 exact g30 rfl
               have hq3 : ∀ j, j < 3 → hd1 l j = 0 := step_all hq2 (hd_in hin2 (wf2k))
               refine run_skip <| run_inBlock <| RG <| CN <| Op1.addN rfl rfl rfl (wrap_i64 (by omega) (by omega)) <| MI rfl <| NL <| run_inLoop <| SR <| CN <| Op1.lss rfl rfl <| NL <| SQ <| run_cond_true (congrArg Value.bool (decide_eq_true (by decide))) <| run_skip <| SQ ?_
               refine run_block <| SR <| MI rfl <| AI rfl <| NSR <| MP rfl <| CN (Op1.call1 (v1 := .pointer (some ⟨_, _, none⟩)) ent84 rfl rfl ((R3wd_Word _ _ _ l 3 _ (hst.hL _ (.head _)) hl (by omega)).mono fun v w hp => ?_))
               rcases hp with ⟨hin3, rfl, hp⟩ | ⟨hin3, rfl, hp⟩
               · skip
                 replace hst : St _ _ (RdR 135 23 b ao cp l 4 :: _) _ _ := hst.call1 hp
                 clear hp
                 refine CN <| Op1.move (v := .tuple #[.int .u32 _, .int .i64 _]) rfl <| CN <| Op1.extract (v := .int .u32 _) rfl rfl <| CN <| Op1.extract (v := .int .i64 _) rfl rfl <| AU rfl <| AI rfl <| NL <| Run.forget [(0, .pointer (some ⟨_, _, none⟩)), (2, .pointer (some ⟨_, _, none⟩)), (3, .pointer (some ⟨_, _, none⟩)), (4, .pointer (some ⟨_, _, none⟩)), (5, .int .i64 _), (6, .int .u32 _), (7, .int .i64 _), (8, .int .i64 _)] ⟨rfl, rfl, rfl, rfl, rfl, rfl, rfl, rfl, trivial⟩ fun f => SQ <| run_block <| SR <| MI rfl <| CN <| Op1.neq rfl rfl <| AB rfl <| NL ?_
                 refine run_cond_dec rfl (fun g31 => ?_) (fun g31 => ?_)
                 · skip
                   exfalso
                   exact g31 rfl
                 refine SR <| MI rfl <| CN <| Op1.eql rfl rfl <| MB rfl <| RunL.splitD (d := 22) rfl (fun g32 => ?_) (fun g32 => ?_)
                 · skip
                   exfalso
                   first | exact g32 (by decide) | exact absurd g32 (by decide)
                 refine OM (t := 22) rfl (congrArg Value.bool (decide_eq_false g32)) rfl <| OM (t := 22) rfl (congrArg Value.bool (decide_eq_false g32)) rfl <| OM (t := 22) rfl (congrArg Value.bool (decide_eq_false g32)) rfl <| CN <| Op1.pickF (u := .bool _) (congrArg Value.bool (decide_eq_false g32)) rfl <| AB rfl <| NL <| run_cond_false (congrArg Value.bool (rfl : false = _)) <| SR <| MI rfl <| CN <| Op1.eql rfl rfl <| MB rfl <| RunL.splitD (d := 30) rfl (fun g33 => ?_) (fun g33 => ?_)
                 · skip
                   exfalso
                   first | exact g33 (by decide) | exact absurd g33 (by decide)
                 refine OM (t := 30) rfl (congrArg Value.bool (decide_eq_false g33)) rfl <| OM (t := 30) rfl (congrArg Value.bool (decide_eq_false g33)) rfl <| CN <| Op1.pickF (u := .bool _) (congrArg Value.bool (decide_eq_false g33)) rfl <| AB rfl <| NL <| run_cond_false (congrArg Value.bool (rfl : false = _)) <| SR <| MI rfl <| CN <| Op1.eql rfl rfl <| MB rfl <| RunL.splitD (d := 37) rfl (fun g34 => ?_) (fun g34 => ?_)
                 · skip
                   exfalso
                   first | exact g34 (by decide) | exact absurd g34 (by decide)
                 refine OM (t := 37) rfl (congrArg Value.bool (decide_eq_false g34)) rfl <| OM (t := 37) rfl (congrArg Value.bool (decide_eq_false g34)) rfl <| CN <| Op1.pickF (u := .bool _) (congrArg Value.bool (decide_eq_false g34)) rfl <| AB rfl <| NL <| run_cond_false (congrArg Value.bool (rfl : false = _)) <| SR <| MI rfl <| CN <| Op1.eql rfl rfl <| AB rfl <| NL <| Run.forget [(0, .pointer (some ⟨_, _, none⟩)), (2, .pointer (some ⟨_, _, none⟩)), (3, .pointer (some ⟨_, _, none⟩)), (4, .pointer (some ⟨_, _, none⟩)), (5, .int .i64 _), (6, .int .u32 _), (7, .int .i64 _), (8, .int .i64 _), (41, .bool _)] ⟨rfl, rfl, rfl, rfl, rfl, rfl, rfl, rfl, rfl, trivial⟩ fun f => run_cond_dec rfl (fun g35 => ?_) (fun g35 => ?_)
                 · skip
                   exfalso
                   first | exact g35 (by decide) | exact absurd g35 (by decide)
                 refine SR <| MI rfl <| CN <| Op1.eql rfl rfl <| MB rfl <| RunL.splitD (d := 49) rfl (fun g36 => ?_) (fun g36 => ?_)
                 · skip
                   refine TK (t := 49) rfl (congrArg Value.bool (decide_eq_true g36)) <| Op1.move (v := .int .u32 _) rfl <| TK (t := 49) rfl (congrArg Value.bool (decide_eq_true g36)) <| Op1.eql rfl rfl <| TK (t := 49) rfl (congrArg Value.bool (decide_eq_true g36)) <| Op1.move (v := .bool _) rfl <| RunL.splitD (d := 52) rfl (fun g37 => ?_) (fun g37 => ?_)
                   · skip
                     refine OM (t := 52) rfl (congrArg Value.bool (decide_eq_true g37)) rfl <| OM (t := 52) rfl (congrArg Value.bool (decide_eq_true g37)) rfl <| TK (t := 49) rfl (congrArg Value.bool (decide_eq_true g36)) <| Op1.pickT (u := .bool _) (congrArg Value.bool (decide_eq_true g37)) rfl <| CN <| Op1.pickT (u := .bool _) (congrArg Value.bool (decide_eq_true g36)) rfl <| AB rfl <| NL <| run_cond_true (congrArg Value.bool (rfl : true = _)) <| RG <| AI rfl <| NL <| run_inBlock <| SR <| MI rfl <| CN (Op1.neq rfl rfl ?_)
                     refine NL <| run_cond_dec rfl (fun g38 => ?_) (fun g38 => ?_)
                     · skip
                       refine SR <| CN (Op1.buildStruct ty66 stf66 .nil ?_)
                       refine MI rfl <| MI rfl <| CN (Op1.buildStruct ty29 stf29 (.c (v := .int .i64 _) rfl (h := (.c (v := .int .i64 _) rfl (h := .nil)))) ?_)
                       refine CN (SO (v := .agg #[.int .u32 _, .int .u32 _]) hst ty66 rfl rfl (.there (.there (.there (.here)))) fun w hst => ?_)
                       refine CN (SO (v := .agg #[.int .i64 _, .int .i64 _]) hst ty29 rfl rfl (.there (.there (.here))) fun w hst => ?_)
                       refine NL <| run_ret2 Try.func69 rfl (RV.cellA (vs := [.int .u32 _, .int .u32 _]) rfl ty66 rfl rfl (cells_of_obj (n := 2) (hst.objL (.tail _ (.tail _ (.tail _ (.head _))))) _ rfl)) (RV.cellA (vs := [.int .i64 _, .int .i64 _]) rfl ty29 rfl rfl (cells_of_obj (n := 2) (hst.objL (.tail _ (.tail _ (.head _)))) _ rfl)) ?_
                       replace hst := hst.pick .nil
                       exact ⟨(headV_bad (headE_at (k := 3) (e := 24) (by decide) hq3 (hd_in hin3 (wf3b (by omega))) (by decide)) (by decide)).symm, hst⟩
                     exfalso
                     exact g38 (by decide)
                   refine TK (t := 52) rfl (congrArg Value.bool (decide_eq_false g37)) <| Op1.move (v := .int .u32 _) rfl <| TK (t := 52) rfl (congrArg Value.bool (decide_eq_false g37)) <| Op1.gtr rfl rfl <| TK (t := 49) rfl (congrArg Value.bool (decide_eq_true g36)) <| Op1.pickF (u := .bool _) (congrArg Value.bool (decide_eq_false g37)) rfl <| CN <| Op1.pickT (u := .bool _) (congrArg Value.bool (decide_eq_true g36)) rfl <| AB rfl <| NL <| run_cond_dec rfl (fun g39 => ?_) (fun g39 => ?_)
                   · skip
                     refine RG <| AI rfl <| NL <| run_inBlock <| SR <| MI rfl <| CN <| Op1.neq rfl rfl <| NL <| run_cond_dec rfl (fun g40 => ?_) (fun g40 => ?_)
                     · skip
                       refine SR <| CN (Op1.buildStruct ty66 stf66 .nil ?_)
                       refine MI rfl <| MI rfl <| CN (Op1.buildStruct ty29 stf29 (.c (v := .int .i64 _) rfl (h := (.c (v := .int .i64 _) rfl (h := .nil)))) ?_)
                       refine CN (SO (v := .agg #[.int .u32 _, .int .u32 _]) hst ty66 rfl rfl (.there (.there (.there (.here)))) fun w hst => ?_)
                       refine CN (SO (v := .agg #[.int .i64 _, .int .i64 _]) hst ty29 rfl rfl (.there (.there (.here))) fun w hst => ?_)
                       refine NL <| run_ret2 Try.func69 rfl (RV.cellA (vs := [.int .u32 _, .int .u32 _]) rfl ty66 rfl rfl (cells_of_obj (n := 2) (hst.objL (.tail _ (.tail _ (.tail _ (.head _))))) _ rfl)) (RV.cellA (vs := [.int .i64 _, .int .i64 _]) rfl ty29 rfl rfl (cells_of_obj (n := 2) (hst.objL (.tail _ (.tail _ (.head _)))) _ rfl)) ?_
                       replace hst := hst.pick .nil
                       exact ⟨(headV_bad (headE_at (k := 3) (e := 24) (by decide) hq3 (hd_in hin3 (wf3b (by omega))) (by decide)) (by decide)).symm, hst⟩
                     exfalso
                     exact g40 (by decide)
                   refine SR <| MI rfl <| CN <| Op1.eql rfl rfl <| AB rfl <| NL <| run_cond_dec rfl (fun g41 => ?_) (fun g41 => ?_)
                   · skip
                     refine RG <| MU rfl <| CN <| Op1.fieldAddr fld66_1 rfl <| CN (SO (v := .int .u32 _) hst ty23 rfl rfl (.there (.here)) fun w hst => ?_)
                     refine NL <| run_inBlock <| SR <| MI rfl <| CN <| Op1.neq rfl rfl <| NL <| run_cond_dec rfl (fun g42 => ?_) (fun g42 => ?_)
                     · skip
                       exfalso
                       exact g42 rfl
                     have hq4 : ∀ j, j < 4 → hd1 l j = 0 := step_all hq3 (hd_in hin3 (wf3k (by omega) (by omega)))
                     refine run_skip <| run_inBlock <| RG <| CN <| Op1.addN rfl rfl rfl (wrap_i64 (by omega) (by omega)) <| MI rfl <| NL <| run_inLoop <| Run.forget [(0, .pointer (some ⟨_, _, none⟩)), (2, .pointer (some ⟨_, _, none⟩)), (3, .pointer (some ⟨_, _, none⟩)), (4, .pointer (some ⟨_, _, none⟩)), (8, .int .i64 _)] ⟨rfl, rfl, rfl, rfl, rfl, trivial⟩ fun f => SR <| CN <| Op1.lss rfl rfl <| NL <| SQ <| run_cond_true (congrArg Value.bool (decide_eq_true (by decide))) <| run_skip ?_
                     refine SQ <| run_block <| SR <| MI rfl <| AI rfl <| NSR <| MP rfl <| CN (Op1.call1 (v1 := .pointer (some ⟨_, _, none⟩)) ent84 rfl rfl ((R3wd_Word _ _ _ l 4 _ (hst.hL _ (.head _)) hl (by omega)).mono fun v w hp => ?_))
                     rcases hp with ⟨hin4, rfl, hp⟩ | ⟨hin4, rfl, hp⟩
                     · skip
                       replace hst : St _ _ (RdR 135 23 b ao cp l 5 :: _) _ _ := hst.call1 hp
                       clear hp
                       refine CN <| Op1.move (v := .tuple #[.int .u32 _, .int .i64 _]) rfl <| CN <| Op1.extract (v := .int .u32 _) rfl rfl <| CN <| Op1.extract (v := .int .i64 _) rfl rfl <| AU rfl <| AI rfl <| NL <| SQ <| run_block <| SR <| MI rfl <| CN <| Op1.neq rfl rfl <| AB rfl <| NL <| run_cond_dec rfl (fun g43 => ?_) (fun g43 => ?_)
                       · skip
                         exfalso
                         exact g43 rfl
                       refine SR <| MI rfl <| CN <| Op1.eql rfl rfl <| MB rfl <| RunL.splitD (d := 22) rfl (fun g44 => ?_) (fun g44 => ?_)
                       · skip
                         exfalso
                         first | exact g44 (by decide) | exact absurd g44 (by decide)
                       refine OM (t := 22) rfl (congrArg Value.bool (decide_eq_false g44)) rfl <| OM (t := 22) rfl (congrArg Value.bool (decide_eq_false g44)) rfl <| OM (t := 22) rfl (congrArg Value.bool (decide_eq_false g44)) rfl <| CN <| Op1.pickF (u := .bool _) (congrArg Value.bool (decide_eq_false g44)) rfl <| AB rfl <| NL <| run_cond_false (congrArg Value.bool (rfl : false = _)) <| SR <| MI rfl <| CN <| Op1.eql rfl rfl <| MB rfl <| RunL.splitD (d := 30) rfl (fun g45 => ?_) (fun g45 => ?_)
                       · skip
                         exfalso
                         first | exact g45 (by decide) | exact absurd g45 (by decide)
                       refine OM (t := 30) rfl (congrArg Value.bool (decide_eq_false g45)) rfl <| OM (t := 30) rfl (congrArg Value.bool (decide_eq_false g45)) rfl <| CN <| Op1.pickF (u := .bool _) (congrArg Value.bool (decide_eq_false g45)) rfl <| AB rfl <| NL <| Run.forget [(0, .pointer (some ⟨_, _, none⟩)), (2, .pointer (some ⟨_, _, none⟩)), (3, .pointer (some ⟨_, _, none⟩)), (4, .pointer (some ⟨_, _, none⟩)), (5, .int .i64 _), (6, .int .u32 _), (7, .int .i64 _), (8, .int .i64 _), (27, .bool _)] ⟨rfl, rfl, rfl, rfl, rfl, rfl, rfl, rfl, rfl, trivial⟩ fun f => run_cond_false (congrArg Value.bool (rfl : false = _)) <| SR <| MI rfl <| CN <| Op1.eql rfl rfl <| MB rfl <| RunL.splitD (d := 37) rfl (fun g46 => ?_) (fun g46 => ?_)
                       · skip
                         exfalso
                         first | exact g46 (by decide) | exact absurd g46 (by decide)
                       refine OM (t := 37) rfl (congrArg Value.bool (decide_eq_false g46)) rfl <| OM (t := 37) rfl (congrArg Value.bool (decide_eq_false g46)) rfl <| CN <| Op1.pickF (u := .bool _) (congrArg Value.bool (decide_eq_false g46)) rfl <| AB rfl <| NL <| run_cond_false (congrArg Value.bool (rfl : false = _)) <| SR <| MI rfl <| CN <| Op1.eql rfl rfl <| AB rfl <| NL <| run_cond_dec rfl (fun g47 => ?_) (fun g47 => ?_)
                       · skip
                         exfalso
                         first | exact g47 (by decide) | exact absurd g47 (by decide)
                       refine SR <| MI rfl <| CN <| Op1.eql rfl rfl <| MB rfl <| RunL.splitD (d := 49) rfl (fun g48 => ?_) (fun g48 => ?_)
                       · skip
                         exfalso
                         first | exact g48 (by decide) | exact absurd g48 (by decide)
                       refine OM (t := 49) rfl (congrArg Value.bool (decide_eq_false g48)) rfl <| OM (t := 49) rfl (congrArg Value.bool (decide_eq_false g48)) rfl <| OM (t := 49) rfl (congrArg Value.bool (decide_eq_false g48)) rfl <| RunL.omitU (t := 52) rfl rfl <| RunL.omitU (t := 52) rfl rfl <| OM (t := 49) rfl (congrArg Value.bool (decide_eq_false g48)) rfl <| CN <| Op1.pickF (u := .bool _) (congrArg Value.bool (decide_eq_false g48)) rfl <| AB rfl <| NL <| run_cond_false (congrArg Value.bool (rfl : false = _)) <| SR <| MI rfl <| CN <| Op1.eql rfl rfl <| AB rfl ?_
                       refine NL <| run_cond_dec rfl (fun g49 => ?_) (fun g49 => ?_)
                       · skip
                         exfalso
                         first | exact g49 (by decide) | exact absurd g49 (by decide)
                       refine SR <| MI rfl <| CN <| Op1.eql rfl rfl <| MB rfl <| RunL.splitD (d := 65) rfl (fun g50 => ?_) (fun g50 => ?_)
                       · skip
                         refine TK (t := 65) rfl (congrArg Value.bool (decide_eq_true g50)) <| Op1.move (v := .int .u32 _) rfl <| TK (t := 65) rfl (congrArg Value.bool (decide_eq_true g50)) <| Op1.neq rfl rfl <| CN <| Op1.pickT (u := .bool _) (congrArg Value.bool (decide_eq_true g50)) rfl <| AB rfl <| NL <| Run.forget [(0, .pointer (some ⟨_, _, none⟩)), (2, .pointer (some ⟨_, _, none⟩)), (3, .pointer (some ⟨_, _, none⟩)), (4, .pointer (some ⟨_, _, none⟩)), (5, .int .i64 _), (7, .int .i64 _), (8, .int .i64 _), (62, .bool _)] ⟨rfl, rfl, rfl, rfl, rfl, rfl, rfl, rfl, trivial⟩ fun f => run_cond_dec rfl (fun g51 => ?_) (fun g51 => ?_)
                         · skip
                           refine RG <| AI rfl <| NL <| run_inBlock <| SR <| MI rfl <| CN <| Op1.neq rfl rfl <| NL <| run_cond_dec rfl (fun g52 => ?_) (fun g52 => ?_)
                           · skip
                             refine SR <| CN (Op1.buildStruct ty66 stf66 .nil ?_)
                             refine MI rfl <| MI rfl <| CN (Op1.buildStruct ty29 stf29 (.c (v := .int .i64 _) rfl (h := (.c (v := .int .i64 _) rfl (h := .nil)))) ?_)
                             refine CN (SO (v := .agg #[.int .u32 _, .int .u32 _]) hst ty66 rfl rfl (.there (.there (.there (.here)))) fun w hst => ?_)
                             refine CN (SO (v := .agg #[.int .i64 _, .int .i64 _]) hst ty29 rfl rfl (.there (.there (.here))) fun w hst => ?_)
                             refine NL <| run_ret2 Try.func69 rfl (RV.cellA (vs := [.int .u32 _, .int .u32 _]) rfl ty66 rfl rfl (cells_of_obj (n := 2) (hst.objL (.tail _ (.tail _ (.tail _ (.head _))))) _ rfl)) (RV.cellA (vs := [.int .i64 _, .int .i64 _]) rfl ty29 rfl rfl (cells_of_obj (n := 2) (hst.objL (.tail _ (.tail _ (.head _)))) _ rfl)) ?_
                             replace hst := hst.pick .nil
                             exact ⟨(headV_bad (headE_at (k := 4) (e := 23) (by decide) hq4 (hd_in hin4 (wf4s (by omega))) (by decide)) (by decide)).symm, hst⟩
                           exfalso
                           exact g52 (by decide)
                         refine run_skip <| run_inBlock <| SR <| MI rfl <| CN <| Op1.neq rfl rfl <| NL <| run_cond_dec rfl (fun g53 => ?_) (fun g53 => ?_)
                         · skip
                           exfalso
                           exact g53 rfl
                         have hq5 : ∀ j, j < 5 → hd1 l j = 0 := step_all hq4 (hd_in hin4 (wf4k (by omega)))
                         refine run_skip <| run_inBlock <| RG <| CN <| Op1.addN rfl rfl rfl (wrap_i64 (by omega) (by omega)) <| MI rfl <| NL <| run_inLoop <| SR <| CN <| Op1.lss rfl rfl <| NL <| SQ <| run_cond_false (congrArg Value.bool (decide_eq_false (by decide))) <| run_exit (id := 0) rfl <| SQ ?_
                         refine RG <| CN <| Op1.loadA (vs := [.int .u32 _, .int .u32 _]) ty66 rfl rfl rfl (cells_of_obj (n := 2) (hst.objL (.tail _ (.head _))) _ rfl) <| CN (Op1.buildStruct ty29 stf29 .nil ?_)
                         refine CN (SO (v := .agg #[.int .u32 _, .int .u32 _]) hst ty66 rfl rfl (.there (.there (.there (.here)))) fun w hst => ?_)
                         refine CN (SO (v := .agg #[.int .i64 _, .int .i64 _]) hst ty29 rfl rfl (.there (.there (.here))) fun w hst => ?_)
                         refine NL <| run_ret2 Try.func69 rfl (RV.cellA (vs := [.int .u32 _, .int .u32 _]) rfl ty66 rfl rfl (cells_of_obj (n := 2) (hst.objL (.tail _ (.tail _ (.tail _ (.head _))))) _ rfl)) (RV.cellA (vs := [.int .i64 _, .int .i64 _]) rfl ty29 rfl rfl (cells_of_obj (n := 2) (hst.objL (.tail _ (.tail _ (.head _)))) _ rfl)) ?_
                         replace hst := hst.pick .nil
                         exact ⟨(headV_ok (headE_ok hq5)).symm, hst⟩
                       exfalso
                       first | exact g50 (by decide) | exact absurd g50 (by decide)
                     · skip
                       replace hst : St _ _ (RdR 135 23 b ao cp l 4 :: _) _ _ := hst.call1 hp
                       clear hp
                       refine CN <| Op1.move (v := .tuple #[.int .u32 _, .int .i64 _]) rfl <| CN <| Op1.extract (v := .int .u32 _) rfl rfl <| CN <| Op1.extract (v := .int .i64 _) rfl rfl <| AU rfl <| AI rfl <| NL <| SQ <| run_block <| SR <| MI rfl <| CN <| Op1.neq rfl rfl <| AB rfl <| NL <| run_cond_dec rfl (fun g54 => ?_) (fun g54 => ?_)
                       · skip
                         refine run_skip <| run_inBlock <| SR <| MI rfl <| CN <| Op1.neq rfl rfl <| NL <| run_cond_dec rfl (fun g55 => ?_) (fun g55 => ?_)
                         · skip
                           refine SR <| CN (Op1.buildStruct ty66 stf66 .nil ?_)
                           refine MI rfl <| MI rfl <| CN (Op1.buildStruct ty29 stf29 (.c (v := .int .i64 _) rfl (h := (.c (v := .int .i64 _) rfl (h := .nil)))) ?_)
                           refine CN (SO (v := .agg #[.int .u32 _, .int .u32 _]) hst ty66 rfl rfl (.there (.there (.there (.here)))) fun w hst => ?_)
                           refine CN (SO (v := .agg #[.int .i64 _, .int .i64 _]) hst ty29 rfl rfl (.there (.there (.here))) fun w hst => ?_)
                           refine NL <| run_ret2 Try.func69 rfl (RV.cellA (vs := [.int .u32 _, .int .u32 _]) rfl ty66 rfl rfl (cells_of_obj (n := 2) (hst.objL (.tail _ (.tail _ (.tail _ (.head _))))) _ rfl)) (RV.cellA (vs := [.int .i64 _, .int .i64 _]) rfl ty29 rfl rfl (cells_of_obj (n := 2) (hst.objL (.tail _ (.tail _ (.head _)))) _ rfl)) ?_
                           replace hst := hst.pick .nil
                           exact ⟨(headV_bad (headE_at (k := 4) (e := 14) (by decide) hq4 (hd_end (by omega)) (by decide)) (by decide)).symm, hst⟩
                         exfalso
                         exact g55 (by decide)
                       exfalso
                       exact g54 (by decide)
                   exfalso
                   first | exact g41 (by decide) | exact absurd g41 (by decide)
                 exfalso
                 first | exact g36 (by decide) | exact absurd g36 (by decide)
               · skip
                 replace hst : St _ _ (RdR 135 23 b ao cp l 3 :: _) _ _ := hst.call1 hp
                 clear hp
                 refine CN <| Op1.move (v := .tuple #[.int .u32 _, .int .i64 _]) rfl <| CN <| Op1.extract (v := .int .u32 _) rfl rfl <| CN <| Op1.extract (v := .int .i64 _) rfl rfl <| AU rfl <| AI rfl <| NL <| Run.forget [(0, .pointer (some ⟨_, _, none⟩)), (2, .pointer (some ⟨_, _, none⟩)), (3, .pointer (some ⟨_, _, none⟩)), (4, .pointer (some ⟨_, _, none⟩)), (5, .int .i64 _), (6, .int .u32 _), (7, .int .i64 _), (8, .int .i64 _)] ⟨rfl, rfl, rfl, rfl, rfl, rfl, rfl, rfl, trivial⟩ fun f => SQ <| run_block <| SR <| MI rfl <| CN <| Op1.neq rfl rfl <| AB rfl <| NL ?_
                 refine run_cond_dec rfl (fun g56 => ?_) (fun g56 => ?_)
                 · skip
                   refine run_skip <| run_inBlock <| SR <| MI rfl <| CN <| Op1.neq rfl rfl <| NL <| run_cond_dec rfl (fun g57 => ?_) (fun g57 => ?_)
                   · skip
                     refine SR <| CN (Op1.buildStruct ty66 stf66 .nil ?_)
                     refine MI rfl <| MI rfl <| CN (Op1.buildStruct ty29 stf29 (.c (v := .int .i64 _) rfl (h := (.c (v := .int .i64 _) rfl (h := .nil)))) ?_)
                     refine CN (SO (v := .agg #[.int .u32 _, .int .u32 _]) hst ty66 rfl rfl (.there (.there (.there (.here)))) fun w hst => ?_)
                     refine CN (SO (v := .agg #[.int .i64 _, .int .i64 _]) hst ty29 rfl rfl (.there (.there (.here))) fun w hst => ?_)
                     refine NL <| run_ret2 Try.func69 rfl (RV.cellA (vs := [.int .u32 _, .int .u32 _]) rfl ty66 rfl rfl (cells_of_obj (n := 2) (hst.objL (.tail _ (.tail _ (.tail _ (.head _))))) _ rfl)) (RV.cellA (vs := [.int .i64 _, .int .i64 _]) rfl ty29 rfl rfl (cells_of_obj (n := 2) (hst.objL (.tail _ (.tail _ (.head _)))) _ rfl)) ?_
                     replace hst := hst.pick .nil
                     exact ⟨(headV_bad (headE_at (k := 3) (e := 14) (by decide) hq3 (hd_end (by omega)) (by decide)) (by decide)).symm, hst⟩
                   exfalso
                   exact g57 (by decide)
                 exfalso
                 exact g56 (by decide)
             exfalso
             first | exact g29 (by decide) | exact absurd g29 (by decide)
           · skip
             replace hst : St _ _ (RdR 135 23 b ao cp l 2 :: _) _ _ := hst.call1 hp
             clear hp
             refine CN <| Op1.move (v := .tuple #[.int .u32 _, .int .i64 _]) rfl <| CN <| Op1.extract (v := .int .u32 _) rfl rfl <| CN <| Op1.extract (v := .int .i64 _) rfl rfl <| AU rfl <| AI rfl <| NL <| SQ <| run_block <| SR <| MI rfl <| CN <| Op1.neq rfl rfl <| AB rfl <| NL <| run_cond_dec rfl (fun g58 => ?_) (fun g58 => ?_)
             · skip
               refine run_skip <| run_inBlock <| SR <| MI rfl <| CN <| Op1.neq rfl rfl <| NL <| run_cond_dec rfl (fun g59 => ?_) (fun g59 => ?_)
               · skip
                 refine SR <| CN (Op1.buildStruct ty66 stf66 .nil ?_)
                 refine MI rfl <| MI rfl <| CN (Op1.buildStruct ty29 stf29 (.c (v := .int .i64 _) rfl (h := (.c (v := .int .i64 _) rfl (h := .nil)))) ?_)
                 refine CN (SO (v := .agg #[.int .u32 _, .int .u32 _]) hst ty66 rfl rfl (.there (.there (.there (.here)))) fun w hst => ?_)
                 refine CN (SO (v := .agg #[.int .i64 _, .int .i64 _]) hst ty29 rfl rfl (.there (.there (.here))) fun w hst => ?_)
                 refine NL <| run_ret2 Try.func69 rfl (RV.cellA (vs := [.int .u32 _, .int .u32 _]) rfl ty66 rfl rfl (cells_of_obj (n := 2) (hst.objL (.tail _ (.tail _ (.tail _ (.head _))))) _ rfl)) (RV.cellA (vs := [.int .i64 _, .int .i64 _]) rfl ty29 rfl rfl (cells_of_obj (n := 2) (hst.objL (.tail _ (.tail _ (.head _)))) _ rfl)) ?_
                 replace hst := hst.pick .nil
                 exact ⟨(headV_bad (headE_at (k := 2) (e := 14) (by decide) hq2 (hd_end (by omega)) (by decide)) (by decide)).symm, hst⟩
               exfalso
               exact g59 (by decide)
             exfalso
             exact g58 (by decide)
         exfalso
         first | exact g17 (by decide) | exact absurd g17 (by decide)
       · skip
         replace hst : St _ _ (RdR 135 23 b ao cp l 1 :: _) _ _ := hst.call1 hp
         clear hp
         refine CN <| Op1.move (v := .tuple #[.int .u32 _, .int .i64 _]) rfl <| CN <| Op1.extract (v := .int .u32 _) rfl rfl <| CN <| Op1.extract (v := .int .i64 _) rfl rfl <| AU rfl <| AI rfl <| NL <| Run.forget [(0, .pointer (some ⟨_, _, none⟩)), (2, .pointer (some ⟨_, _, none⟩)), (3, .pointer (some ⟨_, _, none⟩)), (4, .pointer (some ⟨_, _, none⟩)), (5, .int .i64 _), (6, .int .u32 _), (7, .int .i64 _), (8, .int .i64 _)] ⟨rfl, rfl, rfl, rfl, rfl, rfl, rfl, rfl, trivial⟩ fun f => SQ <| run_block <| SR <| MI rfl <| CN <| Op1.neq rfl rfl <| AB rfl <| NL ?_
         refine run_cond_dec rfl (fun g60 => ?_) (fun g60 => ?_)
         · skip
           refine run_skip <| run_inBlock <| SR <| MI rfl <| CN <| Op1.neq rfl rfl <| NL <| run_cond_dec rfl (fun g61 => ?_) (fun g61 => ?_)
           · skip
             refine SR <| CN (Op1.buildStruct ty66 stf66 .nil ?_)
             refine MI rfl <| MI rfl <| CN (Op1.buildStruct ty29 stf29 (.c (v := .int .i64 _) rfl (h := (.c (v := .int .i64 _) rfl (h := .nil)))) ?_)
             refine CN (SO (v := .agg #[.int .u32 _, .int .u32 _]) hst ty66 rfl rfl (.there (.there (.there (.here)))) fun w hst => ?_)
             refine CN (SO (v := .agg #[.int .i64 _, .int .i64 _]) hst ty29 rfl rfl (.there (.there (.here))) fun w hst => ?_)
             refine NL <| run_ret2 Try.func69 rfl (RV.cellA (vs := [.int .u32 _, .int .u32 _]) rfl ty66 rfl rfl (cells_of_obj (n := 2) (hst.objL (.tail _ (.tail _ (.tail _ (.head _))))) _ rfl)) (RV.cellA (vs := [.int .i64 _, .int .i64 _]) rfl ty29 rfl rfl (cells_of_obj (n := 2) (hst.objL (.tail _ (.tail _ (.head _)))) _ rfl)) ?_
             replace hst := hst.pick .nil
             exact ⟨(headV_bad (headE_at (k := 1) (e := 14) (by decide) hq1 (hd_end (by omega)) (by decide)) (by decide)).symm, hst⟩
           exfalso
           exact g61 (by decide)
         exfalso
         exact g60 (by decide)
     exfalso
     first | exact g5 (by decide) | exact absurd g5 (by decide)
   exfalso
   first | exact g2 (by decide) | exact absurd g2 (by decide)
 · skip
   replace hst : St _ _ (RdR 135 23 b ao cp l 0 :: _) _ _ := hst.call1 hp
   clear hp
   refine CN <| Op1.move (v := .tuple #[.int .u32 _, .int .i64 _]) rfl <| CN <| Op1.extract (v := .int .u32 _) rfl rfl <| CN <| Op1.extract (v := .int .i64 _) rfl rfl <| AU rfl <| AI rfl <| NL <| SQ <| run_block <| SR <| MI rfl <| CN <| Op1.neq rfl rfl <| AB rfl <| NL <| run_cond_dec rfl (fun g62 => ?_) (fun g62 => ?_)
   · skip
     refine run_skip <| run_inBlock <| SR <| MI rfl <| CN <| Op1.neq rfl rfl <| NL <| Run.forget [(0, .pointer (some ⟨_, _, none⟩)), (2, .pointer (some ⟨_, _, none⟩)), (3, .pointer (some ⟨_, _, none⟩)), (4, .pointer (some ⟨_, _, none⟩)), (5, .int .i64 _), (7, .int .i64 _), (8, .int .i64 _), (70, .bool _)] ⟨rfl, rfl, rfl, rfl, rfl, rfl, rfl, rfl, trivial⟩ fun f => run_cond_dec rfl (fun g63 => ?_) (fun g63 => ?_)
     · skip
       refine SR <| CN (Op1.buildStruct ty66 stf66 .nil ?_)
       refine MI rfl <| MI rfl <| CN (Op1.buildStruct ty29 stf29 (.c (v := .int .i64 _) rfl (h := (.c (v := .int .i64 _) rfl (h := .nil)))) ?_)
       refine CN (SO (v := .agg #[.int .u32 _, .int .u32 _]) hst ty66 rfl rfl (.there (.there (.there (.here)))) fun w hst => ?_)
       refine CN (SO (v := .agg #[.int .i64 _, .int .i64 _]) hst ty29 rfl rfl (.there (.there (.here))) fun w hst => ?_)
       refine NL <| run_ret2 Try.func69 rfl (RV.cellA (vs := [.int .u32 _, .int .u32 _]) rfl ty66 rfl rfl (cells_of_obj (n := 2) (hst.objL (.tail _ (.tail _ (.tail _ (.head _))))) _ rfl)) (RV.cellA (vs := [.int .i64 _, .int .i64 _]) rfl ty29 rfl rfl (cells_of_obj (n := 2) (hst.objL (.tail _ (.tail _ (.head _)))) _ rfl)) ?_
       replace hst := hst.pick .nil
       exact ⟨(headV_bad (headE_at (k := 0) (e := 14) (by decide) hq0 (hd_end (by omega)) (by decide)) (by decide)).symm, hst⟩
     exfalso
     exact g63 (by decide)
   exfalso
   exact g62 (by decide)
end Go.SK
namespace Go.SK
open Go Go.Proofs
theorem ent99 : Enters Try.prog 99 := ⟨Try.f99, _, Try.func99, by kernel_rfl, rfl⟩
end Go.SK
namespace Go.SK
open Go Go.Proofs
open Go.RowKit
theorem R3fr_next (l : List Int) (hw : Wd l) (ao : Option Addr) (cp : Nat) (a : Nat) (ha : a < l.length) (hcp : l.length ≤ cp) (w : World) (hA : (Res.rs ao l.length 1 (l.flatMap u32C)).holds w) (hl : l.length ≤ 35184372088832) : Ret Try.prog 99 #[.slice ao l.length cp, .int .i64 (a : Int)] w (fun v w' => ((endsF l a).2 = false ∧ v = .tuple #[.agg #[.int .u16 0, .slice none 0 0], .int .i64 0] ∧ St w NoM [] [] w') ∨ (∃ (n : Nat) (ro : Option Addr) (rc : Nat), l.getD a 0 / 65536 = (n : Int) ∧ 1 ≤ n ∧ a + n ≤ l.length ∧ v = .tuple #[.agg #[.int .u16 (l.getD a 0 % 65536), .slice ro (n - 1) rc], .int .i64 (n : Int)] ∧ St w NoM [Res.sl ro (n - 1) rc 23 1 (((l.drop (a + 1)).take (n - 1)).flatMap u32C)] [] w')) := by
 cases he : (endsF l a).2 with
 | false => exact (R3fr_nextNo l hw ao cp a ha he w hA hl).mono fun v w' hp => .inl ⟨rfl, hp⟩
 | true =>
   have ht := ends_true hw he
   exact (R3fr_nextOk l hw ao cp a ha _ ht.2.2 ht.1 ht.2.1 hcp w hA hl).mono fun v w' ⟨ro, rc, h1, h2⟩ => .inr ⟨_, ro, rc, ht.2.2, ht.1, ht.2.1, h1, h2⟩
theorem R3fr_Each (l : List Int) (ao : Option Addr) (cp : Nat) (w : World) : Ret Try.prog 70 #[.slice ao l.length cp] w (fun v w' => ∃ b, v = .func (.func 98) #[] #[.pointer (some ⟨b, 0, none⟩)] ∧ St w NoM [Res.row b 43 [.slice ao l.length cp]] [] w') := by
 refine Ret.enter (args := [.slice ao l.length cp]) Try.func70 rfl rfl rfl ?_
 have hst := St.init w
 refine SR <| CN <| Op1.box (v := .slice _ _ _) hst rfl rfl fun w b1 hst => CN <| Op1.assign (v := _) rfl <| NSR <| CN <| Op1.makeFunc <| CN <| Op1.assign (v := .func _ _ _) rfl <| NL <| run_ret1 Try.func70 rfl (TP (v := .func _ _ _) rfl) ?_
 exact ⟨_, rfl, hst⟩
theorem R3each_iter (l : List Int) (hw : Wd l) (ao : Option Addr) (cp : Nat) (hcp : l.length ≤ cp) (hl : l.length ≤ 35184372088832) (bc : Nat) (w : World) (hb : (Res.row bc 43 [.slice ao l.length cp]).holds w) (hA : (Res.rs ao l.length 1 (l.flatMap u32C)).holds w) : IterOkS Try.prog 98 [.pointer (some ⟨bc, 0, none⟩)] (insR l 5).1.length (itemW 23 (insR l 5).1) (fun b => (Res.row bc 43 [.slice ao l.length cp]).foot b ∨ (Res.rs ao l.length 1 (l.flatMap u32C)).foot b) w := by
 intro σ I JJ yv R S s0 hI0 hR hFD hy
 refine Ret.enter (args := [yv, .pointer (some ⟨bc, 0, none⟩)]) Try.func98 rfl rfl rfl ?_
 have hst : St w (R 0 s0).foot [R 0 s0] [Res.row bc 43 [.slice ao l.length cp], Res.rs ao l.length 1 (l.flatMap u32C)] w := St.enter1 hR (fun d hd => by cases hd with | head => exact hb | tail _ hd => cases hd with | head => exact hA | tail _ h => cases h) (fun d hd => by cases hd with | head => exact fun b hb hb2 => hFD b hb (.inl hb2) | tail _ hd => cases hd with | head => exact fun b hb hb2 => hFD b hb (.inr hb2) | tail _ h => cases h)
 refine SR <| AI rfl <| NL <| run_block <| run_loop <| Run.indW [(0, _), (1, .pointer (some ⟨_, _, none⟩))] ⟨rfl, rfl, trivial⟩ (fun (q : Nat × Nat × σ) => [(3, .int .i64 (q.1 : Int))]) (fun (q : Nat × Nat × σ) => [R q.2.1 q.2.2]) (fun (q : Nat × Nat × σ) => q.2.1 ≤ (insR l 5).1.length ∧ (insR l 5).1.drop q.2.1 = (insR l q.1).1 ∧ I q.2.1 q.2.2 ∧ q.1 ≤ 35184372088837) (fun (q : Nat × Nat × σ) => l.length - q.1) ((5, 0, s0)) hst ⟨Nat.zero_le _, rfl, hI0, by (try dsimp only); omega⟩ ⟨rfl, trivial⟩ ?_
 intro ⟨a, k, s⟩ f w hst hJ ih1
 replace hst : St _ _ ([R k s] ++ []) _ _ := hst
 replace hJ : k ≤ (insR l 5).1.length ∧ (insR l 5).1.drop k = (insR l a).1 ∧ I k s ∧ a ≤ 35184372088837 := hJ
 refine Run.slots (sl := [(3, .int .i64 (a : Int))]) ⟨rfl, trivial⟩ <| SQ <| SR <| MI rfl <| CN <| Op1.load1 (v := .slice _ _ _) ty43 rfl rfl (hst.cellD (.head _) rfl) <| CN <| Op1.lenSl (rest := []) ty43 rfl <| CN <| Op1.lss rfl rfl <| NL <| run_cond_dec rfl (fun g2 => ?_) (fun g2 => ?_)
 · skip
   refine run_skip <| run_block <| SR <| CN <| Op1.load1 (v := .slice _ _ _) ty43 rfl rfl (hst.cellD (.head _) rfl) <| MI rfl <| CN (Op1.call2 (v1 := .slice _ _ _) (v2 := .int .i64 _) ent99 rfl rfl rfl ((R3fr_next _ hw _ _ a (by omega) hcp _ (hst.hD _ (.tail _ (.head _))) hl).mono fun v w hp => ?_))
   rcases hp with ⟨he, rfl, hp⟩ | ⟨n, ro, rc, hn, h1, h2, rfl, hp⟩
   · skip
     replace hst := hst.keepc hp
     clear hp
     refine CN <| Op1.move (v := .tuple #[.agg #[.int .u16 _, .slice _ _ _], .int .i64 _]) rfl <| CN <| Op1.extract (v := .agg #[.int .u16 _, .slice _ _ _]) rfl rfl <| CN <| Op1.extract (v := .int .i64 _) rfl rfl <| CN <| Op1.alloc hst ty45 fun w b4 hst => CN (SO (v := .agg #[.int .u16 _, .slice _ _ _]) hst ty45 rfl rfl (.here) fun w hst => ?_)
     refine AI rfl <| NL <| SQ <| SR <| MI rfl <| CN <| Op1.eql rfl rfl <| MB rfl <| RunL.splitD (d := 18) rfl (fun g3 => ?_) (fun g3 => ?_)
     · skip
       refine OM (t := 18) rfl (congrArg Value.bool (decide_eq_true g3)) rfl <| OM (t := 18) rfl (congrArg Value.bool (decide_eq_true g3)) rfl <| OM (t := 18) rfl (congrArg Value.bool (decide_eq_true g3)) rfl <| OM (t := 18) rfl (congrArg Value.bool (decide_eq_true g3)) rfl <| OM (t := 18) rfl (congrArg Value.bool (decide_eq_true g3)) rfl <| CN <| Op1.pickT (u := .bool _) (congrArg Value.bool (decide_eq_true g3)) rfl <| NL <| run_cond_true (congrArg Value.bool (rfl : true = _)) <| run_ret0 Try.func98 rfl  ?_
       replace hst := hst.pick (.cons (.there (.here)) (.cons (.here) .nil))
       have hk := drop_none (hJ.2.1.trans (congrArg Prod.fst (insR_stop (fun h => he)))) hJ.1
       subst hk
       exact .inl ⟨s, hJ.2.2.1, hst.one⟩
     exfalso
     exact g3 rfl
   · skip
     replace hst : St _ _ (_ :: _) _ _ := hst.call0 hp
     clear hp
     refine CN <| Op1.move (v := .tuple #[.agg #[.int .u16 _, .slice _ _ _], .int .i64 _]) rfl <| CN <| Op1.extract (v := .agg #[.int .u16 _, .slice _ _ _]) rfl rfl <| CN <| Op1.extract (v := .int .i64 _) rfl rfl <| CN <| Op1.alloc hst ty45 fun w b4 hst => CN (SO (v := .agg #[.int .u16 _, .slice _ _ _]) hst ty45 rfl rfl (.here) fun w hst => ?_)
     refine AI rfl <| NL <| SQ <| SR <| MI rfl <| CN <| Op1.eql rfl rfl <| MB rfl <| RunL.splitD (d := 18) rfl (fun g4 => ?_) (fun g4 => ?_)
     · skip
       exfalso
       omega
     refine TK (t := 18) rfl (congrArg Value.bool (decide_eq_false g4)) <| Op1.move (v := _) rfl <| TK (t := 18) rfl (congrArg Value.bool (decide_eq_false g4)) <| Op1.move (v := .int .i64 _) rfl <| TK (t := 18) rfl (congrArg Value.bool (decide_eq_false g4)) (Op1.loadA (vs := [.int .u16 _, .slice _ _ _]) ty45 rfl rfl rfl (cells_of_obj (n := 2) (hst.objL (.head _)) _ rfl) ?_)
     replace hst := hst.pick (.cons (.there (.here)) (.cons (.there (.here)) (.cons (.here) .nil)))
     have hws : ((l.drop (a + 1)).take (n - 1)).length = n - 1 := by rw [List.length_take, List.length_drop]; omega
     have hd := drop_head zeroW (hJ.2.1.trans (congrArg Prod.fst (insR_step hw hn h1 h2)))
     have hit : itemW 23 (insR l 5).1 k [.int .i64 (a : Int), .agg #[.int .u16 (l.getD a 0 % 65536), .slice ro (n - 1) rc]] (Res.sl ro (n - 1) rc 23 1 (((l.drop (a + 1)).take (n - 1)).flatMap u32C)) := by
       refine ⟨ro, rc, ?_, ?_⟩
       · rw [hd.2.1]; simp only [rawV, hws]
       · rw [hd.2.1]; simp only [hws]
     refine TK (t := 18) rfl (congrArg Value.bool (decide_eq_false g4)) (Op1.callV2 (v1 := .int .i64 _) (v2 := .agg #[.int .u16 _, .slice _ _ _]) rfl rfl rfl ((hy k s _ _ hd.1 hJ.2.2.1 hit _ (hst.pick (.cons .here (.cons .here .nil))).noD).mono fun v w hp => ?_))
     rcases hp with ⟨rfl, s2, hI2, hp⟩ | ⟨rfl, s2, hI2, hp⟩
     · skip
       replace hst : St _ _ (_ :: _) _ _ := (hst.pack (L1 := [_, _])).call1 hp
       clear hp
       refine TK (t := 18) rfl (congrArg Value.bool (decide_eq_false g4)) <| Op1.not rfl <| CN <| Op1.pickF (u := .bool _) (congrArg Value.bool (decide_eq_false g4)) rfl <| NL <| Run.forget [(0, _), (1, .pointer (some ⟨_, _, none⟩)), (3, .int .i64 _), (5, .int .i64 _), (24, .bool _)] ⟨rfl, rfl, rfl, rfl, rfl, trivial⟩ fun f => run_cond_false (congrArg Value.bool (congrArg not (rfl : true = _))) <| run_skip <| RG <| MI rfl <| MI rfl <| CN <| Op1.addN rfl rfl rfl (wrap_i64 (by omega) (by omega)) <| AI rfl <| NL <| run_inBlock <| run_inLoop ?_
       replace hst := hst.pick (.cons (.here) .nil)
       exact ih1 ((a + n, k + 1, s2)) _ w (by (try dsimp only); omega) hst (⟨hd.1, hd.2.2, hI2, by (try dsimp only); omega⟩) ⟨rfl, rfl, trivial⟩ ⟨(congrArg (Value.int .i64) (by (try dsimp only); omega)), trivial⟩
     · skip
       replace hst : St _ _ (_ :: _) _ _ := (hst.pack (L1 := [_, _])).call1 hp
       clear hp
       refine TK (t := 18) rfl (congrArg Value.bool (decide_eq_false g4)) <| Op1.not rfl <| CN <| Op1.pickF (u := .bool _) (congrArg Value.bool (decide_eq_false g4)) rfl <| NL <| Run.forget [(0, _), (1, .pointer (some ⟨_, _, none⟩)), (3, .int .i64 _), (5, .int .i64 _), (24, .bool _)] ⟨rfl, rfl, rfl, rfl, rfl, trivial⟩ fun f => run_cond_true (congrArg Value.bool (congrArg not (rfl : false = _))) <| run_ret0 Try.func98 rfl  ?_
       replace hst := hst.pick (.cons (.here) (.cons (.here) .nil))
       exact .inr ⟨k, s2, hd.1, hI2, hst.one⟩
 refine run_exit (id := 0) rfl <| run_end0 Try.func98 rfl  ?_
 replace hst := hst.pick (.cons (.here) .nil)
 have hk := drop_none (hJ.2.1.trans (congrArg Prod.fst (insR_stop (fun h => absurd h (by omega))))) hJ.1
 subst hk
 exact .inl ⟨s, hJ.2.2.1, hst.one⟩
end Go.SK
namespace Go.SK
open Go Go.Proofs
theorem ent54 : Enters Try.prog 54 := ⟨Try.f54, _, Try.func54, by kernel_rfl, rfl⟩
theorem ent69 : Enters Try.prog 69 := ⟨Try.f69, _, Try.func69, by kernel_rfl, rfl⟩
theorem ent70 : Enters Try.prog 70 := ⟨Try.f70, _, Try.func70, by kernel_rfl, rfl⟩
theorem ent98 : Enters Try.prog 98 := ⟨Try.f98, _, Try.func98, by kernel_rfl, rfl⟩
end Go.SK
namespace Go.SK
open Go Go.Proofs
open Go.RowKit
theorem R3fr_head2 (l m : List Int) (hm : m = l.take 5) (b : Nat) (ao : Option Addr) (cp : Nat) (w : World) (hR : (RdR 135 23 b ao cp m 0).holds w) : Ret Try.prog 69 #[.pointer (some ⟨b, 0, none⟩)] w (fun v w' => ((headE l).1 = 0 ∧ v = .tuple #[.agg #[.int .u32 (l.getD 2 0), .int .u32 (l.getD 3 0)], .agg #[.int .i64 0, .int .i64 0]] ∧ St w (RdR 135 23 b ao cp m 0).foot [] [] w') ∨ (∃ e k : Int, headE l = (e, k) ∧ e ≠ 0 ∧ v = .tuple #[.agg #[.int .u32 0, .int .u32 0], .agg #[.int .i64 e, .int .i64 k]] ∧ St w (RdR 135 23 b ao cp m 0).foot [] [] w')) := by
 subst hm
 have hlen : (l.take 5).length ≤ 5 := by rw [List.length_take]; omega
 have hg2 : (l.take 5).getD 2 0 = l.getD 2 0 := by simp [List.getD, List.getElem?_take]
 have hg3 : (l.take 5).getD 3 0 = l.getD 3 0 := by simp [List.getD, List.getElem?_take]
 refine (R3fr_head b ao cp _ w hR (by omega)).mono fun v w' hp => ?_
 obtain ⟨hv, hst⟩ := hp
 by_cases h : (headE l).1 = 0
 · left
   refine ⟨h, ?_, hst⟩
   have h2 := headE_len h
   rw [hv, headV_ok ((headE_take l).trans (headE_ok h2.2)), hg2, hg3]
 · right
   refine ⟨(headE l).1, (headE l).2, rfl, h, ?_, hst⟩
   have he : headE l = ((headE l).1, (headE l).2) := rfl
   rw [hv, headV_bad ((headE_take l).trans he) h]
theorem R3wd_New2 {l : List Int} {ao : Option Addr} {xs : List Value} {m : Nat} (cp : Nat) (w : World) (hm : m = l.length) (hx : xs = l.flatMap u32C) (hA : (Res.rs ao m 1 xs).holds w) (hl : m ≤ 35184372088832) : Ret Try.prog 54 #[.slice ao m cp] w (fun v w' => ∃ b ro rc, v = .pointer (some ⟨b, 0, none⟩) ∧ St w NoM [RdR 135 23 b ro rc l 0] [] w') := by
 subst hm; subst hx; exact R3wd_New l ao cp w hA hl
theorem R3fr_Read (l : List Int) (hw : Wd l) (ao : Option Addr) (cp : Nat) (hcp : l.length ≤ cp) (w : World) (hA : (Res.rs ao l.length 1 (l.flatMap u32C)).holds w) (hl : l.length ≤ 35184372088832) : Ret Try.prog 40 #[.slice ao l.length cp] w (fun v w' => ∃ ro rc done, v = .tuple #[.agg #[.int .u32 (readF l).1.1, .int .u32 (readF l).1.2], .slice ro done.length rc, .agg #[.int .i64 (readF l).2.2.1, .int .i64 (readF l).2.2.2]] ∧ done.map RawP.L = (readF l).2.1.map (·.2) ∧ St w NoM [Res.oraws 45 23 ro rc done] [] w') := by
 refine Ret.enter (args := [.slice ao l.length cp]) Try.func40 rfl rfl rfl ?_
 have hst : St w NoM [] [Res.rs ao l.length 1 (l.flatMap u32C)] w := St.init_D hA
 clear hA
 refine SR <| CN <| Op1.alloc hst ty66 fun w b2 hst => AL rfl <| CN <| Op1.alloc hst ty29 fun w b4 hst => NL <| SQ <| SR <| ML rfl <| CN <| Op1.lenSl (rest := []) ty43 rfl <| CN <| Op1.gtr rfl rfl <| NL <| run_cond_dec rfl (fun g1 => ?_) (fun g1 => ?_)
 · skip
   refine SR <| CN (Op1.buildStruct ty66 stf66 .nil ?_)
   refine CN (Op1.buildStruct ty29 stf29 (.c (v := .int .i64 _) rfl (h := (.c (v := .int .i64 _) rfl (h := .nil)))) ?_)
   refine CN (SO (v := .agg #[.int .u32 _, .int .u32 _]) hst ty66 rfl rfl (.there (.here)) fun w hst => ?_)
   refine AL rfl <| CN (SO (v := .agg #[.int .i64 _, .int .i64 _]) hst ty29 rfl rfl (.here) fun w hst => ?_)
   refine NL <| run_ret3 Try.func40 rfl (RV.cellA (vs := [.int .u32 _, .int .u32 _]) rfl ty66 rfl rfl (cells_of_obj (n := 2) (hst.objL (.tail _ (.head _))) _ rfl)) (TP (v := .slice _ _ _) rfl) (RV.cellA (vs := [.int .i64 _, .int .i64 _]) rfl ty29 rfl rfl (cells_of_obj (n := 2) (hst.objL (.head _)) _ rfl)) ?_
   replace hst := hst.pick .nil
   replace hst := St.starCons ((hst.starNil).pushNil 45 2)
   refine ⟨none, 0, [], ?_, ?_, hst.noD⟩
   · rw [readF_large (by omega)] <;> rfl
   · rw [readF_large (by omega)] <;> rfl
 refine run_skip <| SR <| ML rfl <| ML rfl <| CN <| Op1.lenSl (rest := []) ty43 rfl <| CN <| Op1.min2 rfl rfl <| CN <| Op1.sliceSlT (hi := min 5 l.length) ty43 ty23 rfl rfl (by omega) (by omega) <| CN (Op1.call1 (v1 := .slice _ _ _) ent54 rfl rfl ((R3wd_New2 (l := l.take 5) _ _ (by rw [List.length_take, Nat.sub_zero]) rfl (by have hp := rs_part (a := 0) (n := min 5 l.length) (cap := cp) (hst.hD _ (.head _)) (by omega) hcp; rw [Nat.zero_add] at hp; rw [List.drop_zero, List.take_eq_take_min (l := l) (i := 5)] at *; exact hp) (by omega)).mono fun v w hp => ?_))
 obtain ⟨bR, aR, cR, rfl, hp⟩ := hp
 replace hst : St _ _ (_ :: _) _ _ := hst.call0 hp
 clear hp
 replace hst := hst.pick (.cons (.here) (.cons (.here) (.cons (.here) .nil)))
 refine CN (Op1.call1 (v1 := .pointer (some ⟨_, _, none⟩)) ent69 rfl rfl ((R3fr_head2 l _ rfl bR aR cR _ (hst.hL _ (.head _))).mono fun v w hp => ?_))
 rcases hp with ⟨hh, rfl, hp⟩ | ⟨e, k, hh, he0, rfl, hp⟩
 · skip
   replace hst : St _ _ ([] ++ _) _ _ := hst.call1 hp
   rw [List.nil_append] at hst
   clear hp
   refine CN <| Op1.move (v := .tuple #[.agg #[.int .u32 _, .int .u32 _], .agg #[.int .i64 _, .int .i64 _]]) rfl <| CN <| Op1.extract (v := .agg #[.int .u32 _, .int .u32 _]) rfl rfl <| CN <| Op1.extract (v := .agg #[.int .i64 _, .int .i64 _]) rfl rfl <| CN <| Op1.alloc hst ty66 fun w b5 hst => CN <| Op1.alloc hst ty29 fun w b6 hst => CN (SO (v := .agg #[.int .u32 _, .int .u32 _]) hst ty66 rfl rfl (.there (.here)) fun w hst => ?_)
   refine CN (SO (v := .agg #[.int .i64 _, .int .i64 _]) hst ty29 rfl rfl (.here) fun w hst => ?_)
   refine NL <| SQ <| SR <| CN <| Op1.fieldAddr fld29_0 rfl <| CN <| Op1.load1 (v := .int .i64 _) ty27 rfl rfl (hst.cellL (.head _) rfl) <| CN <| Op1.neq rfl rfl <| NL <| Run.forget [(0, .slice _ _ _), (2, .pointer (some ⟨_, _, none⟩)), (3, .slice _ _ _), (4, .pointer (some ⟨_, _, none⟩)), (5, .pointer (some ⟨_, _, none⟩)), (6, .pointer (some ⟨_, _, none⟩)), (28, .bool _)] ⟨rfl, rfl, rfl, rfl, rfl, rfl, rfl, trivial⟩ fun f => run_cond_dec rfl (fun g2 => ?_) (fun g2 => ?_)
   · skip
     exfalso
     exact g2 rfl
   refine run_skip <| SR <| CN <| Op1.alloc hst ty67 fun w b7 hst => NSR <| CN <| Op1.alloc hst ty3 fun w b8 hst => CN (SO (v := .int .i64 _) hst ty3 rfl rfl (.here) fun w hst => ?_)
   refine NL <| SQ <| SR <| ML rfl <| CN (Op1.call1 (v1 := .slice _ _ _) ent70 rfl rfl ((R3fr_Each l _ _ _).mono fun v w hp => ?_))
   obtain ⟨bc, rfl, hp⟩ := hp
   replace hst : St _ _ (_ :: _) _ _ := hst.call0 hp
   clear hp
   refine NL <| run_block ?_
   replace hst := hst.pushNil 45 2
   replace hst := hst.starNil
   have hat0 : atI (insR l 5) 0 = 5 := atI_zero _ _
   have hlen5 := (headE_len hh).1
   replace hst := hst.pick (.cons (.there (.there (.there (.there (.here))))) (.cons (.there (.there (.there (.here)))) (.cons (.there (.here)) (.cons (.here) (.cons (.here) (.cons (.here) (.cons (.here) (.cons (.here) (.cons (.here) .nil)))))))))
   refine run_rangeIterS (L1 := [_, _, _, _]) (L2 := [_, _, _, _, _]) (item := (itemW 23 (insR l 5).1)) (FD := (fun b => (Res.row bc 43 [.slice ao l.length cp]).foot b ∨ (Res.rs ao l.length 1 (l.flatMap u32C)).foot b)) (fun i (s : Option Addr × Nat × List RawP) => s.2.2.map RawP.L = ((insR l 5).1.take i).map (·.2)) (fun _ _ => False) (fun i (s : Option Addr × Nat × List RawP) => [Res.row b7 67 [.slice s.1 s.2.2.length s.2.1], Res.row b8 3 [.int .i64 (atI (insR l 5) i : Int)], Res.sl s.1 s.2.2.length s.2.1 45 2 (s.2.2.flatMap rawC), Res.star (s.2.2.map (Res.oword 23))]) (fun i (s : Option Addr × Nat × List RawP) => []) (fun _ => .ret) ((none, 0, [])) (rfl) hst (by (try dsimp only); rw [hat0]; rfl) rfl ent98 (fun b hb => hb.elim (fun h => .inl ⟨_, (.head _), h⟩) (fun h => .inr ⟨_, (.head _), h⟩)) (fun w1 hw1 => R3each_iter l hw ao cp hcp hl bc w1 (hw1.hL _ (.tail _ (.tail _ (.tail _ (.tail _ (.head _)))))) (hw1.hD _ (.head _))) (fun _ _ _ h => by obtain ⟨_, _, rfl, _⟩ := h; rfl) ?_ ?_ ?_
   · intro i ⟨aq, cq, done⟩ vs x hi hI hitem w bl br lp hlp hst hk
     obtain ⟨ro, rc, rfl, rfl⟩ := hitem
     have hch : atI (insR l 5) i + 1 + ((insR l 5).1.getD i zeroW).2.2.length = atI (insR l 5) (i + 1) ∧ ((insR l 5).1.getD i zeroW).1 = atI (insR l 5) i := ins_chain hw _ 5 i hi
     have hie : atI (insR l 5) (i + 1) ≤ l.length := atI_le hw _ 5 _ hlen5
     dsimp only at hst hI
     have hdl : done.length ≤ i := by have := congrArg List.length hI; simp only [List.length_map, List.length_take] at this; omega
     have hil : (insR l 5).1.length + 5 ≤ (insR l 5).2 ∧ (insR l 5).2 ≤ l.length := (ins_end hw l.length 5 hlen5).symm
     refine SR <| AI rfl <| NR <| CN <| Op1.alloc hst ty45 fun w b10 hst => CN (SO (v := .agg #[.int .u16 _, .slice _ _ _]) hst ty45 rfl rfl (.here) fun w hst => ?_)
     refine NL <| run_beginR hlp hst (.there (.here)) fun w hst => run_block <| SR <| CN <| Op1.load1 (v := .slice _ _ _) ty67 rfl rfl (hst.cellL (.tail _ (.tail _ (.tail _ (.tail _ (.head _))))) rfl) <| CN <| Op1.loadA (vs := [.int .u16 _, .slice _ _ _]) ty45 rfl rfl rfl (cells_of_obj (n := 2) (hst.objL (.head _)) _ rfl) <| CN (Op1.buildSl (z0 := [.int .u16 0, .slice none 0 0]) hst ty67 ty45 rfl rfl (by kernel_rfl) (.c (v := .agg #[.int .u16 _, .slice _ _ _]) rfl (h := .nil)) fun w b37 hst => ?_)
     refine CN (Op1.append (news := [.int .u16 _, .slice _ _ _]) hst ty67 ty45 rfl rfl (.there (.there (.there (.there (.there (.there (.there (.here)))))))) rfl rfl rfl (cells_of_obj (n := 2) (hst.objL (.head _)) _ rfl) rfl rfl (by omega) fun w ao3 cp4 hst => ?_)
     replace hst := hst.drop (.there (.here))
     refine CN (SO (v := .slice _ _ _) hst ty67 rfl rfl (.there (.there (.there (.there (.there (.here)))))) fun w hst => ?_)
     refine NR <| MI rfl <| CN <| Op1.addN rfl rfl rfl (wrap_i64 (by omega) (by omega)) <| CN <| Op1.fieldAddr fld45_1 rfl <| CN <| Op1.load1 (v := .slice _ _ _) ty43 rfl rfl (hst.cellL (.tail _ (.head _)) rfl) <| CN <| Op1.lenSl (rest := []) ty43 rfl <| CN <| Op1.addN rfl rfl rfl (wrap_i64 (by omega) (by omega)) <| CN (SO (v := .int .i64 _) hst ty3 rfl rfl (.there (.there (.there (.there (.there (.there (.here))))))) fun w hst => ?_)
     refine NL <| run_inBlock <| run_endR hlp hst (.there (.there (.here))) fun w hst => ?_
     replace hst := hst.pick (.cons (.there (.there (.there (.there (.here))))) (.cons (.there (.there (.there (.there (.there (.there (.here))))))) (.cons (.there (.there (.here))) (.cons (.there (.there (.here))) (.cons (.there (.there (.here))) (.cons (.there (.there (.here))) (.cons (.here) .nil)))))))
     replace hst := hst.starSnoc
     replace hst := hst.pick (.cons (.there (.here)) (.cons (.there (.here)) (.cons (.there (.here)) (.cons (.there (.here)) (.cons (.there (.here)) (.cons (.here) .nil))))))
     have e1 : done.length + 1 = (done ++ [(⟨((insR l 5).1.getD i zeroW).2.1, ro, rc, ((insR l 5).1.getD i zeroW).2.2⟩ : RawP)]).length := by simp
     have e2 : done.flatMap rawC ++ [.int .u16 ((insR l 5).1.getD i zeroW).2.1, .slice ro ((insR l 5).1.getD i zeroW).2.2.length rc] = (done ++ [(⟨((insR l 5).1.getD i zeroW).2.1, ro, rc, ((insR l 5).1.getD i zeroW).2.2⟩ : RawP)]).flatMap rawC := by simp
     have e3 : done.map (Res.oword 23) ++ [Res.sl ro ((insR l 5).1.getD i zeroW).2.2.length rc 23 1 (((insR l 5).1.getD i zeroW).2.2.flatMap u32C)] = (done ++ [(⟨((insR l 5).1.getD i zeroW).2.1, ro, rc, ((insR l 5).1.getD i zeroW).2.2⟩ : RawP)]).map (Res.oword 23) := by simp
     have e4 : (((insR l 5).1.getD i zeroW).1 : Int) + 1 + (((insR l 5).1.getD i zeroW).2.2.length : Int) = (atI (insR l 5) (i + 1) : Int) := by omega
     have hI2 : (done ++ [(⟨((insR l 5).1.getD i zeroW).2.1, ro, rc, ((insR l 5).1.getD i zeroW).2.2⟩ : RawP)]).map RawP.L = ((insR l 5).1.take (i + 1)).map (·.2) := by rw [List.map_append, hI, take_getD2 (d := zeroW) hi, List.map_append]; rfl
     rw [e1, e2, e3, e4] at hst
     exact .inl ⟨rfl, (ao3, cp4, done ++ [(⟨((insR l 5).1.getD i zeroW).2.1, ro, rc, ((insR l 5).1.getD i zeroW).2.2⟩ : RawP)]), _, hI2, hst⟩
   · intro ⟨aq, cq, done⟩ w bl br lp hI hst
     dsimp only at hst hI
     rw [List.take_length] at hI
     have hat : atI (insR l 5) (insR l 5).1.length = (insR l 5).2 := by unfold atI; rw [if_neg (by omega)]
     rw [hat] at hst
     have hie : (insR l 5).2 ≤ l.length ∧ _ := ins_end hw l.length 5 hlen5
     refine run_inBlock <| SQ <| SR <| CN <| Op1.load1 (v := .int .i64 _) ty3 rfl rfl (hst.cellL (.tail _ (.tail _ (.tail _ (.head _)))) rfl) <| ML rfl <| CN <| Op1.lenSl (rest := []) ty43 rfl <| CN <| Op1.lss rfl rfl <| NL <| run_cond_dec rfl (fun g5 => ?_) (fun g5 => ?_)
     · skip
       refine SQ ?_
       replace hst := hst.pick (.cons (.there (.there (.there (.there (.there (.there (.there (.there (.there (.there (.here))))))))))) (.cons (.here) (.cons (.here) (.cons (.here) (.cons (.here) (.cons (.here) (.cons (.here) (.cons (.here) (.cons (.here) (.cons (.here) (.cons (.here) .nil)))))))))))
       apply RunD.start [(3, Res.row b2 66 _, Res.row b2 66 _)] hst (bs := [0, 0, 2, 1, 9, 31]) (ds := [some 49, some 50, some 51, none, some 3, none]) (htab := ⟨by kernel_rfl, by kernel_rfl, by kernel_rfl⟩)
       intro tab6
       refine RunD.op (det _) tab6 1 (fun f' L' w' hc => Op1.buildStruct ty66 stf66 .nil ⟨[], ⟨rfl, rfl⟩, hc.st⟩) ?_
       refine RunD.op (det _) tab6 2 (fun f' L' w' hc => Op1.load1 (v := .int .i64 _) ty3 rfl (hc.old (v := .pointer (some ⟨_, _, none⟩)) rfl rfl rfl) (hc.st.cellL (List.mem_append_right _ (.tail _ (.tail _ (.tail _ (.head _))))) rfl) ⟨[], ⟨rfl, rfl⟩, hc.st⟩) <| RunD.op (det _) tab6 3 (fun f' L' w' hc => Op1.buildStruct ty29 stf29 (.c (v := .int .i64 _) rfl (h := (.c (v := .int .i64 _) (hc.det (j := 1) rfl rfl rfl rfl) (h := .nil)))) ⟨[], ⟨rfl, rfl⟩, hc.st⟩) ?_
       refine RunD.own tab6 4 (.head _) (fun f' L' L2 w' hc hsel => Op1.store (v := .agg #[.int .u32 _, .int .u32 _]) hc.st ty66 (hc.old (v := .pointer (some ⟨_, _, none⟩)) rfl rfl rfl) (hc.det (j := 0) rfl rfl rfl rfl) rfl rfl rfl hsel (by repeat (first | exact Put.nil | apply Put.put | apply Put.skip)) fun w hst => ⟨rfl, hst⟩) ?_
       refine RunD.op (det _) tab6 5 (fun f' L' w' hc => Op1.assign (v := .slice _ _ _) rfl ⟨[], ⟨rfl, rfl⟩, hc.st⟩) <| RunD.fin followsMixed tab6 hst rfl (fun f7 w R10 hs8 hd9 hr11 hst => ?_)
       obtain ⟨h49_, r0⟩ := hd9 0 49 rfl rfl
       obtain ⟨h50_, r1⟩ := hd9 1 50 rfl rfl
       obtain ⟨h51_, r2⟩ := hd9 2 51 rfl rfl
       obtain ⟨_, _, r3⟩ := hr11 3 rfl
       obtain ⟨h3_, r4⟩ := hd9 4 3 rfl rfl
       simp only [show List.range 5 = [0, 1, 2, 3, 4] from rfl, List.flatMap_cons, List.flatMap_nil, List.map_cons, List.map_nil, r0, r1, r2, r3, r4, List.nil_append, List.append_nil, List.cons_append] at hst
       refine RunL.slots (sl := [(2, .pointer (some ⟨_, _, none⟩)), (3, .slice _ _ _), (4, .pointer (some ⟨_, _, none⟩)), (51, .agg #[.int .i64 _, .int .i64 _])]) ⟨(hs8 2 rfl).trans rfl, h3_, (hs8 4 rfl).trans rfl, h51_, trivial⟩ ?_
       clear hs8 hd9 hr11 tab6
       refine CN (SO (v := .agg #[.int .i64 _, .int .i64 _]) hst ty29 rfl rfl (.there (.there (.there (.there (.there (.there (.there (.there (.there (.there (.here))))))))))) fun w hst => ?_)
       refine NL ?_
       replace hst := hst.pick (.cons (.there (.there (.here))) (.cons (.here) (.cons (.here) (.cons (.here) (.cons (.here) (.cons (.here) (.cons (.here) (.cons (.here) (.cons (.here) (.cons (.here) (.cons (.here) .nil)))))))))))
       refine run_ret_marks [br] Try.func40 hst fun w hst => ⟨_, res3 rfl (RV.cellA (vs := [.int .u32 _, .int .u32 _]) rfl ty66 rfl rfl (cells_of_obj (n := 2) (hst.objL (.head _)) _ rfl)) (TP (v := .slice _ _ _) rfl) (RV.cellA (vs := [.int .i64 _, .int .i64 _]) rfl ty29 rfl rfl (cells_of_obj (n := 2) (hst.objL (.tail _ (.tail _ (.tail _ (.tail _ (.tail _ (.tail _ (.tail _ (.tail _ (.tail _ (.head _))))))))))) _ rfl)), ?_⟩
       replace hst := hst.pick .nil
       replace hst := St.starCons ((hst.starNil).pushNil 45 2)
       refine ⟨none, 0, [], ?_, ?_, hst.noD⟩
       · rw [readF_count (by omega) hh (by omega)] <;> rfl
       · rw [readF_count (by omega) hh (by omega)] <;> rfl
     refine run_skip <| SQ ?_
     replace hst := hst.pick (.cons (.there (.there (.there (.there (.there (.there (.there (.there (.there (.there (.here))))))))))) (.cons (.here) (.cons (.here) (.cons (.here) (.cons (.here) (.cons (.here) (.cons (.here) (.cons (.here) (.cons (.here) (.cons (.here) (.cons (.here) .nil)))))))))))
     apply RunD.start [(3, Res.row b2 66 _, Res.row b2 66 _)] hst (bs := [0, 0, 0, 1, 11, 31]) (ds := [some 52, some 53, some 54, none, some 3, none]) (htab := ⟨by kernel_rfl, by kernel_rfl, by kernel_rfl⟩)
     intro tab12
     refine RunD.op (det _) tab12 1 (fun f' L' w' hc => Op1.loadA (vs := [.int .u32 _, .int .u32 _]) ty66 rfl (hc.old (v := .pointer (some ⟨_, _, none⟩)) rfl rfl rfl) rfl (cells_of_obj (n := 2) (hc.st.objL (List.mem_append_right _ (.tail _ (.tail _ (.tail _ (.tail _ (.tail _ (.tail _ (.tail _ (.tail _ (.head _))))))))))) _ rfl) ⟨[], ⟨rfl, rfl⟩, hc.st⟩) <| RunD.op (det _) tab12 2 (fun f' L' w' hc => Op1.load1 (v := .slice _ _ _) ty67 rfl (hc.old (v := .pointer (some ⟨_, _, none⟩)) rfl rfl rfl) (hc.st.cellL (List.mem_append_right _ (.tail _ (.tail _ (.head _)))) rfl) ⟨[], ⟨rfl, rfl⟩, hc.st⟩) <| RunD.op (det _) tab12 3 (fun f' L' w' hc => Op1.buildStruct ty29 stf29 .nil ⟨[], ⟨rfl, rfl⟩, hc.st⟩) ?_
     refine RunD.own tab12 4 (.head _) (fun f' L' L2 w' hc hsel => Op1.store (v := .agg #[.int .u32 _, .int .u32 _]) hc.st ty66 (hc.old (v := .pointer (some ⟨_, _, none⟩)) rfl rfl rfl) (hc.det (j := 0) rfl rfl rfl rfl) rfl rfl rfl hsel (by repeat (first | exact Put.nil | apply Put.put | apply Put.skip)) fun w hst => ⟨rfl, hst⟩) ?_
     refine RunD.op (det _) tab12 5 (fun f' L' w' hc => Op1.assign (v := .slice _ _ _) (hc.det (j := 1) rfl rfl rfl rfl) ⟨[], ⟨rfl, rfl⟩, hc.st⟩) <| RunD.fin followsMixed tab12 hst rfl (fun f13 w R16 hs14 hd15 hr17 hst => ?_)
     obtain ⟨h52_, r0⟩ := hd15 0 52 rfl rfl
     obtain ⟨h53_, r1⟩ := hd15 1 53 rfl rfl
     obtain ⟨h54_, r2⟩ := hd15 2 54 rfl rfl
     obtain ⟨_, _, r3⟩ := hr17 3 rfl
     obtain ⟨h3_, r4⟩ := hd15 4 3 rfl rfl
     simp only [show List.range 5 = [0, 1, 2, 3, 4] from rfl, List.flatMap_cons, List.flatMap_nil, List.map_cons, List.map_nil, r0, r1, r2, r3, r4, List.nil_append, List.append_nil, List.cons_append] at hst
     refine RunL.slots (sl := [(2, .pointer (some ⟨_, _, none⟩)), (3, .slice _ _ _), (4, .pointer (some ⟨_, _, none⟩)), (54, .agg #[.int .i64 _, .int .i64 _])]) ⟨(hs14 2 rfl).trans rfl, h3_, (hs14 4 rfl).trans rfl, h54_, trivial⟩ ?_
     clear hs14 hd15 hr17 tab12
     refine CN (SO (v := .agg #[.int .i64 _, .int .i64 _]) hst ty29 rfl rfl (.there (.there (.there (.there (.there (.there (.there (.there (.there (.there (.here))))))))))) fun w hst => ?_)
     refine NL ?_
     replace hst := hst.pick (.cons (.there (.there (.here))) (.cons (.here) (.cons (.here) (.cons (.here) (.cons (.here) (.cons (.here) (.cons (.here) (.cons (.here) (.cons (.here) (.cons (.here) (.cons (.here) .nil)))))))))))
     refine run_ret_marks [br] Try.func40 hst fun w hst => ⟨_, res3 rfl (RV.cellA (vs := [.int .u32 _, .int .u32 _]) rfl ty66 rfl rfl (cells_of_obj (n := 2) (hst.objL (.head _)) _ rfl)) (TP (v := .slice _ _ _) rfl) (RV.cellA (vs := [.int .i64 _, .int .i64 _]) rfl ty29 rfl rfl (cells_of_obj (n := 2) (hst.objL (.tail _ (.tail _ (.tail _ (.tail _ (.tail _ (.tail _ (.tail _ (.tail _ (.tail _ (.head _))))))))))) _ rfl)), ?_⟩
     replace hst := hst.pick (.cons (.there (.there (.there (.there (.here))))) (.cons (.there (.there (.there (.there (.here))))) .nil))
     refine ⟨aq, cq, done, ?_, ?_, (St.starCons hst).noD⟩
     · rw [readF_ok (by omega) hh (by omega)] <;> rfl
     · rw [readF_ok (by omega) hh (by omega)]; exact hI
   · intro i ⟨aq, cq, done⟩ hi hJ w bl br lp hst
     exact hJ.elim
 · skip
   replace hst : St _ _ ([] ++ _) _ _ := hst.call1 hp
   rw [List.nil_append] at hst
   clear hp
   refine CN <| Op1.move (v := .tuple #[.agg #[.int .u32 _, .int .u32 _], .agg #[.int .i64 _, .int .i64 _]]) rfl <| CN <| Op1.extract (v := .agg #[.int .u32 _, .int .u32 _]) rfl rfl <| CN <| Op1.extract (v := .agg #[.int .i64 _, .int .i64 _]) rfl rfl <| CN <| Op1.alloc hst ty66 fun w b5 hst => CN <| Op1.alloc hst ty29 fun w b6 hst => CN (SO (v := .agg #[.int .u32 _, .int .u32 _]) hst ty66 rfl rfl (.there (.here)) fun w hst => ?_)
   refine CN (SO (v := .agg #[.int .i64 _, .int .i64 _]) hst ty29 rfl rfl (.here) fun w hst => ?_)
   refine NL <| SQ <| SR <| CN <| Op1.fieldAddr fld29_0 rfl <| CN <| Op1.load1 (v := .int .i64 _) ty27 rfl rfl (hst.cellL (.head _) rfl) <| CN <| Op1.neq rfl rfl <| NL <| Run.forget [(0, .slice _ _ _), (2, .pointer (some ⟨_, _, none⟩)), (3, .slice _ _ _), (4, .pointer (some ⟨_, _, none⟩)), (5, .pointer (some ⟨_, _, none⟩)), (6, .pointer (some ⟨_, _, none⟩)), (28, .bool _)] ⟨rfl, rfl, rfl, rfl, rfl, rfl, rfl, trivial⟩ fun f => run_cond_dec rfl (fun g18 => ?_) (fun g18 => ?_)
   · skip
     refine SQ ?_
     replace hst := hst.pick (.cons (.there (.there (.there (.here)))) (.cons (.here) (.cons (.here) (.cons (.here) .nil))))
     apply RunD.start [(2, Res.row b2 66 _, Res.row b2 66 _)] hst (bs := [0, 0, 1, 5, 15]) (ds := [some 29, some 30, none, some 3, none]) (htab := ⟨by kernel_rfl, by kernel_rfl, by kernel_rfl⟩)
     intro tab19
     refine RunD.op (det _) tab19 1 (fun f' L' w' hc => Op1.buildStruct ty66 stf66 .nil ⟨[], ⟨rfl, rfl⟩, hc.st⟩) ?_
     refine RunD.op (det _) tab19 2 (fun f' L' w' hc => Op1.loadA (vs := [.int .i64 _, .int .i64 _]) ty29 rfl (hc.old (v := .pointer (some ⟨_, _, none⟩)) rfl rfl rfl) rfl (cells_of_obj (n := 2) (hc.st.objL (List.mem_append_right _ (.head _))) _ rfl) ⟨[], ⟨rfl, rfl⟩, hc.st⟩) <| RunD.own tab19 3 (.head _) (fun f' L' L2 w' hc hsel => Op1.store (v := .agg #[.int .u32 _, .int .u32 _]) hc.st ty66 (hc.old (v := .pointer (some ⟨_, _, none⟩)) rfl rfl rfl) (hc.det (j := 0) rfl rfl rfl rfl) rfl rfl rfl hsel (by repeat (first | exact Put.nil | apply Put.put | apply Put.skip)) fun w hst => ⟨rfl, hst⟩) ?_
     refine RunD.op (det _) tab19 4 (fun f' L' w' hc => Op1.assign (v := .slice _ _ _) rfl ⟨[], ⟨rfl, rfl⟩, hc.st⟩) <| RunD.fin followsMixed tab19 hst rfl (fun f20 w R23 hs21 hd22 hr24 hst => ?_)
     obtain ⟨h29_, r0⟩ := hd22 0 29 rfl rfl
     obtain ⟨h30_, r1⟩ := hd22 1 30 rfl rfl
     obtain ⟨_, _, r2⟩ := hr24 2 rfl
     obtain ⟨h3_, r3⟩ := hd22 3 3 rfl rfl
     simp only [show List.range 4 = [0, 1, 2, 3] from rfl, List.flatMap_cons, List.flatMap_nil, List.map_cons, List.map_nil, r0, r1, r2, r3, List.nil_append, List.append_nil, List.cons_append] at hst
     refine RunL.slots (sl := [(2, .pointer (some ⟨_, _, none⟩)), (3, .slice _ _ _), (4, .pointer (some ⟨_, _, none⟩)), (30, .agg #[.int .i64 _, .int .i64 _])]) ⟨(hs21 2 rfl).trans rfl, h3_, (hs21 4 rfl).trans rfl, h30_, trivial⟩ ?_
     clear hs21 hd22 hr24 tab19
     refine CN (SO (v := .agg #[.int .i64 _, .int .i64 _]) hst ty29 rfl rfl (.there (.there (.there (.here)))) fun w hst => ?_)
     refine NL <| run_ret3 Try.func40 rfl (RV.cellA (vs := [.int .u32 _, .int .u32 _]) rfl ty66 rfl rfl (cells_of_obj (n := 2) (hst.objL (.head _)) _ rfl)) (TP (v := .slice _ _ _) rfl) (RV.cellA (vs := [.int .i64 _, .int .i64 _]) rfl ty29 rfl rfl (cells_of_obj (n := 2) (hst.objL (.tail _ (.tail _ (.tail _ (.head _))))) _ rfl)) ?_
     replace hst := hst.pick .nil
     replace hst := St.starCons ((hst.starNil).pushNil 45 2)
     have hr := readF_head (w := l) (by omega) (by rw [hh]; exact he0)
     rw [hh] at hr
     refine ⟨none, 0, [], ?_, ?_, hst.noD⟩
     · rw [hr] <;> rfl
     · rw [hr] <;> rfl
   exfalso
   exact g18 he0
end Go.SK
namespace Go.SK
open Go Go.Proofs
theorem fld45_0 : FldF Try.prog 45 0 0 := FldF.of (n := 0) (by kernel_rfl)
end Go.SK
namespace Go.SK
open Go Go.Proofs
open Go.RowKit
theorem R3fr_counted2 (l : List RawP) (ao : Option Addr) (cp : Nat) (w : World) {nn ce ca : Int} (h1 : (cntF 5 0 (l.map rawN)).1 = nn) (h2 : (cntF 5 0 (l.map rawN)).2.1 = ce) (h3 : (cntF 5 0 (l.map rawN)).2.2 = ca) (hA : (Res.rs ao l.length 2 (l.flatMap rawC)).holds w) (hl : l.length ≤ 35184372088832) (hla : ∀ r ∈ l, r.ws.length ≤ 35184372088832) : Ret Try.prog 76 #[.slice ao l.length cp] w (fun v w' => v = .tuple #[.int .i64 nn, .agg #[.int .i64 ce, .int .i64 ca]] ∧ St w NoM [] [] w') := by
 subst h1; subst h2; subst h3; exact R3fr_counted l ao cp w hA hl hla
theorem R3fr_Write (gn bd : Int) (l : List RawP) (ao : Option Addr) (cp : Nat) (w : World) (hA : (Res.rraws ao l).holds w) (hl : l.length ≤ 35184372088832) (hla : ∀ r ∈ l, r.ws.length ≤ 35184372088832) (hop : ∀ r ∈ l, 0 ≤ r.op ∧ r.op < 65536) : Ret Try.prog 46 #[.agg #[.int .u32 gn, .int .u32 bd], .slice ao l.length cp] w (fun v w' => ∃ ro rc, v = .tuple #[.slice ro (writeF gn bd (l.map RawP.L)).1.length rc, .agg #[.int .i64 (writeF gn bd (l.map RawP.L)).2.1, .int .i64 (writeF gn bd (l.map RawP.L)).2.2]] ∧ St w NoM [Res.sl ro (writeF gn bd (l.map RawP.L)).1.length rc 23 1 ((writeF gn bd (l.map RawP.L)).1.flatMap u32C)] [] w') := by
 refine Ret.enter (args := [.agg #[.int .u32 gn, .int .u32 bd], .slice ao l.length cp]) Try.func46 rfl rfl rfl ?_
 have hst : St w NoM [] [Res.rraws ao l] w := St.init_D hA
 clear hA
 obtain ⟨nn, hnn⟩ : ∃ nn, (cntF 5 0 (l.map rawN)).1 = nn := ⟨_, rfl⟩
 obtain ⟨ce, hce⟩ : ∃ ce, (cntF 5 0 (l.map rawN)).2.1 = ce := ⟨_, rfl⟩
 obtain ⟨ca, hca⟩ : ∃ ca, (cntF 5 0 (l.map rawN)).2.2 = ca := ⟨_, rfl⟩
 refine SR <| CN <| Op1.box (v := .agg #[.int .u32 _, .int .u32 _]) hst rfl rfl fun w b2 hst => AL rfl <| CN <| Op1.alloc hst ty29 fun w b5 hst => NL <| SQ <| SR <| CN <| Op1.fieldAddr fld66_1 rfl <| CN <| Op1.load1 (v := .int .u32 _) ty23 rfl rfl (hst.cellL (.tail _ (.head _)) rfl) <| CN <| Op1.eql rfl rfl <| MB rfl <| RunL.splitD (d := 14) rfl (fun g1 => ?_) (fun g1 => ?_)
 · skip
   refine OM (t := 14) rfl (congrArg Value.bool (decide_eq_true g1)) rfl <| OM (t := 14) rfl (congrArg Value.bool (decide_eq_true g1)) rfl <| OM (t := 14) rfl (congrArg Value.bool (decide_eq_true g1)) rfl <| CN <| Op1.pickT (u := .bool _) (congrArg Value.bool (decide_eq_true g1)) rfl <| NL <| run_cond_true (congrArg Value.bool (rfl : true = _)) <| SR <| CN (Op1.buildStruct ty29 stf29 (.c (v := .int .i64 _) rfl (h := .nil)) ?_)
   refine AL rfl <| CN (SO (v := .agg #[.int .i64 _, .int .i64 _]) hst ty29 rfl rfl (.here) fun w hst => ?_)
   refine NL <| run_ret2 Try.func46 rfl (TP (v := .slice _ _ _) rfl) (RV.cellA (vs := [.int .i64 _, .int .i64 _]) rfl ty29 rfl rfl (cells_of_obj (n := 2) (hst.objL (.head _)) _ rfl)) ?_
   replace hst := hst.pick .nil
   have hr := writeF_bound (gn := gn) (l := l.map RawP.L) (bd := bd) (by omega)
   refine ⟨none, 0, ?_, ?_⟩
   · rw [hr] <;> rfl
   · rw [hr]; exact (hst.pushNil 23 1).noD
 refine TK (t := 14) rfl (congrArg Value.bool (decide_eq_false g1)) <| Op1.fieldAddr fld66_1 rfl <| TK (t := 14) rfl (congrArg Value.bool (decide_eq_false g1)) <| Op1.load1 (v := .int .u32 _) ty23 rfl rfl (hst.cellL (.tail _ (.head _)) rfl) <| TK (t := 14) rfl (congrArg Value.bool (decide_eq_false g1)) <| Op1.gtr rfl rfl <| CN <| Op1.pickF (u := .bool _) (congrArg Value.bool (decide_eq_false g1)) rfl <| NL <| run_cond_dec rfl (fun g2 => ?_) (fun g2 => ?_)
 · skip
   refine SR <| CN (Op1.buildStruct ty29 stf29 (.c (v := .int .i64 _) rfl (h := .nil)) ?_)
   refine AL rfl <| CN (SO (v := .agg #[.int .i64 _, .int .i64 _]) hst ty29 rfl rfl (.here) fun w hst => ?_)
   refine NL <| run_ret2 Try.func46 rfl (TP (v := .slice _ _ _) rfl) (RV.cellA (vs := [.int .i64 _, .int .i64 _]) rfl ty29 rfl rfl (cells_of_obj (n := 2) (hst.objL (.head _)) _ rfl)) ?_
   replace hst := hst.pick .nil
   have hr := writeF_bound (gn := gn) (l := l.map RawP.L) (bd := bd) (by omega)
   refine ⟨none, 0, ?_, ?_⟩
   · rw [hr] <;> rfl
   · rw [hr]; exact (hst.pushNil 23 1).noD
 refine run_skip <| SR <| ML rfl <| CN <| Op1.call1 (v1 := .slice _ _ _) ent76 rfl rfl <| Ret.det (R3fr_counted2 l ao cp _ hnn hce hca (Res.rraws_raws (hst.hD _ (.head _))) hl hla) hst fun w hst => CN <| Op1.move (v := .tuple #[.int .i64 _, .agg #[.int .i64 _, .int .i64 _]]) rfl <| CN <| Op1.extract (v := .int .i64 _) rfl rfl <| CN <| Op1.extract (v := .agg #[.int .i64 _, .int .i64 _]) rfl rfl <| CN <| Op1.alloc hst ty29 fun w b7 hst => AI rfl <| CN (SO (v := .agg #[.int .i64 _, .int .i64 _]) hst ty29 rfl rfl (.here) fun w hst => ?_)
 refine NL <| SQ <| SR <| CN <| Op1.fieldAddr fld29_0 rfl <| CN <| Op1.load1 (v := .int .i64 _) ty27 rfl rfl (hst.cellL (.head _) rfl) <| CN <| Op1.neq rfl rfl <| NL <| Run.forget [(1, .slice _ _ _), (2, .pointer (some ⟨_, _, none⟩)), (5, .pointer (some ⟨_, _, none⟩)), (6, .int .i64 _), (7, .pointer (some ⟨_, _, none⟩)), (27, .bool _)] ⟨rfl, rfl, rfl, rfl, rfl, rfl, trivial⟩ fun f => run_cond_dec rfl (fun g3 => ?_) (fun g3 => ?_)
 · skip
   refine SQ <| RunD.start [] hst (bs := [0, 0, 3]) (ds := [some 28, some 4, none]) ⟨by kernel_rfl, by kernel_rfl, by kernel_rfl⟩ (fun tab4 => ?_)
   refine RunD.op (det _) tab4 1 (fun f' L' w' hc => Op1.loadA (vs := [.int .i64 _, .int .i64 _]) ty29 rfl (hc.old (v := .pointer (some ⟨_, _, none⟩)) rfl rfl rfl) rfl (cells_of_obj (n := 2) (hc.st.objL (List.mem_append_right _ (.head _))) _ rfl) ⟨[], ⟨rfl, rfl⟩, hc.st⟩) <| RunD.op (det _) tab4 2 (fun f' L' w' hc => Op1.assign (v := .slice _ _ _) rfl ⟨[], ⟨rfl, rfl⟩, hc.st⟩) <| RunD.fin followsMixed tab4 hst rfl (fun f5 w R8 hs6 hd7 hr9 hst => ?_)
   obtain ⟨h28_, r0⟩ := hd7 0 28 rfl rfl
   obtain ⟨h4_, r1⟩ := hd7 1 4 rfl rfl
   simp only [show List.range 2 = [0, 1] from rfl, List.flatMap_cons, List.flatMap_nil, List.map_cons, List.map_nil, r0, r1, List.nil_append, List.append_nil, List.cons_append] at hst
   refine RunL.slots (sl := [(4, .slice _ _ _), (5, .pointer (some ⟨_, _, none⟩)), (28, .agg #[.int .i64 _, .int .i64 _])]) ⟨h4_, (hs6 5 rfl).trans rfl, h28_, trivial⟩ ?_
   clear hs6 hd7 hr9 tab4
   refine CN (SO (v := .agg #[.int .i64 _, .int .i64 _]) hst ty29 rfl rfl (.there (.here)) fun w hst => ?_)
   refine NL <| run_ret2 Try.func46 rfl (TP (v := .slice _ _ _) rfl) (RV.cellA (vs := [.int .i64 _, .int .i64 _]) rfl ty29 rfl rfl (cells_of_obj (n := 2) (hst.objL (.tail _ (.head _))) _ rfl)) ?_
   replace hst := hst.pick .nil
   have hr := writeF_bad (gn := gn) (l := l.map RawP.L) (bd := bd) (by omega) (by omega) (by rw [← lens_eq, hce]; exact g3)
   rw [← lens_eq, show (cntF 5 0 (l.map rawN)).2 = (ce, ca) by rw [← hce, ← hca]] at hr
   refine ⟨none, 0, ?_, ?_⟩
   · rw [hr] <;> rfl
   · rw [hr]; exact (hst.pushNil 23 1).noD
 have hce2 : ce = 0 := by omega
 have hgd := cnt_good (ks := l.map rawN) (n := 5) (i := 0) (by decide) (hce.trans hce2)
 have hnn2 := hnn
 rw [hgd.1] at hnn2
 dsimp only at hnn2
 have htot := hgd.2.2
 have hWl : (writeW gn bd (l.map RawP.L)).length ≤ 1048576 := by rw [writeW_len, ← lens_eq]; exact htot
 refine run_skip <| SR <| MI rfl <| CN <| Op1.makeSlR (k := 5 + ((l.map rawN).map (· + 1)).sum) hst ty43 ty23 rfl rfl (by omega) rfl (by decide) (by omega) (by omega) fun w bC hst => AL rfl <| NSR <| ML rfl <| CN <| Op1.fieldAddr fld66_0 rfl <| CN <| Op1.load1 (v := .int .u32 _) ty23 rfl rfl (hst.cellL (.tail _ (.tail _ (.tail _ (.head _)))) rfl) <| CN <| Op1.fieldAddr fld66_1 rfl <| CN <| Op1.load1 (v := .int .u32 _) ty23 rfl rfl (hst.cellL (.tail _ (.tail _ (.tail _ (.head _)))) rfl) <| CN (Op1.buildSl (z0 := [.int .u32 0, .int .u32 0, .int .u32 0, .int .u32 0, .int .u32 0]) hst ty43 ty23 rfl rfl (by kernel_rfl) (.c (v := .int .u32 _) rfl (h := (.c (v := .int .u32 _) rfl (h := (.c (v := .int .u32 _) rfl (h := (.c (v := .int .u32 _) rfl (h := (.c (v := .int .u32 _) rfl (h := .nil)))))))))) fun w b36 hst => ?_)
 refine CN (Op1.append (news := [.int .u32 _, .int .u32 _, .int .u32 _, .int .u32 _, .int .u32 _]) hst ty43 ty23 rfl rfl (.there (.here)) rfl rfl rfl (cells_of_obj (n := 5) (hst.objL (.head _)) _ rfl) rfl rfl (by omega) fun w ao10 cp11 hst => ?_)
 replace hst := hst.drop (.there (.here))
 refine AL rfl <| NL <| SQ <| SR <| ML rfl <| CN <| Op1.lenSl (rest := []) ty67 rfl <| MI rfl <| NL <| run_block <| run_loop <| Run.indW [(5, .pointer (some ⟨_, _, none⟩)), (38, .slice _ _ _), (39, .int .i64 _)] ⟨rfl, rfl, rfl, trivial⟩ (fun (q : Nat × Option Addr × Nat) => [(8, .slice q.2.1 (writeW gn bd ((l.take q.1).map RawP.L)).length q.2.2), (40, .int .i64 (q.1 : Int))]) (fun (q : Nat × Option Addr × Nat) => [Res.sl q.2.1 (writeW gn bd ((l.take q.1).map RawP.L)).length q.2.2 23 1 ((writeW gn bd ((l.take q.1).map RawP.L)).flatMap u32C)]) (fun (q : Nat × Option Addr × Nat) => q.1 ≤ l.length) (fun (q : Nat × Option Addr × Nat) => l.length - q.1) ((0, _, _)) hst (Nat.zero_le _) ⟨rfl, rfl, trivial⟩ ?_
 intro ⟨i, aq, cq⟩ f w hst hJ ih12
 replace hst : St _ _ ([Res.sl aq (writeW gn bd ((l.take i).map RawP.L)).length cq 23 1 ((writeW gn bd ((l.take i).map RawP.L)).flatMap u32C)] ++ [_, _, _]) _ _ := hst
 replace hJ : i ≤ l.length := hJ
 refine Run.slots (sl := [(8, .slice aq (writeW gn bd ((l.take i).map RawP.L)).length cq), (40, .int .i64 (i : Int))]) ⟨rfl, rfl, trivial⟩ <| SR <| CN <| Op1.lss rfl rfl <| NL <| SQ <| run_cond_dec rfl (fun g13 => ?_) (fun g13 => ?_)
 · skip
   have hWi := writeW_le gn bd l i
   have hmem : (l.getD i zeroR) ∈ l := getD_memD (by omega)
   have hk : (l.getD i zeroR).ws.length < 65535 := hgd.2.1 _ (List.mem_map_of_mem hmem)
   have ho := hop _ hmem
   have hidx : l.getD ((i : Int)).toNat zeroR = (l.getD i zeroR) := rfl
   have hidx2 : (l.getD ((i : Int)).toNat zeroR).ws.length = (l.getD i zeroR).ws.length := rfl
   have hidx3 : (l.getD ((i : Int)).toNat zeroR).op = (l.getD i zeroR).op := rfl
   refine run_skip <| SQ <| run_block <| SR <| CN <| Op1.indexRs ty67 ty45 (Res.rraws_raws (hst.hD _ (.head _))) rfl rfl (by omega) (by omega) <| CN <| Op1.loadA (vs := [.int .u16 _, .slice _ _ _]) ty45 rfl rfl rfl (Res.rs2_cells (m := 2) (Res.rraws_raws (hst.hD _ (.head _))) _ (flat_seg (g := rawC) (d := zeroR) rawC_len _ _ (by omega))) <| CN <| Op1.alloc hst ty45 fun w b10 hst => CN (SO (v := .agg #[.int .u16 _, .slice _ _ _]) hst ty45 rfl rfl (.here) fun w hst => ?_)
   refine NSR <| ML rfl <| CN <| Op1.fieldAddr fld45_1 rfl <| CN <| Op1.load1 (v := .slice _ _ _) ty43 rfl rfl (hst.cellL (.head _) rfl) <| CN <| Op1.lenSl (rest := []) ty43 rfl <| CN <| Op1.addN rfl rfl rfl (wrap_i64 (by omega) (by omega)) <| CN <| Op1.convW (c := (((l.getD i zeroR).ws.length : Int) + 1)) ty3 ty23 rfl (wrap_u32 (by omega) (by omega)) <| CN <| Op1.shlC (n := 16) (c := (((l.getD i zeroR).ws.length : Int) + 1) * 65536) rfl rfl (by decide) (by rw [show (2 : Int) ^ 16 = 65536 from rfl]; exact wrap_u32 (by omega) (by omega)) <| CN <| Op1.fieldAddr fld45_0 rfl <| CN <| Op1.load1 (v := .int .u16 _) ty42 rfl rfl (hst.cellL (.head _) rfl) <| CN <| Op1.convW (c := (l.getD i zeroR).op) ty42 ty23 rfl (wrap_u32 (by omega) (by omega)) <| CN <| Op1.orLow (q := (((l.getD i zeroR).ws.length : Int) + 1)) (i := 16) (b := (l.getD i zeroR).op) (c := (((l.getD i zeroR).ws.length : Int) + 1) * 65536 + (l.getD i zeroR).op) rfl rfl rfl (by omega) (by omega) (by rw [show (2 : Int) ^ 16 = 65536 from rfl]; omega) rfl (by omega) <| CN (Op1.buildSl (z0 := [.int .u32 0]) hst ty43 ty23 rfl rfl (by kernel_rfl) (.c (v := .int .u32 _) rfl (h := .nil)) fun w b55 hst => ?_)
   refine CN (Op1.append (news := [.int .u32 _]) hst ty43 ty23 rfl rfl (.there (.there (.here))) rfl rfl rfl (cells_of_obj (n := 1) (hst.objL (.head _)) _ rfl) rfl rfl (by omega) fun w ao14 cp15 hst => ?_)
   replace hst := hst.drop (.there (.here))
   refine AL rfl <| NR <| ML rfl <| CN <| Op1.fieldAddr fld45_1 rfl <| CN <| Op1.load1 (v := .slice _ _ _) ty43 rfl rfl (hst.cellL (.tail _ (.head _)) rfl) <| CN <| Op1.appendRs hst ty43 ty23 rfl rfl (.here) rfl rfl (Res.rraws_wsI (hst.hD _ (.head _)) (i := i) (by omega)) (flat_ok (fun _ => rfl) _) rfl (by omega) fun w ao16 cp17 hst => AL rfl <| NL <| run_inBlock <| Run.forget [(5, .pointer (some ⟨_, _, none⟩)), (8, .slice _ _ _), (38, .slice _ _ _), (39, .int .i64 _), (40, .int .i64 _)] ⟨rfl, rfl, rfl, rfl, rfl, trivial⟩ fun f => RG <| CN <| Op1.addN rfl rfl rfl (wrap_i64 (by omega) (by omega)) <| MI rfl <| NL ?_
   refine run_inLoop ?_
   have e0 := writeW_take (gn := gn) (bd := bd) (l := l) (i := i) (by omega)
   have e1 : (writeW gn bd ((l.take i).map RawP.L)).length + 1 + (l.getD ((i : Int)).toNat zeroR).ws.length = (writeW gn bd ((l.take (i + 1)).map RawP.L)).length := by rw [e0]; simp only [List.length_append, List.length_cons, List.length_nil, Int.toNat_natCast]
   have e2 : (writeW gn bd ((l.take i).map RawP.L)).flatMap u32C ++ [.int .u32 ((((l.getD i zeroR).ws.length : Int) + 1) * 65536 + (l.getD i zeroR).op)] ++ (l.getD i zeroR).ws.flatMap u32C = (writeW gn bd ((l.take (i + 1)).map RawP.L)).flatMap u32C := by rw [e0]; simp only [List.flatMap_append]; rfl
   rw [e1, e2] at hst
   replace hst := hst.pick (.cons (.here) (.cons (.there (.here)) (.cons (.there (.here)) (.cons (.there (.here)) .nil))))
   exact ih12 ((i + 1, ao16, cp17)) _ w (by (try dsimp only); omega) hst (by (try dsimp only); omega) ⟨rfl, rfl, rfl, trivial⟩ ⟨(by (try dsimp only); rw [← e1]; rfl), (congrArg (Value.int .i64) (by (try dsimp only); omega)), trivial⟩
 obtain rfl : i = l.length := by omega
 rw [List.take_length] at hst
 refine run_exit (id := 0) rfl <| SR <| ML rfl <| CN (Op1.buildStruct ty29 stf29 .nil ?_)
 refine AL rfl <| CN (SO (v := .agg #[.int .i64 _, .int .i64 _]) hst ty29 rfl rfl (.there (.there (.here))) fun w hst => ?_)
 refine NL <| run_ret2 Try.func46 rfl (TP (v := .slice _ _ _) rfl) (RV.cellA (vs := [.int .i64 _, .int .i64 _]) rfl ty29 rfl rfl (cells_of_obj (n := 2) (hst.objL (.tail _ (.tail _ (.head _)))) _ rfl)) ?_
 replace hst := hst.pick (.cons (.here) .nil)
 have hr := writeF_ok (gn := gn) (l := l.map RawP.L) (bd := bd) (by omega) (by omega) (by rw [← lens_eq, hce]; exact hce2)
 rw [hr, List.take_length]
 exact ⟨_, _, rfl, hst.noD⟩
end Go.SK
namespace Go.SK
open Go Go.Proofs
theorem ent102 : Enters Try.prog 102 := ⟨Try.f102, _, Try.func102, by kernel_rfl, rfl⟩
theorem ent103 : Enters Try.prog 103 := ⟨Try.f103, _, Try.func103, by kernel_rfl, rfl⟩
theorem ent104 : Enters Try.prog 104 := ⟨Try.f104, _, Try.func104, by kernel_rfl, rfl⟩
theorem ty132 : TyF Try.prog 132 (.array 6 9) 6 96 [str [], str [], str [], str [], str [], str []] := TyF.of (by kernel_rfl) (by kernel_rfl)
theorem ty21 : TyF Try.prog 21 (.int .i32) 1 4 [.int .i32 0] := TyF.of (by kernel_rfl) (by kernel_rfl)
end Go.SK
namespace Go.SK
open Go Go.Proofs
open Go.RowKit
theorem R3gr_first (op : Int) (w : World) : Ret Try.prog 102 #[.int .u16 op] w (fun v w' => v = str (look firstT op) ∧ St w NoM [] [] w') := by
 refine Ret.enter (args := [.int .u16 op]) Try.func102 rfl rfl rfl ?_
 have hst := St.init w
 refine SR <| AS rfl <| NL <| SQ <| SR <| MH rfl <| NL <| run_block <| SR <| CN <| Op1.eql rfl rfl <| AB rfl <| NL ?_
 refine run_cond_dec rfl (fun g1 => ?_) (fun g1 => ?_)
 · skip
   refine SR <| AS rfl <| NL <| run_ret1 Try.func102 rfl (TP (v := str _) rfl) ?_
   subst g1
   exact ⟨congrArg str (by decide +kernel), hst.pure⟩
 refine SR <| CN <| Op1.eql rfl rfl <| AB rfl <| NL <| run_cond_dec rfl (fun g2 => ?_) (fun g2 => ?_)
 · skip
   refine SR <| AS rfl <| NL <| run_ret1 Try.func102 rfl (TP (v := str _) rfl) ?_
   subst g2
   exact ⟨congrArg str (by decide +kernel), hst.pure⟩
 refine SR <| CN <| Op1.eql rfl rfl <| AB rfl <| NL <| run_cond_dec rfl (fun g3 => ?_) (fun g3 => ?_)
 · skip
   refine SR <| AS rfl <| NL <| run_ret1 Try.func102 rfl (TP (v := str _) rfl) ?_
   subst g3
   exact ⟨congrArg str (by decide +kernel), hst.pure⟩
 refine SR <| CN <| Op1.eql rfl rfl <| AB rfl <| NL <| run_cond_dec rfl (fun g4 => ?_) (fun g4 => ?_)
 · skip
   refine SR <| AS rfl <| NL <| run_ret1 Try.func102 rfl (TP (v := str _) rfl) ?_
   subst g4
   exact ⟨congrArg str (by decide +kernel), hst.pure⟩
 refine SR <| CN <| Op1.eql rfl rfl <| AB rfl <| NL <| run_cond_dec rfl (fun g5 => ?_) (fun g5 => ?_)
 · skip
   refine SR <| AS rfl <| NL <| run_ret1 Try.func102 rfl (TP (v := str _) rfl) ?_
   subst g5
   exact ⟨congrArg str (by decide +kernel), hst.pure⟩
 refine SR <| CN <| Op1.eql rfl rfl <| AB rfl <| NL <| run_cond_dec rfl (fun g6 => ?_) (fun g6 => ?_)
 · skip
   refine SR <| AS rfl <| NL <| run_ret1 Try.func102 rfl (TP (v := str _) rfl) ?_
   subst g6
   exact ⟨congrArg str (by decide +kernel), hst.pure⟩
 refine SR <| CN <| Op1.eql rfl rfl <| AB rfl <| NL <| run_cond_dec rfl (fun g7 => ?_) (fun g7 => ?_)
 · skip
   refine SR <| AS rfl <| NL <| run_ret1 Try.func102 rfl (TP (v := str _) rfl) ?_
   subst g7
   exact ⟨congrArg str (by decide +kernel), hst.pure⟩
 refine SR <| CN <| Op1.eql rfl rfl <| AB rfl <| NL <| run_cond_dec rfl (fun g8 => ?_) (fun g8 => ?_)
 · skip
   refine SR <| AS rfl <| NL <| run_ret1 Try.func102 rfl (TP (v := str _) rfl) ?_
   subst g8
   exact ⟨congrArg str (by decide +kernel), hst.pure⟩
 refine SR <| CN <| Op1.eql rfl rfl <| AB rfl <| NL <| Run.forget [(3, .int .u16 _), (20, .bool _)] ⟨rfl, rfl, trivial⟩ fun f => run_cond_dec rfl (fun g9 => ?_) (fun g9 => ?_)
 · skip
   refine SR <| AS rfl <| NL <| run_ret1 Try.func102 rfl (TP (v := str _) rfl) ?_
   subst g9
   exact ⟨congrArg str (by decide +kernel), hst.pure⟩
 refine SR <| CN <| Op1.eql rfl rfl <| AB rfl <| NL <| run_cond_dec rfl (fun g10 => ?_) (fun g10 => ?_)
 · skip
   refine SR <| AS rfl <| NL <| run_ret1 Try.func102 rfl (TP (v := str _) rfl) ?_
   subst g10
   exact ⟨congrArg str (by decide +kernel), hst.pure⟩
 refine SR <| CN <| Op1.eql rfl rfl <| AB rfl <| NL <| run_cond_dec rfl (fun g11 => ?_) (fun g11 => ?_)
 · skip
   refine SR <| AS rfl <| NL <| run_ret1 Try.func102 rfl (TP (v := str _) rfl) ?_
   subst g11
   exact ⟨congrArg str (by decide +kernel), hst.pure⟩
 refine SR <| CN <| Op1.eql rfl rfl <| AB rfl <| NL <| run_cond_dec rfl (fun g12 => ?_) (fun g12 => ?_)
 · skip
   refine SR <| AS rfl <| NL <| run_ret1 Try.func102 rfl (TP (v := str _) rfl) ?_
   subst g12
   exact ⟨congrArg str (by decide +kernel), hst.pure⟩
 refine SR <| CN <| Op1.eql rfl rfl <| AB rfl <| NL <| run_cond_dec rfl (fun g13 => ?_) (fun g13 => ?_)
 · skip
   refine SR <| AS rfl <| NL <| run_ret1 Try.func102 rfl (TP (v := str _) rfl) ?_
   subst g13
   exact ⟨congrArg str (by decide +kernel), hst.pure⟩
 refine SR <| CN <| Op1.eql rfl rfl <| AB rfl <| NL <| run_cond_dec rfl (fun g14 => ?_) (fun g14 => ?_)
 · skip
   refine SR <| AS rfl <| NL <| run_ret1 Try.func102 rfl (TP (v := str _) rfl) ?_
   subst g14
   exact ⟨congrArg str (by decide +kernel), hst.pure⟩
 refine SR <| CN <| Op1.eql rfl rfl <| AB rfl <| NL <| run_cond_dec rfl (fun g15 => ?_) (fun g15 => ?_)
 · skip
   refine SR <| AS rfl <| NL <| run_ret1 Try.func102 rfl (TP (v := str _) rfl) ?_
   subst g15
   exact ⟨congrArg str (by decide +kernel), hst.pure⟩
 refine SR <| CN <| Op1.eql rfl rfl <| AB rfl <| NL <| run_cond_dec rfl (fun g16 => ?_) (fun g16 => ?_)
 · skip
   refine SR <| AS rfl <| NL <| run_ret1 Try.func102 rfl (TP (v := str _) rfl) ?_
   subst g16
   exact ⟨congrArg str (by decide +kernel), hst.pure⟩
 refine SR <| CN <| Op1.eql rfl rfl <| AB rfl <| NL <| run_cond_dec rfl (fun g17 => ?_) (fun g17 => ?_)
 · skip
   refine SR <| AS rfl <| NL <| run_ret1 Try.func102 rfl (TP (v := str _) rfl) ?_
   subst g17
   exact ⟨congrArg str (by decide +kernel), hst.pure⟩
 refine SR <| CN <| Op1.eql rfl rfl <| AB rfl <| NL <| run_cond_dec rfl (fun g18 => ?_) (fun g18 => ?_)
 · skip
   refine SR <| AS rfl <| NL <| run_ret1 Try.func102 rfl (TP (v := str _) rfl) ?_
   subst g18
   exact ⟨congrArg str (by decide +kernel), hst.pure⟩
 refine SR <| CN <| Op1.eql rfl rfl <| AB rfl <| NL <| Run.forget [(3, .int .u16 _), (40, .bool _)] ⟨rfl, rfl, trivial⟩ fun f => run_cond_dec rfl (fun g19 => ?_) (fun g19 => ?_)
 · skip
   refine SR <| AS rfl <| NL <| run_ret1 Try.func102 rfl (TP (v := str _) rfl) ?_
   subst g19
   exact ⟨congrArg str (by decide +kernel), hst.pure⟩
 refine SR <| CN <| Op1.eql rfl rfl <| AB rfl <| NL <| run_cond_dec rfl (fun g20 => ?_) (fun g20 => ?_)
 · skip
   refine SR <| AS rfl <| NL <| run_ret1 Try.func102 rfl (TP (v := str _) rfl) ?_
   subst g20
   exact ⟨congrArg str (by decide +kernel), hst.pure⟩
 refine SR <| CN <| Op1.eql rfl rfl <| AB rfl <| NL <| run_cond_dec rfl (fun g21 => ?_) (fun g21 => ?_)
 · skip
   refine SR <| AS rfl <| NL <| run_ret1 Try.func102 rfl (TP (v := str _) rfl) ?_
   subst g21
   exact ⟨congrArg str (by decide +kernel), hst.pure⟩
 refine SR <| CN <| Op1.eql rfl rfl <| AB rfl <| NL <| run_cond_dec rfl (fun g22 => ?_) (fun g22 => ?_)
 · skip
   refine SR <| AS rfl <| NL <| run_ret1 Try.func102 rfl (TP (v := str _) rfl) ?_
   subst g22
   exact ⟨congrArg str (by decide +kernel), hst.pure⟩
 refine SR <| CN <| Op1.eql rfl rfl <| AB rfl <| NL <| run_cond_dec rfl (fun g23 => ?_) (fun g23 => ?_)
 · skip
   refine SR <| AS rfl <| NL <| run_ret1 Try.func102 rfl (TP (v := str _) rfl) ?_
   subst g23
   exact ⟨congrArg str (by decide +kernel), hst.pure⟩
 refine SR <| CN <| Op1.eql rfl rfl <| AB rfl <| NL <| run_cond_dec rfl (fun g24 => ?_) (fun g24 => ?_)
 · skip
   refine SR <| AS rfl <| NL <| run_ret1 Try.func102 rfl (TP (v := str _) rfl) ?_
   subst g24
   exact ⟨congrArg str (by decide +kernel), hst.pure⟩
 refine SR <| CN <| Op1.eql rfl rfl <| AB rfl <| NL <| run_cond_dec rfl (fun g25 => ?_) (fun g25 => ?_)
 · skip
   refine SR <| AS rfl <| NL <| run_ret1 Try.func102 rfl (TP (v := str _) rfl) ?_
   subst g25
   exact ⟨congrArg str (by decide +kernel), hst.pure⟩
 refine SR <| CN <| Op1.eql rfl rfl <| AB rfl <| NL <| run_cond_dec rfl (fun g26 => ?_) (fun g26 => ?_)
 · skip
   refine SR <| AS rfl <| NL <| run_ret1 Try.func102 rfl (TP (v := str _) rfl) ?_
   subst g26
   exact ⟨congrArg str (by decide +kernel), hst.pure⟩
 refine SR <| CN <| Op1.eql rfl rfl <| AB rfl <| NL <| run_cond_dec rfl (fun g27 => ?_) (fun g27 => ?_)
 · skip
   refine SR <| AS rfl <| NL <| run_ret1 Try.func102 rfl (TP (v := str _) rfl) ?_
   subst g27
   exact ⟨congrArg str (by decide +kernel), hst.pure⟩
 refine SR <| CN <| Op1.eql rfl rfl <| AB rfl <| NL <| run_cond_dec rfl (fun g28 => ?_) (fun g28 => ?_)
 · skip
   refine SR <| AS rfl <| NL <| run_ret1 Try.func102 rfl (TP (v := str _) rfl) ?_
   subst g28
   exact ⟨congrArg str (by decide +kernel), hst.pure⟩
 refine SR <| CN <| Op1.eql rfl rfl <| AB rfl <| NL <| Run.forget [(3, .int .u16 _), (60, .bool _)] ⟨rfl, rfl, trivial⟩ fun f => run_cond_dec rfl (fun g29 => ?_) (fun g29 => ?_)
 · skip
   refine SR <| AS rfl <| NL <| run_ret1 Try.func102 rfl (TP (v := str _) rfl) ?_
   subst g29
   exact ⟨congrArg str (by decide +kernel), hst.pure⟩
 refine SR <| CN <| Op1.eql rfl rfl <| AB rfl <| NL <| run_cond_dec rfl (fun g30 => ?_) (fun g30 => ?_)
 · skip
   refine SR <| AS rfl <| NL <| run_ret1 Try.func102 rfl (TP (v := str _) rfl) ?_
   subst g30
   exact ⟨congrArg str (by decide +kernel), hst.pure⟩
 refine SR <| CN <| Op1.eql rfl rfl <| AB rfl <| NL <| run_cond_dec rfl (fun g31 => ?_) (fun g31 => ?_)
 · skip
   refine SR <| AS rfl <| NL <| run_ret1 Try.func102 rfl (TP (v := str _) rfl) ?_
   subst g31
   exact ⟨congrArg str (by decide +kernel), hst.pure⟩
 refine run_skip <| run_inBlock <| SR <| AS rfl <| NL <| run_ret1 Try.func102 rfl (TP (v := str _) rfl) ?_
 exact ⟨congrArg str (look_none (by simp only [firstT, List.forall_mem_cons]; exact ⟨g1, g2, g3, g4, g5, g6, g7, g8, g9, g10, g11, g12, g13, g14, g15, g16, g17, g18, g19, g20, g21, g22, g23, g24, g25, g26, g27, g28, g29, g30, g31, fun _ h => absurd h List.not_mem_nil⟩)).symm, hst.pure⟩
theorem R3gr_second (op : Int) (w : World) : Ret Try.prog 103 #[.int .u16 op] w (fun v w' => v = str (look secondT op) ∧ St w NoM [] [] w') := by
 refine Ret.enter (args := [.int .u16 op]) Try.func103 rfl rfl rfl ?_
 have hst := St.init w
 refine SR <| AS rfl <| NL <| SQ <| SR <| MH rfl <| NL <| run_block <| SR <| CN <| Op1.eql rfl rfl <| AB rfl <| NL ?_
 refine run_cond_dec rfl (fun g1 => ?_) (fun g1 => ?_)
 · skip
   refine SR <| AS rfl <| NL <| run_ret1 Try.func103 rfl (TP (v := str _) rfl) ?_
   subst g1
   exact ⟨congrArg str (by decide +kernel), hst.pure⟩
 refine SR <| CN <| Op1.eql rfl rfl <| AB rfl <| NL <| run_cond_dec rfl (fun g2 => ?_) (fun g2 => ?_)
 · skip
   refine SR <| AS rfl <| NL <| run_ret1 Try.func103 rfl (TP (v := str _) rfl) ?_
   subst g2
   exact ⟨congrArg str (by decide +kernel), hst.pure⟩
 refine SR <| CN <| Op1.eql rfl rfl <| AB rfl <| NL <| run_cond_dec rfl (fun g3 => ?_) (fun g3 => ?_)
 · skip
   refine SR <| AS rfl <| NL <| run_ret1 Try.func103 rfl (TP (v := str _) rfl) ?_
   subst g3
   exact ⟨congrArg str (by decide +kernel), hst.pure⟩
 refine SR <| CN <| Op1.eql rfl rfl <| AB rfl <| NL <| run_cond_dec rfl (fun g4 => ?_) (fun g4 => ?_)
 · skip
   refine SR <| AS rfl <| NL <| run_ret1 Try.func103 rfl (TP (v := str _) rfl) ?_
   subst g4
   exact ⟨congrArg str (by decide +kernel), hst.pure⟩
 refine SR <| CN <| Op1.eql rfl rfl <| AB rfl <| NL <| run_cond_dec rfl (fun g5 => ?_) (fun g5 => ?_)
 · skip
   refine SR <| AS rfl <| NL <| run_ret1 Try.func103 rfl (TP (v := str _) rfl) ?_
   subst g5
   exact ⟨congrArg str (by decide +kernel), hst.pure⟩
 refine SR <| CN <| Op1.eql rfl rfl <| AB rfl <| NL <| run_cond_dec rfl (fun g6 => ?_) (fun g6 => ?_)
 · skip
   refine SR <| AS rfl <| NL <| run_ret1 Try.func103 rfl (TP (v := str _) rfl) ?_
   subst g6
   exact ⟨congrArg str (by decide +kernel), hst.pure⟩
 refine SR <| CN <| Op1.eql rfl rfl <| AB rfl <| NL <| run_cond_dec rfl (fun g7 => ?_) (fun g7 => ?_)
 · skip
   refine SR <| AS rfl <| NL <| run_ret1 Try.func103 rfl (TP (v := str _) rfl) ?_
   subst g7
   exact ⟨congrArg str (by decide +kernel), hst.pure⟩
 refine SR <| CN <| Op1.eql rfl rfl <| AB rfl <| NL <| run_cond_dec rfl (fun g8 => ?_) (fun g8 => ?_)
 · skip
   refine SR <| AS rfl <| NL <| run_ret1 Try.func103 rfl (TP (v := str _) rfl) ?_
   subst g8
   exact ⟨congrArg str (by decide +kernel), hst.pure⟩
 refine SR <| CN <| Op1.eql rfl rfl <| AB rfl <| NL <| Run.forget [(3, .int .u16 _), (20, .bool _)] ⟨rfl, rfl, trivial⟩ fun f => run_cond_dec rfl (fun g9 => ?_) (fun g9 => ?_)
 · skip
   refine SR <| AS rfl <| NL <| run_ret1 Try.func103 rfl (TP (v := str _) rfl) ?_
   subst g9
   exact ⟨congrArg str (by decide +kernel), hst.pure⟩
 refine SR <| CN <| Op1.eql rfl rfl <| AB rfl <| NL <| run_cond_dec rfl (fun g10 => ?_) (fun g10 => ?_)
 · skip
   refine SR <| AS rfl <| NL <| run_ret1 Try.func103 rfl (TP (v := str _) rfl) ?_
   subst g10
   exact ⟨congrArg str (by decide +kernel), hst.pure⟩
 refine SR <| CN <| Op1.eql rfl rfl <| AB rfl <| NL <| run_cond_dec rfl (fun g11 => ?_) (fun g11 => ?_)
 · skip
   refine SR <| AS rfl <| NL <| run_ret1 Try.func103 rfl (TP (v := str _) rfl) ?_
   subst g11
   exact ⟨congrArg str (by decide +kernel), hst.pure⟩
 refine SR <| CN <| Op1.eql rfl rfl <| AB rfl <| NL <| run_cond_dec rfl (fun g12 => ?_) (fun g12 => ?_)
 · skip
   refine SR <| AS rfl <| NL <| run_ret1 Try.func103 rfl (TP (v := str _) rfl) ?_
   subst g12
   exact ⟨congrArg str (by decide +kernel), hst.pure⟩
 refine SR <| CN <| Op1.eql rfl rfl <| AB rfl <| NL <| run_cond_dec rfl (fun g13 => ?_) (fun g13 => ?_)
 · skip
   refine SR <| AS rfl <| NL <| run_ret1 Try.func103 rfl (TP (v := str _) rfl) ?_
   subst g13
   exact ⟨congrArg str (by decide +kernel), hst.pure⟩
 refine SR <| CN <| Op1.eql rfl rfl <| AB rfl <| NL <| run_cond_dec rfl (fun g14 => ?_) (fun g14 => ?_)
 · skip
   refine SR <| AS rfl <| NL <| run_ret1 Try.func103 rfl (TP (v := str _) rfl) ?_
   subst g14
   exact ⟨congrArg str (by decide +kernel), hst.pure⟩
 refine SR <| CN <| Op1.eql rfl rfl <| AB rfl <| NL <| run_cond_dec rfl (fun g15 => ?_) (fun g15 => ?_)
 · skip
   refine SR <| AS rfl <| NL <| run_ret1 Try.func103 rfl (TP (v := str _) rfl) ?_
   subst g15
   exact ⟨congrArg str (by decide +kernel), hst.pure⟩
 refine SR <| CN <| Op1.eql rfl rfl <| AB rfl <| NL <| run_cond_dec rfl (fun g16 => ?_) (fun g16 => ?_)
 · skip
   refine SR <| AS rfl <| NL <| run_ret1 Try.func103 rfl (TP (v := str _) rfl) ?_
   subst g16
   exact ⟨congrArg str (by decide +kernel), hst.pure⟩
 refine SR <| CN <| Op1.eql rfl rfl <| AB rfl <| NL <| run_cond_dec rfl (fun g17 => ?_) (fun g17 => ?_)
 · skip
   refine SR <| AS rfl <| NL <| run_ret1 Try.func103 rfl (TP (v := str _) rfl) ?_
   subst g17
   exact ⟨congrArg str (by decide +kernel), hst.pure⟩
 refine SR <| CN <| Op1.eql rfl rfl <| AB rfl <| NL <| run_cond_dec rfl (fun g18 => ?_) (fun g18 => ?_)
 · skip
   refine SR <| AS rfl <| NL <| run_ret1 Try.func103 rfl (TP (v := str _) rfl) ?_
   subst g18
   exact ⟨congrArg str (by decide +kernel), hst.pure⟩
 refine SR <| CN <| Op1.eql rfl rfl <| AB rfl <| NL <| Run.forget [(3, .int .u16 _), (40, .bool _)] ⟨rfl, rfl, trivial⟩ fun f => run_cond_dec rfl (fun g19 => ?_) (fun g19 => ?_)
 · skip
   refine SR <| AS rfl <| NL <| run_ret1 Try.func103 rfl (TP (v := str _) rfl) ?_
   subst g19
   exact ⟨congrArg str (by decide +kernel), hst.pure⟩
 refine SR <| CN <| Op1.eql rfl rfl <| AB rfl <| NL <| run_cond_dec rfl (fun g20 => ?_) (fun g20 => ?_)
 · skip
   refine SR <| AS rfl <| NL <| run_ret1 Try.func103 rfl (TP (v := str _) rfl) ?_
   subst g20
   exact ⟨congrArg str (by decide +kernel), hst.pure⟩
 refine SR <| CN <| Op1.eql rfl rfl <| AB rfl <| NL <| run_cond_dec rfl (fun g21 => ?_) (fun g21 => ?_)
 · skip
   refine SR <| AS rfl <| NL <| run_ret1 Try.func103 rfl (TP (v := str _) rfl) ?_
   subst g21
   exact ⟨congrArg str (by decide +kernel), hst.pure⟩
 refine SR <| CN <| Op1.eql rfl rfl <| AB rfl <| NL <| run_cond_dec rfl (fun g22 => ?_) (fun g22 => ?_)
 · skip
   refine SR <| AS rfl <| NL <| run_ret1 Try.func103 rfl (TP (v := str _) rfl) ?_
   subst g22
   exact ⟨congrArg str (by decide +kernel), hst.pure⟩
 refine SR <| CN <| Op1.eql rfl rfl <| AB rfl <| NL <| run_cond_dec rfl (fun g23 => ?_) (fun g23 => ?_)
 · skip
   refine SR <| AS rfl <| NL <| run_ret1 Try.func103 rfl (TP (v := str _) rfl) ?_
   subst g23
   exact ⟨congrArg str (by decide +kernel), hst.pure⟩
 refine SR <| CN <| Op1.eql rfl rfl <| AB rfl <| NL <| run_cond_dec rfl (fun g24 => ?_) (fun g24 => ?_)
 · skip
   refine SR <| AS rfl <| NL <| run_ret1 Try.func103 rfl (TP (v := str _) rfl) ?_
   subst g24
   exact ⟨congrArg str (by decide +kernel), hst.pure⟩
 refine SR <| CN <| Op1.eql rfl rfl <| AB rfl <| NL <| run_cond_dec rfl (fun g25 => ?_) (fun g25 => ?_)
 · skip
   refine SR <| AS rfl <| NL <| run_ret1 Try.func103 rfl (TP (v := str _) rfl) ?_
   subst g25
   exact ⟨congrArg str (by decide +kernel), hst.pure⟩
 refine SR <| CN <| Op1.eql rfl rfl <| AB rfl <| NL <| run_cond_dec rfl (fun g26 => ?_) (fun g26 => ?_)
 · skip
   refine SR <| AS rfl <| NL <| run_ret1 Try.func103 rfl (TP (v := str _) rfl) ?_
   subst g26
   exact ⟨congrArg str (by decide +kernel), hst.pure⟩
 refine SR <| CN <| Op1.eql rfl rfl <| AB rfl <| NL <| run_cond_dec rfl (fun g27 => ?_) (fun g27 => ?_)
 · skip
   refine SR <| AS rfl <| NL <| run_ret1 Try.func103 rfl (TP (v := str _) rfl) ?_
   subst g27
   exact ⟨congrArg str (by decide +kernel), hst.pure⟩
 refine SR <| CN <| Op1.eql rfl rfl <| AB rfl <| NL <| run_cond_dec rfl (fun g28 => ?_) (fun g28 => ?_)
 · skip
   refine SR <| AS rfl <| NL <| run_ret1 Try.func103 rfl (TP (v := str _) rfl) ?_
   subst g28
   exact ⟨congrArg str (by decide +kernel), hst.pure⟩
 refine SR <| CN <| Op1.eql rfl rfl <| AB rfl <| NL <| Run.forget [(3, .int .u16 _), (60, .bool _)] ⟨rfl, rfl, trivial⟩ fun f => run_cond_dec rfl (fun g29 => ?_) (fun g29 => ?_)
 · skip
   refine SR <| AS rfl <| NL <| run_ret1 Try.func103 rfl (TP (v := str _) rfl) ?_
   subst g29
   exact ⟨congrArg str (by decide +kernel), hst.pure⟩
 refine SR <| CN <| Op1.eql rfl rfl <| AB rfl <| NL <| run_cond_dec rfl (fun g30 => ?_) (fun g30 => ?_)
 · skip
   refine SR <| AS rfl <| NL <| run_ret1 Try.func103 rfl (TP (v := str _) rfl) ?_
   subst g30
   exact ⟨congrArg str (by decide +kernel), hst.pure⟩
 refine SR <| CN <| Op1.eql rfl rfl <| AB rfl <| NL <| run_cond_dec rfl (fun g31 => ?_) (fun g31 => ?_)
 · skip
   refine SR <| AS rfl <| NL <| run_ret1 Try.func103 rfl (TP (v := str _) rfl) ?_
   subst g31
   exact ⟨congrArg str (by decide +kernel), hst.pure⟩
 refine run_skip <| run_inBlock <| SR <| AS rfl <| NL <| run_ret1 Try.func103 rfl (TP (v := str _) rfl) ?_
 exact ⟨congrArg str (look_none (by simp only [secondT, List.forall_mem_cons]; exact ⟨g1, g2, g3, g4, g5, g6, g7, g8, g9, g10, g11, g12, g13, g14, g15, g16, g17, g18, g19, g20, g21, g22, g23, g24, g25, g26, g27, g28, g29, g30, g31, fun _ h => absurd h List.not_mem_nil⟩)).symm, hst.pure⟩
theorem R3gr_third (op : Int) (w : World) : Ret Try.prog 104 #[.int .u16 op] w (fun v w' => v = str (look thirdT op) ∧ St w NoM [] [] w') := by
 refine Ret.enter (args := [.int .u16 op]) Try.func104 rfl rfl rfl ?_
 have hst := St.init w
 refine SR <| AS rfl <| NL <| SQ <| SR <| MH rfl <| NL <| run_block <| SR <| CN <| Op1.eql rfl rfl <| AB rfl <| NL ?_
 refine run_cond_dec rfl (fun g1 => ?_) (fun g1 => ?_)
 · skip
   refine SR <| AS rfl <| NL <| run_ret1 Try.func104 rfl (TP (v := str _) rfl) ?_
   subst g1
   exact ⟨congrArg str (by decide +kernel), hst.pure⟩
 refine SR <| CN <| Op1.eql rfl rfl <| AB rfl <| NL <| run_cond_dec rfl (fun g2 => ?_) (fun g2 => ?_)
 · skip
   refine SR <| AS rfl <| NL <| run_ret1 Try.func104 rfl (TP (v := str _) rfl) ?_
   subst g2
   exact ⟨congrArg str (by decide +kernel), hst.pure⟩
 refine SR <| CN <| Op1.eql rfl rfl <| AB rfl <| NL <| run_cond_dec rfl (fun g3 => ?_) (fun g3 => ?_)
 · skip
   refine SR <| AS rfl <| NL <| run_ret1 Try.func104 rfl (TP (v := str _) rfl) ?_
   subst g3
   exact ⟨congrArg str (by decide +kernel), hst.pure⟩
 refine SR <| CN <| Op1.eql rfl rfl <| AB rfl <| NL <| run_cond_dec rfl (fun g4 => ?_) (fun g4 => ?_)
 · skip
   refine SR <| AS rfl <| NL <| run_ret1 Try.func104 rfl (TP (v := str _) rfl) ?_
   subst g4
   exact ⟨congrArg str (by decide +kernel), hst.pure⟩
 refine SR <| CN <| Op1.eql rfl rfl <| AB rfl <| NL <| run_cond_dec rfl (fun g5 => ?_) (fun g5 => ?_)
 · skip
   refine SR <| AS rfl <| NL <| run_ret1 Try.func104 rfl (TP (v := str _) rfl) ?_
   subst g5
   exact ⟨congrArg str (by decide +kernel), hst.pure⟩
 refine SR <| CN <| Op1.eql rfl rfl <| AB rfl <| NL <| run_cond_dec rfl (fun g6 => ?_) (fun g6 => ?_)
 · skip
   refine SR <| AS rfl <| NL <| run_ret1 Try.func104 rfl (TP (v := str _) rfl) ?_
   subst g6
   exact ⟨congrArg str (by decide +kernel), hst.pure⟩
 refine SR <| CN <| Op1.eql rfl rfl <| AB rfl <| NL <| run_cond_dec rfl (fun g7 => ?_) (fun g7 => ?_)
 · skip
   refine SR <| AS rfl <| NL <| run_ret1 Try.func104 rfl (TP (v := str _) rfl) ?_
   subst g7
   exact ⟨congrArg str (by decide +kernel), hst.pure⟩
 refine SR <| CN <| Op1.eql rfl rfl <| AB rfl <| NL <| run_cond_dec rfl (fun g8 => ?_) (fun g8 => ?_)
 · skip
   refine SR <| AS rfl <| NL <| run_ret1 Try.func104 rfl (TP (v := str _) rfl) ?_
   subst g8
   exact ⟨congrArg str (by decide +kernel), hst.pure⟩
 refine SR <| CN <| Op1.eql rfl rfl <| AB rfl <| NL <| Run.forget [(3, .int .u16 _), (20, .bool _)] ⟨rfl, rfl, trivial⟩ fun f => run_cond_dec rfl (fun g9 => ?_) (fun g9 => ?_)
 · skip
   refine SR <| AS rfl <| NL <| run_ret1 Try.func104 rfl (TP (v := str _) rfl) ?_
   subst g9
   exact ⟨congrArg str (by decide +kernel), hst.pure⟩
 refine SR <| CN <| Op1.eql rfl rfl <| AB rfl <| NL <| run_cond_dec rfl (fun g10 => ?_) (fun g10 => ?_)
 · skip
   refine SR <| AS rfl <| NL <| run_ret1 Try.func104 rfl (TP (v := str _) rfl) ?_
   subst g10
   exact ⟨congrArg str (by decide +kernel), hst.pure⟩
 refine SR <| CN <| Op1.eql rfl rfl <| AB rfl <| NL <| run_cond_dec rfl (fun g11 => ?_) (fun g11 => ?_)
 · skip
   refine SR <| AS rfl <| NL <| run_ret1 Try.func104 rfl (TP (v := str _) rfl) ?_
   subst g11
   exact ⟨congrArg str (by decide +kernel), hst.pure⟩
 refine SR <| CN <| Op1.eql rfl rfl <| AB rfl <| NL <| run_cond_dec rfl (fun g12 => ?_) (fun g12 => ?_)
 · skip
   refine SR <| AS rfl <| NL <| run_ret1 Try.func104 rfl (TP (v := str _) rfl) ?_
   subst g12
   exact ⟨congrArg str (by decide +kernel), hst.pure⟩
 refine SR <| CN <| Op1.eql rfl rfl <| AB rfl <| NL <| run_cond_dec rfl (fun g13 => ?_) (fun g13 => ?_)
 · skip
   refine SR <| AS rfl <| NL <| run_ret1 Try.func104 rfl (TP (v := str _) rfl) ?_
   subst g13
   exact ⟨congrArg str (by decide +kernel), hst.pure⟩
 refine SR <| CN <| Op1.eql rfl rfl <| AB rfl <| NL <| run_cond_dec rfl (fun g14 => ?_) (fun g14 => ?_)
 · skip
   refine SR <| AS rfl <| NL <| run_ret1 Try.func104 rfl (TP (v := str _) rfl) ?_
   subst g14
   exact ⟨congrArg str (by decide +kernel), hst.pure⟩
 refine SR <| CN <| Op1.eql rfl rfl <| AB rfl <| NL <| run_cond_dec rfl (fun g15 => ?_) (fun g15 => ?_)
 · skip
   refine SR <| AS rfl <| NL <| run_ret1 Try.func104 rfl (TP (v := str _) rfl) ?_
   subst g15
   exact ⟨congrArg str (by decide +kernel), hst.pure⟩
 refine SR <| CN <| Op1.eql rfl rfl <| AB rfl <| NL <| run_cond_dec rfl (fun g16 => ?_) (fun g16 => ?_)
 · skip
   refine SR <| AS rfl <| NL <| run_ret1 Try.func104 rfl (TP (v := str _) rfl) ?_
   subst g16
   exact ⟨congrArg str (by decide +kernel), hst.pure⟩
 refine SR <| CN <| Op1.eql rfl rfl <| AB rfl <| NL <| run_cond_dec rfl (fun g17 => ?_) (fun g17 => ?_)
 · skip
   refine SR <| AS rfl <| NL <| run_ret1 Try.func104 rfl (TP (v := str _) rfl) ?_
   subst g17
   exact ⟨congrArg str (by decide +kernel), hst.pure⟩
 refine SR <| CN <| Op1.eql rfl rfl <| AB rfl <| NL <| run_cond_dec rfl (fun g18 => ?_) (fun g18 => ?_)
 · skip
   refine SR <| AS rfl <| NL <| run_ret1 Try.func104 rfl (TP (v := str _) rfl) ?_
   subst g18
   exact ⟨congrArg str (by decide +kernel), hst.pure⟩
 refine SR <| CN <| Op1.eql rfl rfl <| AB rfl <| NL <| Run.forget [(3, .int .u16 _), (40, .bool _)] ⟨rfl, rfl, trivial⟩ fun f => run_cond_dec rfl (fun g19 => ?_) (fun g19 => ?_)
 · skip
   refine SR <| AS rfl <| NL <| run_ret1 Try.func104 rfl (TP (v := str _) rfl) ?_
   subst g19
   exact ⟨congrArg str (by decide +kernel), hst.pure⟩
 refine SR <| CN <| Op1.eql rfl rfl <| AB rfl <| NL <| run_cond_dec rfl (fun g20 => ?_) (fun g20 => ?_)
 · skip
   refine SR <| AS rfl <| NL <| run_ret1 Try.func104 rfl (TP (v := str _) rfl) ?_
   subst g20
   exact ⟨congrArg str (by decide +kernel), hst.pure⟩
 refine SR <| CN <| Op1.eql rfl rfl <| AB rfl <| NL <| run_cond_dec rfl (fun g21 => ?_) (fun g21 => ?_)
 · skip
   refine SR <| AS rfl <| NL <| run_ret1 Try.func104 rfl (TP (v := str _) rfl) ?_
   subst g21
   exact ⟨congrArg str (by decide +kernel), hst.pure⟩
 refine SR <| CN <| Op1.eql rfl rfl <| AB rfl <| NL <| run_cond_dec rfl (fun g22 => ?_) (fun g22 => ?_)
 · skip
   refine SR <| AS rfl <| NL <| run_ret1 Try.func104 rfl (TP (v := str _) rfl) ?_
   subst g22
   exact ⟨congrArg str (by decide +kernel), hst.pure⟩
 refine SR <| CN <| Op1.eql rfl rfl <| AB rfl <| NL <| run_cond_dec rfl (fun g23 => ?_) (fun g23 => ?_)
 · skip
   refine SR <| AS rfl <| NL <| run_ret1 Try.func104 rfl (TP (v := str _) rfl) ?_
   subst g23
   exact ⟨congrArg str (by decide +kernel), hst.pure⟩
 refine SR <| CN <| Op1.eql rfl rfl <| AB rfl <| NL <| run_cond_dec rfl (fun g24 => ?_) (fun g24 => ?_)
 · skip
   refine SR <| AS rfl <| NL <| run_ret1 Try.func104 rfl (TP (v := str _) rfl) ?_
   subst g24
   exact ⟨congrArg str (by decide +kernel), hst.pure⟩
 refine SR <| CN <| Op1.eql rfl rfl <| AB rfl <| NL <| run_cond_dec rfl (fun g25 => ?_) (fun g25 => ?_)
 · skip
   refine SR <| AS rfl <| NL <| run_ret1 Try.func104 rfl (TP (v := str _) rfl) ?_
   subst g25
   exact ⟨congrArg str (by decide +kernel), hst.pure⟩
 refine SR <| CN <| Op1.eql rfl rfl <| AB rfl <| NL <| run_cond_dec rfl (fun g26 => ?_) (fun g26 => ?_)
 · skip
   refine SR <| AS rfl <| NL <| run_ret1 Try.func104 rfl (TP (v := str _) rfl) ?_
   subst g26
   exact ⟨congrArg str (by decide +kernel), hst.pure⟩
 refine SR <| CN <| Op1.eql rfl rfl <| AB rfl <| NL <| run_cond_dec rfl (fun g27 => ?_) (fun g27 => ?_)
 · skip
   refine SR <| AS rfl <| NL <| run_ret1 Try.func104 rfl (TP (v := str _) rfl) ?_
   subst g27
   exact ⟨congrArg str (by decide +kernel), hst.pure⟩
 refine SR <| CN <| Op1.eql rfl rfl <| AB rfl <| NL <| run_cond_dec rfl (fun g28 => ?_) (fun g28 => ?_)
 · skip
   refine SR <| AS rfl <| NL <| run_ret1 Try.func104 rfl (TP (v := str _) rfl) ?_
   subst g28
   exact ⟨congrArg str (by decide +kernel), hst.pure⟩
 refine SR <| CN <| Op1.eql rfl rfl <| AB rfl <| NL <| Run.forget [(3, .int .u16 _), (60, .bool _)] ⟨rfl, rfl, trivial⟩ fun f => run_cond_dec rfl (fun g29 => ?_) (fun g29 => ?_)
 · skip
   refine SR <| AS rfl <| NL <| run_ret1 Try.func104 rfl (TP (v := str _) rfl) ?_
   subst g29
   exact ⟨congrArg str (by decide +kernel), hst.pure⟩
 refine SR <| CN <| Op1.eql rfl rfl <| AB rfl <| NL <| run_cond_dec rfl (fun g30 => ?_) (fun g30 => ?_)
 · skip
   refine SR <| AS rfl <| NL <| run_ret1 Try.func104 rfl (TP (v := str _) rfl) ?_
   subst g30
   exact ⟨congrArg str (by decide +kernel), hst.pure⟩
 refine SR <| CN <| Op1.eql rfl rfl <| AB rfl <| NL <| run_cond_dec rfl (fun g31 => ?_) (fun g31 => ?_)
 · skip
   refine SR <| AS rfl <| NL <| run_ret1 Try.func104 rfl (TP (v := str _) rfl) ?_
   subst g31
   exact ⟨congrArg str (by decide +kernel), hst.pure⟩
 refine run_skip <| run_inBlock <| SR <| AS rfl <| NL <| run_ret1 Try.func104 rfl (TP (v := str _) rfl) ?_
 exact ⟨congrArg str (look_none (by simp only [thirdT, List.forall_mem_cons]; exact ⟨g1, g2, g3, g4, g5, g6, g7, g8, g9, g10, g11, g12, g13, g14, g15, g16, g17, g18, g19, g20, g21, g22, g23, g24, g25, g26, g27, g28, g29, g30, g31, fun _ h => absurd h List.not_mem_nil⟩)).symm, hst.pure⟩
theorem R3gr_row (op : Int) (w : World) : Ret Try.prog 82 #[.int .u16 op] w (fun v w' => v = str (rowS op) ∧ St w NoM [] [] w') := by
 refine Ret.enter (args := [.int .u16 op]) Try.func82 rfl rfl rfl ?_
 have hst := St.init w
 refine SR <| AS rfl <| NL <| SQ <| run_block <| SR <| MH rfl <| CN <| Op1.leq rfl rfl <| AB rfl <| NL <| run_cond_dec rfl (fun g1 => ?_) (fun g1 => ?_)
 · skip
   refine SR <| MH rfl <| CN <| Op1.call1 (v1 := .int .u16 _) ent102 rfl rfl <| Ret.det (R3gr_first _ _) hst fun w hst => AS rfl <| NL <| run_ret1 Try.func82 rfl (TP (v := str _) rfl) <| ⟨congrArg str ?_, hst.pure⟩
   unfold rowS
   rw [if_pos g1]
 refine SR <| MH rfl <| CN <| Op1.leq rfl rfl <| AB rfl <| NL <| run_cond_dec rfl (fun g2 => ?_) (fun g2 => ?_)
 · skip
   refine SR <| MH rfl <| CN <| Op1.call1 (v1 := .int .u16 _) ent103 rfl rfl <| Ret.det (R3gr_second _ _) hst fun w hst => AS rfl <| NL <| run_ret1 Try.func82 rfl (TP (v := str _) rfl) <| ⟨congrArg str ?_, hst.pure⟩
   unfold rowS
   rw [if_neg g1, if_pos g2]
 refine run_skip <| run_inBlock <| SR <| MH rfl <| CN <| Op1.call1 (v1 := .int .u16 _) ent104 rfl rfl <| Ret.det (R3gr_third _ _) hst fun w hst => AS rfl <| NL <| run_ret1 Try.func82 rfl (TP (v := str _) rfl) <| ⟨congrArg str ?_, hst.pure⟩
 unfold rowS
 rw [if_neg g1, if_neg g2]
theorem R3gr_names (c : Int) (w : World) : Ret Try.prog 107 #[.int .u8 c] w (fun v w' => v = str (look namesT c) ∧ St w NoM [] [] w') := by
 refine Ret.enter (args := [.int .u8 c]) Try.func107 rfl rfl rfl ?_
 have hst := St.init w
 refine SR <| AS rfl <| NL <| SQ <| SR <| MC rfl <| NL <| run_block <| SR <| CN <| Op1.eql rfl rfl <| AB rfl <| NL ?_
 refine run_cond_dec rfl (fun g1 => ?_) (fun g1 => ?_)
 · skip
   refine SR <| AS rfl <| NL <| run_ret1 Try.func107 rfl (TP (v := str _) rfl) ?_
   subst g1
   exact ⟨congrArg str (by decide +kernel), hst.pure⟩
 refine SR <| CN <| Op1.eql rfl rfl <| AB rfl <| NL <| run_cond_dec rfl (fun g2 => ?_) (fun g2 => ?_)
 · skip
   refine SR <| AS rfl <| NL <| run_ret1 Try.func107 rfl (TP (v := str _) rfl) ?_
   subst g2
   exact ⟨congrArg str (by decide +kernel), hst.pure⟩
 refine SR <| CN <| Op1.eql rfl rfl <| AB rfl <| NL <| run_cond_dec rfl (fun g3 => ?_) (fun g3 => ?_)
 · skip
   refine SR <| AS rfl <| NL <| run_ret1 Try.func107 rfl (TP (v := str _) rfl) ?_
   subst g3
   exact ⟨congrArg str (by decide +kernel), hst.pure⟩
 refine SR <| CN <| Op1.eql rfl rfl <| AB rfl <| NL <| run_cond_dec rfl (fun g4 => ?_) (fun g4 => ?_)
 · skip
   refine SR <| AS rfl <| NL <| run_ret1 Try.func107 rfl (TP (v := str _) rfl) ?_
   subst g4
   exact ⟨congrArg str (by decide +kernel), hst.pure⟩
 refine SR <| CN <| Op1.eql rfl rfl <| AB rfl <| NL <| run_cond_dec rfl (fun g5 => ?_) (fun g5 => ?_)
 · skip
   refine SR <| AS rfl <| NL <| run_ret1 Try.func107 rfl (TP (v := str _) rfl) ?_
   subst g5
   exact ⟨congrArg str (by decide +kernel), hst.pure⟩
 refine SR <| CN <| Op1.eql rfl rfl <| AB rfl <| NL <| run_cond_dec rfl (fun g6 => ?_) (fun g6 => ?_)
 · skip
   refine SR <| AS rfl <| NL <| run_ret1 Try.func107 rfl (TP (v := str _) rfl) ?_
   subst g6
   exact ⟨congrArg str (by decide +kernel), hst.pure⟩
 refine SR <| CN <| Op1.eql rfl rfl <| AB rfl <| NL <| run_cond_dec rfl (fun g7 => ?_) (fun g7 => ?_)
 · skip
   refine SR <| AS rfl <| NL <| run_ret1 Try.func107 rfl (TP (v := str _) rfl) ?_
   subst g7
   exact ⟨congrArg str (by decide +kernel), hst.pure⟩
 refine SR <| CN <| Op1.eql rfl rfl <| AB rfl <| NL <| run_cond_dec rfl (fun g8 => ?_) (fun g8 => ?_)
 · skip
   refine SR <| AS rfl <| NL <| run_ret1 Try.func107 rfl (TP (v := str _) rfl) ?_
   subst g8
   exact ⟨congrArg str (by decide +kernel), hst.pure⟩
 refine SR <| CN <| Op1.eql rfl rfl <| AB rfl <| NL <| Run.forget [(3, .int .u8 _), (20, .bool _)] ⟨rfl, rfl, trivial⟩ fun f => run_cond_dec rfl (fun g9 => ?_) (fun g9 => ?_)
 · skip
   refine SR <| AS rfl <| NL <| run_ret1 Try.func107 rfl (TP (v := str _) rfl) ?_
   subst g9
   exact ⟨congrArg str (by decide +kernel), hst.pure⟩
 refine SR <| CN <| Op1.eql rfl rfl <| AB rfl <| NL <| run_cond_dec rfl (fun g10 => ?_) (fun g10 => ?_)
 · skip
   refine SR <| AS rfl <| NL <| run_ret1 Try.func107 rfl (TP (v := str _) rfl) ?_
   subst g10
   exact ⟨congrArg str (by decide +kernel), hst.pure⟩
 refine SR <| CN <| Op1.eql rfl rfl <| AB rfl <| NL <| run_cond_dec rfl (fun g11 => ?_) (fun g11 => ?_)
 · skip
   refine SR <| AS rfl <| NL <| run_ret1 Try.func107 rfl (TP (v := str _) rfl) ?_
   subst g11
   exact ⟨congrArg str (by decide +kernel), hst.pure⟩
 refine run_skip <| run_inBlock <| SR <| AS rfl <| NL <| run_ret1 Try.func107 rfl (TP (v := str _) rfl) ?_
 exact ⟨congrArg str (look_none (by simp only [namesT, List.forall_mem_cons]; exact ⟨g1, g2, g3, g4, g5, g6, g7, g8, g9, g10, g11, fun _ h => absurd h List.not_mem_nil⟩)).symm, hst.pure⟩
theorem R3flds_get {l : List Byts} {n : Nat} {a : Int} (ha : a = n) (hn : n < l.length) : (l.map str)[0 + a.toNat * 1]? = some (str (l.getD n [])) := by
 subst ha; simp [List.getD, hn]
theorem R3flds_set {l : List Byts} {n : Nat} {c : UInt8} (hn : n < l.length) : setSeg (l.map str) (0 + (n : Int).toNat * 1) [str (l.getD n [] ++ [UInt8.ofNat ((c.toNat : Int)).toNat])] = (l.modify n (· ++ [c])).map str := by
 simp only [setSeg, Int.toNat_natCast, Nat.mul_one, Nat.zero_add, UInt8.ofNat_toNat]
 apply List.ext_getElem
 · simp
 · intro j h1 h2
   simp only [List.length_map, List.length_modify] at h2
   by_cases hj : n = j
   · subst hj; simp [List.getElem_modify, List.getD, hn]
   · simp [List.getElem_modify, hj, List.getElem_set_ne hj]
theorem R3six {l : List Byts} (h : l.length = 6) : ∃ f0 f1 f2 f3 f4 f5, l = [f0, f1, f2, f3, f4, f5] := by
 match l, h with
 | [f0, f1, f2, f3, f4, f5], _ => exact ⟨f0, f1, f2, f3, f4, f5, rfl⟩
theorem R3gr_fields (s f0 f1 f2 f3 f4 f5 : Byts) (hok : rowOk s = true) (hf : fieldsS s = [f0, f1, f2, f3, f4, f5]) (w : World) : Ret Try.prog 83 #[str s] w (fun v w' => v = .agg #[str f0, str f1, str f2, str f3, str f4, str f5] ∧ St w NoM [] [] w') := by
 refine Ret.enter (args := [str s]) Try.func83 rfl rfl rfl ?_
 have hst := St.init w
 obtain ⟨hasc, h5, hlen, _, _⟩ := rowOk_spec hok
 refine SR <| CN <| Op1.alloc hst ty132 fun w b2 hst => NSR <| CN <| Op1.alloc hst ty132 fun w b3 hst => NSR <| AI rfl <| NL <| SQ <| SQ <| RG ?_
 refine MS rfl <| CN <| Op1.rangeS hst ty9 rfl fun w it8 hst => NL <| run_block <| run_loop <| Run.indW [(2, .pointer (some ⟨_, _, none⟩)), (3, .pointer (some ⟨_, _, none⟩)), (8, .pointer (some ⟨_, 0, none⟩))] ⟨rfl, rfl, rfl, trivial⟩ (fun (i : Nat) => [(4, .int .i64 ((fieldsF (s.take i)).1 : Int))]) (fun (i : Nat) => [Res.iter it8 s i, Res.row b3 132 ((fieldsF (s.take i)).2.map str)]) (fun (i : Nat) => i ≤ s.length) (fun (i : Nat) => s.length - i) (0) hst (Nat.zero_le _) ⟨rfl, trivial⟩ ?_
 intro i f w hst hJ ih1
 refine SQ <| RG ?_
 rcases Nat.lt_or_ge i s.length with g2 | g2
 · skip
   have hc := hasc _ (List.getElem_mem g2)
   have hstep := fieldsF_step g2
   have hat : (fieldsF (s.take (i + 1))).1 ≤ 5 := Nat.le_trans fieldsF_at h5
   have hat0 : (fieldsF (s.take i)).1 ≤ 5 := Nat.le_trans fieldsF_at h5
   have hsh : ((fieldsF (s.take i)).2.getD (fieldsF (s.take i)).1 []).length ≤ i := getD_short (fieldsF_short s i hJ)
   refine CN (Op1.nextS hst rfl (.here) (List.getElem?_eq_getElem g2) (hc) fun w hst => ?_)
   refine CN <| Op1.extract (v := .bool _) rfl rfl <| NL <| SQ <| run_cond_true (congrArg Value.bool (rfl : true = _)) <| run_skip <| run_block <| SR <| CN <| Op1.extract (v := .int .i32 _) rfl rfl <| CN <| Op1.assign (v := .int .i32 _) rfl <| NSR <| CN <| Op1.move (v := .int .i32 _) rfl <| CN (Op1.eql rfl rfl ?_)
   refine NL <| run_cond_dec rfl (fun g3 => ?_) (fun g3 => ?_)
   · skip
     refine RG <| MI rfl <| CN <| Op1.addN rfl rfl rfl (wrap_i64 (by omega) (by omega)) <| AI rfl <| NL <| run_inBlock <| run_inLoop ?_
     have hsp : fieldsF (s.take (i + 1)) = ((fieldsF (s.take i)).1 + 1, (fieldsF (s.take i)).2) := by rw [hstep]; unfold stepF; rw [if_pos (UInt8.toNat_inj.1 (by have : (32 : UInt8).toNat = 32 := rfl; omega))]
     exact ih1 (i + 1) _ w (by omega) (by (try dsimp only); rw [hsp]; exact hst) (by omega) ⟨rfl, rfl, rfl, trivial⟩ ⟨(congrArg (Value.int .i64) (by rw [hsp]; rfl)), trivial⟩
   refine RG <| MI rfl <| CN <| Op1.indexArr ty132 ty9 rfl rfl (by omega) (by omega) <| CN <| Op1.load1 (v := str _) ty9 rfl rfl (hst.cellL (.tail _ (.head _)) (R3flds_get rfl (by rw [fieldsF_len]; omega))) <| CN <| Op1.move (v := .int .i32 _) rfl <| CN <| Op1.runeStr ty21 ty9 rfl (by omega) (by omega) <| CN <| Op1.addS rfl rfl (by first | omega | (simp only [List.length_cons, List.length_nil, List.length_append]; omega) | (simp; omega)) <| CN <| Op1.indexArr ty132 ty9 rfl rfl (by omega) (by omega) <| CN <| Op1.storeAt (v := str _) hst ty9 rfl rfl rfl rfl rfl (.there (.here)) (by simp only [List.length_map, fieldsF_len, List.length_cons, List.length_nil]; omega) fun w hst => NL <| run_inBlock <| run_inLoop ?_
   have hsp : fieldsF (s.take (i + 1)) = ((fieldsF (s.take i)).1, (fieldsF (s.take i)).2.modify (fieldsF (s.take i)).1 (· ++ [s[i]])) := by rw [hstep]; unfold stepF; rw [if_neg (fun he => g3 (by rw [he]; rfl))]
   exact ih1 (i + 1) _ w (by omega) (by (try dsimp only); rw [hsp]; dsimp only; rw [← R3flds_set (by rw [fieldsF_len]; omega)]; exact hst) (by omega) ⟨rfl, rfl, rfl, trivial⟩ ⟨(congrArg (Value.int .i64) (by rw [hsp])), trivial⟩
 obtain rfl : i = s.length := by omega
 rw [List.take_length, show (fieldsF s).2 = [f0, f1, f2, f3, f4, f5] from hf] at hst
 dsimp only [List.map] at hst
 refine CN <| Op1.nextE hst rfl (.head _) g2 <| CN <| Op1.extract (v := .bool _) rfl rfl <| NL <| SQ <| run_cond_false (congrArg Value.bool (rfl : false = _)) <| run_exit (id := 0) rfl <| SR <| CN <| Op1.loadA (vs := [str _, str _, str _, str _, str _, str _]) ty132 rfl rfl rfl (cells_of_obj (n := 6) (hst.objL (.tail _ (.head _))) _ rfl) <| CN (SO (v := .agg #[str _, str _, str _, str _, str _, str _]) hst ty132 rfl rfl (.there (.there (.here))) fun w hst => ?_)
 refine NL <| run_ret1 Try.func83 rfl (RV.cellA (vs := [str _, str _, str _, str _, str _, str _]) rfl ty132 rfl rfl (cells_of_obj (n := 6) (hst.objL (.tail _ (.tail _ (.head _)))) _ rfl)) ?_
 exact ⟨rfl, hst.pure⟩
end Go.SK
namespace Go.SK
open Go Go.Proofs
theorem ty80 : TyF Try.prog 80 (.struct (fieldsOf Try.prog 80)) 8 80 [.int .u16 0, str [], .bool false, .bool false, str [], str [], .int .i64 0, .int .u8 0] := TyF.of (by kernel_rfl) (by kernel_rfl)
theorem stf80 : StructF Try.prog 80 [(0, 1), (1, 1), (2, 1), (3, 1), (4, 1), (5, 1), (6, 1), (7, 1)] := ⟨fieldsOf Try.prog 80, by kernel_rfl, fun w => by kernel_rfl⟩
theorem ent82 : Enters Try.prog 82 := ⟨Try.f82, _, Try.func82, by kernel_rfl, rfl⟩
theorem ent83 : Enters Try.prog 83 := ⟨Try.f83, _, Try.func83, by kernel_rfl, rfl⟩
theorem fld80_2 : FldF Try.prog 80 2 2 := FldF.of (n := 0) (by kernel_rfl)
theorem ty4 : TyF Try.prog 4 .bool 1 1 [.bool false] := TyF.of (by kernel_rfl) (by kernel_rfl)
theorem fld80_3 : FldF Try.prog 80 3 3 := FldF.of (n := 0) (by kernel_rfl)
theorem fld80_6 : FldF Try.prog 80 6 6 := FldF.of (n := 0) (by kernel_rfl)
end Go.SK
namespace Go.SK
open Go Go.Proofs
open Go.RowKit
theorem R3gr_number (s : Byts) (hasc : ∀ c ∈ s, c.toNat < 128) (w : World) : Ret Try.prog 119 #[str s] w (fun v w' => v = .int .u32 (numF s) ∧ St w NoM [] [] w') := by
 refine Ret.enter (args := [str s]) Try.func119 rfl rfl rfl ?_
 have hst := St.init w
 refine SR <| AU rfl <| NSR <| AU rfl <| NL <| SQ <| SR <| MS rfl <| CN <| Op1.rangeS hst ty9 rfl fun w it7 hst => NL <| run_block ?_
 refine run_loop <| Run.indW [(7, .pointer (some ⟨_, 0, none⟩))] ⟨rfl, trivial⟩ (fun (i : Nat) => [(3, .int .u32 (numF (s.take i)))]) (fun (i : Nat) => [Res.iter it7 s i]) (fun (i : Nat) => i ≤ s.length) (fun (i : Nat) => s.length - i) (0) hst (Nat.zero_le _) ⟨rfl, trivial⟩ ?_
 intro i f w hst hJ ih1
 refine SQ <| RG ?_
 rcases Nat.lt_or_ge i s.length with g2 | g2
 · skip
   have hc := hasc _ (List.getElem_mem g2)
   have hstep := numF_step g2
   refine CN (Op1.nextS hst rfl (.here) (List.getElem?_eq_getElem g2) (hc) fun w hst => ?_)
   refine CN <| Op1.extract (v := .bool _) rfl rfl <| NL <| SQ <| run_cond_true (congrArg Value.bool (rfl : true = _)) <| run_skip <| run_block <| SR <| CN <| Op1.extract (v := .int .i32 _) rfl rfl <| CN <| Op1.assign (v := .int .i32 _) rfl <| NR <| MU rfl <| CN <| Op1.mul rfl rfl <| CN (Op1.move (v := .int .i32 _) rfl ?_)
   refine CN (Op1.subN rfl rfl rfl (wrap_i32 (by omega) (by omega)) ?_)
   first | refine CN (Op1.convN ty21 ty23 rfl (wrap_u32 (by omega) (by omega)) ?_) | refine CN (Op1.conv ty21 ty23 rfl ?_)
   refine CN <| Op1.add rfl rfl <| AU rfl <| NL <| run_inBlock <| run_inLoop ?_
   exact ih1 (i + 1) _ w (by omega) hst (by omega) ⟨rfl, trivial⟩ ⟨(congrArg (Value.int .u32) (by rw [hstep]; rfl)), trivial⟩
 obtain rfl : i = s.length := by omega
 refine CN <| Op1.nextE hst rfl (.head _) g2 <| CN <| Op1.extract (v := .bool _) rfl rfl <| NL <| SQ <| run_cond_false (congrArg Value.bool (rfl : false = _)) <| run_exit (id := 0) rfl <| SR <| MU rfl <| AU rfl <| NL <| run_ret1 Try.func119 rfl (TP (v := .int .u32 _) rfl) ?_
 exact ⟨congrArg (Value.int .u32) (by rw [List.take_length]), hst.pure⟩
theorem R3gr_Of (op : Int) (h0 : 0 ≤ op) (w : World) : Ret Try.prog 53 #[.int .u16 op] w (fun v w' => v = formV (refS op) ∧ St w NoM [] [] w') := by
 refine Ret.enter (args := [.int .u16 op]) Try.func53 rfl rfl rfl ?_
 have hst := St.init w
 refine SR <| CN <| Op1.alloc hst ty80 fun w b2 hst => AB rfl <| NSR <| MH rfl <| CN <| Op1.call1 (v1 := .int .u16 _) ent82 rfl rfl <| Ret.det (R3gr_row _ _) hst fun w hst => AS rfl <| NL <| SQ <| SR <| MS rfl ?_
 refine CN <| Op1.eqlS rfl rfl <| NL <| run_cond_dec rfl (fun g1 => ?_) (fun g1 => ?_)
 · skip
   have hemp := g1
   refine SR <| CN (Op1.buildStruct ty80 stf80 .nil ?_)
   refine CN (SO (v := .agg #[.int .u16 _, str _, .bool _, .bool _, str _, str _, .int .i64 _, .int .u8 _]) hst ty80 rfl rfl (.here) fun w hst => ?_)
   refine AB rfl <| NL <| run_ret2 Try.func53 rfl (RV.cellA (vs := [.int .u16 _, str _, .bool _, .bool _, str _, str _, .int .i64 _, .int .u8 _]) rfl ty80 rfl rfl (cells_of_obj (n := 8) (hst.objL (.head _)) _ rfl)) (TP (v := .bool _) rfl) ?_
   rw [← (rowS_all h0).2]
   have e : ofS op = none := by unfold ofS; rw [if_pos hemp]
   rw [e]
   exact ⟨rfl, hst.pure⟩
 have hemp := g1
 obtain ⟨fd0, fd1, fd2, fd3, fd4, fd5, hf⟩ := R3six (fieldsF_len (rowS op))
 replace hf : fieldsS (rowS op) = [fd0, fd1, fd2, fd3, fd4, fd5] := hf
 obtain ⟨_, _, _, hfa, hf5⟩ := rowOk_spec (rowS_all h0).1
 rw [hf] at hfa hf5
 replace hf5 : 0 < fd5.length := List.length_pos_iff.2 (hf5.resolve_left hemp)
 have hasc : ∀ c ∈ fd1, c.toNat < 128 := hfa fd1 (by simp)
 refine run_skip <| SR <| MS rfl <| CN <| Op1.call1 (v1 := str _) ent83 rfl rfl <| Ret.det (R3gr_fields _ _ _ _ _ _ _ (rowS_all h0).1 hf _) hst fun w hst => CN <| Op1.alloc hst ty132 fun w b5 hst => CN (SO (v := .agg #[str _, str _, str _, str _, str _, str _]) hst ty132 rfl rfl (.here) fun w hst => ?_)
 refine NL <| SQ <| RunD.start [] hst (bs := [0, 0, 2, 0, 8, 0, 32, 0, 128, 384, 896, 2047, 0, 8191]) (ds := [some 16, some 17, some 18, some 19, some 20, some 21, some 22, some 23, some 24, some 25, some 26, some 27, some 6, none]) ⟨by kernel_rfl, by kernel_rfl, by kernel_rfl⟩ (fun tab2 => ?_)
 refine RunD.op (det _) tab2 1 (fun f' L' w' hc => Op1.move (v := .int .u16 _) (hc.old (v := .int .u16 _) rfl rfl rfl) ⟨[], ⟨rfl, rfl⟩, hc.st⟩) <| RunD.op (det _) tab2 2 (fun f' L' w' hc => Op1.indexArr ty132 ty9 (hc.old (v := .pointer (some ⟨_, _, none⟩)) rfl rfl rfl) rfl (by decide) (by decide) ⟨[], ⟨rfl, rfl⟩, hc.st⟩) <| RunD.op (det _) tab2 3 (fun f' L' w' hc => Op1.load1 (v := str _) ty9 rfl (hc.det (j := 1) rfl rfl rfl rfl) (hc.st.cellL (List.mem_append_right _ (.head _)) rfl) ⟨[], ⟨rfl, rfl⟩, hc.st⟩) <| RunD.op (det _) tab2 4 (fun f' L' w' hc => Op1.indexArr ty132 ty9 (hc.old (v := .pointer (some ⟨_, _, none⟩)) rfl rfl rfl) rfl (by decide) (by decide) ⟨[], ⟨rfl, rfl⟩, hc.st⟩) <| RunD.op (det _) tab2 5 (fun f' L' w' hc => Op1.load1 (v := str _) ty9 rfl (hc.det (j := 3) rfl rfl rfl rfl) (hc.st.cellL (List.mem_append_right _ (.head _)) rfl) ⟨[], ⟨rfl, rfl⟩, hc.st⟩) <| RunD.op (det _) tab2 6 (fun f' L' w' hc => Op1.indexArr ty132 ty9 (hc.old (v := .pointer (some ⟨_, _, none⟩)) rfl rfl rfl) rfl (by decide) (by decide) ⟨[], ⟨rfl, rfl⟩, hc.st⟩) <| RunD.op (det _) tab2 7 (fun f' L' w' hc => Op1.load1 (v := str _) ty9 rfl (hc.det (j := 5) rfl rfl rfl rfl) (hc.st.cellL (List.mem_append_right _ (.head _)) rfl) ⟨[], ⟨rfl, rfl⟩, hc.st⟩) <| RunD.op (det _) tab2 8 (fun f' L' w' hc => Op1.indexArr ty132 ty9 (hc.old (v := .pointer (some ⟨_, _, none⟩)) rfl rfl rfl) rfl (by decide) (by decide) ⟨[], ⟨rfl, rfl⟩, hc.st⟩) <| RunD.op (det _) tab2 9 (fun f' L' w' hc => Op1.load1 (v := str _) ty9 rfl (hc.det (j := 7) rfl rfl rfl rfl) (hc.st.cellL (List.mem_append_right _ (.head _)) rfl) ⟨[], ⟨rfl, rfl⟩, hc.st⟩) <| RunD.op (det _) tab2 10 (fun f' L' w' hc => Op1.indexS ty9 (hc.det (j := 8) rfl rfl rfl rfl) rfl (by omega) (by omega) ⟨[], ⟨rfl, rfl⟩, hc.st⟩) <| RunD.op (det _) tab2 11 (fun f' L' w' hc => Op1.sub (hc.det (j := 9) rfl rfl rfl rfl) rfl ⟨[], ⟨rfl, rfl⟩, hc.st⟩) <| RunD.op (det _) tab2 12 (fun f' L' w' hc => Op1.buildStruct ty80 stf80 (.c (v := .int .u16 _) (hc.det (j := 0) rfl rfl rfl rfl) (h := (.c (v := str _) (hc.det (j := 2) rfl rfl rfl rfl) (h := (.c (v := str _) (hc.det (j := 4) rfl rfl rfl rfl) (h := (.c (v := str _) (hc.det (j := 6) rfl rfl rfl rfl) (h := (.c (v := .int .u8 _) (hc.det (j := 10) rfl rfl rfl rfl) (h := .nil)))))))))) ⟨[], ⟨rfl, rfl⟩, hc.st⟩) ?_
 refine RunD.op (fun v rs => ∃ b, v = .pointer (some ⟨b, 0, none⟩) ∧ rs = [Res.row b 80 [.int .u16 0, str [], .bool false, .bool false, str [], str [], .int .i64 0, .int .u8 0]]) tab2 13 (fun f' L' w' hc => Op1.alloc hc.st ty80 fun w b hst => ⟨[_], ⟨b, rfl, rfl⟩, hst⟩) <| RunD.fin followsMixed tab2 hst rfl (fun f3 w R6 hs4 hd5 hr7 hst => ?_)
 obtain ⟨h16_, r0⟩ := hd5 0 16 rfl rfl
 obtain ⟨h17_, r1⟩ := hd5 1 17 rfl rfl
 obtain ⟨h18_, r2⟩ := hd5 2 18 rfl rfl
 obtain ⟨h19_, r3⟩ := hd5 3 19 rfl rfl
 obtain ⟨h20_, r4⟩ := hd5 4 20 rfl rfl
 obtain ⟨h21_, r5⟩ := hd5 5 21 rfl rfl
 obtain ⟨h22_, r6⟩ := hd5 6 22 rfl rfl
 obtain ⟨h23_, r7⟩ := hd5 7 23 rfl rfl
 obtain ⟨h24_, r8⟩ := hd5 8 24 rfl rfl
 obtain ⟨h25_, r9⟩ := hd5 9 25 rfl rfl
 obtain ⟨h26_, r10⟩ := hd5 10 26 rfl rfl
 obtain ⟨h27_, r11⟩ := hd5 11 27 rfl rfl
 obtain ⟨b6, h6_, r12⟩ := hd5 12 6 rfl rfl
 simp only [show List.range 13 = [0, 1, 2, 3, 4, 5, 6, 7, 8, 9, 10, 11, 12] from rfl, List.flatMap_cons, List.flatMap_nil, List.map_cons, List.map_nil, r0, r1, r2, r3, r4, r5, r6, r7, r8, r9, r10, r11, r12, List.nil_append, List.append_nil, List.cons_append] at hst
 refine RunL.slots (sl := [(2, .pointer (some ⟨_, _, none⟩)), (5, .pointer (some ⟨_, _, none⟩)), (6, .pointer (some ⟨_, _, none⟩)), (27, .agg #[.int .u16 _, str _, .bool _, .bool _, str _, str _, .int .i64 _, .int .u8 _])]) ⟨(hs4 2 rfl).trans rfl, (hs4 5 rfl).trans rfl, h6_, h27_, trivial⟩ ?_
 clear hs4 hd5 hr7 tab2
 refine CN (SO (v := .agg #[.int .u16 _, str _, .bool _, .bool _, str _, str _, .int .i64 _, .int .u8 _]) hst ty80 rfl rfl (.here) fun w hst => ?_)
 refine NL <| Run.forget [(2, .pointer (some ⟨_, _, none⟩)), (5, .pointer (some ⟨_, _, none⟩)), (6, .pointer (some ⟨_, _, none⟩))] ⟨rfl, rfl, rfl, trivial⟩ fun f => SQ <| SR <| CN <| Op1.indexArr ty132 ty9 rfl rfl (by decide) (by decide) <| CN <| Op1.load1 (v := str _) ty9 rfl rfl (hst.cellL (.tail _ (.head _)) rfl) <| CN <| Op1.rangeS hst ty9 rfl fun w it30 hst => NL <| run_block <| run_loop <| Run.indW [(2, .pointer (some ⟨_, _, none⟩)), (5, .pointer (some ⟨_, _, none⟩)), (6, .pointer (some ⟨_, _, none⟩)), (30, .pointer (some ⟨_, 0, none⟩))] ⟨rfl, rfl, rfl, rfl, trivial⟩ (fun (i : Nat) => []) (fun (i : Nat) => [Res.iter it30 fd1 i, Res.row b6 80 [.int .u16 op, str fd0, .bool ((fd1.take i).contains 84), .bool ((fd1.take i).contains 82), str fd2, str fd3, .int .i64 0, .int .u8 (subU8 (fd5.getD 0 0) 48)]]) (fun (i : Nat) => i ≤ fd1.length) (fun (i : Nat) => fd1.length - i) (0) hst (Nat.zero_le _) trivial ?_
 intro i f w hst hJ ih8
 refine SQ <| RG ?_
 rcases Nat.lt_or_ge i fd1.length with g9 | g9
 · skip
   have hc := hasc _ (List.getElem_mem g9)
   refine CN (Op1.nextS hst rfl (.here) (List.getElem?_eq_getElem g9) (hc) fun w hst => ?_)
   refine CN <| Op1.extract (v := .bool _) rfl rfl <| NL <| SQ <| run_cond_true (congrArg Value.bool (rfl : true = _)) <| run_skip <| run_block <| SR <| CN <| Op1.extract (v := .int .i32 _) rfl rfl <| CN <| Op1.assign (v := .int .i32 _) rfl <| NSR <| CN <| Op1.fieldAddr fld80_2 rfl <| CN (Op1.load1 (v := .bool _) ty4 rfl rfl (hst.cellL (.tail _ (.head _)) rfl) ?_)
   refine MB rfl <| RunL.split (d := 36) rfl (fun g10 => ?_) (fun g10 => ?_)
   · skip
     refine OM (t := 36) rfl (congrArg Value.bool g10) rfl <| OM (t := 36) rfl (congrArg Value.bool g10) rfl <| CN <| Op1.pickT (u := .bool _) (congrArg Value.bool g10) rfl <| CN <| Op1.fieldAddr fld80_2 rfl <| CN (SO (v := .bool _) hst ty4 rfl rfl (.there (.here)) fun w hst => ?_)
     refine NR <| CN <| Op1.fieldAddr fld80_3 rfl <| CN <| Op1.load1 (v := .bool _) ty4 rfl rfl (hst.cellL (.tail _ (.head _)) rfl) <| MB rfl <| RunL.split (d := 43) rfl (fun g11 => ?_) (fun g11 => ?_)
     · skip
       refine OM (t := 43) rfl (congrArg Value.bool g11) rfl <| OM (t := 43) rfl (congrArg Value.bool g11) rfl <| CN <| Op1.pickT (u := .bool _) (congrArg Value.bool g11) rfl <| CN <| Op1.fieldAddr fld80_3 rfl <| CN (SO (v := .bool _) hst ty4 rfl rfl (.there (.here)) fun w hst => ?_)
       refine NL <| run_inBlock <| run_inLoop ?_
       exact ih8 (i + 1) _ w (by omega) (by (try dsimp only); rw [has_step 84 (m := 84) rfl g9, has_step 82 (m := 82) rfl g9]; simp only [g10, g11, Bool.true_or, Bool.false_or]; exact hst) (by omega) ⟨rfl, rfl, rfl, rfl, trivial⟩ trivial
     refine TK (t := 43) rfl (congrArg Value.bool g11) <| Op1.move (v := .int .i32 _) rfl <| TK (t := 43) rfl (congrArg Value.bool g11) <| Op1.eql rfl rfl <| CN <| Op1.pickF (u := .bool _) (congrArg Value.bool g11) rfl <| CN <| Op1.fieldAddr fld80_3 rfl <| CN (SO (v := .bool _) hst ty4 rfl rfl (.there (.here)) fun w hst => ?_)
     refine NL <| run_inBlock <| run_inLoop ?_
     exact ih8 (i + 1) _ w (by omega) (by (try dsimp only); rw [has_step 84 (m := 84) rfl g9, has_step 82 (m := 82) rfl g9]; simp only [g10, g11, Bool.true_or, Bool.false_or]; exact hst) (by omega) ⟨rfl, rfl, rfl, rfl, trivial⟩ trivial
   refine TK (t := 36) rfl (congrArg Value.bool g10) <| Op1.move (v := .int .i32 _) rfl <| TK (t := 36) rfl (congrArg Value.bool g10) <| Op1.eql rfl rfl <| CN <| Op1.pickF (u := .bool _) (congrArg Value.bool g10) rfl <| CN <| Op1.fieldAddr fld80_2 rfl <| CN (SO (v := .bool _) hst ty4 rfl rfl (.there (.here)) fun w hst => ?_)
   refine NR <| CN <| Op1.fieldAddr fld80_3 rfl <| CN <| Op1.load1 (v := .bool _) ty4 rfl rfl (hst.cellL (.tail _ (.head _)) rfl) <| MB rfl <| RunL.split (d := 43) rfl (fun g12 => ?_) (fun g12 => ?_)
   · skip
     refine OM (t := 43) rfl (congrArg Value.bool g12) rfl <| OM (t := 43) rfl (congrArg Value.bool g12) rfl <| CN <| Op1.pickT (u := .bool _) (congrArg Value.bool g12) rfl <| CN <| Op1.fieldAddr fld80_3 rfl <| CN (SO (v := .bool _) hst ty4 rfl rfl (.there (.here)) fun w hst => ?_)
     refine NL <| run_inBlock <| run_inLoop ?_
     exact ih8 (i + 1) _ w (by omega) (by (try dsimp only); rw [has_step 84 (m := 84) rfl g9, has_step 82 (m := 82) rfl g9]; simp only [g10, g12, Bool.true_or, Bool.false_or]; exact hst) (by omega) ⟨rfl, rfl, rfl, rfl, trivial⟩ trivial
   refine TK (t := 43) rfl (congrArg Value.bool g12) <| Op1.move (v := .int .i32 _) rfl <| TK (t := 43) rfl (congrArg Value.bool g12) <| Op1.eql rfl rfl <| CN <| Op1.pickF (u := .bool _) (congrArg Value.bool g12) rfl <| CN <| Op1.fieldAddr fld80_3 rfl <| CN (SO (v := .bool _) hst ty4 rfl rfl (.there (.here)) fun w hst => ?_)
   refine NL <| run_inBlock <| run_inLoop ?_
   exact ih8 (i + 1) _ w (by omega) (by (try dsimp only); rw [has_step 84 (m := 84) rfl g9, has_step 82 (m := 82) rfl g9]; simp only [g10, g12, Bool.true_or, Bool.false_or]; exact hst) (by omega) ⟨rfl, rfl, rfl, rfl, trivial⟩ trivial
 obtain rfl : i = fd1.length := by omega
 rw [List.take_length] at hst
 refine CN <| Op1.nextE hst rfl (.head _) g9 <| CN <| Op1.extract (v := .bool _) rfl rfl <| NL <| SQ <| run_cond_false (congrArg Value.bool (rfl : false = _)) <| run_exit (id := 0) rfl <| SQ <| SR <| CN <| Op1.indexArr ty132 ty9 rfl rfl (by decide) (by decide) <| CN <| Op1.load1 (v := str _) ty9 rfl rfl (hst.cellL (.tail _ (.tail _ (.head _))) rfl) <| CN <| Op1.neqS rfl rfl <| NL <| run_cond_dec rfl (fun g13 => ?_) (fun g13 => ?_)
 · skip
   have hf4 : 0 < fd4.length := List.length_pos_iff.2 g13
   have hwb := u8wrap_bd ((((fd4.getD (0 : Int).toNat 0).toNat : Nat) : Int) - 48)
   refine RG <| CN <| Op1.indexArr ty132 ty9 rfl rfl (by decide) (by decide) <| CN <| Op1.load1 (v := str _) ty9 rfl rfl (hst.cellL (.tail _ (.tail _ (.head _))) rfl) <| CN <| Op1.indexS ty9 rfl rfl (by omega) (by omega) <| CN (Op1.sub rfl rfl ?_)
   first | refine CN (Op1.convN ty5 ty3 rfl (wrap_i64 (by omega) (by omega)) ?_) | refine CN (Op1.conv ty5 ty3 rfl ?_)
   refine CN <| Op1.fieldAddr fld80_6 rfl <| CN (SO (v := .int .i64 _) hst ty3 rfl rfl (.there (.here)) fun w hst => ?_)
   refine NSR <| CN <| Op1.loadA (vs := [.int .u16 _, str _, .bool _, .bool _, str _, str _, .int .i64 _, .int .u8 _]) ty80 rfl rfl rfl (cells_of_obj (n := 8) (hst.objL (.tail _ (.head _))) _ rfl) <| CN (SO (v := .agg #[.int .u16 _, str _, .bool _, .bool _, str _, str _, .int .i64 _, .int .u8 _]) hst ty80 rfl rfl (.there (.there (.there (.here)))) fun w hst => ?_)
   refine AB rfl <| NL <| run_ret2 Try.func53 rfl (RV.cellA (vs := [.int .u16 _, str _, .bool _, .bool _, str _, str _, .int .i64 _, .int .u8 _]) rfl ty80 rfl rfl (cells_of_obj (n := 8) (hst.objL (.tail _ (.tail _ (.tail _ (.head _))))) _ rfl)) (TP (v := .bool _) rfl) ?_
   rw [← (rowS_all h0).2]
   have e : ofS op = some (FormL.mk op fd0 (fd1.contains 84) (fd1.contains 82) fd2 fd3 (subU8 (fd4.getD 0 0) 48) (subU8 (fd5.getD 0 0) 48)) := by
     unfold ofS
     rw [if_neg hemp, hf]
     show some (FormL.mk op fd0 (fd1.contains 84) (fd1.contains 82) fd2 fd3 (if fd4 = [] then 0 else subU8 (fd4.getD 0 0) 48) (subU8 (fd5.getD 0 0) 48)) = _
     rw [if_neg g13]
   rw [e]
   exact ⟨rfl, hst.pure⟩
 refine run_skip <| SR <| CN <| Op1.loadA (vs := [.int .u16 _, str _, .bool _, .bool _, str _, str _, .int .i64 _, .int .u8 _]) ty80 rfl rfl rfl (cells_of_obj (n := 8) (hst.objL (.tail _ (.head _))) _ rfl) <| CN (SO (v := .agg #[.int .u16 _, str _, .bool _, .bool _, str _, str _, .int .i64 _, .int .u8 _]) hst ty80 rfl rfl (.there (.there (.there (.here)))) fun w hst => ?_)
 refine AB rfl <| NL <| run_ret2 Try.func53 rfl (RV.cellA (vs := [.int .u16 _, str _, .bool _, .bool _, str _, str _, .int .i64 _, .int .u8 _]) rfl ty80 rfl rfl (cells_of_obj (n := 8) (hst.objL (.tail _ (.tail _ (.tail _ (.head _))))) _ rfl)) (TP (v := .bool _) rfl) ?_
 rw [← (rowS_all h0).2]
 have e : ofS op = some (FormL.mk op fd0 (fd1.contains 84) (fd1.contains 82) fd2 fd3 0 (subU8 (fd5.getD 0 0) 48)) := by
   unfold ofS
   rw [if_neg hemp, hf]
   show some (FormL.mk op fd0 (fd1.contains 84) (fd1.contains 82) fd2 fd3 (if fd4 = [] then 0 else subU8 (fd4.getD 0 0) 48) (subU8 (fd5.getD 0 0) 48)) = _
   rw [if_pos (Classical.not_not.1 g13)]
 rw [e]
 exact ⟨rfl, hst.pure⟩
end Go.SK
namespace Go.SK
open Go Go.Proofs
theorem ent107 : Enters Try.prog 107 := ⟨Try.f107, _, Try.func107, by kernel_rfl, rfl⟩
theorem ent119 : Enters Try.prog 119 := ⟨Try.f119, _, Try.func119, by kernel_rfl, rfl⟩
end Go.SK
namespace Go.SK
open Go Go.Proofs
open Go.RowKit
theorem R3gr_Enums (c : Int) (w : World) : Ret Try.prog 116 #[.int .u8 c] w (fun v w' => ∃ b, v = .func (.func 118) #[] #[.pointer (some ⟨b, 0, none⟩)] ∧ St w NoM [Res.row b 5 [.int .u8 c]] [] w') := by
 refine Ret.enter (args := [.int .u8 c]) Try.func116 rfl rfl rfl ?_
 have hst := St.init w
 refine SR <| CN <| Op1.box (v := .int .u8 _) hst rfl rfl fun w b1 hst => CN <| Op1.assign (v := _) rfl <| NSR <| CN <| Op1.makeFunc <| CN <| Op1.assign (v := .func _ _ _) rfl <| NL <| run_ret1 Try.func116 rfl (TP (v := .func _ _ _) rfl) ?_
 exact ⟨_, rfl, hst⟩
theorem R3gr_names2 {c : Int} {s : Byts} (hs : look namesT c = s) (w : World) : Ret Try.prog 107 #[.int .u8 c] w fun v w' => v = str s ∧ St w NoM [] [] w' := by
 subst hs; exact R3gr_names c w
theorem R3enums_iter (c : Int) (h0 : 0 ≤ c) (h1 : c ≤ 255) (bc : Nat) (w : World) (hb : (Res.row bc 5 [.int .u8 c]).holds w) : IterOk Try.prog 118 [.pointer (some ⟨bc, 0, none⟩)] (enumsL c).length (fun j => [.int .u32 ((enumsL c).getD j zeroN).n, str ((enumsL c).getD j zeroN).name]) (· = bc) w := by
 intro yv R S hR hFD hy
 obtain ⟨s, hs⟩ : ∃ s, look namesT c = s := ⟨_, rfl⟩
 obtain ⟨hasc, hlen, hl⟩ := names_all h0 h1
 rw [hs] at hasc hlen hl
 have hout : (enF s).out.length = (enumsL c).length := by rw [hl]; simp
 have hlt : ∀ i (hi : i < s.length), s[i] = 32 → (enF (s.take i)).num = true → (enF (s.take i)).out.length < (enumsL c).length := fun i hi h2 h3 => by
   have := (enF_told hl hi h2 h3).1; simpa using this
 have hyx : ∀ i (hi : i < s.length), s[i] = 32 → (enF (s.take i)).num = true → ∀ w1, St w (R 0).foot [R (enF (s.take i)).out.length] [] w1 → CallV Try.prog yv [.int .u32 (enF (s.take i)).n, str (enF (s.take i)).word] w1 fun v w2 => (v = .bool true ∧ St w1 (R (enF (s.take i)).out.length).foot [R ((enF (s.take i)).out.length + 1)] [] w2) ∨ (v = .bool false ∧ St w1 (R (enF (s.take i)).out.length).foot [S (enF (s.take i)).out.length] [] w2) := fun i hi h2 h3 w1 hw1 => by
   have t := hy _ (hlt i hi h2 h3) w1 hw1
   have ht := (enF_told hl hi h2 h3).2
   have hk := hlt i hi h2 h3
   rw [map_getD (d := zeroN) hk] at ht
   dsimp only at t
   injection ht with e1 e2
   rwa [e1, e2] at t
 refine Ret.enter (args := [yv, .pointer (some ⟨bc, 0, none⟩)]) Try.func118 rfl rfl rfl ?_
 have hst : St w (R 0).foot [R 0] [Res.row bc 5 [.int .u8 c]] w := St.enter1 hR (fun d hd => by cases hd with | head => exact hb | tail _ h => cases h) (fun d hd => by cases hd with | head => exact fun b hb hb2 => hFD b hb hb2 | tail _ h => cases h)
 refine SR <| AU rfl <| AS rfl <| NSR <| AS rfl <| NSR <| AB rfl <| NL <| SQ <| RG ?_
 refine CN <| Op1.load1 (v := .int .u8 _) ty5 rfl rfl (hst.cellD (.head _) rfl) <| CN <| Op1.call1 (v1 := .int .u8 _) ent107 rfl rfl <| Ret.det (R3gr_names2 hs _) hst fun w hst => CN <| Op1.rangeS hst ty9 rfl fun w it11 hst => NL <| run_block <| run_loop <| Run.indW [(0, _), (11, .pointer (some ⟨_, 0, none⟩))] ⟨rfl, rfl, trivial⟩ (fun (i : Nat) => [(3, .int .u32 (enF (s.take i)).n), (5, str (enF (s.take i)).word), (6, .bool (enF (s.take i)).num)]) (fun (i : Nat) => [Res.iter it11 s i, R (enF (s.take i)).out.length]) (fun (i : Nat) => i ≤ s.length) (fun (i : Nat) => s.length - i) (0) hst (Nat.zero_le _) ⟨rfl, rfl, rfl, trivial⟩ ?_
 intro i f w hst hJ ih1
 refine SQ <| RG ?_
 rcases Nat.lt_or_ge i s.length with g2 | g2
 · skip
   have hc := hasc _ (List.getElem_mem g2)
   have hwl := (enF_inv s hasc i (by omega)).1
   refine CN (Op1.nextS hst rfl (.here) (List.getElem?_eq_getElem g2) (hc) fun w hst => ?_)
   refine CN <| Op1.extract (v := .bool _) rfl rfl <| NL <| SQ <| run_cond_true (congrArg Value.bool (rfl : true = _)) <| run_skip <| run_block <| SR <| CN <| Op1.extract (v := .int .i32 _) rfl rfl <| CN <| Op1.assign (v := .int .i32 _) rfl <| NL <| SQ <| run_block <| SQ <| RG ?_
   refine CN <| Op1.move (v := .int .i32 _) rfl <| CN <| Op1.neq rfl rfl <| AB rfl <| NL <| run_cond_dec rfl (fun g3 => ?_) (fun g3 => ?_)
   · skip
     refine SR <| MS rfl <| CN <| Op1.move (v := .int .i32 _) rfl <| CN <| Op1.runeStr ty21 ty9 rfl (by omega) (by omega) <| CN <| Op1.addS rfl rfl (by first | omega | (simp only [List.length_cons, List.length_nil, List.length_append]; omega) | (simp; omega)) <| AS rfl <| NL <| run_exit (id := 1) rfl <| run_inLoop ?_
     have hstep := enF_step g2
     have hsp : enF (s.take (i + 1)) = ⟨(enF (s.take i)).n, (enF (s.take i)).word ++ [s[i]], (enF (s.take i)).num, (enF (s.take i)).out⟩ := by rw [hstep]; unfold enStep; rw [if_pos (fun he => g3 (by rw [he]; rfl))]
     exact ih1 (i + 1) _ w (by omega) (by (try dsimp only); rw [hsp]; exact hst) (by omega) ⟨rfl, rfl, trivial⟩ ⟨(congrArg (Value.int .u32) (by rw [hsp])), (congrArg str (by rw [hsp]; simp)), (congrArg Value.bool (by rw [hsp])), trivial⟩
   refine SR <| MB rfl <| CN <| Op1.not rfl <| AB rfl <| NL <| run_cond_split rfl (fun g4 => ?_) (fun g4 => ?_)
   · skip
     refine RG <| MS rfl <| CN <| Op1.call1 (v1 := str _) ent119 rfl rfl <| Ret.det (R3gr_number _ (enF_inv s hasc i (by omega)).2 _) hst fun w hst => AU rfl <| NL <| run_inBlock <| SR <| MB rfl <| CN <| Op1.not rfl <| AB rfl <| NR <| AS rfl <| NL ?_
     refine run_inBlock <| run_inLoop ?_
     have hstep := enF_step g2
     have hd32 : s[i] = 32 := UInt8.toNat_inj.1 (by have : (32 : UInt8).toNat = 32 := rfl; omega)
     have hnu : (enF (s.take i)).num = false := by simpa using g4
     have hsp : enF (s.take (i + 1)) = ⟨numF (enF (s.take i)).word, [], true, (enF (s.take i)).out⟩ := by rw [hstep]; unfold enStep; rw [if_neg (by simp [hd32]), if_neg (by simp [hnu])]
     exact ih1 (i + 1) _ w (by omega) (by (try dsimp only); rw [hsp]; exact hst) (by omega) ⟨rfl, rfl, trivial⟩ ⟨(congrArg (Value.int .u32) (by rw [hsp])), (congrArg str (by rw [hsp])), (congrArg Value.bool (by rw [hsp, hnu]; rfl)), trivial⟩
   refine SR <| MS rfl <| AS rfl <| NSR <| CN <| Op1.move (v := _) rfl <| MU rfl <| MS rfl ?_
   replace hst := hst.pick (.cons (.there (.here)) (.cons (.here) .nil))
   have hc32 : s[i] = 32 := UInt8.toNat_inj.1 (by have : (32 : UInt8).toNat = 32 := rfl; omega)
   have hnum : (enF (s.take i)).num = true := by simpa using g4
   refine CN (Op1.callV2 (v1 := .int .u32 _) (v2 := str _) rfl rfl rfl ((hyx i (by omega) hc32 hnum _ hst.one).mono fun v w hp => ?_))
   rcases hp with ⟨rfl, hp⟩ | ⟨rfl, hp⟩
   · skip
     replace hst := hst.call1 hp
     clear hp
     refine CN <| Op1.not rfl <| NL <| run_cond_false (congrArg Value.bool (congrArg not (rfl : true = _))) <| run_skip <| run_inBlock <| SR <| MB rfl <| CN <| Op1.not rfl <| AB rfl <| NL <| Run.forget [(0, _), (3, .int .u32 _), (6, .bool _), (11, .pointer (some ⟨_, 0, none⟩))] ⟨rfl, rfl, rfl, rfl, trivial⟩ fun f => RG <| AS rfl <| NL ?_
     refine run_inBlock <| run_inLoop ?_
     have hstep := enF_step g2
     have hd32 : s[i] = 32 := UInt8.toNat_inj.1 (by have : (32 : UInt8).toNat = 32 := rfl; omega)
     have hnu : (enF (s.take i)).num = true := by simpa using g4
     have hsp : enF (s.take (i + 1)) = ⟨(enF (s.take i)).n, [], false, (enF (s.take i)).out ++ [((enF (s.take i)).n, (enF (s.take i)).word)]⟩ := by rw [hstep]; unfold enStep; rw [if_neg (by simp [hd32]), if_pos hnu]
     replace hst := hst.pick (.cons (.there (.here)) (.cons (.here) .nil))
     exact ih1 (i + 1) _ w (by omega) (by (try dsimp only); rw [hsp]; simp only [List.length_append, List.length_cons, List.length_nil]; exact hst) (by omega) ⟨rfl, rfl, trivial⟩ ⟨(congrArg (Value.int .u32) (by rw [hsp])), (congrArg str (by rw [hsp])), (congrArg Value.bool (by rw [hsp, hnu]; rfl)), trivial⟩
   · skip
     replace hst := hst.call1 hp
     clear hp
     refine CN <| Op1.not rfl <| NL <| run_cond_true (congrArg Value.bool (congrArg not (rfl : false = _))) <| run_ret0 Try.func118 rfl  ?_
     replace hst := hst.pick (.cons (.here) (.cons (.here) .nil))
     exact .inr ⟨(enF (s.take i)).out.length, hlt i (by omega) hc32 hnum, hst.one⟩
 obtain rfl : i = s.length := by omega
 refine CN <| Op1.nextE hst rfl (.head _) g2 <| CN <| Op1.extract (v := .bool _) rfl rfl <| NL <| SQ <| run_cond_false (congrArg Value.bool (rfl : false = _)) <| run_exit (id := 0) rfl <| run_end0 Try.func118 rfl  ?_
 replace hst := hst.pick (.cons (.there (.here)) (.cons (.here) .nil))
 rw [List.take_length, hout] at hst
 exact .inl hst.one
end Go.SK
namespace Go.SK
open Go Go.Proofs
theorem ent116 : Enters Try.prog 116 := ⟨Try.f116, _, Try.func116, by kernel_rfl, rfl⟩
theorem ent118 : Enters Try.prog 118 := ⟨Try.f118, _, Try.func118, by kernel_rfl, rfl⟩
end Go.SK
namespace Go.SK
open Go Go.Proofs
open Go.RowKit
theorem R3gr_Enum (c n : Int) (h0 : 0 ≤ c) (h1 : c ≤ 255) (w : World) : Ret Try.prog 108 #[.int .u8 c, .int .u32 n] w (fun v w' => v = nameV (namesL.find? (enN c n)) ∧ St w NoM [] [] w') := by
 refine Ret.enter (args := [.int .u8 c, .int .u32 n]) Try.func108 rfl rfl rfl ?_
 have hst := St.init w
 refine SR <| CN <| Op1.box (v := .int .u32 _) hst rfl rfl fun w b3 hst => CN <| Op1.alloc hst ty9 fun w b4 hst => CN <| Op1.alloc hst ty4 fun w b5 hst => NL <| SQ <| SR <| MC rfl <| CN (Op1.call1 (v1 := .int .u8 _) ent116 rfl rfl ((R3gr_Enums _ _).mono fun v w hp => ?_))
 obtain ⟨bc, rfl, hp⟩ := hp
 replace hst := hst.call0 hp
 clear hp
 refine NL <| run_block ?_
 replace hst := hst.addProp (p := ((enumsL c).drop 0).find? (fun x => decide (x.n = n)) = (enumsL c).find? (fun x => decide (x.n = n))) (rfl)
 replace hst := hst.pick (.cons (.here) (.cons (.there (.there (.here))) (.cons (.there (.here)) (.cons (.here) (.cons (.here) .nil)))))
 refine run_rangeIter (L1 := [_, _, _]) (L2 := [_, _]) (item := (fun j => [.int .u32 ((enumsL c).getD j zeroN).n, str ((enumsL c).getD j zeroN).name])) (FD := (· = bc)) (fun i => [Res.prop (((enumsL c).drop i).find? (fun x => decide (x.n = n)) = (enumsL c).find? (fun x => decide (x.n = n))), Res.row b4 9 [str []], Res.row b5 4 [.bool false]]) (fun i => [Res.prop ((enumsL c).find? (fun x => decide (x.n = n)) = some ((enumsL c).getD i zeroN)), Res.row b4 9 [str ((enumsL c).getD i zeroN).name], Res.row b5 4 [.bool true]]) (fun _ => .ret) hst rfl rfl ent118 (fun b hb => .inl (by subst hb; exact ⟨_, (.head _), rfl⟩)) (fun w1 hw1 => R3enums_iter c h0 h1 bc w1 (hw1.hL _ (.tail _ (.tail _ (.tail _ (.head _)))))) (fun _ _ => rfl) ?_ ?_ ?_
 · intro i hi w bl br lp hlp hst hk
   have hprop : ((enumsL c).drop i).find? (fun x => decide (x.n = n)) = (enumsL c).find? (fun x => decide (x.n = n)) := hst.hL _ (.tail _ (.tail _ (.head _)))
   refine SR <| AU rfl <| NR <| AS rfl <| NL <| run_beginR hlp hst (.here) fun w hst => run_block <| SR <| MU rfl <| CN <| Op1.load1 (v := .int .u32 _) ty23 rfl rfl (hst.cellD (.tail _ (.head _)) rfl) <| CN <| Op1.eql rfl rfl <| NL ?_
   refine run_cond_dec rfl (fun g1 => ?_) (fun g1 => ?_)
   · skip
     refine SR <| MS rfl <| CN (SO (v := str _) hst ty9 rfl rfl (.there (.there (.there (.here)))) fun w hst => ?_)
     refine CN (SO (v := .bool _) hst ty4 rfl rfl (.there (.there (.there (.there (.here))))) fun w hst => ?_)
     refine NL <| run_retR hst (.here) fun w hst => ?_
     replace hst := hst.addProp (p := (enumsL c).find? (fun x => decide (x.n = n)) = some ((enumsL c).getD i zeroN)) (find_hit (d := zeroN) hprop hi (decide_eq_true g1))
     replace hst := hst.pick (.cons (.there (.here)) (.cons (.there (.here)) (.cons (.here) (.cons (.there (.here)) (.cons (.there (.here)) .nil)))))
     exact .inr ⟨rfl, _, hst⟩
   refine run_skip <| run_inBlock <| run_endR hlp hst (.here) fun w hst => ?_
   replace hst := hst.addProp (p := ((enumsL c).drop (i + 1)).find? (fun x => decide (x.n = n)) = (enumsL c).find? (fun x => decide (x.n = n))) (find_miss (d := zeroN) hprop hi (decide_eq_false g1))
   replace hst := hst.pick (.cons (.there (.here)) (.cons (.there (.here)) (.cons (.here) (.cons (.there (.here)) (.cons (.there (.here)) .nil)))))
   exact .inl ⟨rfl, _, hst⟩
 · intro w bl br lp hst
   have hall : ((enumsL c).drop (enumsL c).length).find? (fun x => decide (x.n = n)) = (enumsL c).find? (fun x => decide (x.n = n)) := hst.hL _ (.tail _ (.tail _ (.head _)))
   refine run_inBlock <| SR <| CN (SO (v := str _) hst ty9 rfl rfl (.there (.there (.there (.here)))) fun w hst => ?_)
   refine CN (SO (v := .bool _) hst ty4 rfl rfl (.there (.there (.there (.there (.here))))) fun w hst => ?_)
   refine NL ?_
   replace hst := hst.pick (.cons (.there (.here)) (.cons (.here) (.cons (.here) (.cons (.here) (.cons (.here) (.cons (.here) (.cons (.here) .nil)))))))
   refine run_ret_marks [br] Try.func108 hst fun w hst => ⟨_, res2 rfl (RV.cell1 (v := str _) rfl ty9 rfl (hst.cellL (.tail _ (.tail _ (.head _))) rfl)) (RV.cell1 (v := .bool _) rfl ty4 rfl (hst.cellL (.tail _ (.tail _ (.tail _ (.head _)))) rfl)), ?_⟩
   rw [← enums_find, find_end hall (Nat.le_refl _)]
   exact ⟨rfl, hst.pure⟩
 · intro i hi w bl br lp hst
   have hs : (enumsL c).find? (fun x => decide (x.n = n)) = some ((enumsL c).getD i zeroN) := hst.hL _ (.tail _ (.tail _ (.head _)))
   replace hst := hst.pick (.cons (.there (.here)) (.cons (.here) (.cons (.here) (.cons (.here) (.cons (.here) (.cons (.here) (.cons (.here) .nil)))))))
   refine run_ret_marks [br] Try.func108 hst fun w hst => ⟨_, res2 rfl (RV.cell1 (v := str _) rfl ty9 rfl (hst.cellL (.tail _ (.tail _ (.head _))) rfl)) (RV.cell1 (v := .bool _) rfl ty4 rfl (hst.cellL (.tail _ (.tail _ (.tail _ (.head _)))) rfl)), ?_⟩
   rw [← enums_find, hs]
   exact ⟨rfl, hst.pure⟩
end Go.SK
namespace Go.SK
open Go Go.Proofs
theorem fld160_0 : FldF Try.prog 160 0 0 := FldF.of (n := 7) (by kernel_rfl)
theorem fld80_4 : FldF Try.prog 80 4 4 := FldF.of (n := 0) (by kernel_rfl)
theorem fld80_5 : FldF Try.prog 80 5 5 := FldF.of (n := 0) (by kernel_rfl)
theorem ty160 : TyF Try.prog 160 (.struct (fieldsOf Try.prog 160)) 8 80 [.int .u16 0, str [], .bool false, .bool false, str [], str [], .int .i64 0, .int .u8 0] := TyF.of (by kernel_rfl) (by kernel_rfl)
theorem ty164 : TyF Try.prog 164 (.slice 161) 1 24 [.slice none 0 0] := TyF.of (by kernel_rfl) (by kernel_rfl)
theorem ty161 : TyF Try.prog 161 (.func #[3] #[5] false) 1 8 [.nilFunc] := TyF.of (by kernel_rfl) (by kernel_rfl)
theorem ent114 : Enters Try.prog 114 := ⟨Try.f114, _, Try.func114, by kernel_rfl, rfl⟩
theorem ent115 : Enters Try.prog 115 := ⟨Try.f115, _, Try.func115, by kernel_rfl, rfl⟩
theorem ent53 : Enters Try.prog 53 := ⟨Try.f53, _, Try.func53, by kernel_rfl, rfl⟩
theorem stf160 : StructF Try.prog 160 [(0, 8)] := ⟨fieldsOf Try.prog 160, by kernel_rfl, fun w => by kernel_rfl⟩
theorem ent106 : Enters Try.prog 106 := ⟨Try.f106, _, Try.func106, by kernel_rfl, rfl⟩
end Go.SK
namespace Go.SK
open Go Go.Proofs
open Go.RowKit
theorem R3gr_Kind (c : Int) (w : World) : Ret Try.prog 87 #[.int .u8 c] w (fun v w' => v = .int .u8 (kindS c) ∧ St w NoM [] [] w') := by
 refine Ret.enter (args := [.int .u8 c]) Try.func87 rfl rfl rfl ?_
 have hst := St.init w
 refine SR <| AC rfl <| NL <| SQ <| SR <| MC rfl <| NL <| run_block <| SR <| CN <| Op1.eql rfl rfl <| AB rfl <| NL ?_
 refine run_cond_dec rfl (fun g1 => ?_) (fun g1 => ?_)
 · skip
   refine SR <| AC rfl <| NL <| run_ret1 Try.func87 rfl (TP (v := .int .u8 _) rfl) <| ⟨congrArg (Value.int .u8) (Eq.symm ?_), hst.pure⟩
   unfold kindS
   rw [if_pos g1]
 refine SR <| CN <| Op1.eql rfl rfl <| AB rfl <| NL <| run_cond_dec rfl (fun g2 => ?_) (fun g2 => ?_)
 · skip
   refine SR <| AC rfl <| NL <| run_ret1 Try.func87 rfl (TP (v := .int .u8 _) rfl) <| ⟨congrArg (Value.int .u8) (Eq.symm ?_), hst.pure⟩
   unfold kindS
   rw [if_neg g1, if_pos g2]
 refine SR <| CN <| Op1.eql rfl rfl <| AB rfl <| NL <| run_cond_dec rfl (fun g3 => ?_) (fun g3 => ?_)
 · skip
   refine SR <| AC rfl <| NL <| run_ret1 Try.func87 rfl (TP (v := .int .u8 _) rfl) <| ⟨congrArg (Value.int .u8) (Eq.symm ?_), hst.pure⟩
   unfold kindS
   rw [if_neg g1, if_neg g2, if_pos g3]
 refine run_skip <| run_inBlock <| SQ <| SR <| MC rfl <| CN <| Op1.call1 (v1 := .int .u8 _) ent107 rfl rfl <| Ret.det (R3gr_names _ _) hst fun w hst => CN <| Op1.neqS rfl rfl <| NL <| run_cond_dec rfl (fun g4 => ?_) (fun g4 => ?_)
 · skip
   refine SR <| AC rfl <| NL <| run_ret1 Try.func87 rfl (TP (v := .int .u8 _) rfl) <| ⟨congrArg (Value.int .u8) (Eq.symm ?_), hst.pure⟩
   unfold kindS
   rw [if_neg g1, if_neg g2, if_neg g3, if_pos g4]
 refine run_skip <| SR <| AC rfl <| NL <| run_ret1 Try.func87 rfl (TP (v := .int .u8 _) rfl) <| ⟨congrArg (Value.int .u8) (Eq.symm ?_), hst.pure⟩
 unfold kindS
 rw [if_neg g1, if_neg g2, if_neg g3, if_neg g4]
theorem R3gr_fixed (fm : FormL) (hf : FOk fm) (i : Int) (h0 : 0 ≤ i) (h1 : i ≤ 9223372036854775807) (w : World) : Ret Try.prog 114 #[.agg #[.int .u16 fm.op, str fm.name, .bool fm.ty, .bool fm.res, str fm.fixed, str fm.rest, .int .i64 fm.most, .int .u8 fm.part], .int .i64 i] w (fun v w' => v = .int .u8 (fixS fm i) ∧ St w NoM [] [] w') := by
 refine Ret.enter (args := [.agg #[.int .u16 fm.op, str fm.name, .bool fm.ty, .bool fm.res, str fm.fixed, str fm.rest, .int .i64 fm.most, .int .u8 fm.part], .int .i64 i]) Try.func114 rfl rfl rfl ?_
 have hst := St.init w
 obtain ⟨hop, hmost, hfx, hrs, _, _, hf0, hr0⟩ := hf
 refine SR <| CN <| Op1.box (v := .agg #[.int .u16 _, str _, .bool _, .bool _, str _, str _, .int .i64 _, .int .u8 _]) hst rfl rfl fun w b2 hst => AC rfl <| NL <| SQ <| SR <| MI rfl <| CN <| Op1.lss rfl rfl <| MB rfl <| RunL.splitD (d := 7) rfl (fun g1 => ?_) (fun g1 => ?_)
 · skip
   refine OM (t := 7) rfl (congrArg Value.bool (decide_eq_true g1)) rfl <| OM (t := 7) rfl (congrArg Value.bool (decide_eq_true g1)) rfl <| OM (t := 7) rfl (congrArg Value.bool (decide_eq_true g1)) rfl <| OM (t := 7) rfl (congrArg Value.bool (decide_eq_true g1)) rfl <| OM (t := 7) rfl (congrArg Value.bool (decide_eq_true g1)) rfl <| OM (t := 7) rfl (congrArg Value.bool (decide_eq_true g1)) rfl <| CN <| Op1.pickT (u := .bool _) (congrArg Value.bool (decide_eq_true g1)) rfl <| NL <| run_cond_true (congrArg Value.bool (rfl : true = _)) <| SR <| AC rfl <| NL <| run_ret1 Try.func114 rfl (TP (v := .int .u8 _) rfl) <| ⟨congrArg (Value.int .u8) (Eq.symm ?_), hst.pure⟩
   unfold fixS
   first | exact if_pos (by omega) | exact if_neg (by omega)
 refine TK (t := 7) rfl (congrArg Value.bool (decide_eq_false g1)) <| Op1.move (v := .int .i64 _) rfl <| TK (t := 7) rfl (congrArg Value.bool (decide_eq_false g1)) <| Op1.fieldAddr fld160_0 rfl <| TK (t := 7) rfl (congrArg Value.bool (decide_eq_false g1)) <| Op1.fieldAddr fld80_4 rfl <| TK (t := 7) rfl (congrArg Value.bool (decide_eq_false g1)) <| Op1.load1 (v := str _) ty9 rfl rfl (hst.cellL (.head _) rfl) <| TK (t := 7) rfl (congrArg Value.bool (decide_eq_false g1)) <| Op1.lenS (rest := []) ty9 rfl <| TK (t := 7) rfl (congrArg Value.bool (decide_eq_false g1)) <| Op1.geq rfl rfl <| CN <| Op1.pickF (u := .bool _) (congrArg Value.bool (decide_eq_false g1)) rfl <| NL <| run_cond_dec rfl (fun g2 => ?_) (fun g2 => ?_)
 · skip
   refine SR <| AC rfl <| NL <| run_ret1 Try.func114 rfl (TP (v := .int .u8 _) rfl) <| ⟨congrArg (Value.int .u8) (Eq.symm ?_), hst.pure⟩
   unfold fixS
   first | exact if_pos (by omega) | exact if_neg (by omega)
 refine run_skip <| SR <| CN <| Op1.fieldAddr fld160_0 rfl <| CN <| Op1.fieldAddr fld80_4 rfl <| CN <| Op1.load1 (v := str _) ty9 rfl rfl (hst.cellL (.head _) rfl) <| MI rfl <| CN <| Op1.indexS ty9 rfl rfl (by omega) (by omega) <| AC rfl <| NL <| run_ret1 Try.func114 rfl (TP (v := .int .u8 _) rfl) <| ⟨congrArg (Value.int .u8) (Eq.symm ?_), hst.pure⟩
 unfold fixS
 first | exact if_pos (by omega) | exact if_neg (by omega)
theorem R3gr_rest (fm : FormL) (hf : FOk fm) (i : Int) (h0 : 0 ≤ i) (h1 : i ≤ 9223372036854775807) (w : World) : Ret Try.prog 115 #[.agg #[.int .u16 fm.op, str fm.name, .bool fm.ty, .bool fm.res, str fm.fixed, str fm.rest, .int .i64 fm.most, .int .u8 fm.part], .int .i64 i] w (fun v w' => v = .int .u8 (restS fm i) ∧ St w NoM [] [] w') := by
 refine Ret.enter (args := [.agg #[.int .u16 fm.op, str fm.name, .bool fm.ty, .bool fm.res, str fm.fixed, str fm.rest, .int .i64 fm.most, .int .u8 fm.part], .int .i64 i]) Try.func115 rfl rfl rfl ?_
 have hst := St.init w
 obtain ⟨hop, hmost, hfx, hrs, _, _, hf0, hr0⟩ := hf
 refine SR <| CN <| Op1.box (v := .agg #[.int .u16 _, str _, .bool _, .bool _, str _, str _, .int .i64 _, .int .u8 _]) hst rfl rfl fun w b2 hst => AC rfl <| NSR <| MI rfl <| CN <| Op1.fieldAddr fld160_0 rfl <| CN <| Op1.fieldAddr fld80_4 rfl <| CN <| Op1.load1 (v := str _) ty9 rfl rfl (hst.cellL (.head _) rfl) <| CN <| Op1.lenS (rest := []) ty9 rfl <| CN <| Op1.subN rfl rfl rfl (wrap_i64 (by omega) (by omega)) <| AI rfl <| NL ?_
 refine SQ <| SR <| MI rfl <| CN <| Op1.lss rfl rfl <| MB rfl <| RunL.splitD (d := 13) rfl (fun g1 => ?_) (fun g1 => ?_)
 · skip
   refine OM (t := 13) rfl (congrArg Value.bool (decide_eq_true g1)) rfl <| OM (t := 13) rfl (congrArg Value.bool (decide_eq_true g1)) rfl <| OM (t := 13) rfl (congrArg Value.bool (decide_eq_true g1)) rfl <| OM (t := 13) rfl (congrArg Value.bool (decide_eq_true g1)) rfl <| CN <| Op1.pickT (u := .bool _) (congrArg Value.bool (decide_eq_true g1)) rfl <| MB rfl <| OM (t := 19) rfl (congrArg Value.bool (rfl : true = _)) rfl <| OM (t := 19) rfl (congrArg Value.bool (rfl : true = _)) rfl <| OM (t := 19) rfl (congrArg Value.bool (rfl : true = _)) rfl <| OM (t := 19) rfl (congrArg Value.bool (rfl : true = _)) rfl <| OM (t := 19) rfl (congrArg Value.bool (rfl : true = _)) rfl <| RunL.omitU (t := 24) rfl rfl <| RunL.omitU (t := 24) rfl rfl <| RunL.omitU (t := 24) rfl rfl <| RunL.omitU (t := 24) rfl rfl ?_
   refine RunL.omitU (t := 24) rfl rfl <| RunL.omitU (t := 24) rfl rfl <| RunL.omitU (t := 24) rfl rfl <| RunL.omitU (t := 24) rfl rfl <| RunL.omitU (t := 24) rfl rfl <| RunL.omitU (t := 24) rfl rfl <| OM (t := 19) rfl (congrArg Value.bool (rfl : true = _)) rfl <| CN <| Op1.pickT (u := .bool _) (congrArg Value.bool (rfl : true = _)) rfl <| NL <| run_cond_true (congrArg Value.bool (rfl : true = _)) <| SR <| AC rfl <| NL <| run_ret1 Try.func115 rfl (TP (v := .int .u8 _) rfl) ?_
   refine ⟨congrArg (Value.int .u8) (Eq.symm ?_), hst.pure⟩
   unfold restS
   first | exact if_pos (by first | omega | (simp_all <;> omega)) | exact if_neg (by first | omega | (simp_all <;> omega))
 refine TK (t := 13) rfl (congrArg Value.bool (decide_eq_false g1)) <| Op1.fieldAddr fld160_0 rfl <| TK (t := 13) rfl (congrArg Value.bool (decide_eq_false g1)) <| Op1.fieldAddr fld80_5 rfl <| TK (t := 13) rfl (congrArg Value.bool (decide_eq_false g1)) <| Op1.load1 (v := str _) ty9 rfl rfl (hst.cellL (.head _) rfl) <| TK (t := 13) rfl (congrArg Value.bool (decide_eq_false g1)) <| Op1.eqlS rfl rfl <| CN <| Op1.pickF (u := .bool _) (congrArg Value.bool (decide_eq_false g1)) rfl <| MB rfl <| RunL.splitD (d := 19) rfl (fun g2 => ?_) (fun g2 => ?_)
 · skip
   refine OM (t := 19) rfl (congrArg Value.bool (decide_eq_true g2)) rfl <| OM (t := 19) rfl (congrArg Value.bool (decide_eq_true g2)) rfl <| OM (t := 19) rfl (congrArg Value.bool (decide_eq_true g2)) rfl <| OM (t := 19) rfl (congrArg Value.bool (decide_eq_true g2)) rfl <| OM (t := 19) rfl (congrArg Value.bool (decide_eq_true g2)) rfl <| RunL.omitU (t := 24) rfl rfl <| RunL.omitU (t := 24) rfl rfl <| RunL.omitU (t := 24) rfl rfl <| RunL.omitU (t := 24) rfl rfl <| RunL.omitU (t := 24) rfl rfl <| RunL.omitU (t := 24) rfl rfl <| RunL.omitU (t := 24) rfl rfl <| RunL.omitU (t := 24) rfl rfl <| RunL.omitU (t := 24) rfl rfl <| RunL.omitU (t := 24) rfl rfl ?_
   refine OM (t := 19) rfl (congrArg Value.bool (decide_eq_true g2)) rfl <| CN <| Op1.pickT (u := .bool _) (congrArg Value.bool (decide_eq_true g2)) rfl <| NL <| Run.forget [(1, .int .i64 _), (2, .pointer (some ⟨_, _, none⟩)), (36, .bool _)] ⟨rfl, rfl, rfl, trivial⟩ fun f => run_cond_true (congrArg Value.bool (rfl : true = _)) <| SR <| AC rfl <| NL <| run_ret1 Try.func115 rfl (TP (v := .int .u8 _) rfl) <| ⟨congrArg (Value.int .u8) (Eq.symm ?_), hst.pure⟩
   unfold restS
   first | exact if_pos (by first | omega | (simp_all <;> omega)) | exact if_neg (by first | omega | (simp_all <;> omega))
 refine TK (t := 19) rfl (congrArg Value.bool (decide_eq_false g2)) <| Op1.fieldAddr fld160_0 rfl <| TK (t := 19) rfl (congrArg Value.bool (decide_eq_false g2)) <| Op1.fieldAddr fld80_6 rfl <| TK (t := 19) rfl (congrArg Value.bool (decide_eq_false g2)) <| Op1.load1 (v := .int .i64 _) ty3 rfl rfl (hst.cellL (.head _) rfl) <| TK (t := 19) rfl (congrArg Value.bool (decide_eq_false g2)) <| Op1.gtr rfl rfl <| TK (t := 19) rfl (congrArg Value.bool (decide_eq_false g2)) <| Op1.move (v := .bool _) rfl <| RunL.splitD (d := 24) rfl (fun g3 => ?_) (fun g3 => ?_)
 · skip
   refine TK (t := 24) rfl (congrArg Value.bool (decide_eq_true g3)) <| Op1.move (v := .int .i64 _) rfl <| TK (t := 24) rfl (congrArg Value.bool (decide_eq_true g3)) <| Op1.fieldAddr fld160_0 rfl <| TK (t := 24) rfl (congrArg Value.bool (decide_eq_true g3)) <| Op1.fieldAddr fld80_6 rfl <| TK (t := 24) rfl (congrArg Value.bool (decide_eq_true g3)) <| Op1.load1 (v := .int .i64 _) ty3 rfl rfl (hst.cellL (.head _) rfl) <| TK (t := 24) rfl (congrArg Value.bool (decide_eq_true g3)) <| Op1.fieldAddr fld160_0 rfl <| TK (t := 24) rfl (congrArg Value.bool (decide_eq_true g3)) <| Op1.fieldAddr fld80_5 rfl <| TK (t := 24) rfl (congrArg Value.bool (decide_eq_true g3)) <| Op1.load1 (v := str _) ty9 rfl rfl (hst.cellL (.head _) rfl) <| TK (t := 24) rfl (congrArg Value.bool (decide_eq_true g3)) (Op1.lenS (rest := []) ty9 rfl ?_)
   first | refine TK (t := 24) rfl (congrArg Value.bool (decide_eq_true g3)) (Op1.mulN rfl rfl rfl (wrap_i64 (by omega) (by omega)) ?_) | refine TK (t := 24) rfl (congrArg Value.bool (decide_eq_true g3)) (Op1.mulB rfl rfl (by omega) (by omega) (by omega) (by omega) (fun hm4 hm5 => ?_))
   refine TK (t := 24) rfl (congrArg Value.bool (decide_eq_true g3)) <| Op1.geq rfl rfl <| TK (t := 19) rfl (congrArg Value.bool (decide_eq_false g2)) <| Op1.pickT (u := .bool _) (congrArg Value.bool (decide_eq_true g3)) rfl <| CN <| Op1.pickF (u := .bool _) (congrArg Value.bool (decide_eq_false g2)) rfl <| NL <| Run.forget [(1, .int .i64 _), (2, .pointer (some ⟨_, _, none⟩)), (36, .bool _)] ⟨rfl, rfl, rfl, trivial⟩ fun f => run_cond_dec rfl (fun g6 => ?_) (fun g6 => ?_)
   · skip
     refine SR <| AC rfl <| NL <| run_ret1 Try.func115 rfl (TP (v := .int .u8 _) rfl) <| ⟨congrArg (Value.int .u8) (Eq.symm ?_), hst.pure⟩
     unfold restS
     first | exact if_pos (by first | omega | (simp_all <;> omega)) | exact if_neg (by first | omega | (simp_all <;> omega))
   have hrp : 0 < fm.rest.length := List.length_pos_iff.2 g2
   have hmd := Int.emod_lt_of_pos (i - (fm.fixed.length : Int)) (show (0 : Int) < fm.rest.length by omega)
   have hmn := Int.emod_nonneg (i - (fm.fixed.length : Int)) (show (fm.rest.length : Int) ≠ 0 by omega)
   refine run_skip <| SQ <| RunD.start [] hst (bs := [0, 1, 3, 0, 0, 16, 48, 112, 248, 511, 1023]) (ds := [some 37, some 38, some 39, some 40, some 41, some 42, some 43, some 44, some 45, some 46, some 4]) ⟨by kernel_rfl, by kernel_rfl, by kernel_rfl⟩ (fun tab7 => ?_)
   refine RunD.op (det _) tab7 1 (fun f' L' w' hc => Op1.fieldAddr fld160_0 (hc.old (v := .pointer (some ⟨_, _, none⟩)) rfl rfl rfl) ⟨[], ⟨rfl, rfl⟩, hc.st⟩) <| RunD.op (det _) tab7 2 (fun f' L' w' hc => Op1.fieldAddr fld80_5 (hc.det (j := 0) rfl rfl rfl rfl) ⟨[], ⟨rfl, rfl⟩, hc.st⟩) <| RunD.op (det _) tab7 3 (fun f' L' w' hc => Op1.load1 (v := str _) ty9 rfl (hc.det (j := 1) rfl rfl rfl rfl) (hc.st.cellL (List.mem_append_right _ (.head _)) rfl) ⟨[], ⟨rfl, rfl⟩, hc.st⟩) <| RunD.op (det _) tab7 4 (fun f' L' w' hc => Op1.move (v := .int .i64 _) (hc.old (v := .int .i64 _) rfl rfl rfl) ⟨[], ⟨rfl, rfl⟩, hc.st⟩) <| RunD.op (det _) tab7 5 (fun f' L' w' hc => Op1.fieldAddr fld160_0 (hc.old (v := .pointer (some ⟨_, _, none⟩)) rfl rfl rfl) ⟨[], ⟨rfl, rfl⟩, hc.st⟩) <| RunD.op (det _) tab7 6 (fun f' L' w' hc => Op1.fieldAddr fld80_5 (hc.det (j := 4) rfl rfl rfl rfl) ⟨[], ⟨rfl, rfl⟩, hc.st⟩) <| RunD.op (det _) tab7 7 (fun f' L' w' hc => Op1.load1 (v := str _) ty9 rfl (hc.det (j := 5) rfl rfl rfl rfl) (hc.st.cellL (List.mem_append_right _ (.head _)) rfl) ⟨[], ⟨rfl, rfl⟩, hc.st⟩) <| RunD.op (det _) tab7 8 (fun f' L' w' hc => Op1.lenS (rest := []) ty9 (hc.det (j := 6) rfl rfl rfl rfl) ⟨[], ⟨rfl, rfl⟩, hc.st⟩) ?_
   first | refine RunD.op (det _) tab7 9 (fun f' L' w' hc => Op1.remN (hc.det (j := 3) rfl rfl rfl rfl) (hc.det (j := 7) rfl rfl rfl rfl) (by omega) (by omega) rfl ⟨[], ⟨rfl, rfl⟩, hc.st⟩) ?_ | refine RunD.op (det _) tab7 9 (fun f' L' w' hc => Op1.rem (hc.det (j := 3) rfl rfl rfl rfl) (hc.det (j := 7) rfl rfl rfl rfl) (by omega) ⟨[], ⟨rfl, rfl⟩, hc.st⟩) ?_
   refine RunD.fin followsMixed tab7 hst rfl (fun f8 w R11 hs9 hd10 hr12 hst => ?_)
   obtain ⟨h37_, r0⟩ := hd10 0 37 rfl rfl
   obtain ⟨h38_, r1⟩ := hd10 1 38 rfl rfl
   obtain ⟨h39_, r2⟩ := hd10 2 39 rfl rfl
   obtain ⟨h40_, r3⟩ := hd10 3 40 rfl rfl
   obtain ⟨h41_, r4⟩ := hd10 4 41 rfl rfl
   obtain ⟨h42_, r5⟩ := hd10 5 42 rfl rfl
   obtain ⟨h43_, r6⟩ := hd10 6 43 rfl rfl
   obtain ⟨h44_, r7⟩ := hd10 7 44 rfl rfl
   obtain ⟨h45_, r8⟩ := hd10 8 45 rfl rfl
   simp only [show List.range 9 = [0, 1, 2, 3, 4, 5, 6, 7, 8] from rfl, List.flatMap_cons, List.flatMap_nil, List.map_cons, List.map_nil, r0, r1, r2, r3, r4, r5, r6, r7, r8, List.nil_append, List.append_nil, List.cons_append] at hst
   refine RunL.slots (sl := [(39, str _), (45, .int .i64 _)]) ⟨h39_, h45_, trivial⟩ ?_
   clear hs9 hd10 hr12 tab7
   refine CN <| Op1.indexS ty9 rfl rfl (by omega) (by omega) <| AC rfl <| NL <| run_ret1 Try.func115 rfl (TP (v := .int .u8 _) rfl) <| ⟨congrArg (Value.int .u8) (Eq.symm ?_), hst.pure⟩
   unfold restS
   first | exact if_pos (by first | omega | (simp_all <;> omega)) | exact if_neg (by first | omega | (simp_all <;> omega))
 refine OM (t := 24) rfl (congrArg Value.bool (decide_eq_false g3)) rfl <| OM (t := 24) rfl (congrArg Value.bool (decide_eq_false g3)) rfl <| OM (t := 24) rfl (congrArg Value.bool (decide_eq_false g3)) rfl <| OM (t := 24) rfl (congrArg Value.bool (decide_eq_false g3)) rfl <| OM (t := 24) rfl (congrArg Value.bool (decide_eq_false g3)) rfl <| OM (t := 24) rfl (congrArg Value.bool (decide_eq_false g3)) rfl <| OM (t := 24) rfl (congrArg Value.bool (decide_eq_false g3)) rfl <| OM (t := 24) rfl (congrArg Value.bool (decide_eq_false g3)) rfl <| OM (t := 24) rfl (congrArg Value.bool (decide_eq_false g3)) rfl <| OM (t := 24) rfl (congrArg Value.bool (decide_eq_false g3)) rfl <| TK (t := 19) rfl (congrArg Value.bool (decide_eq_false g2)) <| Op1.pickF (u := .bool _) (congrArg Value.bool (decide_eq_false g3)) rfl <| CN <| Op1.pickF (u := .bool _) (congrArg Value.bool (decide_eq_false g2)) rfl <| NL <| Run.forget [(1, .int .i64 _), (2, .pointer (some ⟨_, _, none⟩)), (36, .bool _)] ⟨rfl, rfl, rfl, trivial⟩ (fun f => ?_)
 have hrp : 0 < fm.rest.length := List.length_pos_iff.2 g2
 have hmd := Int.emod_lt_of_pos (i - (fm.fixed.length : Int)) (show (0 : Int) < fm.rest.length by omega)
 have hmn := Int.emod_nonneg (i - (fm.fixed.length : Int)) (show (fm.rest.length : Int) ≠ 0 by omega)
 refine run_cond_false (congrArg Value.bool (rfl : false = _)) <| run_skip <| SQ <| RunD.start [] hst (bs := [0, 1, 3, 0, 0, 16, 48, 112, 248, 511, 1023]) (ds := [some 37, some 38, some 39, some 40, some 41, some 42, some 43, some 44, some 45, some 46, some 4]) ⟨by kernel_rfl, by kernel_rfl, by kernel_rfl⟩ (fun tab13 => ?_)
 refine RunD.op (det _) tab13 1 (fun f' L' w' hc => Op1.fieldAddr fld160_0 (hc.old (v := .pointer (some ⟨_, _, none⟩)) rfl rfl rfl) ⟨[], ⟨rfl, rfl⟩, hc.st⟩) <| RunD.op (det _) tab13 2 (fun f' L' w' hc => Op1.fieldAddr fld80_5 (hc.det (j := 0) rfl rfl rfl rfl) ⟨[], ⟨rfl, rfl⟩, hc.st⟩) <| RunD.op (det _) tab13 3 (fun f' L' w' hc => Op1.load1 (v := str _) ty9 rfl (hc.det (j := 1) rfl rfl rfl rfl) (hc.st.cellL (List.mem_append_right _ (.head _)) rfl) ⟨[], ⟨rfl, rfl⟩, hc.st⟩) <| RunD.op (det _) tab13 4 (fun f' L' w' hc => Op1.move (v := .int .i64 _) (hc.old (v := .int .i64 _) rfl rfl rfl) ⟨[], ⟨rfl, rfl⟩, hc.st⟩) <| RunD.op (det _) tab13 5 (fun f' L' w' hc => Op1.fieldAddr fld160_0 (hc.old (v := .pointer (some ⟨_, _, none⟩)) rfl rfl rfl) ⟨[], ⟨rfl, rfl⟩, hc.st⟩) <| RunD.op (det _) tab13 6 (fun f' L' w' hc => Op1.fieldAddr fld80_5 (hc.det (j := 4) rfl rfl rfl rfl) ⟨[], ⟨rfl, rfl⟩, hc.st⟩) <| RunD.op (det _) tab13 7 (fun f' L' w' hc => Op1.load1 (v := str _) ty9 rfl (hc.det (j := 5) rfl rfl rfl rfl) (hc.st.cellL (List.mem_append_right _ (.head _)) rfl) ⟨[], ⟨rfl, rfl⟩, hc.st⟩) <| RunD.op (det _) tab13 8 (fun f' L' w' hc => Op1.lenS (rest := []) ty9 (hc.det (j := 6) rfl rfl rfl rfl) ⟨[], ⟨rfl, rfl⟩, hc.st⟩) ?_
 first | refine RunD.op (det _) tab13 9 (fun f' L' w' hc => Op1.remN (hc.det (j := 3) rfl rfl rfl rfl) (hc.det (j := 7) rfl rfl rfl rfl) (by omega) (by omega) rfl ⟨[], ⟨rfl, rfl⟩, hc.st⟩) ?_ | refine RunD.op (det _) tab13 9 (fun f' L' w' hc => Op1.rem (hc.det (j := 3) rfl rfl rfl rfl) (hc.det (j := 7) rfl rfl rfl rfl) (by omega) ⟨[], ⟨rfl, rfl⟩, hc.st⟩) ?_
 refine RunD.fin followsMixed tab13 hst rfl (fun f14 w R17 hs15 hd16 hr18 hst => ?_)
 obtain ⟨h37_, r0⟩ := hd16 0 37 rfl rfl
 obtain ⟨h38_, r1⟩ := hd16 1 38 rfl rfl
 obtain ⟨h39_, r2⟩ := hd16 2 39 rfl rfl
 obtain ⟨h40_, r3⟩ := hd16 3 40 rfl rfl
 obtain ⟨h41_, r4⟩ := hd16 4 41 rfl rfl
 obtain ⟨h42_, r5⟩ := hd16 5 42 rfl rfl
 obtain ⟨h43_, r6⟩ := hd16 6 43 rfl rfl
 obtain ⟨h44_, r7⟩ := hd16 7 44 rfl rfl
 obtain ⟨h45_, r8⟩ := hd16 8 45 rfl rfl
 simp only [show List.range 9 = [0, 1, 2, 3, 4, 5, 6, 7, 8] from rfl, List.flatMap_cons, List.flatMap_nil, List.map_cons, List.map_nil, r0, r1, r2, r3, r4, r5, r6, r7, r8, List.nil_append, List.append_nil, List.cons_append] at hst
 refine RunL.slots (sl := [(39, str _), (45, .int .i64 _)]) ⟨h39_, h45_, trivial⟩ ?_
 clear hs15 hd16 hr18 tab13
 refine CN <| Op1.indexS ty9 rfl rfl (by omega) (by omega) <| AC rfl <| NL <| run_ret1 Try.func115 rfl (TP (v := .int .u8 _) rfl) <| ⟨congrArg (Value.int .u8) (Eq.symm ?_), hst.pure⟩
 unfold restS
 first | exact if_pos (by first | omega | (simp_all <;> omega)) | exact if_neg (by first | omega | (simp_all <;> omega))
theorem R3gr_letter (fm : FormL) (hf : FOk fm) (i : Int) (h1 : i ≤ 9223372036854775807) (w : World) : Ret Try.prog 106 #[.agg #[.int .u16 fm.op, str fm.name, .bool fm.ty, .bool fm.res, str fm.fixed, str fm.rest, .int .i64 fm.most, .int .u8 fm.part], .int .i64 i] w (fun v w' => v = .int .u8 (letterS fm i) ∧ St w NoM [] [] w') := by
 refine Ret.enter (args := [.agg #[.int .u16 fm.op, str fm.name, .bool fm.ty, .bool fm.res, str fm.fixed, str fm.rest, .int .i64 fm.most, .int .u8 fm.part], .int .i64 i]) Try.func106 rfl rfl rfl ?_
 have hst := St.init w
 refine SR <| CN <| Op1.box (v := .agg #[.int .u16 _, str _, .bool _, .bool _, str _, str _, .int .i64 _, .int .u8 _]) hst rfl rfl fun w b2 hst => AC rfl <| NL <| SQ <| SR <| MI rfl <| CN <| Op1.lss rfl rfl <| NL <| run_cond_dec rfl (fun g1 => ?_) (fun g1 => ?_)
 · skip
   refine SR <| AC rfl <| NL <| run_ret1 Try.func106 rfl (TP (v := .int .u8 _) rfl) <| ⟨congrArg (Value.int .u8) (Eq.symm ?_), hst.pure⟩
   unfold letterS
   exact if_pos (by omega)
 refine run_skip <| SQ <| SR <| CN <| Op1.loadA (vs := [.int .u16 _, str _, .bool _, .bool _, str _, str _, .int .i64 _, .int .u8 _]) ty160 rfl rfl rfl (cells_of_obj (n := 8) (hst.objL (.head _)) _ rfl) <| CN <| Op1.makeFunc <| CN <| Op1.loadA (vs := [.int .u16 _, str _, .bool _, .bool _, str _, str _, .int .i64 _, .int .u8 _]) ty160 rfl rfl rfl (cells_of_obj (n := 8) (hst.objL (.head _)) _ rfl) <| CN <| Op1.makeFunc <| CN (Op1.buildSl (z0 := [.nilFunc, .nilFunc]) hst ty164 ty161 rfl rfl (by kernel_rfl) (.c (v := .func _ _ _) rfl (h := (.c (v := .func _ _ _) rfl (h := .nil)))) fun w b14 hst => ?_)
 refine CN <| Op1.lenSl (rest := []) ty164 rfl <| MI rfl <| NL <| run_block <| run_loop <| SR <| CN <| Op1.lss rfl rfl <| NL <| SQ <| run_cond_true (congrArg Value.bool (decide_eq_true (by decide))) <| run_skip <| SQ <| run_block <| SQ ?_
 refine RG <| CN <| Op1.indexSl ty164 ty161 rfl rfl (by omega) (by omega) <| CN <| Op1.load1 (v := .func _ _ _) ty161 rfl rfl (hst.cellL (.head _) rfl) <| CN <| Op1.assign (v := .func _ _ _) rfl <| NSR <| CN <| Op1.move (v := .func _ _ _) rfl <| MI rfl <| CN (Op1.callV1 (v1 := .int .i64 _) rfl rfl (CallV.funcF ent114 ((R3gr_fixed fm hf i (by omega) h1 _).mono fun v w hp => ?_)))
 obtain ⟨rfl, hp⟩ := hp
 replace hst := hst.keepc hp
 clear hp
 refine AC rfl <| NL <| Run.forget [(1, .int .i64 _), (7, .int .u8 _), (14, .slice _ _ _), (15, .int .i64 _), (16, .int .i64 _)] ⟨rfl, rfl, rfl, rfl, rfl, trivial⟩ fun f => SR <| MC rfl <| CN <| Op1.neq rfl rfl <| NL <| run_cond_dec rfl (fun g2 => ?_) (fun g2 => ?_)
 · skip
   refine SR <| MC rfl <| AC rfl <| NL <| run_ret1 Try.func106 rfl (TP (v := .int .u8 _) rfl) ?_
   exact ⟨congrArg (Value.int .u8) (letter_fix hf (by omega) g2).symm, hst.pure⟩
 refine run_skip <| run_inBlock <| RG <| CN <| Op1.addN rfl rfl rfl (wrap_i64 (by omega) (by omega)) <| MI rfl <| NL <| run_inLoop <| SR <| CN <| Op1.lss rfl rfl <| NL <| SQ <| run_cond_true (congrArg Value.bool (decide_eq_true (by decide))) <| run_skip <| SQ ?_
 refine run_block <| SR <| CN <| Op1.indexSl ty164 ty161 rfl rfl (by omega) (by omega) <| CN <| Op1.load1 (v := .func _ _ _) ty161 rfl rfl (hst.cellL (.head _) rfl) <| CN <| Op1.assign (v := .func _ _ _) rfl <| NSR <| CN <| Op1.move (v := .func _ _ _) rfl <| MI rfl <| CN (Op1.callV1 (v1 := .int .i64 _) rfl rfl (CallV.funcF ent115 ((R3gr_rest fm hf i (by omega) h1 _).mono fun v w hp => ?_)))
 obtain ⟨rfl, hp⟩ := hp
 replace hst := hst.keepc hp
 clear hp
 refine AC rfl <| NSR <| MC rfl <| CN <| Op1.neq rfl rfl <| NL <| run_cond_dec rfl (fun g3 => ?_) (fun g3 => ?_)
 · skip
   refine SR <| MC rfl <| AC rfl <| NL <| run_ret1 Try.func106 rfl (TP (v := .int .u8 _) rfl) ?_
   rw [letter_rest hf (by omega) (Classical.not_not.1 g2)]
   exact ⟨rfl, hst.pure⟩
 refine run_skip <| run_inBlock <| RG <| CN <| Op1.addN rfl rfl rfl (wrap_i64 (by omega) (by omega)) <| MI rfl <| NL <| run_inLoop <| SR <| CN <| Op1.lss rfl rfl <| NL <| SQ <| run_cond_false (congrArg Value.bool (decide_eq_false (by decide))) <| run_exit (id := 0) rfl <| SQ ?_
 refine RG <| AC rfl <| NL <| run_ret1 Try.func106 rfl (TP (v := .int .u8 _) rfl) ?_
 rw [letter_rest hf (by omega) (Classical.not_not.1 g2)]
 exact ⟨congrArg (Value.int .u8) (Classical.not_not.1 g3).symm, hst.pure⟩
theorem R3gr_Letter (op : Int) (h0 : 0 ≤ op) (i : Int) (h1 : i ≤ 9223372036854775807) (w : World) : Ret Try.prog 86 #[.int .u16 op, .int .i64 i] w (fun v w' => v = .int .u8 (letterS (refD op) i) ∧ St w NoM [] [] w') := by
 refine Ret.enter (args := [.int .u16 op, .int .i64 i]) Try.func86 rfl rfl rfl ?_
 have hst := St.init w
 refine SR <| AC rfl <| NSR <| MH rfl <| CN <| Op1.call1 (v1 := .int .u16 _) ent53 rfl rfl <| Ret.det (R3gr_Of _ (by omega) _) hst fun w hst => CN <| Op1.move (v := .tuple #[.agg #[.int .u16 _, str _, .bool _, .bool _, str _, str _, .int .i64 _, .int .u8 _], .bool _]) rfl <| CN <| Op1.extract (v := .agg #[.int .u16 _, str _, .bool _, .bool _, str _, str _, .int .i64 _, .int .u8 _]) rfl rfl <| CN <| Op1.extract (v := .bool _) rfl rfl <| CN <| Op1.alloc hst ty80 fun w b5 hst => CN (SO (v := .agg #[.int .u16 _, str _, .bool _, .bool _, str _, str _, .int .i64 _, .int .u8 _]) hst ty80 rfl rfl (.here) fun w hst => ?_)
 refine AB rfl <| NSR <| CN <| Op1.loadA (vs := [.int .u16 _, str _, .bool _, .bool _, str _, str _, .int .i64 _, .int .u8 _]) ty80 rfl rfl rfl (cells_of_obj (n := 8) (hst.objL (.head _)) _ rfl) <| CN (Op1.buildStruct ty160 stf160 (.c (v := .agg #[.int .u16 _, str _, .bool _, .bool _, str _, str _, .int .i64 _, .int .u8 _]) rfl (h := .nil)) ?_)
 refine MI rfl <| CN <| Op1.call2 (v1 := .agg #[.int .u16 _, str _, .bool _, .bool _, str _, str _, .int .i64 _, .int .u8 _]) (v2 := .int .i64 _) ent106 rfl rfl rfl <| Ret.det (R3gr_letter (refD op) (refD_fok op) i h1 _) hst fun w hst => AC rfl <| NL <| run_ret1 Try.func86 rfl (TP (v := .int .u8 _) rfl) ?_
 exact ⟨rfl, hst.pure⟩
end Go.SK
namespace Go.SK
open Go Go.Proofs
open Go.RowKit
theorem R3gr_Of2 {op : Int} {fm : FormL} {ob : Bool} (h0 : 0 ≤ op) (hfm : refD op = fm) (hob : (refS op).isSome = ob) (w : World) : Ret Try.prog 53 #[.int .u16 op] w fun v w' => v = .tuple #[.agg (formC fm).toArray, .bool ob] ∧ St w NoM [] [] w' := by
 subst hfm; subst hob; exact R3gr_Of op h0 w
theorem R3gr_Enum2 {c n : Int} {o : Option NameL} (h : namesL.find? (enN c n) = o) (h0 : 0 ≤ c) (h1 : c ≤ 255) (w : World) : Ret Try.prog 108 #[.int .u8 c, .int .u32 n] w fun v w' => v = nameV o ∧ St w NoM [] [] w' := by
 subst h; exact R3gr_Enum c n h0 h1 w
end Go.SK
namespace Go.SK
open Go Go.Proofs
theorem ent87 : Enters Try.prog 87 := ⟨Try.f87, _, Try.func87, by kernel_rfl, rfl⟩
end Go.SK
namespace Go.SK
open Go Go.Proofs
open Go.RowKit
theorem R3gr_Fits (op : Int) (h0 : 0 ≤ op) (ks : List Int) (ao : Option Addr) (cp : Nat) (w : World) (hA : (Res.rs ao ks.length 1 (ks.flatMap u8C)).holds w) (hlen : ks.length ≤ 9000000000000000000) : Ret Try.prog 90 #[.int .u16 op, .slice ao ks.length cp] w (fun v w' => v = fitsV (fitsS op ks) ∧ St w NoM [] [] w') := by
 refine Ret.enter (args := [.int .u16 op, .slice ao ks.length cp]) Try.func90 rfl rfl rfl ?_
 have hst : St w NoM [] [Res.rs ao ks.length 1 (ks.flatMap u8C)] w := St.init_D hA
 clear hA
 obtain ⟨fm, hfm⟩ : ∃ x, refD op = x := ⟨_, rfl⟩
 obtain ⟨ob, hob⟩ : ∃ x, (refS op).isSome = x := ⟨_, rfl⟩
 have hf := refD_fok op
 rw [hfm] at hf
 have hz : ob = false → fm = zeroF := fun e => by subst e; rw [← hfm]; exact refD_none hob
 obtain ⟨hop, hmost, hfx, hrs, _, _, _, _⟩ := hf
 refine SR <| AI rfl <| AB rfl <| NSR <| MH rfl <| CN <| Op1.call1 (v1 := .int .u16 _) ent53 rfl rfl <| Ret.det (R3gr_Of2 (by omega) hfm hob _) hst fun w hst => CN <| Op1.move (v := .tuple #[.agg #[.int .u16 _, str _, .bool _, .bool _, str _, str _, .int .i64 _, .int .u8 _], .bool _]) rfl <| CN <| Op1.extract (v := .agg #[.int .u16 _, str _, .bool _, .bool _, str _, str _, .int .i64 _, .int .u8 _]) rfl rfl <| CN <| Op1.extract (v := .bool _) rfl rfl <| CN <| Op1.alloc hst ty80 fun w b6 hst => CN (SO (v := .agg #[.int .u16 _, str _, .bool _, .bool _, str _, str _, .int .i64 _, .int .u8 _]) hst ty80 rfl rfl (.here) fun w hst => ?_)
 refine AB rfl <| NL <| SQ <| SR <| MB rfl <| CN <| Op1.not rfl <| NL <| run_cond_split rfl (fun g1 => ?_) (fun g1 => ?_)
 · skip
   refine SR <| AI rfl <| AB rfl <| NL <| run_ret2 Try.func90 rfl (TP (v := .int .i64 _) rfl) (TP (v := .bool _) rfl) ?_
   exact ⟨(congrArg fitsV (fits_no hob (by simpa using g1))).symm, hst.pure⟩
 refine run_skip <| SR <| CN <| Op1.loadA (vs := [.int .u16 _, str _, .bool _, .bool _, str _, str _, .int .i64 _, .int .u8 _]) ty80 rfl rfl rfl (cells_of_obj (n := 8) (hst.objL (.head _)) _ rfl) <| CN (Op1.buildStruct ty160 stf160 (.c (v := .agg #[.int .u16 _, str _, .bool _, .bool _, str _, str _, .int .i64 _, .int .u8 _]) rfl (h := .nil)) ?_)
 refine CN <| Op1.alloc hst ty160 fun w b8 hst => CN (SO (v := .agg #[.int .u16 _, str _, .bool _, .bool _, str _, str _, .int .i64 _, .int .u8 _]) hst ty160 rfl rfl (.here) fun w hst => ?_)
 refine NL <| SQ <| SR <| ML rfl <| CN <| Op1.lenSl (rest := []) ty22 rfl <| MI rfl <| NL <| run_block <| run_loop <| Run.indW [(1, .slice _ _ _), (8, .pointer (some ⟨_, _, none⟩)), (21, .slice _ _ _), (22, .int .i64 _)] ⟨rfl, rfl, rfl, rfl, trivial⟩ (fun (i : Nat) => [(23, .int .i64 (i : Int))]) (fun (i : Nat) => []) (fun (i : Nat) => i ≤ ks.length ∧ badI fm i (ks.drop i) = badI fm 0 ks) (fun (i : Nat) => ks.length - i) (0) hst ⟨Nat.zero_le _, rfl⟩ ⟨rfl, trivial⟩ ?_
 intro i f w hst hJ ih2
 refine SR <| CN <| Op1.lss rfl rfl <| NL <| SQ <| run_cond_dec rfl (fun g3 => ?_) (fun g3 => ?_)
 · skip
   refine run_skip <| SQ <| run_block <| SR <| MI rfl ?_
   obtain ⟨bs4, os5, rfl⟩ := Res.rs_some (hst.hD _ (.head _)) (by omega)
   refine CN <| Op1.indexSl ty22 ty5 rfl rfl (by omega) (by omega) <| CN <| Op1.load1 (v := .int .u8 _) ty5 rfl rfl (Res.rs_cell (hst.hD _ (.head _)) (flat_cell0 (g := u8C) (d := 0) u8C_len rfl (by omega))) <| AI rfl <| AC rfl <| NSR <| MC rfl <| CN <| Op1.eql rfl rfl <| MB rfl <| RunL.splitD (d := 30) rfl (fun g6 => ?_) (fun g6 => ?_)
   · skip
     refine OM (t := 30) rfl (congrArg Value.bool (decide_eq_true g6)) rfl <| OM (t := 30) rfl (congrArg Value.bool (decide_eq_true g6)) rfl <| OM (t := 30) rfl (congrArg Value.bool (decide_eq_true g6)) rfl <| OM (t := 30) rfl (congrArg Value.bool (decide_eq_true g6)) rfl <| OM (t := 30) rfl (congrArg Value.bool (decide_eq_true g6)) rfl <| OM (t := 30) rfl (congrArg Value.bool (decide_eq_true g6)) rfl <| CN <| Op1.pickT (u := .bool _) (congrArg Value.bool (decide_eq_true g6)) rfl <| NL <| run_cond_true (congrArg Value.bool (rfl : true = _)) <| SR <| MI rfl <| AI rfl <| AB rfl <| NL ?_
     refine run_ret2 Try.func90 rfl (TP (v := .int .i64 _) rfl) (TP (v := .bool _) rfl) ?_
     exact ⟨(congrArg fitsV ((fits_yes hob hfm (by simpa using g1)).trans (fitsF_bad (bad_hit hJ.2 (by omega) (.inl g6))))).symm, hst.pure⟩
   refine TK (t := 30) rfl (congrArg Value.bool (decide_eq_false g6)) <| Op1.loadA (vs := [.int .u16 _, str _, .bool _, .bool _, str _, str _, .int .i64 _, .int .u8 _]) ty160 rfl rfl rfl (cells_of_obj (n := 8) (hst.objL (.head _)) _ rfl) <| TK (t := 30) rfl (congrArg Value.bool (decide_eq_false g6)) <| Op1.move (v := .int .i64 _) rfl <| TK (t := 30) rfl (congrArg Value.bool (decide_eq_false g6)) (Op1.call2 (v1 := .agg #[.int .u16 _, str _, .bool _, .bool _, str _, str _, .int .i64 _, .int .u8 _]) (v2 := .int .i64 _) ent106 rfl rfl rfl ((R3gr_letter fm (by rw [← hfm]; exact refD_fok op) _ (by omega) _).mono fun v w hp => ?_))
   obtain ⟨rfl, hp⟩ := hp
   replace hst := hst.keepc hp
   clear hp
   refine TK (t := 30) rfl (congrArg Value.bool (decide_eq_false g6)) (Op1.call1 (v1 := .int .u8 _) ent87 rfl rfl ((R3gr_Kind _ _).mono fun v w hp => ?_))
   obtain ⟨rfl, hp⟩ := hp
   replace hst := hst.keepc hp
   clear hp
   refine TK (t := 30) rfl (congrArg Value.bool (decide_eq_false g6)) <| Op1.move (v := .int .u8 _) rfl <| TK (t := 30) rfl (congrArg Value.bool (decide_eq_false g6)) <| Op1.neq rfl rfl <| CN <| Op1.pickF (u := .bool _) (congrArg Value.bool (decide_eq_false g6)) rfl <| NL <| run_cond_dec rfl (fun g7 => ?_) (fun g7 => ?_)
   · skip
     refine SR <| MI rfl <| AI rfl <| AB rfl <| NL <| run_ret2 Try.func90 rfl (TP (v := .int .i64 _) rfl) (TP (v := .bool _) rfl) ?_
     exact ⟨(congrArg fitsV ((fits_yes hob hfm (by simpa using g1)).trans (fitsF_bad (bad_hit hJ.2 (by omega) (.inr g7))))).symm, hst.pure⟩
   refine run_skip <| run_inBlock <| RG <| CN <| Op1.addN rfl rfl rfl (wrap_i64 (by omega) (by omega)) <| MI rfl <| NL <| run_inLoop ?_
   exact ih2 (i + 1) _ w (by omega) hst (⟨by omega, bad_miss hJ.2 (by omega) (fun h => h.elim g6 g7)⟩) ⟨rfl, rfl, rfl, rfl, trivial⟩ ⟨(congrArg (Value.int .i64) (by omega)), trivial⟩
 refine run_exit (id := 0) rfl <| SR <| ML rfl <| CN <| Op1.lenSl (rest := []) ty22 rfl <| CN <| Op1.fieldAddr fld160_0 rfl <| CN <| Op1.fieldAddr fld80_4 rfl <| CN <| Op1.load1 (v := str _) ty9 rfl rfl (hst.cellL (.head _) rfl) <| CN <| Op1.lenS (rest := []) ty9 rfl <| CN <| Op1.subN rfl rfl rfl (wrap_i64 (by omega) (by omega)) <| AI rfl <| NL <| SQ <| SQ <| RG ?_
 refine MI rfl <| CN <| Op1.lss rfl rfl <| MB rfl <| RunL.splitD (d := 49) rfl (fun g8 => ?_) (fun g8 => ?_)
 · skip
   refine OM (t := 49) rfl (congrArg Value.bool (decide_eq_true g8)) rfl <| OM (t := 49) rfl (congrArg Value.bool (decide_eq_true g8)) rfl <| OM (t := 49) rfl (congrArg Value.bool (decide_eq_true g8)) rfl <| OM (t := 49) rfl (congrArg Value.bool (decide_eq_true g8)) rfl <| OM (t := 49) rfl (congrArg Value.bool (decide_eq_true g8)) rfl <| RunL.omitU (t := 54) rfl rfl <| RunL.omitU (t := 54) rfl rfl <| RunL.omitU (t := 54) rfl rfl <| RunL.omitU (t := 54) rfl rfl <| RunL.omitU (t := 54) rfl rfl <| RunL.omitU (t := 54) rfl rfl <| RunL.omitU (t := 54) rfl rfl <| OM (t := 49) rfl (congrArg Value.bool (decide_eq_true g8)) rfl <| CN <| Op1.pickT (u := .bool _) (congrArg Value.bool (decide_eq_true g8)) rfl <| NL ?_
   refine run_cond_true (congrArg Value.bool (rfl : true = _)) <| SR <| ML rfl <| CN <| Op1.lenSl (rest := []) ty22 rfl <| AI rfl <| AB rfl <| NL <| run_ret2 Try.func90 rfl (TP (v := .int .i64 _) rfl) (TP (v := .bool _) rfl) ?_
   exact ⟨(congrArg fitsV ((fits_yes hob hfm (by simpa using g1)).trans (fitsF_off (bad_end hJ.2 (by omega)) (by simp only [offR]; exact .inl (by omega))))).symm, hst.pure⟩
 refine TK (t := 49) rfl (congrArg Value.bool (decide_eq_false g8)) <| Op1.fieldAddr fld160_0 rfl <| TK (t := 49) rfl (congrArg Value.bool (decide_eq_false g8)) <| Op1.fieldAddr fld80_5 rfl <| TK (t := 49) rfl (congrArg Value.bool (decide_eq_false g8)) <| Op1.load1 (v := str _) ty9 rfl rfl (hst.cellL (.head _) rfl) <| TK (t := 49) rfl (congrArg Value.bool (decide_eq_false g8)) <| Op1.neqS rfl rfl <| TK (t := 49) rfl (congrArg Value.bool (decide_eq_false g8)) <| Op1.move (v := .bool _) rfl <| RunL.splitD (d := 54) rfl (fun g9 => ?_) (fun g9 => ?_)
 · skip
   have hrp : 0 < fm.rest.length := List.length_pos_iff.2 g9
   refine TK (t := 54) rfl (congrArg Value.bool (decide_eq_true g9)) <| Op1.move (v := .int .i64 _) rfl <| TK (t := 54) rfl (congrArg Value.bool (decide_eq_true g9)) <| Op1.fieldAddr fld160_0 rfl <| TK (t := 54) rfl (congrArg Value.bool (decide_eq_true g9)) <| Op1.fieldAddr fld80_5 rfl <| TK (t := 54) rfl (congrArg Value.bool (decide_eq_true g9)) <| Op1.load1 (v := str _) ty9 rfl rfl (hst.cellL (.head _) rfl) <| TK (t := 54) rfl (congrArg Value.bool (decide_eq_true g9)) (Op1.lenS (rest := []) ty9 rfl ?_)
   first | refine TK (t := 54) rfl (congrArg Value.bool (decide_eq_true g9)) (Op1.remN rfl rfl (by omega) (by omega) rfl ?_) | refine TK (t := 54) rfl (congrArg Value.bool (decide_eq_true g9)) (Op1.rem rfl rfl (by omega) ?_)
   refine TK (t := 54) rfl (congrArg Value.bool (decide_eq_true g9)) <| Op1.neq rfl rfl <| TK (t := 49) rfl (congrArg Value.bool (decide_eq_false g8)) <| Op1.pickT (u := .bool _) (congrArg Value.bool (decide_eq_true g9)) rfl <| CN <| Op1.pickF (u := .bool _) (congrArg Value.bool (decide_eq_false g8)) rfl <| NL <| Run.forget [(1, .slice _ _ _), (63, .bool _)] ⟨rfl, rfl, trivial⟩ fun f => run_cond_dec rfl (fun g10 => ?_) (fun g10 => ?_)
   · skip
     refine SR <| ML rfl <| CN <| Op1.lenSl (rest := []) ty22 rfl <| AI rfl <| AB rfl <| NL <| run_ret2 Try.func90 rfl (TP (v := .int .i64 _) rfl) (TP (v := .bool _) rfl) ?_
     exact ⟨(congrArg fitsV ((fits_yes hob hfm (by simpa using g1)).trans (fitsF_off (bad_end hJ.2 (by omega)) (by simp only [offR]; exact .inr ⟨g9, g10⟩)))).symm, hst.pure⟩
   refine run_skip <| SR <| AI rfl <| AB rfl <| NL <| run_ret2 Try.func90 rfl (TP (v := .int .i64 _) rfl) (TP (v := .bool _) rfl) ?_
   exact ⟨(congrArg fitsV ((fits_yes hob hfm (by simpa using g1)).trans (fitsF_on (bad_end hJ.2 (by omega)) (by simp only [offR]; exact fun h => h.elim (by omega) (fun h => g10 h.2))))).symm, hst.pure⟩
 refine OM (t := 54) rfl (congrArg Value.bool (decide_eq_false g9)) rfl <| OM (t := 54) rfl (congrArg Value.bool (decide_eq_false g9)) rfl <| OM (t := 54) rfl (congrArg Value.bool (decide_eq_false g9)) rfl <| OM (t := 54) rfl (congrArg Value.bool (decide_eq_false g9)) rfl <| OM (t := 54) rfl (congrArg Value.bool (decide_eq_false g9)) rfl <| OM (t := 54) rfl (congrArg Value.bool (decide_eq_false g9)) rfl <| OM (t := 54) rfl (congrArg Value.bool (decide_eq_false g9)) rfl <| TK (t := 49) rfl (congrArg Value.bool (decide_eq_false g8)) <| Op1.pickF (u := .bool _) (congrArg Value.bool (decide_eq_false g9)) rfl <| CN <| Op1.pickF (u := .bool _) (congrArg Value.bool (decide_eq_false g8)) rfl <| NL <| Run.forget [(1, .slice _ _ _), (63, .bool _)] ⟨rfl, rfl, trivial⟩ fun f => run_cond_false (congrArg Value.bool (rfl : false = _)) <| run_skip <| SQ <| RG ?_
 refine AI rfl <| AB rfl <| NL <| run_ret2 Try.func90 rfl (TP (v := .int .i64 _) rfl) (TP (v := .bool _) rfl) ?_
 exact ⟨(congrArg fitsV ((fits_yes hob hfm (by simpa using g1)).trans (fitsF_on (bad_end hJ.2 (by omega)) (by simp only [offR]; exact fun h => h.elim (by omega) (fun h => g9 h.1))))).symm, hst.pure⟩
end Go.SK
namespace Go.SK
open Go Go.Proofs
theorem fld48_0 : FldF Try.prog 48 0 0 := FldF.of (n := 0) (by kernel_rfl)
theorem fld48_1 : FldF Try.prog 48 1 1 := FldF.of (n := 0) (by kernel_rfl)
theorem fld48_2 : FldF Try.prog 48 2 2 := FldF.of (n := 0) (by kernel_rfl)
theorem fld48_3 : FldF Try.prog 48 3 3 := FldF.of (n := 0) (by kernel_rfl)
theorem ty46 : TyF Try.prog 46 (.slice 71) 1 24 [.slice none 0 0] := TyF.of (by kernel_rfl) (by kernel_rfl)
theorem ty71 : TyF Try.prog 71 (.struct (fieldsOf Try.prog 71)) 3 24 [.int .u8 0, .int .u32 0, str []] := TyF.of (by kernel_rfl) (by kernel_rfl)
theorem ty24 : TyF Try.prog 24 (.slice 48) 1 24 [.slice none 0 0] := TyF.of (by kernel_rfl) (by kernel_rfl)
theorem ty48 : TyF Try.prog 48 (.struct (fieldsOf Try.prog 48)) 4 40 [.int .u16 0, .int .u32 0, .int .u32 0, .slice none 0 0] := TyF.of (by kernel_rfl) (by kernel_rfl)
theorem fld26_0 : FldF Try.prog 26 0 0 := FldF.of (n := 0) (by kernel_rfl)
theorem fld26_1 : FldF Try.prog 26 1 1 := FldF.of (n := 0) (by kernel_rfl)
theorem fld26_2 : FldF Try.prog 26 2 2 := FldF.of (n := 0) (by kernel_rfl)
theorem ent27 : Enters Try.prog 27 := ⟨Try.f27, _, Try.func27, by kernel_rfl, rfl⟩
end Go.SK
namespace Go.SK
open Go Go.Proofs
open Go.RowKit
theorem R3md_Inst (p q : InstP) (w : World) (hA : (Res.rargs p).holds w) (hB : (Res.rargs q).holds w) (hl : p.args.length ≤ 9000000000000000000) : Ret Try.prog 27 #[.agg #[.int .u16 p.op, .int .u32 p.ty, .int .u32 p.res, .slice p.ao p.args.length p.cap], .agg #[.int .u16 q.op, .int .u32 q.ty, .int .u32 q.res, .slice q.ao q.args.length q.cap]] w (fun v w' => v = .bool (decide (p.L = q.L)) ∧ St w NoM [] [] w') := by
 refine Ret.enter (args := [.agg #[.int .u16 p.op, .int .u32 p.ty, .int .u32 p.res, .slice p.ao p.args.length p.cap], .agg #[.int .u16 q.op, .int .u32 q.ty, .int .u32 q.res, .slice q.ao q.args.length q.cap]]) Try.func27 rfl rfl rfl ?_
 have hst : St w NoM [] [Res.rargs p, Res.rargs q] w := St.init_Ds (fun d hd => by cases hd with | head => exact hA | tail _ hd => cases hd with | head => exact hB | tail _ h => cases h)
 clear hA hB
 refine SR <| CN <| Op1.box (v := .agg #[.int .u16 _, .int .u32 _, .int .u32 _, .slice _ _ _]) hst rfl rfl fun w b2 hst => CN <| Op1.box (v := .agg #[.int .u16 _, .int .u32 _, .int .u32 _, .slice _ _ _]) hst rfl rfl fun w b3 hst => AB rfl <| NL <| SQ <| SR <| CN <| Op1.fieldAddr fld48_0 rfl <| CN <| Op1.load1 (v := .int .u16 _) ty42 rfl rfl (hst.cellL (.tail _ (.head _)) rfl) <| CN <| Op1.fieldAddr fld48_0 rfl <| CN <| Op1.load1 (v := .int .u16 _) ty42 rfl rfl (hst.cellL (.head _) rfl) <| CN <| Op1.neq rfl rfl <| MB rfl ?_
 refine RunL.splitD (d := 11) rfl (fun g1 => ?_) (fun g1 => ?_)
 · skip
   refine OM (t := 11) rfl (congrArg Value.bool (decide_eq_true g1)) rfl <| OM (t := 11) rfl (congrArg Value.bool (decide_eq_true g1)) rfl <| OM (t := 11) rfl (congrArg Value.bool (decide_eq_true g1)) rfl <| OM (t := 11) rfl (congrArg Value.bool (decide_eq_true g1)) rfl <| OM (t := 11) rfl (congrArg Value.bool (decide_eq_true g1)) rfl <| CN <| Op1.pickT (u := .bool _) (congrArg Value.bool (decide_eq_true g1)) rfl <| MB rfl <| OM (t := 18) rfl (congrArg Value.bool (rfl : true = _)) rfl <| OM (t := 18) rfl (congrArg Value.bool (rfl : true = _)) rfl <| OM (t := 18) rfl (congrArg Value.bool (rfl : true = _)) rfl <| OM (t := 18) rfl (congrArg Value.bool (rfl : true = _)) rfl <| OM (t := 18) rfl (congrArg Value.bool (rfl : true = _)) rfl <| CN <| Op1.pickT (u := .bool _) (congrArg Value.bool (rfl : true = _)) rfl <| MB rfl <| OM (t := 25) rfl (congrArg Value.bool (rfl : true = _)) rfl ?_
   refine OM (t := 25) rfl (congrArg Value.bool (rfl : true = _)) rfl <| OM (t := 25) rfl (congrArg Value.bool (rfl : true = _)) rfl <| OM (t := 25) rfl (congrArg Value.bool (rfl : true = _)) rfl <| OM (t := 25) rfl (congrArg Value.bool (rfl : true = _)) rfl <| OM (t := 25) rfl (congrArg Value.bool (rfl : true = _)) rfl <| OM (t := 25) rfl (congrArg Value.bool (rfl : true = _)) rfl <| CN <| Op1.pickT (u := .bool _) (congrArg Value.bool (rfl : true = _)) rfl <| NL <| run_cond_true (congrArg Value.bool (rfl : true = _)) <| SR <| AB rfl <| NL <| run_ret1 Try.func27 rfl (TP (v := .bool _) rfl) ?_
   exact ⟨congrArg Value.bool (decide_eq_false (fun h => by obtain ⟨h1, h2, h3, h4⟩ := InstP.L_eq.1 h; exact g1 h1)).symm, hst.pure⟩
 refine TK (t := 11) rfl (congrArg Value.bool (decide_eq_false g1)) <| Op1.fieldAddr fld48_1 rfl <| TK (t := 11) rfl (congrArg Value.bool (decide_eq_false g1)) <| Op1.load1 (v := .int .u32 _) ty23 rfl rfl (hst.cellL (.tail _ (.head _)) rfl) <| TK (t := 11) rfl (congrArg Value.bool (decide_eq_false g1)) <| Op1.fieldAddr fld48_1 rfl <| TK (t := 11) rfl (congrArg Value.bool (decide_eq_false g1)) <| Op1.load1 (v := .int .u32 _) ty23 rfl rfl (hst.cellL (.head _) rfl) <| TK (t := 11) rfl (congrArg Value.bool (decide_eq_false g1)) <| Op1.neq rfl rfl <| CN <| Op1.pickF (u := .bool _) (congrArg Value.bool (decide_eq_false g1)) rfl <| MB rfl <| RunL.splitD (d := 18) rfl (fun g2 => ?_) (fun g2 => ?_)
 · skip
   refine OM (t := 18) rfl (congrArg Value.bool (decide_eq_true g2)) rfl <| OM (t := 18) rfl (congrArg Value.bool (decide_eq_true g2)) rfl <| OM (t := 18) rfl (congrArg Value.bool (decide_eq_true g2)) rfl <| OM (t := 18) rfl (congrArg Value.bool (decide_eq_true g2)) rfl <| OM (t := 18) rfl (congrArg Value.bool (decide_eq_true g2)) rfl <| CN <| Op1.pickT (u := .bool _) (congrArg Value.bool (decide_eq_true g2)) rfl <| MB rfl <| OM (t := 25) rfl (congrArg Value.bool (rfl : true = _)) rfl <| OM (t := 25) rfl (congrArg Value.bool (rfl : true = _)) rfl <| OM (t := 25) rfl (congrArg Value.bool (rfl : true = _)) rfl <| OM (t := 25) rfl (congrArg Value.bool (rfl : true = _)) rfl <| OM (t := 25) rfl (congrArg Value.bool (rfl : true = _)) rfl <| OM (t := 25) rfl (congrArg Value.bool (rfl : true = _)) rfl <| OM (t := 25) rfl (congrArg Value.bool (rfl : true = _)) rfl <| CN (Op1.pickT (u := .bool _) (congrArg Value.bool (rfl : true = _)) rfl ?_)
   refine NL <| Run.forget [(2, .pointer (some ⟨_, _, none⟩)), (3, .pointer (some ⟨_, _, none⟩)), (33, .bool _)] ⟨rfl, rfl, rfl, trivial⟩ fun f => run_cond_true (congrArg Value.bool (rfl : true = _)) <| SR <| AB rfl <| NL <| run_ret1 Try.func27 rfl (TP (v := .bool _) rfl) ?_
   exact ⟨congrArg Value.bool (decide_eq_false (fun h => by obtain ⟨h1, h2, h3, h4⟩ := InstP.L_eq.1 h; exact g2 h2)).symm, hst.pure⟩
 refine TK (t := 18) rfl (congrArg Value.bool (decide_eq_false g2)) <| Op1.fieldAddr fld48_2 rfl <| TK (t := 18) rfl (congrArg Value.bool (decide_eq_false g2)) <| Op1.load1 (v := .int .u32 _) ty23 rfl rfl (hst.cellL (.tail _ (.head _)) rfl) <| TK (t := 18) rfl (congrArg Value.bool (decide_eq_false g2)) <| Op1.fieldAddr fld48_2 rfl <| TK (t := 18) rfl (congrArg Value.bool (decide_eq_false g2)) <| Op1.load1 (v := .int .u32 _) ty23 rfl rfl (hst.cellL (.head _) rfl) <| TK (t := 18) rfl (congrArg Value.bool (decide_eq_false g2)) <| Op1.neq rfl rfl <| CN <| Op1.pickF (u := .bool _) (congrArg Value.bool (decide_eq_false g2)) rfl <| MB rfl <| RunL.splitD (d := 25) rfl (fun g3 => ?_) (fun g3 => ?_)
 · skip
   refine OM (t := 25) rfl (congrArg Value.bool (decide_eq_true g3)) rfl <| OM (t := 25) rfl (congrArg Value.bool (decide_eq_true g3)) rfl <| OM (t := 25) rfl (congrArg Value.bool (decide_eq_true g3)) rfl <| OM (t := 25) rfl (congrArg Value.bool (decide_eq_true g3)) rfl <| OM (t := 25) rfl (congrArg Value.bool (decide_eq_true g3)) rfl <| OM (t := 25) rfl (congrArg Value.bool (decide_eq_true g3)) rfl <| OM (t := 25) rfl (congrArg Value.bool (decide_eq_true g3)) rfl <| CN <| Op1.pickT (u := .bool _) (congrArg Value.bool (decide_eq_true g3)) rfl <| NL <| Run.forget [(2, .pointer (some ⟨_, _, none⟩)), (3, .pointer (some ⟨_, _, none⟩)), (33, .bool _)] ⟨rfl, rfl, rfl, trivial⟩ fun f => run_cond_true (congrArg Value.bool (rfl : true = _)) <| SR <| AB rfl <| NL ?_
   refine run_ret1 Try.func27 rfl (TP (v := .bool _) rfl) ?_
   exact ⟨congrArg Value.bool (decide_eq_false (fun h => by obtain ⟨h1, h2, h3, h4⟩ := InstP.L_eq.1 h; exact g3 h3)).symm, hst.pure⟩
 refine TK (t := 25) rfl (congrArg Value.bool (decide_eq_false g3)) <| Op1.fieldAddr fld48_3 rfl <| TK (t := 25) rfl (congrArg Value.bool (decide_eq_false g3)) <| Op1.load1 (v := .slice _ _ _) ty46 rfl rfl (hst.cellL (.tail _ (.head _)) rfl) <| TK (t := 25) rfl (congrArg Value.bool (decide_eq_false g3)) <| Op1.lenSl (rest := []) ty46 rfl <| TK (t := 25) rfl (congrArg Value.bool (decide_eq_false g3)) <| Op1.fieldAddr fld48_3 rfl <| TK (t := 25) rfl (congrArg Value.bool (decide_eq_false g3)) <| Op1.load1 (v := .slice _ _ _) ty46 rfl rfl (hst.cellL (.head _) rfl) <| TK (t := 25) rfl (congrArg Value.bool (decide_eq_false g3)) <| Op1.lenSl (rest := []) ty46 rfl <| TK (t := 25) rfl (congrArg Value.bool (decide_eq_false g3)) <| Op1.neq rfl rfl <| CN <| Op1.pickF (u := .bool _) (congrArg Value.bool (decide_eq_false g3)) rfl <| NL <| Run.forget [(2, .pointer (some ⟨_, _, none⟩)), (3, .pointer (some ⟨_, _, none⟩)), (33, .bool _)] ⟨rfl, rfl, rfl, trivial⟩ fun f => run_cond_dec rfl (fun g4 => ?_) (fun g4 => ?_)
 · skip
   refine SR <| AB rfl <| NL <| run_ret1 Try.func27 rfl (TP (v := .bool _) rfl) ?_
   exact ⟨congrArg Value.bool (decide_eq_false (fun h => by obtain ⟨h1, h2, h3, h4⟩ := InstP.L_eq.1 h; have := congrArg List.length h4; omega)).symm, hst.pure⟩
 refine run_skip <| SQ <| SR <| AI rfl <| NL <| run_block <| run_loop <| Run.indW [(2, .pointer (some ⟨_, _, none⟩)), (3, .pointer (some ⟨_, _, none⟩))] ⟨rfl, rfl, trivial⟩ (fun (i : Nat) => [(5, .int .i64 (i : Int))]) (fun (i : Nat) => []) (fun (i : Nat) => i ≤ p.args.length ∧ ∀ j, j < i → p.args.getD j zeroA = q.args.getD j zeroA) (fun (i : Nat) => p.args.length - i) (0) hst ⟨Nat.zero_le _, fun j hj => absurd hj (by omega)⟩ ⟨rfl, trivial⟩ ?_
 intro i f w hst hJ ih5
 refine SQ <| SR <| MI rfl <| CN <| Op1.fieldAddr fld48_3 rfl <| CN <| Op1.load1 (v := .slice _ _ _) ty46 rfl rfl (hst.cellL (.tail _ (.head _)) rfl) <| CN <| Op1.lenSl (rest := []) ty46 rfl <| CN <| Op1.lss rfl rfl <| NL <| run_cond_dec rfl (fun g6 => ?_) (fun g6 => ?_)
 · skip
   refine run_skip <| SQ <| run_block <| SQ <| RunD.start [] hst (bs := [0, 1, 0, 7, 15, 0, 32, 0, 224, 480, 1023]) (ds := [some 41, some 42, some 43, some 44, some 45, some 46, some 47, some 48, some 49, some 50, some 51]) ⟨by kernel_rfl, by kernel_rfl, by kernel_rfl⟩ (fun tab7 => ?_)
   refine RunD.op (det _) tab7 1 (fun f' L' w' hc => Op1.fieldAddr fld48_3 (hc.old (v := .pointer (some ⟨_, _, none⟩)) rfl rfl rfl) ⟨[], ⟨rfl, rfl⟩, hc.st⟩) <| RunD.op (det _) tab7 2 (fun f' L' w' hc => Op1.load1 (v := .slice _ _ _) ty46 rfl (hc.det (j := 0) rfl rfl rfl rfl) (hc.st.cellL (List.mem_append_right _ (.tail _ (.head _))) rfl) ⟨[], ⟨rfl, rfl⟩, hc.st⟩) <| RunD.op (det _) tab7 3 (fun f' L' w' hc => Op1.move (v := .int .i64 _) (hc.old (v := .int .i64 _) rfl rfl rfl) ⟨[], ⟨rfl, rfl⟩, hc.st⟩) <| RunD.op (det _) tab7 4 (fun f' L' w' hc => Op1.indexRs ty46 ty71 (hc.st.hD _ (.head _)) (hc.det (j := 1) rfl rfl rfl rfl) (hc.det (j := 2) rfl rfl rfl rfl) (by omega) (by omega) ⟨[], ⟨rfl, rfl⟩, hc.st⟩) <| RunD.op (det _) tab7 5 (fun f' L' w' hc => Op1.loadA (vs := [.int .u8 _, .int .u32 _, str _]) ty71 rfl (hc.det (j := 3) rfl rfl rfl rfl) rfl (Res.rs2_cells (m := 3) (hc.st.hD _ (.head _)) _ (flat_seg (g := argC) (d := zeroA) argC_len _ _ (by omega))) ⟨[], ⟨rfl, rfl⟩, hc.st⟩) <| RunD.op (det _) tab7 6 (fun f' L' w' hc => Op1.fieldAddr fld48_3 (hc.old (v := .pointer (some ⟨_, _, none⟩)) rfl rfl rfl) ⟨[], ⟨rfl, rfl⟩, hc.st⟩) <| RunD.op (det _) tab7 7 (fun f' L' w' hc => Op1.load1 (v := .slice _ _ _) ty46 rfl (hc.det (j := 5) rfl rfl rfl rfl) (hc.st.cellL (List.mem_append_right _ (.head _)) rfl) ⟨[], ⟨rfl, rfl⟩, hc.st⟩) <| RunD.op (det _) tab7 8 (fun f' L' w' hc => Op1.move (v := .int .i64 _) (hc.old (v := .int .i64 _) rfl rfl rfl) ⟨[], ⟨rfl, rfl⟩, hc.st⟩) <| RunD.op (det _) tab7 9 (fun f' L' w' hc => Op1.indexRs ty46 ty71 (hc.st.hD _ (.tail _ (.head _))) (hc.det (j := 6) rfl rfl rfl rfl) (hc.det (j := 7) rfl rfl rfl rfl) (by omega) (by omega) ⟨[], ⟨rfl, rfl⟩, hc.st⟩) <| RunD.op (det _) tab7 10 (fun f' L' w' hc => Op1.loadA (vs := [.int .u8 _, .int .u32 _, str _]) ty71 rfl (hc.det (j := 8) rfl rfl rfl rfl) rfl (Res.rs2_cells (m := 3) (hc.st.hD _ (.tail _ (.head _))) _ (flat_seg (g := argC) (d := zeroA) argC_len _ _ (by omega))) ⟨[], ⟨rfl, rfl⟩, hc.st⟩) <| RunD.fin followsMixed tab7 hst rfl (fun f8 w R11 hs9 hd10 hr12 hst => ?_)
   obtain ⟨h41_, r0⟩ := hd10 0 41 rfl rfl
   obtain ⟨h42_, r1⟩ := hd10 1 42 rfl rfl
   obtain ⟨h43_, r2⟩ := hd10 2 43 rfl rfl
   obtain ⟨h44_, r3⟩ := hd10 3 44 rfl rfl
   obtain ⟨h45_, r4⟩ := hd10 4 45 rfl rfl
   obtain ⟨h46_, r5⟩ := hd10 5 46 rfl rfl
   obtain ⟨h47_, r6⟩ := hd10 6 47 rfl rfl
   obtain ⟨h48_, r7⟩ := hd10 7 48 rfl rfl
   obtain ⟨h49_, r8⟩ := hd10 8 49 rfl rfl
   obtain ⟨h50_, r9⟩ := hd10 9 50 rfl rfl
   simp only [show List.range 10 = [0, 1, 2, 3, 4, 5, 6, 7, 8, 9] from rfl, List.flatMap_cons, List.flatMap_nil, List.map_cons, List.map_nil, r0, r1, r2, r3, r4, r5, r6, r7, r8, r9, List.nil_append, List.append_nil, List.cons_append] at hst
   refine RunL.slots (sl := [(2, .pointer (some ⟨_, _, none⟩)), (3, .pointer (some ⟨_, _, none⟩)), (5, .int .i64 _), (45, .agg #[.int .u8 _, .int .u32 _, str _]), (50, .agg #[.int .u8 _, .int .u32 _, str _])]) ⟨(hs9 2 rfl).trans rfl, (hs9 3 rfl).trans rfl, (hs9 5 rfl).trans rfl, h45_, h50_, trivial⟩ ?_
   clear hs9 hd10 hr12 tab7
   refine CN <| Op1.neqA (xs := [.int .u8 _, .int .u32 _, str _]) (ys := [.int .u8 _, .int .u32 _, str _]) rfl rfl (by kernel_rfl) (EqOk.struct Try.underlying71 (by kernel_rfl) (.cons (by decide) (PartOk.one ty5 rfl rfl) (PartOk.one ty5 rfl rfl) (EqOk.int ty5) (.cons (by decide) (PartOk.one ty23 rfl rfl) (PartOk.one ty23 rfl rfl) (EqOk.int ty23) (.cons (by decide) (PartOk.one ty9 rfl rfl) (PartOk.one ty9 rfl rfl) (EqOk.str ty9) .nil)))) <| NL <| run_cond_split rfl (fun g13 => ?_) (fun g13 => ?_)
   · skip
     refine SR <| AB rfl <| NL <| run_ret1 Try.func27 rfl (TP (v := .bool _) rfl) ?_
     exact ⟨congrArg Value.bool (decide_eq_false (fun h => by obtain ⟨h1, h2, h3, h4⟩ := InstP.L_eq.1 h; have hg := g13; rw [arg_eq, h4] at hg; simp at hg)).symm, hst.pure⟩
   refine run_skip <| run_inBlock <| RG <| MI rfl <| CN <| Op1.addN rfl rfl rfl (wrap_i64 (by omega) (by omega)) <| AI rfl <| NL <| run_inLoop ?_
   exact ih5 (i + 1) _ w (by omega) hst (⟨by omega, step_all hJ.2 (by have hg := g13; rw [arg_eq] at hg; simpa using hg)⟩) ⟨rfl, rfl, trivial⟩ ⟨(congrArg (Value.int .i64) (by omega)), trivial⟩
 refine run_exit (id := 0) rfl <| SR <| AB rfl <| NL <| run_ret1 Try.func27 rfl (TP (v := .bool _) rfl) ?_
 exact ⟨congrArg Value.bool (decide_eq_true (InstP.L_eq.2 ⟨Classical.not_not.1 g1, Classical.not_not.1 g2, Classical.not_not.1 g3, list_ext_getD2 zeroA (by omega) (fun j hj => hJ.2 j (by omega))⟩)).symm, hst.pure⟩
theorem R3md_Module (ga ba gb bb : Int) (l m : List InstP) (ao bo : Option Addr) (cp cq : Nat) (w : World) (hA : (Res.rmod ao l).holds w) (hB : (Res.rmod bo m).holds w) (hl : l.length ≤ 9000000000000000000) (hla : ∀ i ∈ l, i.args.length ≤ 9000000000000000000) : Ret Try.prog 16 #[.agg #[.int .u32 ga, .int .u32 ba, .slice ao l.length cp], .agg #[.int .u32 gb, .int .u32 bb, .slice bo m.length cq]] w (fun v w' => v = .bool (sameM ga ba l gb bb m) ∧ St w NoM [] [] w') := by
 refine Ret.enter (args := [.agg #[.int .u32 ga, .int .u32 ba, .slice ao l.length cp], .agg #[.int .u32 gb, .int .u32 bb, .slice bo m.length cq]]) Try.func16 rfl rfl rfl ?_
 have hst : St w NoM [] [Res.rmod ao l, Res.rmod bo m] w := St.init_Ds (fun d hd => by cases hd with | head => exact hA | tail _ hd => cases hd with | head => exact hB | tail _ h => cases h)
 clear hA hB
 refine SR <| CN <| Op1.box (v := .agg #[.int .u32 _, .int .u32 _, .slice _ _ _]) hst rfl rfl fun w b2 hst => CN <| Op1.box (v := .agg #[.int .u32 _, .int .u32 _, .slice _ _ _]) hst rfl rfl fun w b3 hst => AB rfl <| NL <| SQ <| SR <| CN <| Op1.fieldAddr fld26_0 rfl <| CN <| Op1.load1 (v := .int .u32 _) ty23 rfl rfl (hst.cellL (.tail _ (.head _)) rfl) <| CN <| Op1.fieldAddr fld26_0 rfl <| CN <| Op1.load1 (v := .int .u32 _) ty23 rfl rfl (hst.cellL (.head _) rfl) <| CN <| Op1.neq rfl rfl <| MB rfl ?_
 refine RunL.splitD (d := 11) rfl (fun g1 => ?_) (fun g1 => ?_)
 · skip
   refine OM (t := 11) rfl (congrArg Value.bool (decide_eq_true g1)) rfl <| OM (t := 11) rfl (congrArg Value.bool (decide_eq_true g1)) rfl <| OM (t := 11) rfl (congrArg Value.bool (decide_eq_true g1)) rfl <| OM (t := 11) rfl (congrArg Value.bool (decide_eq_true g1)) rfl <| OM (t := 11) rfl (congrArg Value.bool (decide_eq_true g1)) rfl <| CN <| Op1.pickT (u := .bool _) (congrArg Value.bool (decide_eq_true g1)) rfl <| MB rfl <| OM (t := 18) rfl (congrArg Value.bool (rfl : true = _)) rfl <| OM (t := 18) rfl (congrArg Value.bool (rfl : true = _)) rfl <| OM (t := 18) rfl (congrArg Value.bool (rfl : true = _)) rfl <| OM (t := 18) rfl (congrArg Value.bool (rfl : true = _)) rfl <| OM (t := 18) rfl (congrArg Value.bool (rfl : true = _)) rfl <| OM (t := 18) rfl (congrArg Value.bool (rfl : true = _)) rfl <| OM (t := 18) rfl (congrArg Value.bool (rfl : true = _)) rfl <| CN (Op1.pickT (u := .bool _) (congrArg Value.bool (rfl : true = _)) rfl ?_)
   refine NL <| run_cond_true (congrArg Value.bool (rfl : true = _)) <| SR <| AB rfl <| NL <| run_ret1 Try.func16 rfl (TP (v := .bool _) rfl) ?_
   exact ⟨congrArg Value.bool (decide_eq_false (fun h => g1 h.1)).symm, hst.pure⟩
 refine TK (t := 11) rfl (congrArg Value.bool (decide_eq_false g1)) <| Op1.fieldAddr fld26_1 rfl <| TK (t := 11) rfl (congrArg Value.bool (decide_eq_false g1)) <| Op1.load1 (v := .int .u32 _) ty23 rfl rfl (hst.cellL (.tail _ (.head _)) rfl) <| TK (t := 11) rfl (congrArg Value.bool (decide_eq_false g1)) <| Op1.fieldAddr fld26_1 rfl <| TK (t := 11) rfl (congrArg Value.bool (decide_eq_false g1)) <| Op1.load1 (v := .int .u32 _) ty23 rfl rfl (hst.cellL (.head _) rfl) <| TK (t := 11) rfl (congrArg Value.bool (decide_eq_false g1)) <| Op1.neq rfl rfl <| CN <| Op1.pickF (u := .bool _) (congrArg Value.bool (decide_eq_false g1)) rfl <| MB rfl <| RunL.splitD (d := 18) rfl (fun g2 => ?_) (fun g2 => ?_)
 · skip
   refine OM (t := 18) rfl (congrArg Value.bool (decide_eq_true g2)) rfl <| OM (t := 18) rfl (congrArg Value.bool (decide_eq_true g2)) rfl <| OM (t := 18) rfl (congrArg Value.bool (decide_eq_true g2)) rfl <| OM (t := 18) rfl (congrArg Value.bool (decide_eq_true g2)) rfl <| OM (t := 18) rfl (congrArg Value.bool (decide_eq_true g2)) rfl <| OM (t := 18) rfl (congrArg Value.bool (decide_eq_true g2)) rfl <| OM (t := 18) rfl (congrArg Value.bool (decide_eq_true g2)) rfl <| CN <| Op1.pickT (u := .bool _) (congrArg Value.bool (decide_eq_true g2)) rfl <| NL <| run_cond_true (congrArg Value.bool (rfl : true = _)) <| SR <| AB rfl <| NL <| run_ret1 Try.func16 rfl (TP (v := .bool _) rfl) ?_
   exact ⟨congrArg Value.bool (decide_eq_false (fun h => g2 h.2.1)).symm, hst.pure⟩
 refine TK (t := 18) rfl (congrArg Value.bool (decide_eq_false g2)) <| Op1.fieldAddr fld26_2 rfl <| TK (t := 18) rfl (congrArg Value.bool (decide_eq_false g2)) <| Op1.load1 (v := .slice _ _ _) ty24 rfl rfl (hst.cellL (.tail _ (.head _)) rfl) <| TK (t := 18) rfl (congrArg Value.bool (decide_eq_false g2)) <| Op1.lenSl (rest := []) ty24 rfl <| TK (t := 18) rfl (congrArg Value.bool (decide_eq_false g2)) <| Op1.fieldAddr fld26_2 rfl <| TK (t := 18) rfl (congrArg Value.bool (decide_eq_false g2)) <| Op1.load1 (v := .slice _ _ _) ty24 rfl rfl (hst.cellL (.head _) rfl) <| TK (t := 18) rfl (congrArg Value.bool (decide_eq_false g2)) <| Op1.lenSl (rest := []) ty24 rfl <| TK (t := 18) rfl (congrArg Value.bool (decide_eq_false g2)) <| Op1.neq rfl rfl <| CN <| Op1.pickF (u := .bool _) (congrArg Value.bool (decide_eq_false g2)) rfl <| NL <| Run.forget [(2, .pointer (some ⟨_, _, none⟩)), (3, .pointer (some ⟨_, _, none⟩)), (26, .bool _)] ⟨rfl, rfl, rfl, trivial⟩ fun f => run_cond_dec rfl (fun g3 => ?_) (fun g3 => ?_)
 · skip
   refine SR <| AB rfl <| NL <| run_ret1 Try.func16 rfl (TP (v := .bool _) rfl) ?_
   exact ⟨congrArg Value.bool (decide_eq_false (fun h => by have := insts_len h.2.2; omega)).symm, hst.pure⟩
 refine run_skip <| SQ <| SR <| AI rfl <| NL <| run_block <| run_loop <| Run.indW [(2, .pointer (some ⟨_, _, none⟩)), (3, .pointer (some ⟨_, _, none⟩))] ⟨rfl, rfl, trivial⟩ (fun (i : Nat) => [(5, .int .i64 (i : Int))]) (fun (i : Nat) => []) (fun (i : Nat) => i ≤ l.length ∧ ∀ j, j < i → (l.getD j zeroI).L = (m.getD j zeroI).L) (fun (i : Nat) => l.length - i) (0) hst ⟨Nat.zero_le _, fun j hj => absurd hj (by omega)⟩ ⟨rfl, trivial⟩ ?_
 intro i f w hst hJ ih4
 refine SQ <| SR <| MI rfl <| CN <| Op1.fieldAddr fld26_2 rfl <| CN <| Op1.load1 (v := .slice _ _ _) ty24 rfl rfl (hst.cellL (.tail _ (.head _)) rfl) <| CN <| Op1.lenSl (rest := []) ty24 rfl <| CN <| Op1.lss rfl rfl <| NL <| run_cond_dec rfl (fun g5 => ?_) (fun g5 => ?_)
 · skip
   refine run_skip <| SQ <| run_block <| SQ <| RunD.start [] hst (bs := [0, 1, 0, 7, 15, 0, 32, 0, 224, 480, 1023, 2047]) (ds := [some 34, some 35, some 36, some 37, some 38, some 39, some 40, some 41, some 42, some 43, some 44, some 45]) ⟨by kernel_rfl, by kernel_rfl, by kernel_rfl⟩ (fun tab6 => ?_)
   refine RunD.op (det _) tab6 1 (fun f' L' w' hc => Op1.fieldAddr fld26_2 (hc.old (v := .pointer (some ⟨_, _, none⟩)) rfl rfl rfl) ⟨[], ⟨rfl, rfl⟩, hc.st⟩) <| RunD.op (det _) tab6 2 (fun f' L' w' hc => Op1.load1 (v := .slice _ _ _) ty24 rfl (hc.det (j := 0) rfl rfl rfl rfl) (hc.st.cellL (List.mem_append_right _ (.tail _ (.head _))) rfl) ⟨[], ⟨rfl, rfl⟩, hc.st⟩) <| RunD.op (det _) tab6 3 (fun f' L' w' hc => Op1.move (v := .int .i64 _) (hc.old (v := .int .i64 _) rfl rfl rfl) ⟨[], ⟨rfl, rfl⟩, hc.st⟩) <| RunD.op (det _) tab6 4 (fun f' L' w' hc => Op1.indexRs ty24 ty48 (Res.rmod_insts (hc.st.hD _ (.head _))) (hc.det (j := 1) rfl rfl rfl rfl) (hc.det (j := 2) rfl rfl rfl rfl) (by omega) (by omega) ⟨[], ⟨rfl, rfl⟩, hc.st⟩) <| RunD.op (det _) tab6 5 (fun f' L' w' hc => Op1.loadA (vs := [.int .u16 _, .int .u32 _, .int .u32 _, .slice _ _ _]) ty48 rfl (hc.det (j := 3) rfl rfl rfl rfl) rfl (Res.rs2_cells (m := 4) (Res.rmod_insts (hc.st.hD _ (.head _))) _ (flat_seg (g := instC) (d := zeroI) instC_len _ _ (by omega))) ⟨[], ⟨rfl, rfl⟩, hc.st⟩) <| RunD.op (det _) tab6 6 (fun f' L' w' hc => Op1.fieldAddr fld26_2 (hc.old (v := .pointer (some ⟨_, _, none⟩)) rfl rfl rfl) ⟨[], ⟨rfl, rfl⟩, hc.st⟩) <| RunD.op (det _) tab6 7 (fun f' L' w' hc => Op1.load1 (v := .slice _ _ _) ty24 rfl (hc.det (j := 5) rfl rfl rfl rfl) (hc.st.cellL (List.mem_append_right _ (.head _)) rfl) ⟨[], ⟨rfl, rfl⟩, hc.st⟩) <| RunD.op (det _) tab6 8 (fun f' L' w' hc => Op1.move (v := .int .i64 _) (hc.old (v := .int .i64 _) rfl rfl rfl) ⟨[], ⟨rfl, rfl⟩, hc.st⟩) <| RunD.op (det _) tab6 9 (fun f' L' w' hc => Op1.indexRs ty24 ty48 (Res.rmod_insts (hc.st.hD _ (.tail _ (.head _)))) (hc.det (j := 6) rfl rfl rfl rfl) (hc.det (j := 7) rfl rfl rfl rfl) (by omega) (by omega) ⟨[], ⟨rfl, rfl⟩, hc.st⟩) <| RunD.op (det _) tab6 10 (fun f' L' w' hc => Op1.loadA (vs := [.int .u16 _, .int .u32 _, .int .u32 _, .slice _ _ _]) ty48 rfl (hc.det (j := 8) rfl rfl rfl rfl) rfl (Res.rs2_cells (m := 4) (Res.rmod_insts (hc.st.hD _ (.tail _ (.head _)))) _ (flat_seg (g := instC) (d := zeroI) instC_len _ _ (by omega))) ⟨[], ⟨rfl, rfl⟩, hc.st⟩) <| RunD.fin followsMixed tab6 hst rfl (fun f7 w R10 hs8 hd9 hr11 hst => ?_)
   obtain ⟨h34_, r0⟩ := hd9 0 34 rfl rfl
   obtain ⟨h35_, r1⟩ := hd9 1 35 rfl rfl
   obtain ⟨h36_, r2⟩ := hd9 2 36 rfl rfl
   obtain ⟨h37_, r3⟩ := hd9 3 37 rfl rfl
   obtain ⟨h38_, r4⟩ := hd9 4 38 rfl rfl
   obtain ⟨h39_, r5⟩ := hd9 5 39 rfl rfl
   obtain ⟨h40_, r6⟩ := hd9 6 40 rfl rfl
   obtain ⟨h41_, r7⟩ := hd9 7 41 rfl rfl
   obtain ⟨h42_, r8⟩ := hd9 8 42 rfl rfl
   obtain ⟨h43_, r9⟩ := hd9 9 43 rfl rfl
   simp only [show List.range 10 = [0, 1, 2, 3, 4, 5, 6, 7, 8, 9] from rfl, List.flatMap_cons, List.flatMap_nil, List.map_cons, List.map_nil, r0, r1, r2, r3, r4, r5, r6, r7, r8, r9, List.nil_append, List.append_nil, List.cons_append] at hst
   refine RunL.slots (sl := [(2, .pointer (some ⟨_, _, none⟩)), (3, .pointer (some ⟨_, _, none⟩)), (5, .int .i64 _), (38, .agg #[.int .u16 _, .int .u32 _, .int .u32 _, .slice _ _ _]), (43, .agg #[.int .u16 _, .int .u32 _, .int .u32 _, .slice _ _ _])]) ⟨(hs8 2 rfl).trans rfl, (hs8 3 rfl).trans rfl, (hs8 5 rfl).trans rfl, h38_, h43_, trivial⟩ ?_
   clear hs8 hd9 hr11 tab6
   refine CN <| Op1.call2 (v1 := .agg #[.int .u16 _, .int .u32 _, .int .u32 _, .slice _ _ _]) (v2 := .agg #[.int .u16 _, .int .u32 _, .int .u32 _, .slice _ _ _]) ent27 rfl rfl rfl <| Ret.det (R3md_Inst _ _ _ (Res.rmod_argsI (hst.hD _ (.head _)) (by omega)) (Res.rmod_argsI (hst.hD _ (.tail _ (.head _))) (by omega)) (hla _ (getD_memD (by omega)))) hst fun w hst => CN <| Op1.not rfl <| NL <| run_cond_split rfl (fun g12 => ?_) (fun g12 => ?_)
   · skip
     refine SR <| AB rfl <| NL <| run_ret1 Try.func16 rfl (TP (v := .bool _) rfl) ?_
     exact ⟨congrArg Value.bool (decide_eq_false (fun h => by have hg := g12; rw [decide_eq_true (insts_getD h.2.2 (by omega))] at hg; simp at hg)).symm, hst.pure⟩
   refine run_skip <| run_inBlock <| RG <| MI rfl <| CN <| Op1.addN rfl rfl rfl (wrap_i64 (by omega) (by omega)) <| AI rfl <| NL <| run_inLoop ?_
   exact ih4 (i + 1) _ w (by omega) hst (⟨by omega, step_all hJ.2 (by simpa using g12)⟩) ⟨rfl, rfl, trivial⟩ ⟨(congrArg (Value.int .i64) (by omega)), trivial⟩
 refine run_exit (id := 0) rfl <| SR <| AB rfl <| NL <| run_ret1 Try.func16 rfl (TP (v := .bool _) rfl) ?_
 exact ⟨congrArg Value.bool (decide_eq_true (⟨Classical.not_not.1 g1, Classical.not_not.1 g2, insts_ext (by omega) (fun j hj => hJ.2 j (by omega))⟩)).symm, hst.pure⟩
end Go.SK
namespace Go.SK
open Go Go.Proofs
theorem ent108 : Enters Try.prog 108 := ⟨Try.f108, _, Try.func108, by kernel_rfl, rfl⟩
theorem fld71_0 : FldF Try.prog 71 0 0 := FldF.of (n := 0) (by kernel_rfl)
theorem fld80_0 : FldF Try.prog 80 0 0 := FldF.of (n := 0) (by kernel_rfl)
theorem ent90 : Enters Try.prog 90 := ⟨Try.f90, _, Try.func90, by kernel_rfl, rfl⟩
end Go.SK
namespace Go.SK
open Go Go.Proofs
open Go.RowKit
theorem R3cd_id (n bound : Int) (w : World) : Ret Try.prog 85 #[.int .u32 n, .int .u32 bound] w (fun v w' => v = .int .i64 (idE n bound) ∧ St w NoM [] [] w') := by
 refine Ret.enter (args := [.int .u32 n, .int .u32 bound]) Try.func85 rfl rfl rfl ?_
 have hst := St.init w
 refine SR <| AI rfl <| NL <| SQ <| SR <| MU rfl <| CN <| Op1.eql rfl rfl <| MB rfl <| RunL.splitD (d := 7) rfl (fun g1 => ?_) (fun g1 => ?_)
 · skip
   refine OM (t := 7) rfl (congrArg Value.bool (decide_eq_true g1)) rfl <| OM (t := 7) rfl (congrArg Value.bool (decide_eq_true g1)) rfl <| OM (t := 7) rfl (congrArg Value.bool (decide_eq_true g1)) rfl <| CN <| Op1.pickT (u := .bool _) (congrArg Value.bool (decide_eq_true g1)) rfl <| NL <| run_cond_true (congrArg Value.bool (rfl : true = _)) <| SR <| AI rfl <| NL <| run_ret1 Try.func85 rfl (TP (v := .int .i64 _) rfl) ?_
   exact ⟨congrArg (Value.int .i64) (by unfold idE; rw [if_pos (by omega)]), hst.pure⟩
 refine TK (t := 7) rfl (congrArg Value.bool (decide_eq_false g1)) <| Op1.move (v := .int .u32 _) rfl <| TK (t := 7) rfl (congrArg Value.bool (decide_eq_false g1)) <| Op1.move (v := .int .u32 _) rfl <| TK (t := 7) rfl (congrArg Value.bool (decide_eq_false g1)) <| Op1.geq rfl rfl <| CN <| Op1.pickF (u := .bool _) (congrArg Value.bool (decide_eq_false g1)) rfl <| NL <| run_cond_dec rfl (fun g2 => ?_) (fun g2 => ?_)
 · skip
   refine SR <| AI rfl <| NL <| run_ret1 Try.func85 rfl (TP (v := .int .i64 _) rfl) ?_
   exact ⟨congrArg (Value.int .i64) (by unfold idE; rw [if_pos (by omega)]), hst.pure⟩
 refine run_skip <| SR <| AI rfl <| NL <| run_ret1 Try.func85 rfl (TP (v := .int .i64 _) rfl) ?_
 exact ⟨congrArg (Value.int .i64) (by unfold idE; rw [if_neg (by omega)]), hst.pure⟩
theorem R3cd_named (c n : Int) (h0 : 0 ≤ c) (h1 : c ≤ 255) (w : World) : Ret Try.prog 89 #[.int .u8 c, .int .u32 n] w (fun v w' => v = .int .i64 (enumE c n) ∧ St w NoM [] [] w') := by
 refine Ret.enter (args := [.int .u8 c, .int .u32 n]) Try.func89 rfl rfl rfl ?_
 have hst := St.init w
 obtain ⟨o, ho⟩ : ∃ o, namesL.find? (enN c n) = o := ⟨_, rfl⟩
 refine SR <| AI rfl <| NL <| SQ <| SR <| MC rfl <| MU rfl <| CN <| Op1.call2 (v1 := .int .u8 _) (v2 := .int .u32 _) ent108 rfl rfl rfl <| Ret.det (R3gr_Enum2 ho h0 h1 _) hst fun w hst => CN <| Op1.move (v := .tuple #[str _, .bool _]) rfl <| CN <| Op1.extract (v := str _) rfl rfl <| CN <| Op1.extract (v := .bool _) rfl rfl <| AS rfl <| AB rfl ?_
 refine NSR <| MB rfl <| CN <| Op1.not rfl <| NL <| run_cond_split rfl (fun g1 => ?_) (fun g1 => ?_)
 · skip
   refine SR <| AI rfl <| NL <| run_ret1 Try.func89 rfl (TP (v := .int .i64 _) rfl) ?_
   exact ⟨congrArg (Value.int .i64) (by unfold enumE; rw [ho, if_neg (by simpa using g1)]), hst.pure⟩
 refine run_skip <| SR <| AI rfl <| NL <| run_ret1 Try.func89 rfl (TP (v := .int .i64 _) rfl) ?_
 exact ⟨congrArg (Value.int .i64) (by unfold enumE; rw [ho, if_pos (by simpa using g1)]), hst.pure⟩
theorem R3gr_Fits2 {op : Int} {ks : List Int} {fa : Int} {fb : Bool} {n : Nat} (hfit : fitsS op ks = (fa, fb)) (hn : n = ks.length) (h0 : 0 ≤ op) (ao : Option Addr) (cp : Nat) (w : World) (hA : (Res.rs ao n 1 (ks.flatMap u8C)).holds w) (hlen : n ≤ 9000000000000000) : Ret Try.prog 90 #[.int .u16 op, .slice ao n cp] w (fun v w' => v = .tuple #[.int .i64 fa, .bool fb] ∧ St w NoM [] [] w') := by
 subst hn
 exact (R3gr_Fits op h0 ks ao cp w hA (by omega)).mono fun v w' h => ⟨h.1.trans (by rw [hfit]), h.2⟩
theorem R3cd_whole (fm : FormL) (hf : FOk fm) (l : List ArgP) (ao : Option Addr) (cp : Nat) (w : World) (hA : (Res.rs ao l.length 3 (l.flatMap argC)).holds w) (hl : l.length ≤ 9000000000000) : Ret Try.prog 58 #[.agg #[.int .u16 fm.op, str fm.name, .bool fm.ty, .bool fm.res, str fm.fixed, str fm.rest, .int .i64 fm.most, .int .u8 fm.part], .slice ao l.length cp] w (fun v w' => v = .int .i64 (wholeE fm.op l) ∧ St w NoM [] [] w') := by
 refine Ret.enter (args := [.agg #[.int .u16 fm.op, str fm.name, .bool fm.ty, .bool fm.res, str fm.fixed, str fm.rest, .int .i64 fm.most, .int .u8 fm.part], .slice ao l.length cp]) Try.func58 rfl rfl rfl ?_
 have hst : St w NoM [] [Res.rs ao l.length 3 (l.flatMap argC)] w := St.init_D hA
 clear hA
 obtain ⟨fa, fb, hfit⟩ : ∃ fa fb, fitsS fm.op (l.map ArgP.kind) = (fa, fb) := ⟨_, _, rfl⟩
 refine SR <| CN <| Op1.box (v := .agg #[.int .u16 _, str _, .bool _, .bool _, str _, str _, .int .i64 _, .int .u8 _]) hst rfl rfl fun w b2 hst => AI rfl <| NSR <| AL rfl <| NL <| SQ <| SR <| ML rfl <| CN <| Op1.lenSl (rest := []) ty46 rfl <| MI rfl ?_
 refine NL <| run_block <| run_loop ?_
 replace hst := hst.pushNil 5 1
 refine Run.indW [(2, .pointer (some ⟨_, _, none⟩)), (10, .slice _ _ _), (11, .int .i64 _)] ⟨rfl, rfl, rfl, trivial⟩ (fun (q : Nat × Option Addr × Nat) => [(5, .slice q.2.1 q.1 q.2.2), (12, .int .i64 (q.1 : Int))]) (fun (q : Nat × Option Addr × Nat) => [Res.sl q.2.1 q.1 q.2.2 5 1 (((l.map ArgP.kind).take q.1).flatMap u8C)]) (fun (q : Nat × Option Addr × Nat) => q.1 ≤ l.length) (fun (q : Nat × Option Addr × Nat) => l.length - q.1) ((0, none, 0)) hst (Nat.zero_le _) ⟨rfl, rfl, trivial⟩ ?_
 intro ⟨i, aq, cq⟩ f w hst hJ ih1
 replace hst : St _ _ ([Res.sl aq i cq 5 1 (((l.map ArgP.kind).take i).flatMap u8C)] ++ [_]) _ _ := hst
 replace hJ : i ≤ l.length := hJ
 refine Run.slots (sl := [(5, .slice aq i cq), (12, .int .i64 (i : Int))]) ⟨rfl, rfl, trivial⟩ <| SR <| CN <| Op1.lss rfl rfl <| NL <| SQ <| run_cond_dec rfl (fun g2 => ?_) (fun g2 => ?_)
 · skip
   have hidx : l.getD ((i : Int)).toNat zeroA = l.getD i zeroA := rfl
   refine run_skip <| SQ <| run_block <| SR <| CN <| Op1.indexRs ty46 ty71 (hst.hD _ (.head _)) rfl rfl (by omega) (by omega) <| CN <| Op1.loadA (vs := [.int .u8 _, .int .u32 _, str _]) ty71 rfl rfl rfl (Res.rs2_cells (m := 3) (hst.hD _ (.head _)) _ (flat_seg (g := argC) (d := zeroA) argC_len _ _ (by omega))) <| CN <| Op1.alloc hst ty71 fun w b7 hst => CN (SO (v := .agg #[.int .u8 _, .int .u32 _, str _]) hst ty71 rfl rfl (.here) fun w hst => ?_)
   refine NR <| ML rfl <| CN <| Op1.fieldAddr fld71_0 rfl <| CN <| Op1.load1 (v := .int .u8 _) ty5 rfl rfl (hst.cellL (.head _) rfl) <| CN (Op1.buildSl (z0 := [.int .u8 0]) hst ty22 ty5 rfl rfl (by kernel_rfl) (.c (v := .int .u8 _) rfl (h := .nil)) fun w b19 hst => ?_)
   refine CN (Op1.append (news := [.int .u8 _]) hst ty22 ty5 rfl rfl (.there (.there (.here))) rfl rfl rfl (cells_of_obj (n := 1) (hst.objL (.head _)) _ rfl) rfl rfl (by omega) fun w ao3 cp4 hst => ?_)
   replace hst := hst.drop (.there (.here))
   refine AL rfl <| NL <| run_inBlock <| RG <| CN <| Op1.addN rfl rfl rfl (wrap_i64 (by omega) (by omega)) <| MI rfl <| NL <| run_inLoop ?_
   have e1 : ((l.map ArgP.kind).take i).flatMap u8C ++ [.int .u8 (l.getD i zeroA).kind] = ((l.map ArgP.kind).take (i + 1)).flatMap u8C := by rw [take_getD2 (l := l.map ArgP.kind) (d := zeroA.kind) (by rw [List.length_map]; omega), map_getD2 _ _ (by omega), List.flatMap_append]; rfl
   replace hst := hst.pick (.cons (.here) (.cons (.there (.here)) .nil))
   exact ih1 ((i + 1, ao3, cp4)) _ w (by (try dsimp only); omega) (by (try dsimp only); rw [← e1]; exact hst) (by (try dsimp only); omega) ⟨rfl, rfl, rfl, trivial⟩ ⟨rfl, (congrArg (Value.int .i64) (by (try dsimp only); omega)), trivial⟩
 obtain rfl : i = l.length := by omega
 have hlk : l.length = (l.map ArgP.kind).length := by rw [List.length_map]
 rw [List.take_of_length_le (by omega)] at hst
 refine run_exit (id := 0) rfl <| SQ <| SR <| CN <| Op1.fieldAddr fld80_0 rfl <| CN <| Op1.load1 (v := .int .u16 _) ty42 rfl rfl (hst.cellL (.tail _ (.head _)) rfl) <| ML rfl <| CN <| Op1.call2 (v1 := .int .u16 _) (v2 := .slice _ _ _) ent90 rfl rfl rfl <| Ret.det (R3gr_Fits2 hfit hlk hf.op.1 _ _ _ (Res.rs_of_sl (hst.hL _ (.head _))) (by omega)) hst fun w hst => CN <| Op1.move (v := .tuple #[.int .i64 _, .bool _]) rfl <| CN <| Op1.extract (v := .int .i64 _) rfl rfl <| CN <| Op1.extract (v := .bool _) rfl rfl <| AI rfl <| AB rfl <| NL <| SQ ?_
 refine RG <| MB rfl <| CN <| Op1.not rfl <| NL <| run_cond_split rfl (fun g5 => ?_) (fun g5 => ?_)
 · skip
   refine SR <| AI rfl <| NL <| run_ret1 Try.func58 rfl (TP (v := .int .i64 _) rfl) ?_
   exact ⟨congrArg (Value.int .i64) (by unfold wholeE; rw [hfit, if_neg (by simpa using g5)]), hst.pure⟩
 refine run_skip <| SR <| AI rfl <| NL <| run_ret1 Try.func58 rfl (TP (v := .int .i64 _) rfl) ?_
 exact ⟨congrArg (Value.int .i64) (by unfold wholeE; rw [hfit, if_pos (by simpa using g5)]), hst.pure⟩
end Go.SK
namespace Go.SK
open Go Go.Proofs
theorem fld93_1 : FldF Try.prog 93 1 8 := FldF.of (n := 0) (by kernel_rfl)
theorem fld93_2 : FldF Try.prog 93 2 9 := FldF.of (n := 0) (by kernel_rfl)
theorem ent85 : Enters Try.prog 85 := ⟨Try.f85, _, Try.func85, by kernel_rfl, rfl⟩
end Go.SK
namespace Go.SK
open Go Go.Proofs
open Go.RowKit
theorem R3cd_rhead (bq : Nat) (fm : FormL) (b : Nat) (bound op ty res : Int) (aa : Option Addr) (ca : Nat) (ags : List ArgP) (ao : Option Addr) (cp : Nat) (l : List Int) (a : Nat) (lacks : Int) (w : World) (hR : (RdC 93 135 23 71 bq fm b bound op ty res aa ca ags ao cp l a).holds w) (hl : l.length ≤ 35184372088832) (ha : a ≤ l.length) : Ret Try.prog 55 #[.pointer (some ⟨bq, 0, none⟩), .int .i64 lacks] w (fun v w' => (a < l.length ∧ v = .tuple #[.int .u32 (l.getD a 0), .int .i64 (idE (l.getD a 0) bound)] ∧ St w (RdC 93 135 23 71 bq fm b bound op ty res aa ca ags ao cp l a).foot [RdC 93 135 23 71 bq fm b bound op ty res aa ca ags ao cp l (a + 1)] [] w') ∨ (a = l.length ∧ v = .tuple #[.int .u32 0, .int .i64 lacks] ∧ St w (RdC 93 135 23 71 bq fm b bound op ty res aa ca ags ao cp l a).foot [RdC 93 135 23 71 bq fm b bound op ty res aa ca ags ao cp l a] [] w')) := by
 refine Ret.enter (args := [.pointer (some ⟨bq, 0, none⟩), .int .i64 lacks]) Try.func55 rfl rfl rfl ?_
 have hst : St w (RdC 93 135 23 71 bq fm b bound op ty res aa ca ags ao cp l a).foot [RdC 93 135 23 71 bq fm b bound op ty res aa ca ags ao cp l a] [] w := St.enter1 hR (fun d hd => by cases hd) (fun d hd => by cases hd)
 replace hst : St _ _ [_, _, _] _ _ := hst.unpack
 refine SR <| AU rfl <| AI rfl <| NSR <| MP rfl <| CN <| Op1.nilCheckP rfl <| CN <| Op1.fieldAddr fld93_1 rfl <| CN (Op1.load1 (v := .pointer (some ⟨_, _, none⟩)) ty90 rfl rfl (hst.cellL (.head _) rfl) ?_)
 replace hst := hst.pick (.cons (.there (.here)) (.cons (.here) (.cons (.here) .nil)))
 refine CN (Op1.call1 (v1 := .pointer (some ⟨_, _, none⟩)) ent84 rfl rfl ((R3wd_Word _ _ _ l a _ (hst.hL _ (.head _)) hl ha).mono fun v w hp => ?_))
 rcases hp with ⟨hin, rfl, hp⟩ | ⟨hin, rfl, hp⟩
 · skip
   replace hst : St _ _ (RdR 135 23 b ao cp l (a + 1) :: _) _ _ := hst.call1 hp
   clear hp
   refine CN <| Op1.move (v := .tuple #[.int .u32 _, .int .i64 _]) rfl <| CN <| Op1.extract (v := .int .u32 _) rfl rfl <| CN <| Op1.extract (v := .int .i64 _) rfl rfl <| AU rfl <| AI rfl <| NL <| SQ <| SR <| MI rfl <| CN <| Op1.neq rfl rfl <| NL <| run_cond_dec rfl (fun g1 => ?_) (fun g1 => ?_)
   · skip
     exfalso
     exact g1 rfl
   refine run_skip <| SR <| MU rfl <| MU rfl <| MP rfl <| CN <| Op1.nilCheckP rfl <| CN <| Op1.fieldAddr fld93_2 rfl <| CN <| Op1.load1 (v := .int .u32 _) ty23 rfl rfl (hst.cellL (.tail _ (.head _)) rfl) <| CN <| Op1.call2 (v1 := .int .u32 _) (v2 := .int .u32 _) ent85 rfl rfl rfl <| Ret.det (R3cd_id _ _ _) hst fun w hst => AU rfl <| AI rfl <| NL <| run_ret2 Try.func55 rfl (TP (v := .int .u32 _) rfl) (TP (v := .int .i64 _) rfl) ?_
   replace hst := hst.pick (.cons (.there (.here)) (.cons (.here) (.cons (.here) .nil)))
   exact .inl ⟨hin, rfl, (St.pack (L1 := [_, _, _]) (L2 := []) hst)⟩
 · skip
   replace hst : St _ _ (RdR 135 23 b ao cp l a :: _) _ _ := hst.call1 hp
   clear hp
   refine CN <| Op1.move (v := .tuple #[.int .u32 _, .int .i64 _]) rfl <| CN <| Op1.extract (v := .int .u32 _) rfl rfl <| CN <| Op1.extract (v := .int .i64 _) rfl rfl <| AU rfl <| AI rfl <| NL <| SQ <| SR <| MI rfl <| CN <| Op1.neq rfl rfl <| NL <| run_cond_dec rfl (fun g2 => ?_) (fun g2 => ?_)
   · skip
     refine SR <| MI rfl <| AU rfl <| AI rfl <| NL <| run_ret2 Try.func55 rfl (TP (v := .int .u32 _) rfl) (TP (v := .int .i64 _) rfl) ?_
     replace hst := hst.pick (.cons (.there (.here)) (.cons (.here) (.cons (.here) .nil)))
     exact .inr ⟨hin, rfl, (St.pack (L1 := [_, _, _]) (L2 := []) hst)⟩
   exfalso
   exact g2 (by decide)
end Go.SK
namespace Go.SK
open Go Go.Proofs
theorem fld93_0 : FldF Try.prog 93 0 0 := FldF.of (n := 7) (by kernel_rfl)
theorem fld93_3 : FldF Try.prog 93 3 10 := FldF.of (n := 3) (by kernel_rfl)
theorem ent86 : Enters Try.prog 86 := ⟨Try.f86, _, Try.func86, by kernel_rfl, rfl⟩
theorem stf71 : StructF Try.prog 71 [(0, 1), (1, 1), (2, 1)] := ⟨fieldsOf Try.prog 71, by kernel_rfl, fun w => by kernel_rfl⟩
theorem ent88 : Enters Try.prog 88 := ⟨Try.f88, _, Try.func88, by kernel_rfl, rfl⟩
theorem fld71_2 : FldF Try.prog 71 2 2 := FldF.of (n := 0) (by kernel_rfl)
theorem fld71_1 : FldF Try.prog 71 1 1 := FldF.of (n := 0) (by kernel_rfl)
theorem ent89 : Enters Try.prog 89 := ⟨Try.f89, _, Try.func89, by kernel_rfl, rfl⟩
end Go.SK
