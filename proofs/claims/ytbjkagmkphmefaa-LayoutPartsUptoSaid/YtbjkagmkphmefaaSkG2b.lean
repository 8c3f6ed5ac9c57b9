/-
  Steps of functions, plain law, and walks of functions: what the laws rest on.
-/
import Derived.Test.YtbjkagmkphmefaaSkG2a
set_option linter.unusedVariables false
set_option linter.unusedSimpArgs false
set_option linter.unusedSectionVars false
namespace Go.SK
open Go Go.Proofs
open Go.RowKit
theorem R5ref4_Id (must : Bool) (n bound e : Int) (w : World) : Ret Try.prog 43 #[.bool must, .int .u32 n, .int .u32 bound, .int .i64 e] w (fun v w' => v = .int .i64 (idH must n bound e) ∧ St w NoM [] [] w') := by
 refine Ret.enter (args := [.bool must, .int .u32 n, .int .u32 bound, .int .i64 e]) Try.func43 rfl rfl rfl ?_
 have hst := St.init w
 refine SR <| AI rfl <| NL <| SQ <| SR <| MB rfl <| MU rfl <| CN <| Op1.neq rfl rfl <| CN <| Op1.neqB ty4 rfl rfl <| NL <| run_cond_split rfl (fun g1 => ?_) (fun g1 => ?_)
 · skip
   refine SR <| MI rfl <| AI rfl <| NL <| run_ret1 Try.func43 rfl (TP (v := .int .i64 _) rfl) ?_
   exact ⟨congrArg (Value.int .i64) (idH_lacks (bne_iff_ne.1 g1)).symm, hst.pure⟩
 refine run_skip <| SQ <| SR <| MB rfl <| MB rfl <| RunL.split (d := 15) rfl (fun g2 => ?_) (fun g2 => ?_)
 · skip
   refine TK (t := 15) rfl (congrArg Value.bool g2) <| Op1.move (v := .int .u32 _) rfl <| TK (t := 15) rfl (congrArg Value.bool g2) <| Op1.move (v := .int .u32 _) rfl <| TK (t := 15) rfl (congrArg Value.bool g2) <| Op1.geq rfl rfl <| CN <| Op1.pickT (u := .bool _) (congrArg Value.bool g2) rfl <| NL <| run_cond_dec rfl (fun g3 => ?_) (fun g3 => ?_)
   · skip
     refine SR <| AI rfl <| NL <| run_ret1 Try.func43 rfl (TP (v := .int .i64 _) rfl) ?_
     have hm : must = true := by simpa using g2
     exact ⟨congrArg (Value.int .i64) (by unfold idH; rw [if_neg (fun hx => by have hy := bne_iff_ne.2 hx; rw [g1] at hy; cases hy), if_pos ⟨hm, by omega⟩]), hst.pure⟩
   refine run_skip <| SR <| AI rfl <| NL <| run_ret1 Try.func43 rfl (TP (v := .int .i64 _) rfl) ?_
   have hm : must = true := by simpa using g2
   exact ⟨congrArg (Value.int .i64) (by unfold idH; rw [if_neg (fun hx => by have hy := bne_iff_ne.2 hx; rw [g1] at hy; cases hy), if_neg (fun h => by have := h.2; omega)]), hst.pure⟩
 refine OM (t := 15) rfl (congrArg Value.bool g2) rfl <| OM (t := 15) rfl (congrArg Value.bool g2) rfl <| OM (t := 15) rfl (congrArg Value.bool g2) rfl <| CN <| Op1.pickF (u := .bool _) (congrArg Value.bool g2) rfl <| NL <| run_cond_false (congrArg Value.bool (rfl : false = _)) <| run_skip <| SR <| AI rfl <| NL <| run_ret1 Try.func43 rfl (TP (v := .int .i64 _) rfl) ?_
 have hm : must = false := by simpa using g2
 exact ⟨congrArg (Value.int .i64) (idH_no (fun hx => by have hy := bne_iff_ne.2 hx; rw [g1] at hy; cases hy) hm).symm, hst.pure⟩
theorem R5ref4_Wrong (c : Int) (h0 : 0 ≤ c) (h1 : c ≤ 255) (a : ArgP) (hs : a.s.length ≤ 9000000000000000) (bound : Int) (w : World) : Ret Try.prog 44 #[.int .u8 c, .agg #[.int .u8 a.kind, .int .u32 a.n, str a.s], .int .u32 bound] w (fun v w' => v = .int .i64 (wrongA c a bound) ∧ St w NoM [] [] w') := by
 refine Ret.enter (args := [.int .u8 c, .agg #[.int .u8 a.kind, .int .u32 a.n, str a.s], .int .u32 bound]) Try.func44 rfl rfl rfl ?_
 have hst := St.init w
 obtain ⟨kd, hkd⟩ : ∃ kd, kindS c = kd := ⟨_, rfl⟩
 obtain ⟨o, ho⟩ : ∃ o, namesL.find? (enN c a.n) = o := ⟨_, rfl⟩
 refine SR <| CN <| Op1.box (v := .agg #[.int .u8 _, .int .u32 _, str _]) hst rfl rfl fun w b4 hst => AI rfl <| NL <| SQ <| SQ <| RunD.start [] hst (bs := [0, 1, 3, 7, 15, 7, 39, 127, 255]) (ds := [some 10, some 11, some 12, some 13, some 14, some 15, some 16, some 17, some 18]) ⟨by kernel_rfl, by kernel_rfl, by kernel_rfl⟩ (fun tab1 => ?_)
 refine RunD.op (det _) tab1 1 (fun f' L' w' hc => Op1.move (v := .int .u8 _) (hc.old (v := .int .u8 _) rfl rfl rfl) ⟨[], ⟨rfl, rfl⟩, hc.st⟩) <| RunD.op (det _) tab1 2 (fun f' L' w' hc => Op1.eql (hc.det (j := 0) rfl rfl rfl rfl) rfl ⟨[], ⟨rfl, rfl⟩, hc.st⟩) <| RunD.op (det _) tab1 3 (fun f' L' w' hc => Op1.move (v := .bool _) (hc.det (j := 1) rfl rfl rfl rfl) ⟨[], ⟨rfl, rfl⟩, hc.st⟩) <| RunD.splitD (j := 2) rfl (fun g2 => ?_) (fun g2 => ?_)
 · skip
   refine RunD.omit tab1 4 rfl rfl (fun f' L' w' hc => (hc.det (j := 2) rfl rfl rfl rfl).trans (congrArg Value.bool (decide_eq_true g2))) <| RunD.omit tab1 5 rfl rfl (fun f' L' w' hc => (hc.det (j := 2) rfl rfl rfl rfl).trans (congrArg Value.bool (decide_eq_true g2))) <| RunD.omit tab1 6 rfl rfl (fun f' L' w' hc => (hc.det (j := 2) rfl rfl rfl rfl).trans (congrArg Value.bool (decide_eq_true g2))) <| RunD.omit tab1 7 rfl rfl (fun f' L' w' hc => (hc.det (j := 2) rfl rfl rfl rfl).trans (congrArg Value.bool (decide_eq_true g2))) <| RunD.fin followsMixed tab1 hst rfl (fun f3 w R6 hs4 hd5 hr7 hst => ?_)
   obtain ⟨h10_, r0⟩ := hd5 0 10 rfl rfl
   obtain ⟨h11_, r1⟩ := hd5 1 11 rfl rfl
   obtain ⟨h12_, r2⟩ := hd5 2 12 rfl rfl
   obtain ⟨h13_, r3⟩ := hd5 3 13 rfl rfl
   obtain ⟨h14_, r4⟩ := hd5 4 14 rfl rfl
   obtain ⟨h15_, r5⟩ := hd5 5 15 rfl rfl
   obtain ⟨h16_, r6⟩ := hd5 6 16 rfl rfl
   simp only [show List.range 7 = [0, 1, 2, 3, 4, 5, 6] from rfl, List.flatMap_cons, List.flatMap_nil, List.map_cons, List.map_nil, r0, r1, r2, r3, r4, r5, r6, List.nil_append, List.append_nil, List.cons_append] at hst
   refine RunL.slots (sl := [(0, .int .u8 _), (2, .int .u32 _), (4, .pointer (some ⟨_, _, none⟩)), (12, .bool _), (14, _), (16, _)]) ⟨(hs4 0 rfl).trans rfl, (hs4 2 rfl).trans rfl, (hs4 4 rfl).trans rfl, h12_, h14_, h16_, trivial⟩ ?_
   clear hs4 hd5 hr7 tab1
   refine OM (t := 12) rfl (congrArg Value.bool (decide_eq_true g2)) rfl <| CN <| Op1.pickT (u := .bool _) (congrArg Value.bool (decide_eq_true g2)) rfl <| NL <| run_cond_true (congrArg Value.bool (rfl : true = _)) <| SR <| AI rfl <| NL <| run_ret1 Try.func44 rfl (TP (v := .int .i64 _) rfl) ?_
   exact ⟨congrArg (Value.int .i64) (wrongA_form (.inl (by omega))).symm, hst.pure⟩
 refine RunD.take (det _) tab1 4 rfl (fun f' L' w' hc => (hc.det (j := 2) rfl rfl rfl rfl).trans (congrArg Value.bool (decide_eq_false g2))) (fun f' L' w' hc => Op1.fieldAddr fld35_0 (hc.old (v := .pointer (some ⟨_, _, none⟩)) rfl rfl rfl) ⟨[], ⟨rfl, rfl⟩, hc.st⟩) <| RunD.take (det _) tab1 5 rfl (fun f' L' w' hc => (hc.det (j := 2) rfl rfl rfl rfl).trans (congrArg Value.bool (decide_eq_false g2))) (fun f' L' w' hc => Op1.load1 (v := .int .u8 _) ty5 rfl (hc.det (j := 3) rfl rfl rfl rfl) (hc.st.cellL (List.mem_append_right _ (.head _)) rfl) ⟨[], ⟨rfl, rfl⟩, hc.st⟩) <| RunD.take (det _) tab1 6 rfl (fun f' L' w' hc => (hc.det (j := 2) rfl rfl rfl rfl).trans (congrArg Value.bool (decide_eq_false g2))) (fun f' L' w' hc => Op1.move (v := .int .u8 _) (hc.old (v := .int .u8 _) rfl rfl rfl) ⟨[], ⟨rfl, rfl⟩, hc.st⟩) <| RunD.take (det _) tab1 7 rfl (fun f' L' w' hc => (hc.det (j := 2) rfl rfl rfl rfl).trans (congrArg Value.bool (decide_eq_false g2))) (fun f' L' w' hc => Op1.call1 (v1 := .int .u8 _) ent54 rfl (hc.det (j := 5) rfl rfl rfl rfl) ((R5ref_Kind2 hkd h0 h1 _).mono fun v w hp => ⟨[], ⟨hp.1, rfl⟩, hc.st.keepc hp.2⟩)) <| RunD.fin followsMixed tab1 hst rfl (fun f8 w R11 hs9 hd10 hr12 hst => ?_)
 obtain ⟨h10_, r0⟩ := hd10 0 10 rfl rfl
 obtain ⟨h11_, r1⟩ := hd10 1 11 rfl rfl
 obtain ⟨h12_, r2⟩ := hd10 2 12 rfl rfl
 obtain ⟨h13_, r3⟩ := hd10 3 13 rfl rfl
 obtain ⟨h14_, r4⟩ := hd10 4 14 rfl rfl
 obtain ⟨h15_, r5⟩ := hd10 5 15 rfl rfl
 obtain ⟨h16_, r6⟩ := hd10 6 16 rfl rfl
 simp only [show List.range 7 = [0, 1, 2, 3, 4, 5, 6] from rfl, List.flatMap_cons, List.flatMap_nil, List.map_cons, List.map_nil, r0, r1, r2, r3, r4, r5, r6, List.nil_append, List.append_nil, List.cons_append] at hst
 refine RunL.slots (sl := [(0, .int .u8 _), (2, .int .u32 _), (4, .pointer (some ⟨_, _, none⟩)), (12, .bool _), (14, .int .u8 _), (16, .int .u8 _)]) ⟨(hs9 0 rfl).trans rfl, (hs9 2 rfl).trans rfl, (hs9 4 rfl).trans rfl, h12_, h14_, h16_, trivial⟩ ?_
 clear hs9 hd10 hr12 tab1
 refine TK (t := 12) rfl (congrArg Value.bool (decide_eq_false g2)) <| Op1.neq rfl rfl <| CN <| Op1.pickF (u := .bool _) (congrArg Value.bool (decide_eq_false g2)) rfl <| NL <| run_cond_dec rfl (fun g13 => ?_) (fun g13 => ?_)
 · skip
   refine SR <| AI rfl <| NL <| run_ret1 Try.func44 rfl (TP (v := .int .i64 _) rfl) ?_
   exact ⟨congrArg (Value.int .i64) (wrongA_form (.inr (.inl (by rw [hkd]; omega)))).symm, hst.pure⟩
 refine run_skip <| SQ <| SR <| CN <| Op1.fieldAddr fld35_0 rfl <| CN <| Op1.load1 (v := .int .u8 _) ty5 rfl rfl (hst.cellL (.head _) rfl) <| CN <| Op1.eql rfl rfl <| MB rfl <| RunL.splitD (d := 22) rfl (fun g14 => ?_) (fun g14 => ?_)
 · skip
   refine TK (t := 22) rfl (congrArg Value.bool (decide_eq_true g14)) <| Op1.fieldAddr fld35_1 rfl <| TK (t := 22) rfl (congrArg Value.bool (decide_eq_true g14)) <| Op1.load1 (v := .int .u32 _) ty22 rfl rfl (hst.cellL (.head _) rfl) <| TK (t := 22) rfl (congrArg Value.bool (decide_eq_true g14)) <| Op1.neq rfl rfl <| CN <| Op1.pickT (u := .bool _) (congrArg Value.bool (decide_eq_true g14)) rfl <| MB rfl <| RunL.splitD (d := 27) rfl (fun g15 => ?_) (fun g15 => ?_)
   · skip
     refine OM (t := 27) rfl (congrArg Value.bool (decide_eq_true g15)) rfl <| OM (t := 27) rfl (congrArg Value.bool (decide_eq_true g15)) rfl <| OM (t := 27) rfl (congrArg Value.bool (decide_eq_true g15)) rfl <| OM (t := 27) rfl (congrArg Value.bool (decide_eq_true g15)) rfl <| RunL.omitU (t := 31) rfl rfl <| RunL.omitU (t := 31) rfl rfl <| RunL.omitU (t := 31) rfl rfl <| OM (t := 27) rfl (congrArg Value.bool (decide_eq_true g15)) rfl <| CN <| Op1.pickT (u := .bool _) (congrArg Value.bool (decide_eq_true g15)) rfl <| NL <| Run.forget [(0, .int .u8 _), (2, .int .u32 _), (4, .pointer (some ⟨_, _, none⟩)), (36, .bool _)] ⟨rfl, rfl, rfl, rfl, trivial⟩ fun f => run_cond_true (congrArg Value.bool (rfl : true = _)) <| SR <| AI rfl ?_
     refine NL <| run_ret1 Try.func44 rfl (TP (v := .int .i64 _) rfl) ?_
     exact ⟨congrArg (Value.int .i64) (wrongA_form (.inr (.inr (.inl ⟨by omega, by omega⟩)))).symm, hst.pure⟩
   refine TK (t := 27) rfl (congrArg Value.bool (decide_eq_false g15)) <| Op1.fieldAddr fld35_0 rfl <| TK (t := 27) rfl (congrArg Value.bool (decide_eq_false g15)) <| Op1.load1 (v := .int .u8 _) ty5 rfl rfl (hst.cellL (.head _) rfl) <| TK (t := 27) rfl (congrArg Value.bool (decide_eq_false g15)) <| Op1.neq rfl rfl <| TK (t := 27) rfl (congrArg Value.bool (decide_eq_false g15)) <| Op1.move (v := .bool _) rfl <| RunL.splitD (d := 31) rfl (fun g16 => ?_) (fun g16 => ?_)
   · skip
     refine TK (t := 31) rfl (congrArg Value.bool (decide_eq_true g16)) <| Op1.fieldAddr fld35_2 rfl <| TK (t := 31) rfl (congrArg Value.bool (decide_eq_true g16)) <| Op1.load1 (v := str _) ty9 rfl rfl (hst.cellL (.head _) rfl) <| TK (t := 31) rfl (congrArg Value.bool (decide_eq_true g16)) <| Op1.neqS rfl rfl <| TK (t := 27) rfl (congrArg Value.bool (decide_eq_false g15)) <| Op1.pickT (u := .bool _) (congrArg Value.bool (decide_eq_true g16)) rfl <| CN <| Op1.pickF (u := .bool _) (congrArg Value.bool (decide_eq_false g15)) rfl <| NL <| Run.forget [(0, .int .u8 _), (2, .int .u32 _), (4, .pointer (some ⟨_, _, none⟩)), (36, .bool _)] ⟨rfl, rfl, rfl, rfl, trivial⟩ fun f => run_cond_dec rfl (fun g17 => ?_) (fun g17 => ?_)
     · skip
       refine SR <| AI rfl <| NL <| run_ret1 Try.func44 rfl (TP (v := .int .i64 _) rfl) ?_
       exact ⟨congrArg (Value.int .i64) (wrongA_form (.inr (.inr (.inr ⟨by omega, by simpa using g17⟩)))).symm, hst.pure⟩
     refine run_skip <| SQ <| SR <| CN <| Op1.fieldAddr fld35_0 rfl <| CN <| Op1.load1 (v := .int .u8 _) ty5 rfl rfl (hst.cellL (.head _) rfl) <| CN <| Op1.eql rfl rfl <| MB rfl <| RunL.splitD (d := 40) rfl (fun g18 => ?_) (fun g18 => ?_)
     · skip
       refine TK (t := 40) rfl (congrArg Value.bool (decide_eq_true g18)) <| Op1.fieldAddr fld35_1 rfl <| TK (t := 40) rfl (congrArg Value.bool (decide_eq_true g18)) <| Op1.load1 (v := .int .u32 _) ty22 rfl rfl (hst.cellL (.head _) rfl) <| TK (t := 40) rfl (congrArg Value.bool (decide_eq_true g18)) <| Op1.move (v := .int .u32 _) rfl <| TK (t := 40) rfl (congrArg Value.bool (decide_eq_true g18)) (Op1.call2 (v1 := .int .u32 _) (v2 := .int .u32 _) ent55 rfl rfl rfl ((R5ref4_None _ _ _).mono fun v w hp => ?_))
       obtain ⟨rfl, hp⟩ := hp
       replace hst := hst.keepc hp
       clear hp
       refine CN <| Op1.pickT (u := .bool _) (congrArg Value.bool (decide_eq_true g18)) rfl <| NL <| run_cond_split rfl (fun g19 => ?_) (fun g19 => ?_)
       · skip
         refine SR <| AI rfl <| NL <| run_ret1 Try.func44 rfl (TP (v := .int .i64 _) rfl) ?_
         have hE := wrongA_eq (c := c) (a := a) (bound := bound) (fun h => h.elim (by omega) (fun h => h (by rw [hkd]; omega))) (fun h => h.elim (fun h => by have := h.2; omega) (fun h => absurd h.2 (by simpa using g17)))
         rw [if_pos ⟨by omega, by simpa using g19⟩] at hE
         exact ⟨congrArg (Value.int .i64) (hE).symm, hst.pure⟩
       refine run_skip <| SR <| MC rfl <| CN <| Op1.fieldAddr fld35_1 rfl <| CN <| Op1.load1 (v := .int .u32 _) ty22 rfl rfl (hst.cellL (.head _) rfl) <| CN <| Op1.call2 (v1 := .int .u8 _) (v2 := .int .u32 _) ent56 rfl rfl rfl <| Ret.det (R5ref_Enum2 ho _) hst fun w hst => CN <| Op1.move (v := .tuple #[str _, .bool _]) rfl <| CN <| Op1.extract (v := str _) rfl rfl <| CN <| Op1.extract (v := .bool _) rfl rfl <| AS rfl <| AB rfl <| NL <| SQ <| SQ ?_
       refine RG <| CN <| Op1.fieldAddr fld35_0 rfl <| CN <| Op1.load1 (v := .int .u8 _) ty5 rfl rfl (hst.cellL (.head _) rfl) <| CN <| Op1.eql rfl rfl <| MB rfl <| RunL.splitD (d := 56) rfl (fun g20 => ?_) (fun g20 => ?_)
       · skip
         refine TK (t := 56) rfl (congrArg Value.bool (decide_eq_true g20)) <| Op1.move (v := .bool _) rfl <| TK (t := 56) rfl (congrArg Value.bool (decide_eq_true g20)) <| Op1.not rfl <| CN <| Op1.pickT (u := .bool _) (congrArg Value.bool (decide_eq_true g20)) rfl <| NL <| Run.forget [(4, .pointer (some ⟨_, _, none⟩)), (59, .bool _)] ⟨rfl, rfl, trivial⟩ fun f => run_cond_split rfl (fun g21 => ?_) (fun g21 => ?_)
         · skip
           refine SR <| AI rfl <| NL <| run_ret1 Try.func44 rfl (TP (v := .int .i64 _) rfl) ?_
           have hE := wrongA_eq (c := c) (a := a) (bound := bound) (fun h => h.elim (by omega) (fun h => h (by rw [hkd]; omega))) (fun h => h.elim (fun h => by have := h.2; omega) (fun h => absurd h.2 (by simpa using g17)))
           rw [if_neg (fun h => absurd h.2 (of_decide_eq_false g19))] at hE
           rw [if_pos ⟨by omega, by rw [ho]; simpa using g21⟩] at hE
           exact ⟨congrArg (Value.int .i64) (hE).symm, hst.pure⟩
         refine run_skip <| SQ <| SR <| AI rfl <| NL <| run_block <| run_loop <| Run.indW [(4, .pointer (some ⟨_, _, none⟩))] ⟨rfl, trivial⟩ (fun (i : Nat) => [(9, .int .i64 (i : Int))]) (fun (i : Nat) => []) (fun (i : Nat) => i ≤ a.s.length ∧ ∀ j, j < i → a.s.getD j 0 ≠ 0) (fun (i : Nat) => a.s.length - i) (0) hst ⟨Nat.zero_le _, no_lt⟩ ⟨rfl, trivial⟩ ?_
         intro i f w hst hJ ih22
         refine SQ <| SR <| MI rfl <| CN <| Op1.fieldAddr fld35_2 rfl <| CN <| Op1.load1 (v := str _) ty9 rfl rfl (hst.cellL (.head _) rfl) <| CN <| Op1.lenS (rest := []) ty9 rfl <| CN <| Op1.lss rfl rfl <| NL <| run_cond_dec rfl (fun g23 => ?_) (fun g23 => ?_)
         · skip
           refine run_skip <| SQ <| run_block <| SR <| CN <| Op1.fieldAddr fld35_2 rfl <| CN <| Op1.load1 (v := str _) ty9 rfl rfl (hst.cellL (.head _) rfl) <| MI rfl <| CN <| Op1.indexS ty9 rfl rfl (by omega) (by omega) <| CN <| Op1.eql rfl rfl <| NL <| run_cond_dec rfl (fun g24 => ?_) (fun g24 => ?_)
           · skip
             refine SR <| AI rfl <| NL <| run_ret1 Try.func44 rfl (TP (v := .int .i64 _) rfl) ?_
             have hE := wrongA_eq (c := c) (a := a) (bound := bound) (fun h => h.elim (by omega) (fun h => h (by rw [hkd]; omega))) (fun h => h.elim (fun h => by have := h.2; omega) (fun h => absurd h.2 (by simpa using g17)))
             rw [if_neg (fun h => absurd h.2 (of_decide_eq_false g19))] at hE
             rw [if_neg (fun h => by have h2 := h.2; have hg := g21; rw [ho] at h2; rw [h2] at hg; cases hg)] at hE
             rw [textE_hit (i := i) (by omega) (byte0 (by have hg := g24; exact hg)) hJ.2] at hE
             exact ⟨congrArg (Value.int .i64) (hE).symm, hst.pure⟩
           refine run_skip <| run_inBlock <| RG <| MI rfl <| CN <| Op1.addN rfl rfl rfl (wrap_i64 (by omega) (by omega)) <| AI rfl <| NL <| run_inLoop ?_
           exact ih22 (i + 1) _ w (by omega) hst (⟨by omega, step_all hJ.2 (byte1 g24)⟩) ⟨rfl, trivial⟩ ⟨(congrArg (Value.int .i64) (by omega)), trivial⟩
         refine run_exit (id := 0) rfl <| SR <| AI rfl <| NL <| run_ret1 Try.func44 rfl (TP (v := .int .i64 _) rfl) ?_
         have hE := wrongA_eq (c := c) (a := a) (bound := bound) (fun h => h.elim (by omega) (fun h => h (by rw [hkd]; omega))) (fun h => h.elim (fun h => by have := h.2; omega) (fun h => absurd h.2 (by simpa using g17)))
         rw [if_neg (fun h => absurd h.2 (of_decide_eq_false g19))] at hE
         rw [if_neg (fun h => by have h2 := h.2; have hg := g21; rw [ho] at h2; rw [h2] at hg; cases hg)] at hE
         rw [textE_none (fun j hj => hJ.2 j (by omega))] at hE
         exact ⟨congrArg (Value.int .i64) (hE).symm, hst.pure⟩
       refine OM (t := 56) rfl (congrArg Value.bool (decide_eq_false g20)) rfl <| OM (t := 56) rfl (congrArg Value.bool (decide_eq_false g20)) rfl <| CN <| Op1.pickF (u := .bool _) (congrArg Value.bool (decide_eq_false g20)) rfl <| NL <| Run.forget [(4, .pointer (some ⟨_, _, none⟩)), (59, .bool _)] ⟨rfl, rfl, trivial⟩ fun f => run_cond_false (congrArg Value.bool (rfl : false = _)) <| run_skip <| SQ <| SR <| AI rfl <| NL <| run_block <| run_loop <| Run.indW [(4, .pointer (some ⟨_, _, none⟩))] ⟨rfl, trivial⟩ (fun (i : Nat) => [(9, .int .i64 (i : Int))]) (fun (i : Nat) => []) (fun (i : Nat) => i ≤ a.s.length ∧ ∀ j, j < i → a.s.getD j 0 ≠ 0) (fun (i : Nat) => a.s.length - i) (0) hst ⟨Nat.zero_le _, no_lt⟩ ⟨rfl, trivial⟩ ?_
       intro i f w hst hJ ih25
       refine SQ <| SR <| MI rfl <| CN <| Op1.fieldAddr fld35_2 rfl <| CN <| Op1.load1 (v := str _) ty9 rfl rfl (hst.cellL (.head _) rfl) <| CN <| Op1.lenS (rest := []) ty9 rfl <| CN <| Op1.lss rfl rfl <| NL <| run_cond_dec rfl (fun g26 => ?_) (fun g26 => ?_)
       · skip
         refine run_skip <| SQ <| run_block <| SR <| CN <| Op1.fieldAddr fld35_2 rfl <| CN <| Op1.load1 (v := str _) ty9 rfl rfl (hst.cellL (.head _) rfl) <| MI rfl <| CN <| Op1.indexS ty9 rfl rfl (by omega) (by omega) <| CN <| Op1.eql rfl rfl <| NL <| run_cond_dec rfl (fun g27 => ?_) (fun g27 => ?_)
         · skip
           refine SR <| AI rfl <| NL <| run_ret1 Try.func44 rfl (TP (v := .int .i64 _) rfl) ?_
           have hE := wrongA_eq (c := c) (a := a) (bound := bound) (fun h => h.elim (by omega) (fun h => h (by rw [hkd]; omega))) (fun h => h.elim (fun h => by have := h.2; omega) (fun h => absurd h.2 (by simpa using g17)))
           rw [if_neg (fun h => absurd h.2 (of_decide_eq_false g19))] at hE
           rw [if_neg (fun h => by have := h.1; omega)] at hE
           rw [textE_hit (i := i) (by omega) (byte0 (by have hg := g27; exact hg)) hJ.2] at hE
           exact ⟨congrArg (Value.int .i64) (hE).symm, hst.pure⟩
         refine run_skip <| run_inBlock <| RG <| MI rfl <| CN <| Op1.addN rfl rfl rfl (wrap_i64 (by omega) (by omega)) <| AI rfl <| NL <| run_inLoop ?_
         exact ih25 (i + 1) _ w (by omega) hst (⟨by omega, step_all hJ.2 (byte1 g27)⟩) ⟨rfl, trivial⟩ ⟨(congrArg (Value.int .i64) (by omega)), trivial⟩
       refine run_exit (id := 0) rfl <| SR <| AI rfl <| NL <| run_ret1 Try.func44 rfl (TP (v := .int .i64 _) rfl) ?_
       have hE := wrongA_eq (c := c) (a := a) (bound := bound) (fun h => h.elim (by omega) (fun h => h (by rw [hkd]; omega))) (fun h => h.elim (fun h => by have := h.2; omega) (fun h => absurd h.2 (by simpa using g17)))
       rw [if_neg (fun h => absurd h.2 (of_decide_eq_false g19))] at hE
       rw [if_neg (fun h => by have := h.1; omega)] at hE
       rw [textE_none (fun j hj => hJ.2 j (by omega))] at hE
       exact ⟨congrArg (Value.int .i64) (hE).symm, hst.pure⟩
     refine OM (t := 40) rfl (congrArg Value.bool (decide_eq_false g18)) rfl <| OM (t := 40) rfl (congrArg Value.bool (decide_eq_false g18)) rfl <| OM (t := 40) rfl (congrArg Value.bool (decide_eq_false g18)) rfl <| OM (t := 40) rfl (congrArg Value.bool (decide_eq_false g18)) rfl <| CN <| Op1.pickF (u := .bool _) (congrArg Value.bool (decide_eq_false g18)) rfl <| NL <| run_cond_false (congrArg Value.bool (rfl : false = _)) <| run_skip <| SR <| MC rfl <| CN <| Op1.fieldAddr fld35_1 rfl <| CN <| Op1.load1 (v := .int .u32 _) ty22 rfl rfl (hst.cellL (.head _) rfl) <| CN <| Op1.call2 (v1 := .int .u8 _) (v2 := .int .u32 _) ent56 rfl rfl rfl <| Ret.det (R5ref_Enum2 ho _) hst fun w hst => CN (Op1.move (v := .tuple #[str _, .bool _]) rfl ?_)
     refine CN <| Op1.extract (v := str _) rfl rfl <| CN <| Op1.extract (v := .bool _) rfl rfl <| AS rfl <| AB rfl <| NL <| SQ <| SR <| CN <| Op1.fieldAddr fld35_0 rfl <| CN <| Op1.load1 (v := .int .u8 _) ty5 rfl rfl (hst.cellL (.head _) rfl) <| CN <| Op1.eql rfl rfl <| MB rfl <| RunL.splitD (d := 56) rfl (fun g28 => ?_) (fun g28 => ?_)
     · skip
       refine TK (t := 56) rfl (congrArg Value.bool (decide_eq_true g28)) <| Op1.move (v := .bool _) rfl <| TK (t := 56) rfl (congrArg Value.bool (decide_eq_true g28)) <| Op1.not rfl <| CN <| Op1.pickT (u := .bool _) (congrArg Value.bool (decide_eq_true g28)) rfl <| NL <| Run.forget [(4, .pointer (some ⟨_, _, none⟩)), (59, .bool _)] ⟨rfl, rfl, trivial⟩ fun f => run_cond_split rfl (fun g29 => ?_) (fun g29 => ?_)
       · skip
         refine SR <| AI rfl <| NL <| run_ret1 Try.func44 rfl (TP (v := .int .i64 _) rfl) ?_
         have hE := wrongA_eq (c := c) (a := a) (bound := bound) (fun h => h.elim (by omega) (fun h => h (by rw [hkd]; omega))) (fun h => h.elim (fun h => by have := h.2; omega) (fun h => absurd h.2 (by simpa using g17)))
         rw [if_neg (fun h => by have := h.1; omega)] at hE
         rw [if_pos ⟨by omega, by rw [ho]; simpa using g29⟩] at hE
         exact ⟨congrArg (Value.int .i64) (hE).symm, hst.pure⟩
       refine run_skip <| SQ <| SR <| AI rfl <| NL <| run_block <| run_loop <| Run.indW [(4, .pointer (some ⟨_, _, none⟩))] ⟨rfl, trivial⟩ (fun (i : Nat) => [(9, .int .i64 (i : Int))]) (fun (i : Nat) => []) (fun (i : Nat) => i ≤ a.s.length ∧ ∀ j, j < i → a.s.getD j 0 ≠ 0) (fun (i : Nat) => a.s.length - i) (0) hst ⟨Nat.zero_le _, no_lt⟩ ⟨rfl, trivial⟩ ?_
       intro i f w hst hJ ih30
       refine SQ <| SR <| MI rfl <| CN <| Op1.fieldAddr fld35_2 rfl <| CN <| Op1.load1 (v := str _) ty9 rfl rfl (hst.cellL (.head _) rfl) <| CN <| Op1.lenS (rest := []) ty9 rfl <| CN <| Op1.lss rfl rfl <| NL <| run_cond_dec rfl (fun g31 => ?_) (fun g31 => ?_)
       · skip
         refine run_skip <| SQ <| run_block <| SR <| CN <| Op1.fieldAddr fld35_2 rfl <| CN <| Op1.load1 (v := str _) ty9 rfl rfl (hst.cellL (.head _) rfl) <| MI rfl <| CN <| Op1.indexS ty9 rfl rfl (by omega) (by omega) <| CN <| Op1.eql rfl rfl <| NL <| run_cond_dec rfl (fun g32 => ?_) (fun g32 => ?_)
         · skip
           refine SR <| AI rfl <| NL <| run_ret1 Try.func44 rfl (TP (v := .int .i64 _) rfl) ?_
           have hE := wrongA_eq (c := c) (a := a) (bound := bound) (fun h => h.elim (by omega) (fun h => h (by rw [hkd]; omega))) (fun h => h.elim (fun h => by have := h.2; omega) (fun h => absurd h.2 (by simpa using g17)))
           rw [if_neg (fun h => by have := h.1; omega)] at hE
           rw [if_neg (fun h => by have h2 := h.2; have hg := g29; rw [ho] at h2; rw [h2] at hg; cases hg)] at hE
           rw [textE_hit (i := i) (by omega) (byte0 (by have hg := g32; exact hg)) hJ.2] at hE
           exact ⟨congrArg (Value.int .i64) (hE).symm, hst.pure⟩
         refine run_skip <| run_inBlock <| RG <| MI rfl <| CN <| Op1.addN rfl rfl rfl (wrap_i64 (by omega) (by omega)) <| AI rfl <| NL <| run_inLoop ?_
         exact ih30 (i + 1) _ w (by omega) hst (⟨by omega, step_all hJ.2 (byte1 g32)⟩) ⟨rfl, trivial⟩ ⟨(congrArg (Value.int .i64) (by omega)), trivial⟩
       refine run_exit (id := 0) rfl <| SR <| AI rfl <| NL <| run_ret1 Try.func44 rfl (TP (v := .int .i64 _) rfl) ?_
       have hE := wrongA_eq (c := c) (a := a) (bound := bound) (fun h => h.elim (by omega) (fun h => h (by rw [hkd]; omega))) (fun h => h.elim (fun h => by have := h.2; omega) (fun h => absurd h.2 (by simpa using g17)))
       rw [if_neg (fun h => by have := h.1; omega)] at hE
       rw [if_neg (fun h => by have h2 := h.2; have hg := g29; rw [ho] at h2; rw [h2] at hg; cases hg)] at hE
       rw [textE_none (fun j hj => hJ.2 j (by omega))] at hE
       exact ⟨congrArg (Value.int .i64) (hE).symm, hst.pure⟩
     refine OM (t := 56) rfl (congrArg Value.bool (decide_eq_false g28)) rfl <| OM (t := 56) rfl (congrArg Value.bool (decide_eq_false g28)) rfl <| CN <| Op1.pickF (u := .bool _) (congrArg Value.bool (decide_eq_false g28)) rfl <| NL <| Run.forget [(4, .pointer (some ⟨_, _, none⟩)), (59, .bool _)] ⟨rfl, rfl, trivial⟩ fun f => run_cond_false (congrArg Value.bool (rfl : false = _)) <| run_skip <| SQ <| SR <| AI rfl <| NL <| run_block <| run_loop <| Run.indW [(4, .pointer (some ⟨_, _, none⟩))] ⟨rfl, trivial⟩ (fun (i : Nat) => [(9, .int .i64 (i : Int))]) (fun (i : Nat) => []) (fun (i : Nat) => i ≤ a.s.length ∧ ∀ j, j < i → a.s.getD j 0 ≠ 0) (fun (i : Nat) => a.s.length - i) (0) hst ⟨Nat.zero_le _, no_lt⟩ ⟨rfl, trivial⟩ ?_
     intro i f w hst hJ ih33
     refine SQ <| SR <| MI rfl <| CN <| Op1.fieldAddr fld35_2 rfl <| CN <| Op1.load1 (v := str _) ty9 rfl rfl (hst.cellL (.head _) rfl) <| CN <| Op1.lenS (rest := []) ty9 rfl <| CN <| Op1.lss rfl rfl <| NL <| run_cond_dec rfl (fun g34 => ?_) (fun g34 => ?_)
     · skip
       refine run_skip <| SQ <| run_block <| SR <| CN <| Op1.fieldAddr fld35_2 rfl <| CN <| Op1.load1 (v := str _) ty9 rfl rfl (hst.cellL (.head _) rfl) <| MI rfl <| CN <| Op1.indexS ty9 rfl rfl (by omega) (by omega) <| CN <| Op1.eql rfl rfl <| NL <| run_cond_dec rfl (fun g35 => ?_) (fun g35 => ?_)
       · skip
         refine SR <| AI rfl <| NL <| run_ret1 Try.func44 rfl (TP (v := .int .i64 _) rfl) ?_
         have hE := wrongA_eq (c := c) (a := a) (bound := bound) (fun h => h.elim (by omega) (fun h => h (by rw [hkd]; omega))) (fun h => h.elim (fun h => by have := h.2; omega) (fun h => absurd h.2 (by simpa using g17)))
         rw [if_neg (fun h => by have := h.1; omega)] at hE
         rw [if_neg (fun h => by have := h.1; omega)] at hE
         rw [textE_hit (i := i) (by omega) (byte0 (by have hg := g35; exact hg)) hJ.2] at hE
         exact ⟨congrArg (Value.int .i64) (hE).symm, hst.pure⟩
       refine run_skip <| run_inBlock <| RG <| MI rfl <| CN <| Op1.addN rfl rfl rfl (wrap_i64 (by omega) (by omega)) <| AI rfl <| NL <| run_inLoop ?_
       exact ih33 (i + 1) _ w (by omega) hst (⟨by omega, step_all hJ.2 (byte1 g35)⟩) ⟨rfl, trivial⟩ ⟨(congrArg (Value.int .i64) (by omega)), trivial⟩
     refine run_exit (id := 0) rfl <| SR <| AI rfl <| NL <| run_ret1 Try.func44 rfl (TP (v := .int .i64 _) rfl) ?_
     have hE := wrongA_eq (c := c) (a := a) (bound := bound) (fun h => h.elim (by omega) (fun h => h (by rw [hkd]; omega))) (fun h => h.elim (fun h => by have := h.2; omega) (fun h => absurd h.2 (by simpa using g17)))
     rw [if_neg (fun h => by have := h.1; omega)] at hE
     rw [if_neg (fun h => by have := h.1; omega)] at hE
     rw [textE_none (fun j hj => hJ.2 j (by omega))] at hE
     exact ⟨congrArg (Value.int .i64) (hE).symm, hst.pure⟩
   refine OM (t := 31) rfl (congrArg Value.bool (decide_eq_false g16)) rfl <| OM (t := 31) rfl (congrArg Value.bool (decide_eq_false g16)) rfl <| OM (t := 31) rfl (congrArg Value.bool (decide_eq_false g16)) rfl <| TK (t := 27) rfl (congrArg Value.bool (decide_eq_false g15)) <| Op1.pickF (u := .bool _) (congrArg Value.bool (decide_eq_false g16)) rfl <| CN <| Op1.pickF (u := .bool _) (congrArg Value.bool (decide_eq_false g15)) rfl <| NL <| Run.forget [(0, .int .u8 _), (2, .int .u32 _), (4, .pointer (some ⟨_, _, none⟩)), (36, .bool _)] ⟨rfl, rfl, rfl, rfl, trivial⟩ fun f => run_cond_false (congrArg Value.bool (rfl : false = _)) <| run_skip <| SQ <| SR <| CN <| Op1.fieldAddr fld35_0 rfl <| CN <| Op1.load1 (v := .int .u8 _) ty5 rfl rfl (hst.cellL (.head _) rfl) <| CN (Op1.eql rfl rfl ?_)
   refine MB rfl <| RunL.splitD (d := 40) rfl (fun g36 => ?_) (fun g36 => ?_)
   · skip
     refine TK (t := 40) rfl (congrArg Value.bool (decide_eq_true g36)) <| Op1.fieldAddr fld35_1 rfl <| TK (t := 40) rfl (congrArg Value.bool (decide_eq_true g36)) <| Op1.load1 (v := .int .u32 _) ty22 rfl rfl (hst.cellL (.head _) rfl) <| TK (t := 40) rfl (congrArg Value.bool (decide_eq_true g36)) <| Op1.move (v := .int .u32 _) rfl <| TK (t := 40) rfl (congrArg Value.bool (decide_eq_true g36)) (Op1.call2 (v1 := .int .u32 _) (v2 := .int .u32 _) ent55 rfl rfl rfl ((R5ref4_None _ _ _).mono fun v w hp => ?_))
     obtain ⟨rfl, hp⟩ := hp
     replace hst := hst.keepc hp
     clear hp
     refine CN <| Op1.pickT (u := .bool _) (congrArg Value.bool (decide_eq_true g36)) rfl <| NL <| run_cond_split rfl (fun g37 => ?_) (fun g37 => ?_)
     · skip
       refine SR <| AI rfl <| NL <| run_ret1 Try.func44 rfl (TP (v := .int .i64 _) rfl) ?_
       have hE := wrongA_eq (c := c) (a := a) (bound := bound) (fun h => h.elim (by omega) (fun h => h (by rw [hkd]; omega))) (fun h => h.elim (fun h => by have := h.2; omega) (fun h => h.1 (by omega)))
       rw [if_pos ⟨by omega, by simpa using g37⟩] at hE
       exact ⟨congrArg (Value.int .i64) (hE).symm, hst.pure⟩
     refine run_skip <| SR <| MC rfl <| CN <| Op1.fieldAddr fld35_1 rfl <| CN <| Op1.load1 (v := .int .u32 _) ty22 rfl rfl (hst.cellL (.head _) rfl) <| CN <| Op1.call2 (v1 := .int .u8 _) (v2 := .int .u32 _) ent56 rfl rfl rfl <| Ret.det (R5ref_Enum2 ho _) hst fun w hst => CN <| Op1.move (v := .tuple #[str _, .bool _]) rfl <| CN <| Op1.extract (v := str _) rfl rfl <| CN <| Op1.extract (v := .bool _) rfl rfl <| AS rfl <| AB rfl <| NL <| SQ <| SQ ?_
     refine RG <| CN <| Op1.fieldAddr fld35_0 rfl <| CN <| Op1.load1 (v := .int .u8 _) ty5 rfl rfl (hst.cellL (.head _) rfl) <| CN <| Op1.eql rfl rfl <| MB rfl <| RunL.splitD (d := 56) rfl (fun g38 => ?_) (fun g38 => ?_)
     · skip
       refine TK (t := 56) rfl (congrArg Value.bool (decide_eq_true g38)) <| Op1.move (v := .bool _) rfl <| TK (t := 56) rfl (congrArg Value.bool (decide_eq_true g38)) <| Op1.not rfl <| CN <| Op1.pickT (u := .bool _) (congrArg Value.bool (decide_eq_true g38)) rfl <| NL <| Run.forget [(4, .pointer (some ⟨_, _, none⟩)), (59, .bool _)] ⟨rfl, rfl, trivial⟩ fun f => run_cond_split rfl (fun g39 => ?_) (fun g39 => ?_)
       · skip
         refine SR <| AI rfl <| NL <| run_ret1 Try.func44 rfl (TP (v := .int .i64 _) rfl) ?_
         have hE := wrongA_eq (c := c) (a := a) (bound := bound) (fun h => h.elim (by omega) (fun h => h (by rw [hkd]; omega))) (fun h => h.elim (fun h => by have := h.2; omega) (fun h => h.1 (by omega)))
         rw [if_neg (fun h => absurd h.2 (of_decide_eq_false g37))] at hE
         rw [if_pos ⟨by omega, by rw [ho]; simpa using g39⟩] at hE
         exact ⟨congrArg (Value.int .i64) (hE).symm, hst.pure⟩
       refine run_skip <| SQ <| SR <| AI rfl <| NL <| run_block <| run_loop <| Run.indW [(4, .pointer (some ⟨_, _, none⟩))] ⟨rfl, trivial⟩ (fun (i : Nat) => [(9, .int .i64 (i : Int))]) (fun (i : Nat) => []) (fun (i : Nat) => i ≤ a.s.length ∧ ∀ j, j < i → a.s.getD j 0 ≠ 0) (fun (i : Nat) => a.s.length - i) (0) hst ⟨Nat.zero_le _, no_lt⟩ ⟨rfl, trivial⟩ ?_
       intro i f w hst hJ ih40
       refine SQ <| SR <| MI rfl <| CN <| Op1.fieldAddr fld35_2 rfl <| CN <| Op1.load1 (v := str _) ty9 rfl rfl (hst.cellL (.head _) rfl) <| CN <| Op1.lenS (rest := []) ty9 rfl <| CN <| Op1.lss rfl rfl <| NL <| run_cond_dec rfl (fun g41 => ?_) (fun g41 => ?_)
       · skip
         refine run_skip <| SQ <| run_block <| SR <| CN <| Op1.fieldAddr fld35_2 rfl <| CN <| Op1.load1 (v := str _) ty9 rfl rfl (hst.cellL (.head _) rfl) <| MI rfl <| CN <| Op1.indexS ty9 rfl rfl (by omega) (by omega) <| CN <| Op1.eql rfl rfl <| NL <| run_cond_dec rfl (fun g42 => ?_) (fun g42 => ?_)
         · skip
           refine SR <| AI rfl <| NL <| run_ret1 Try.func44 rfl (TP (v := .int .i64 _) rfl) ?_
           have hE := wrongA_eq (c := c) (a := a) (bound := bound) (fun h => h.elim (by omega) (fun h => h (by rw [hkd]; omega))) (fun h => h.elim (fun h => by have := h.2; omega) (fun h => h.1 (by omega)))
           rw [if_neg (fun h => absurd h.2 (of_decide_eq_false g37))] at hE
           rw [if_neg (fun h => by have h2 := h.2; have hg := g39; rw [ho] at h2; rw [h2] at hg; cases hg)] at hE
           rw [textE_hit (i := i) (by omega) (byte0 (by have hg := g42; exact hg)) hJ.2] at hE
           exact ⟨congrArg (Value.int .i64) (hE).symm, hst.pure⟩
         refine run_skip <| run_inBlock <| RG <| MI rfl <| CN <| Op1.addN rfl rfl rfl (wrap_i64 (by omega) (by omega)) <| AI rfl <| NL <| run_inLoop ?_
         exact ih40 (i + 1) _ w (by omega) hst (⟨by omega, step_all hJ.2 (byte1 g42)⟩) ⟨rfl, trivial⟩ ⟨(congrArg (Value.int .i64) (by omega)), trivial⟩
       refine run_exit (id := 0) rfl <| SR <| AI rfl <| NL <| run_ret1 Try.func44 rfl (TP (v := .int .i64 _) rfl) ?_
       have hE := wrongA_eq (c := c) (a := a) (bound := bound) (fun h => h.elim (by omega) (fun h => h (by rw [hkd]; omega))) (fun h => h.elim (fun h => by have := h.2; omega) (fun h => h.1 (by omega)))
       rw [if_neg (fun h => absurd h.2 (of_decide_eq_false g37))] at hE
       rw [if_neg (fun h => by have h2 := h.2; have hg := g39; rw [ho] at h2; rw [h2] at hg; cases hg)] at hE
       rw [textE_none (fun j hj => hJ.2 j (by omega))] at hE
       exact ⟨congrArg (Value.int .i64) (hE).symm, hst.pure⟩
     refine OM (t := 56) rfl (congrArg Value.bool (decide_eq_false g38)) rfl <| OM (t := 56) rfl (congrArg Value.bool (decide_eq_false g38)) rfl <| CN <| Op1.pickF (u := .bool _) (congrArg Value.bool (decide_eq_false g38)) rfl <| NL <| Run.forget [(4, .pointer (some ⟨_, _, none⟩)), (59, .bool _)] ⟨rfl, rfl, trivial⟩ fun f => run_cond_false (congrArg Value.bool (rfl : false = _)) <| run_skip <| SQ <| SR <| AI rfl <| NL <| run_block <| run_loop <| Run.indW [(4, .pointer (some ⟨_, _, none⟩))] ⟨rfl, trivial⟩ (fun (i : Nat) => [(9, .int .i64 (i : Int))]) (fun (i : Nat) => []) (fun (i : Nat) => i ≤ a.s.length ∧ ∀ j, j < i → a.s.getD j 0 ≠ 0) (fun (i : Nat) => a.s.length - i) (0) hst ⟨Nat.zero_le _, no_lt⟩ ⟨rfl, trivial⟩ ?_
     intro i f w hst hJ ih43
     refine SQ <| SR <| MI rfl <| CN <| Op1.fieldAddr fld35_2 rfl <| CN <| Op1.load1 (v := str _) ty9 rfl rfl (hst.cellL (.head _) rfl) <| CN <| Op1.lenS (rest := []) ty9 rfl <| CN <| Op1.lss rfl rfl <| NL <| run_cond_dec rfl (fun g44 => ?_) (fun g44 => ?_)
     · skip
       refine run_skip <| SQ <| run_block <| SR <| CN <| Op1.fieldAddr fld35_2 rfl <| CN <| Op1.load1 (v := str _) ty9 rfl rfl (hst.cellL (.head _) rfl) <| MI rfl <| CN <| Op1.indexS ty9 rfl rfl (by omega) (by omega) <| CN <| Op1.eql rfl rfl <| NL <| run_cond_dec rfl (fun g45 => ?_) (fun g45 => ?_)
       · skip
         refine SR <| AI rfl <| NL <| run_ret1 Try.func44 rfl (TP (v := .int .i64 _) rfl) ?_
         have hE := wrongA_eq (c := c) (a := a) (bound := bound) (fun h => h.elim (by omega) (fun h => h (by rw [hkd]; omega))) (fun h => h.elim (fun h => by have := h.2; omega) (fun h => h.1 (by omega)))
         rw [if_neg (fun h => absurd h.2 (of_decide_eq_false g37))] at hE
         rw [if_neg (fun h => by have := h.1; omega)] at hE
         rw [textE_hit (i := i) (by omega) (byte0 (by have hg := g45; exact hg)) hJ.2] at hE
         exact ⟨congrArg (Value.int .i64) (hE).symm, hst.pure⟩
       refine run_skip <| run_inBlock <| RG <| MI rfl <| CN <| Op1.addN rfl rfl rfl (wrap_i64 (by omega) (by omega)) <| AI rfl <| NL <| run_inLoop ?_
       exact ih43 (i + 1) _ w (by omega) hst (⟨by omega, step_all hJ.2 (byte1 g45)⟩) ⟨rfl, trivial⟩ ⟨(congrArg (Value.int .i64) (by omega)), trivial⟩
     refine run_exit (id := 0) rfl <| SR <| AI rfl <| NL <| run_ret1 Try.func44 rfl (TP (v := .int .i64 _) rfl) ?_
     have hE := wrongA_eq (c := c) (a := a) (bound := bound) (fun h => h.elim (by omega) (fun h => h (by rw [hkd]; omega))) (fun h => h.elim (fun h => by have := h.2; omega) (fun h => h.1 (by omega)))
     rw [if_neg (fun h => absurd h.2 (of_decide_eq_false g37))] at hE
     rw [if_neg (fun h => by have := h.1; omega)] at hE
     rw [textE_none (fun j hj => hJ.2 j (by omega))] at hE
     exact ⟨congrArg (Value.int .i64) (hE).symm, hst.pure⟩
   refine OM (t := 40) rfl (congrArg Value.bool (decide_eq_false g36)) rfl <| OM (t := 40) rfl (congrArg Value.bool (decide_eq_false g36)) rfl <| OM (t := 40) rfl (congrArg Value.bool (decide_eq_false g36)) rfl <| OM (t := 40) rfl (congrArg Value.bool (decide_eq_false g36)) rfl <| CN <| Op1.pickF (u := .bool _) (congrArg Value.bool (decide_eq_false g36)) rfl <| NL <| run_cond_false (congrArg Value.bool (rfl : false = _)) <| run_skip <| SR <| MC rfl <| CN <| Op1.fieldAddr fld35_1 rfl <| CN <| Op1.load1 (v := .int .u32 _) ty22 rfl rfl (hst.cellL (.head _) rfl) <| CN <| Op1.call2 (v1 := .int .u8 _) (v2 := .int .u32 _) ent56 rfl rfl rfl <| Ret.det (R5ref_Enum2 ho _) hst fun w hst => CN (Op1.move (v := .tuple #[str _, .bool _]) rfl ?_)
   refine CN <| Op1.extract (v := str _) rfl rfl <| CN <| Op1.extract (v := .bool _) rfl rfl <| AS rfl <| AB rfl <| NL <| SQ <| SR <| CN <| Op1.fieldAddr fld35_0 rfl <| CN <| Op1.load1 (v := .int .u8 _) ty5 rfl rfl (hst.cellL (.head _) rfl) <| CN <| Op1.eql rfl rfl <| MB rfl <| RunL.splitD (d := 56) rfl (fun g46 => ?_) (fun g46 => ?_)
   · skip
     refine TK (t := 56) rfl (congrArg Value.bool (decide_eq_true g46)) <| Op1.move (v := .bool _) rfl <| TK (t := 56) rfl (congrArg Value.bool (decide_eq_true g46)) <| Op1.not rfl <| CN <| Op1.pickT (u := .bool _) (congrArg Value.bool (decide_eq_true g46)) rfl <| NL <| Run.forget [(4, .pointer (some ⟨_, _, none⟩)), (59, .bool _)] ⟨rfl, rfl, trivial⟩ fun f => run_cond_split rfl (fun g47 => ?_) (fun g47 => ?_)
     · skip
       refine SR <| AI rfl <| NL <| run_ret1 Try.func44 rfl (TP (v := .int .i64 _) rfl) ?_
       have hE := wrongA_eq (c := c) (a := a) (bound := bound) (fun h => h.elim (by omega) (fun h => h (by rw [hkd]; omega))) (fun h => h.elim (fun h => by have := h.2; omega) (fun h => h.1 (by omega)))
       rw [if_neg (fun h => by have := h.1; omega)] at hE
       rw [if_pos ⟨by omega, by rw [ho]; simpa using g47⟩] at hE
       exact ⟨congrArg (Value.int .i64) (hE).symm, hst.pure⟩
     refine run_skip <| SQ <| SR <| AI rfl <| NL <| run_block <| run_loop <| Run.indW [(4, .pointer (some ⟨_, _, none⟩))] ⟨rfl, trivial⟩ (fun (i : Nat) => [(9, .int .i64 (i : Int))]) (fun (i : Nat) => []) (fun (i : Nat) => i ≤ a.s.length ∧ ∀ j, j < i → a.s.getD j 0 ≠ 0) (fun (i : Nat) => a.s.length - i) (0) hst ⟨Nat.zero_le _, no_lt⟩ ⟨rfl, trivial⟩ ?_
     intro i f w hst hJ ih48
     refine SQ <| SR <| MI rfl <| CN <| Op1.fieldAddr fld35_2 rfl <| CN <| Op1.load1 (v := str _) ty9 rfl rfl (hst.cellL (.head _) rfl) <| CN <| Op1.lenS (rest := []) ty9 rfl <| CN <| Op1.lss rfl rfl <| NL <| run_cond_dec rfl (fun g49 => ?_) (fun g49 => ?_)
     · skip
       refine run_skip <| SQ <| run_block <| SR <| CN <| Op1.fieldAddr fld35_2 rfl <| CN <| Op1.load1 (v := str _) ty9 rfl rfl (hst.cellL (.head _) rfl) <| MI rfl <| CN <| Op1.indexS ty9 rfl rfl (by omega) (by omega) <| CN <| Op1.eql rfl rfl <| NL <| run_cond_dec rfl (fun g50 => ?_) (fun g50 => ?_)
       · skip
         refine SR <| AI rfl <| NL <| run_ret1 Try.func44 rfl (TP (v := .int .i64 _) rfl) ?_
         have hE := wrongA_eq (c := c) (a := a) (bound := bound) (fun h => h.elim (by omega) (fun h => h (by rw [hkd]; omega))) (fun h => h.elim (fun h => by have := h.2; omega) (fun h => h.1 (by omega)))
         rw [if_neg (fun h => by have := h.1; omega)] at hE
         rw [if_neg (fun h => by have h2 := h.2; have hg := g47; rw [ho] at h2; rw [h2] at hg; cases hg)] at hE
         rw [textE_hit (i := i) (by omega) (byte0 (by have hg := g50; exact hg)) hJ.2] at hE
         exact ⟨congrArg (Value.int .i64) (hE).symm, hst.pure⟩
       refine run_skip <| run_inBlock <| RG <| MI rfl <| CN <| Op1.addN rfl rfl rfl (wrap_i64 (by omega) (by omega)) <| AI rfl <| NL <| run_inLoop ?_
       exact ih48 (i + 1) _ w (by omega) hst (⟨by omega, step_all hJ.2 (byte1 g50)⟩) ⟨rfl, trivial⟩ ⟨(congrArg (Value.int .i64) (by omega)), trivial⟩
     refine run_exit (id := 0) rfl <| SR <| AI rfl <| NL <| run_ret1 Try.func44 rfl (TP (v := .int .i64 _) rfl) ?_
     have hE := wrongA_eq (c := c) (a := a) (bound := bound) (fun h => h.elim (by omega) (fun h => h (by rw [hkd]; omega))) (fun h => h.elim (fun h => by have := h.2; omega) (fun h => h.1 (by omega)))
     rw [if_neg (fun h => by have := h.1; omega)] at hE
     rw [if_neg (fun h => by have h2 := h.2; have hg := g47; rw [ho] at h2; rw [h2] at hg; cases hg)] at hE
     rw [textE_none (fun j hj => hJ.2 j (by omega))] at hE
     exact ⟨congrArg (Value.int .i64) (hE).symm, hst.pure⟩
   refine OM (t := 56) rfl (congrArg Value.bool (decide_eq_false g46)) rfl <| OM (t := 56) rfl (congrArg Value.bool (decide_eq_false g46)) rfl <| CN <| Op1.pickF (u := .bool _) (congrArg Value.bool (decide_eq_false g46)) rfl <| NL <| Run.forget [(4, .pointer (some ⟨_, _, none⟩)), (59, .bool _)] ⟨rfl, rfl, trivial⟩ fun f => run_cond_false (congrArg Value.bool (rfl : false = _)) <| run_skip <| SQ <| SR <| AI rfl <| NL <| run_block <| run_loop <| Run.indW [(4, .pointer (some ⟨_, _, none⟩))] ⟨rfl, trivial⟩ (fun (i : Nat) => [(9, .int .i64 (i : Int))]) (fun (i : Nat) => []) (fun (i : Nat) => i ≤ a.s.length ∧ ∀ j, j < i → a.s.getD j 0 ≠ 0) (fun (i : Nat) => a.s.length - i) (0) hst ⟨Nat.zero_le _, no_lt⟩ ⟨rfl, trivial⟩ ?_
   intro i f w hst hJ ih51
   refine SQ <| SR <| MI rfl <| CN <| Op1.fieldAddr fld35_2 rfl <| CN <| Op1.load1 (v := str _) ty9 rfl rfl (hst.cellL (.head _) rfl) <| CN <| Op1.lenS (rest := []) ty9 rfl <| CN <| Op1.lss rfl rfl <| NL <| run_cond_dec rfl (fun g52 => ?_) (fun g52 => ?_)
   · skip
     refine run_skip <| SQ <| run_block <| SR <| CN <| Op1.fieldAddr fld35_2 rfl <| CN <| Op1.load1 (v := str _) ty9 rfl rfl (hst.cellL (.head _) rfl) <| MI rfl <| CN <| Op1.indexS ty9 rfl rfl (by omega) (by omega) <| CN <| Op1.eql rfl rfl <| NL <| run_cond_dec rfl (fun g53 => ?_) (fun g53 => ?_)
     · skip
       refine SR <| AI rfl <| NL <| run_ret1 Try.func44 rfl (TP (v := .int .i64 _) rfl) ?_
       have hE := wrongA_eq (c := c) (a := a) (bound := bound) (fun h => h.elim (by omega) (fun h => h (by rw [hkd]; omega))) (fun h => h.elim (fun h => by have := h.2; omega) (fun h => h.1 (by omega)))
       rw [if_neg (fun h => by have := h.1; omega)] at hE
       rw [if_neg (fun h => by have := h.1; omega)] at hE
       rw [textE_hit (i := i) (by omega) (byte0 (by have hg := g53; exact hg)) hJ.2] at hE
       exact ⟨congrArg (Value.int .i64) (hE).symm, hst.pure⟩
     refine run_skip <| run_inBlock <| RG <| MI rfl <| CN <| Op1.addN rfl rfl rfl (wrap_i64 (by omega) (by omega)) <| AI rfl <| NL <| run_inLoop ?_
     exact ih51 (i + 1) _ w (by omega) hst (⟨by omega, step_all hJ.2 (byte1 g53)⟩) ⟨rfl, trivial⟩ ⟨(congrArg (Value.int .i64) (by omega)), trivial⟩
   refine run_exit (id := 0) rfl <| SR <| AI rfl <| NL <| run_ret1 Try.func44 rfl (TP (v := .int .i64 _) rfl) ?_
   have hE := wrongA_eq (c := c) (a := a) (bound := bound) (fun h => h.elim (by omega) (fun h => h (by rw [hkd]; omega))) (fun h => h.elim (fun h => by have := h.2; omega) (fun h => h.1 (by omega)))
   rw [if_neg (fun h => by have := h.1; omega)] at hE
   rw [if_neg (fun h => by have := h.1; omega)] at hE
   rw [textE_none (fun j hj => hJ.2 j (by omega))] at hE
   exact ⟨congrArg (Value.int .i64) (hE).symm, hst.pure⟩
 refine OM (t := 22) rfl (congrArg Value.bool (decide_eq_false g14)) rfl <| OM (t := 22) rfl (congrArg Value.bool (decide_eq_false g14)) rfl <| OM (t := 22) rfl (congrArg Value.bool (decide_eq_false g14)) rfl <| CN <| Op1.pickF (u := .bool _) (congrArg Value.bool (decide_eq_false g14)) rfl <| MB rfl <| TK (t := 27) rfl (congrArg Value.bool (rfl : false = _)) <| Op1.fieldAddr fld35_0 rfl <| TK (t := 27) rfl (congrArg Value.bool (rfl : false = _)) <| Op1.load1 (v := .int .u8 _) ty5 rfl rfl (hst.cellL (.head _) rfl) <| TK (t := 27) rfl (congrArg Value.bool (rfl : false = _)) <| Op1.neq rfl rfl <| TK (t := 27) rfl (congrArg Value.bool (rfl : false = _)) <| Op1.move (v := .bool _) rfl <| RunL.splitD (d := 31) rfl (fun g54 => ?_) (fun g54 => ?_)
 · skip
   refine TK (t := 31) rfl (congrArg Value.bool (decide_eq_true g54)) <| Op1.fieldAddr fld35_2 rfl <| TK (t := 31) rfl (congrArg Value.bool (decide_eq_true g54)) <| Op1.load1 (v := str _) ty9 rfl rfl (hst.cellL (.head _) rfl) <| TK (t := 31) rfl (congrArg Value.bool (decide_eq_true g54)) <| Op1.neqS rfl rfl <| TK (t := 27) rfl (congrArg Value.bool (rfl : false = _)) <| Op1.pickT (u := .bool _) (congrArg Value.bool (decide_eq_true g54)) rfl <| CN <| Op1.pickF (u := .bool _) (congrArg Value.bool (rfl : false = _)) rfl <| NL <| Run.forget [(0, .int .u8 _), (2, .int .u32 _), (4, .pointer (some ⟨_, _, none⟩)), (36, .bool _)] ⟨rfl, rfl, rfl, rfl, trivial⟩ fun f => run_cond_dec rfl (fun g55 => ?_) (fun g55 => ?_)
   · skip
     refine SR <| AI rfl <| NL <| run_ret1 Try.func44 rfl (TP (v := .int .i64 _) rfl) ?_
     exact ⟨congrArg (Value.int .i64) (wrongA_form (.inr (.inr (.inr ⟨by omega, by simpa using g55⟩)))).symm, hst.pure⟩
   refine run_skip <| SQ <| SR <| CN <| Op1.fieldAddr fld35_0 rfl <| CN <| Op1.load1 (v := .int .u8 _) ty5 rfl rfl (hst.cellL (.head _) rfl) <| CN <| Op1.eql rfl rfl <| MB rfl <| RunL.splitD (d := 40) rfl (fun g56 => ?_) (fun g56 => ?_)
   · skip
     refine TK (t := 40) rfl (congrArg Value.bool (decide_eq_true g56)) <| Op1.fieldAddr fld35_1 rfl <| TK (t := 40) rfl (congrArg Value.bool (decide_eq_true g56)) <| Op1.load1 (v := .int .u32 _) ty22 rfl rfl (hst.cellL (.head _) rfl) <| TK (t := 40) rfl (congrArg Value.bool (decide_eq_true g56)) <| Op1.move (v := .int .u32 _) rfl <| TK (t := 40) rfl (congrArg Value.bool (decide_eq_true g56)) (Op1.call2 (v1 := .int .u32 _) (v2 := .int .u32 _) ent55 rfl rfl rfl ((R5ref4_None _ _ _).mono fun v w hp => ?_))
     obtain ⟨rfl, hp⟩ := hp
     replace hst := hst.keepc hp
     clear hp
     refine CN <| Op1.pickT (u := .bool _) (congrArg Value.bool (decide_eq_true g56)) rfl <| NL <| run_cond_split rfl (fun g57 => ?_) (fun g57 => ?_)
     · skip
       refine SR <| AI rfl <| NL <| run_ret1 Try.func44 rfl (TP (v := .int .i64 _) rfl) ?_
       have hE := wrongA_eq (c := c) (a := a) (bound := bound) (fun h => h.elim (by omega) (fun h => h (by rw [hkd]; omega))) (fun h => h.elim (fun h => by have := h.2; omega) (fun h => absurd h.2 (by simpa using g55)))
       rw [if_pos ⟨by omega, by simpa using g57⟩] at hE
       exact ⟨congrArg (Value.int .i64) (hE).symm, hst.pure⟩
     refine run_skip <| SR <| MC rfl <| CN <| Op1.fieldAddr fld35_1 rfl <| CN <| Op1.load1 (v := .int .u32 _) ty22 rfl rfl (hst.cellL (.head _) rfl) <| CN <| Op1.call2 (v1 := .int .u8 _) (v2 := .int .u32 _) ent56 rfl rfl rfl <| Ret.det (R5ref_Enum2 ho _) hst fun w hst => CN <| Op1.move (v := .tuple #[str _, .bool _]) rfl <| CN <| Op1.extract (v := str _) rfl rfl <| CN <| Op1.extract (v := .bool _) rfl rfl <| AS rfl <| AB rfl <| NL <| SQ <| SQ ?_
     refine RG <| CN <| Op1.fieldAddr fld35_0 rfl <| CN <| Op1.load1 (v := .int .u8 _) ty5 rfl rfl (hst.cellL (.head _) rfl) <| CN <| Op1.eql rfl rfl <| MB rfl <| RunL.splitD (d := 56) rfl (fun g58 => ?_) (fun g58 => ?_)
     · skip
       refine TK (t := 56) rfl (congrArg Value.bool (decide_eq_true g58)) <| Op1.move (v := .bool _) rfl <| TK (t := 56) rfl (congrArg Value.bool (decide_eq_true g58)) <| Op1.not rfl <| CN <| Op1.pickT (u := .bool _) (congrArg Value.bool (decide_eq_true g58)) rfl <| NL <| Run.forget [(4, .pointer (some ⟨_, _, none⟩)), (59, .bool _)] ⟨rfl, rfl, trivial⟩ fun f => run_cond_split rfl (fun g59 => ?_) (fun g59 => ?_)
       · skip
         refine SR <| AI rfl <| NL <| run_ret1 Try.func44 rfl (TP (v := .int .i64 _) rfl) ?_
         have hE := wrongA_eq (c := c) (a := a) (bound := bound) (fun h => h.elim (by omega) (fun h => h (by rw [hkd]; omega))) (fun h => h.elim (fun h => by have := h.2; omega) (fun h => absurd h.2 (by simpa using g55)))
         rw [if_neg (fun h => absurd h.2 (of_decide_eq_false g57))] at hE
         rw [if_pos ⟨by omega, by rw [ho]; simpa using g59⟩] at hE
         exact ⟨congrArg (Value.int .i64) (hE).symm, hst.pure⟩
       refine run_skip <| SQ <| SR <| AI rfl <| NL <| run_block <| run_loop <| Run.indW [(4, .pointer (some ⟨_, _, none⟩))] ⟨rfl, trivial⟩ (fun (i : Nat) => [(9, .int .i64 (i : Int))]) (fun (i : Nat) => []) (fun (i : Nat) => i ≤ a.s.length ∧ ∀ j, j < i → a.s.getD j 0 ≠ 0) (fun (i : Nat) => a.s.length - i) (0) hst ⟨Nat.zero_le _, no_lt⟩ ⟨rfl, trivial⟩ ?_
       intro i f w hst hJ ih60
       refine SQ <| SR <| MI rfl <| CN <| Op1.fieldAddr fld35_2 rfl <| CN <| Op1.load1 (v := str _) ty9 rfl rfl (hst.cellL (.head _) rfl) <| CN <| Op1.lenS (rest := []) ty9 rfl <| CN <| Op1.lss rfl rfl <| NL <| run_cond_dec rfl (fun g61 => ?_) (fun g61 => ?_)
       · skip
         refine run_skip <| SQ <| run_block <| SR <| CN <| Op1.fieldAddr fld35_2 rfl <| CN <| Op1.load1 (v := str _) ty9 rfl rfl (hst.cellL (.head _) rfl) <| MI rfl <| CN <| Op1.indexS ty9 rfl rfl (by omega) (by omega) <| CN <| Op1.eql rfl rfl <| NL <| run_cond_dec rfl (fun g62 => ?_) (fun g62 => ?_)
         · skip
           refine SR <| AI rfl <| NL <| run_ret1 Try.func44 rfl (TP (v := .int .i64 _) rfl) ?_
           have hE := wrongA_eq (c := c) (a := a) (bound := bound) (fun h => h.elim (by omega) (fun h => h (by rw [hkd]; omega))) (fun h => h.elim (fun h => by have := h.2; omega) (fun h => absurd h.2 (by simpa using g55)))
           rw [if_neg (fun h => absurd h.2 (of_decide_eq_false g57))] at hE
           rw [if_neg (fun h => by have h2 := h.2; have hg := g59; rw [ho] at h2; rw [h2] at hg; cases hg)] at hE
           rw [textE_hit (i := i) (by omega) (byte0 (by have hg := g62; exact hg)) hJ.2] at hE
           exact ⟨congrArg (Value.int .i64) (hE).symm, hst.pure⟩
         refine run_skip <| run_inBlock <| RG <| MI rfl <| CN <| Op1.addN rfl rfl rfl (wrap_i64 (by omega) (by omega)) <| AI rfl <| NL <| run_inLoop ?_
         exact ih60 (i + 1) _ w (by omega) hst (⟨by omega, step_all hJ.2 (byte1 g62)⟩) ⟨rfl, trivial⟩ ⟨(congrArg (Value.int .i64) (by omega)), trivial⟩
       refine run_exit (id := 0) rfl <| SR <| AI rfl <| NL <| run_ret1 Try.func44 rfl (TP (v := .int .i64 _) rfl) ?_
       have hE := wrongA_eq (c := c) (a := a) (bound := bound) (fun h => h.elim (by omega) (fun h => h (by rw [hkd]; omega))) (fun h => h.elim (fun h => by have := h.2; omega) (fun h => absurd h.2 (by simpa using g55)))
       rw [if_neg (fun h => absurd h.2 (of_decide_eq_false g57))] at hE
       rw [if_neg (fun h => by have h2 := h.2; have hg := g59; rw [ho] at h2; rw [h2] at hg; cases hg)] at hE
       rw [textE_none (fun j hj => hJ.2 j (by omega))] at hE
       exact ⟨congrArg (Value.int .i64) (hE).symm, hst.pure⟩
     refine OM (t := 56) rfl (congrArg Value.bool (decide_eq_false g58)) rfl <| OM (t := 56) rfl (congrArg Value.bool (decide_eq_false g58)) rfl <| CN <| Op1.pickF (u := .bool _) (congrArg Value.bool (decide_eq_false g58)) rfl <| NL <| Run.forget [(4, .pointer (some ⟨_, _, none⟩)), (59, .bool _)] ⟨rfl, rfl, trivial⟩ fun f => run_cond_false (congrArg Value.bool (rfl : false = _)) <| run_skip <| SQ <| SR <| AI rfl <| NL <| run_block <| run_loop <| Run.indW [(4, .pointer (some ⟨_, _, none⟩))] ⟨rfl, trivial⟩ (fun (i : Nat) => [(9, .int .i64 (i : Int))]) (fun (i : Nat) => []) (fun (i : Nat) => i ≤ a.s.length ∧ ∀ j, j < i → a.s.getD j 0 ≠ 0) (fun (i : Nat) => a.s.length - i) (0) hst ⟨Nat.zero_le _, no_lt⟩ ⟨rfl, trivial⟩ ?_
     intro i f w hst hJ ih63
     refine SQ <| SR <| MI rfl <| CN <| Op1.fieldAddr fld35_2 rfl <| CN <| Op1.load1 (v := str _) ty9 rfl rfl (hst.cellL (.head _) rfl) <| CN <| Op1.lenS (rest := []) ty9 rfl <| CN <| Op1.lss rfl rfl <| NL <| run_cond_dec rfl (fun g64 => ?_) (fun g64 => ?_)
     · skip
       refine run_skip <| SQ <| run_block <| SR <| CN <| Op1.fieldAddr fld35_2 rfl <| CN <| Op1.load1 (v := str _) ty9 rfl rfl (hst.cellL (.head _) rfl) <| MI rfl <| CN <| Op1.indexS ty9 rfl rfl (by omega) (by omega) <| CN <| Op1.eql rfl rfl <| NL <| run_cond_dec rfl (fun g65 => ?_) (fun g65 => ?_)
       · skip
         refine SR <| AI rfl <| NL <| run_ret1 Try.func44 rfl (TP (v := .int .i64 _) rfl) ?_
         have hE := wrongA_eq (c := c) (a := a) (bound := bound) (fun h => h.elim (by omega) (fun h => h (by rw [hkd]; omega))) (fun h => h.elim (fun h => by have := h.2; omega) (fun h => absurd h.2 (by simpa using g55)))
         rw [if_neg (fun h => absurd h.2 (of_decide_eq_false g57))] at hE
         rw [if_neg (fun h => by have := h.1; omega)] at hE
         rw [textE_hit (i := i) (by omega) (byte0 (by have hg := g65; exact hg)) hJ.2] at hE
         exact ⟨congrArg (Value.int .i64) (hE).symm, hst.pure⟩
       refine run_skip <| run_inBlock <| RG <| MI rfl <| CN <| Op1.addN rfl rfl rfl (wrap_i64 (by omega) (by omega)) <| AI rfl <| NL <| run_inLoop ?_
       exact ih63 (i + 1) _ w (by omega) hst (⟨by omega, step_all hJ.2 (byte1 g65)⟩) ⟨rfl, trivial⟩ ⟨(congrArg (Value.int .i64) (by omega)), trivial⟩
     refine run_exit (id := 0) rfl <| SR <| AI rfl <| NL <| run_ret1 Try.func44 rfl (TP (v := .int .i64 _) rfl) ?_
     have hE := wrongA_eq (c := c) (a := a) (bound := bound) (fun h => h.elim (by omega) (fun h => h (by rw [hkd]; omega))) (fun h => h.elim (fun h => by have := h.2; omega) (fun h => absurd h.2 (by simpa using g55)))
     rw [if_neg (fun h => absurd h.2 (of_decide_eq_false g57))] at hE
     rw [if_neg (fun h => by have := h.1; omega)] at hE
     rw [textE_none (fun j hj => hJ.2 j (by omega))] at hE
     exact ⟨congrArg (Value.int .i64) (hE).symm, hst.pure⟩
   refine OM (t := 40) rfl (congrArg Value.bool (decide_eq_false g56)) rfl <| OM (t := 40) rfl (congrArg Value.bool (decide_eq_false g56)) rfl <| OM (t := 40) rfl (congrArg Value.bool (decide_eq_false g56)) rfl <| OM (t := 40) rfl (congrArg Value.bool (decide_eq_false g56)) rfl <| CN <| Op1.pickF (u := .bool _) (congrArg Value.bool (decide_eq_false g56)) rfl <| NL <| run_cond_false (congrArg Value.bool (rfl : false = _)) <| run_skip <| SR <| MC rfl <| CN <| Op1.fieldAddr fld35_1 rfl <| CN <| Op1.load1 (v := .int .u32 _) ty22 rfl rfl (hst.cellL (.head _) rfl) <| CN <| Op1.call2 (v1 := .int .u8 _) (v2 := .int .u32 _) ent56 rfl rfl rfl <| Ret.det (R5ref_Enum2 ho _) hst fun w hst => CN (Op1.move (v := .tuple #[str _, .bool _]) rfl ?_)
   refine CN <| Op1.extract (v := str _) rfl rfl <| CN <| Op1.extract (v := .bool _) rfl rfl <| AS rfl <| AB rfl <| NL <| SQ <| SR <| CN <| Op1.fieldAddr fld35_0 rfl <| CN <| Op1.load1 (v := .int .u8 _) ty5 rfl rfl (hst.cellL (.head _) rfl) <| CN <| Op1.eql rfl rfl <| MB rfl <| RunL.splitD (d := 56) rfl (fun g66 => ?_) (fun g66 => ?_)
   · skip
     refine TK (t := 56) rfl (congrArg Value.bool (decide_eq_true g66)) <| Op1.move (v := .bool _) rfl <| TK (t := 56) rfl (congrArg Value.bool (decide_eq_true g66)) <| Op1.not rfl <| CN <| Op1.pickT (u := .bool _) (congrArg Value.bool (decide_eq_true g66)) rfl <| NL <| Run.forget [(4, .pointer (some ⟨_, _, none⟩)), (59, .bool _)] ⟨rfl, rfl, trivial⟩ fun f => run_cond_split rfl (fun g67 => ?_) (fun g67 => ?_)
     · skip
       refine SR <| AI rfl <| NL <| run_ret1 Try.func44 rfl (TP (v := .int .i64 _) rfl) ?_
       have hE := wrongA_eq (c := c) (a := a) (bound := bound) (fun h => h.elim (by omega) (fun h => h (by rw [hkd]; omega))) (fun h => h.elim (fun h => by have := h.2; omega) (fun h => absurd h.2 (by simpa using g55)))
       rw [if_neg (fun h => by have := h.1; omega)] at hE
       rw [if_pos ⟨by omega, by rw [ho]; simpa using g67⟩] at hE
       exact ⟨congrArg (Value.int .i64) (hE).symm, hst.pure⟩
     refine run_skip <| SQ <| SR <| AI rfl <| NL <| run_block <| run_loop <| Run.indW [(4, .pointer (some ⟨_, _, none⟩))] ⟨rfl, trivial⟩ (fun (i : Nat) => [(9, .int .i64 (i : Int))]) (fun (i : Nat) => []) (fun (i : Nat) => i ≤ a.s.length ∧ ∀ j, j < i → a.s.getD j 0 ≠ 0) (fun (i : Nat) => a.s.length - i) (0) hst ⟨Nat.zero_le _, no_lt⟩ ⟨rfl, trivial⟩ ?_
     intro i f w hst hJ ih68
     refine SQ <| SR <| MI rfl <| CN <| Op1.fieldAddr fld35_2 rfl <| CN <| Op1.load1 (v := str _) ty9 rfl rfl (hst.cellL (.head _) rfl) <| CN <| Op1.lenS (rest := []) ty9 rfl <| CN <| Op1.lss rfl rfl <| NL <| run_cond_dec rfl (fun g69 => ?_) (fun g69 => ?_)
     · skip
       refine run_skip <| SQ <| run_block <| SR <| CN <| Op1.fieldAddr fld35_2 rfl <| CN <| Op1.load1 (v := str _) ty9 rfl rfl (hst.cellL (.head _) rfl) <| MI rfl <| CN <| Op1.indexS ty9 rfl rfl (by omega) (by omega) <| CN <| Op1.eql rfl rfl <| NL <| run_cond_dec rfl (fun g70 => ?_) (fun g70 => ?_)
       · skip
         refine SR <| AI rfl <| NL <| run_ret1 Try.func44 rfl (TP (v := .int .i64 _) rfl) ?_
         have hE := wrongA_eq (c := c) (a := a) (bound := bound) (fun h => h.elim (by omega) (fun h => h (by rw [hkd]; omega))) (fun h => h.elim (fun h => by have := h.2; omega) (fun h => absurd h.2 (by simpa using g55)))
         rw [if_neg (fun h => by have := h.1; omega)] at hE
         rw [if_neg (fun h => by have h2 := h.2; have hg := g67; rw [ho] at h2; rw [h2] at hg; cases hg)] at hE
         rw [textE_hit (i := i) (by omega) (byte0 (by have hg := g70; exact hg)) hJ.2] at hE
         exact ⟨congrArg (Value.int .i64) (hE).symm, hst.pure⟩
       refine run_skip <| run_inBlock <| RG <| MI rfl <| CN <| Op1.addN rfl rfl rfl (wrap_i64 (by omega) (by omega)) <| AI rfl <| NL <| run_inLoop ?_
       exact ih68 (i + 1) _ w (by omega) hst (⟨by omega, step_all hJ.2 (byte1 g70)⟩) ⟨rfl, trivial⟩ ⟨(congrArg (Value.int .i64) (by omega)), trivial⟩
     refine run_exit (id := 0) rfl <| SR <| AI rfl <| NL <| run_ret1 Try.func44 rfl (TP (v := .int .i64 _) rfl) ?_
     have hE := wrongA_eq (c := c) (a := a) (bound := bound) (fun h => h.elim (by omega) (fun h => h (by rw [hkd]; omega))) (fun h => h.elim (fun h => by have := h.2; omega) (fun h => absurd h.2 (by simpa using g55)))
     rw [if_neg (fun h => by have := h.1; omega)] at hE
     rw [if_neg (fun h => by have h2 := h.2; have hg := g67; rw [ho] at h2; rw [h2] at hg; cases hg)] at hE
     rw [textE_none (fun j hj => hJ.2 j (by omega))] at hE
     exact ⟨congrArg (Value.int .i64) (hE).symm, hst.pure⟩
   refine OM (t := 56) rfl (congrArg Value.bool (decide_eq_false g66)) rfl <| OM (t := 56) rfl (congrArg Value.bool (decide_eq_false g66)) rfl <| CN <| Op1.pickF (u := .bool _) (congrArg Value.bool (decide_eq_false g66)) rfl <| NL <| Run.forget [(4, .pointer (some ⟨_, _, none⟩)), (59, .bool _)] ⟨rfl, rfl, trivial⟩ fun f => run_cond_false (congrArg Value.bool (rfl : false = _)) <| run_skip <| SQ <| SR <| AI rfl <| NL <| run_block <| run_loop <| Run.indW [(4, .pointer (some ⟨_, _, none⟩))] ⟨rfl, trivial⟩ (fun (i : Nat) => [(9, .int .i64 (i : Int))]) (fun (i : Nat) => []) (fun (i : Nat) => i ≤ a.s.length ∧ ∀ j, j < i → a.s.getD j 0 ≠ 0) (fun (i : Nat) => a.s.length - i) (0) hst ⟨Nat.zero_le _, no_lt⟩ ⟨rfl, trivial⟩ ?_
   intro i f w hst hJ ih71
   refine SQ <| SR <| MI rfl <| CN <| Op1.fieldAddr fld35_2 rfl <| CN <| Op1.load1 (v := str _) ty9 rfl rfl (hst.cellL (.head _) rfl) <| CN <| Op1.lenS (rest := []) ty9 rfl <| CN <| Op1.lss rfl rfl <| NL <| run_cond_dec rfl (fun g72 => ?_) (fun g72 => ?_)
   · skip
     refine run_skip <| SQ <| run_block <| SR <| CN <| Op1.fieldAddr fld35_2 rfl <| CN <| Op1.load1 (v := str _) ty9 rfl rfl (hst.cellL (.head _) rfl) <| MI rfl <| CN <| Op1.indexS ty9 rfl rfl (by omega) (by omega) <| CN <| Op1.eql rfl rfl <| NL <| run_cond_dec rfl (fun g73 => ?_) (fun g73 => ?_)
     · skip
       refine SR <| AI rfl <| NL <| run_ret1 Try.func44 rfl (TP (v := .int .i64 _) rfl) ?_
       have hE := wrongA_eq (c := c) (a := a) (bound := bound) (fun h => h.elim (by omega) (fun h => h (by rw [hkd]; omega))) (fun h => h.elim (fun h => by have := h.2; omega) (fun h => absurd h.2 (by simpa using g55)))
       rw [if_neg (fun h => by have := h.1; omega)] at hE
       rw [if_neg (fun h => by have := h.1; omega)] at hE
       rw [textE_hit (i := i) (by omega) (byte0 (by have hg := g73; exact hg)) hJ.2] at hE
       exact ⟨congrArg (Value.int .i64) (hE).symm, hst.pure⟩
     refine run_skip <| run_inBlock <| RG <| MI rfl <| CN <| Op1.addN rfl rfl rfl (wrap_i64 (by omega) (by omega)) <| AI rfl <| NL <| run_inLoop ?_
     exact ih71 (i + 1) _ w (by omega) hst (⟨by omega, step_all hJ.2 (byte1 g73)⟩) ⟨rfl, trivial⟩ ⟨(congrArg (Value.int .i64) (by omega)), trivial⟩
   refine run_exit (id := 0) rfl <| SR <| AI rfl <| NL <| run_ret1 Try.func44 rfl (TP (v := .int .i64 _) rfl) ?_
   have hE := wrongA_eq (c := c) (a := a) (bound := bound) (fun h => h.elim (by omega) (fun h => h (by rw [hkd]; omega))) (fun h => h.elim (fun h => by have := h.2; omega) (fun h => absurd h.2 (by simpa using g55)))
   rw [if_neg (fun h => by have := h.1; omega)] at hE
   rw [if_neg (fun h => by have := h.1; omega)] at hE
   rw [textE_none (fun j hj => hJ.2 j (by omega))] at hE
   exact ⟨congrArg (Value.int .i64) (hE).symm, hst.pure⟩
 refine OM (t := 31) rfl (congrArg Value.bool (decide_eq_false g54)) rfl <| OM (t := 31) rfl (congrArg Value.bool (decide_eq_false g54)) rfl <| OM (t := 31) rfl (congrArg Value.bool (decide_eq_false g54)) rfl <| TK (t := 27) rfl (congrArg Value.bool (rfl : false = _)) <| Op1.pickF (u := .bool _) (congrArg Value.bool (decide_eq_false g54)) rfl <| CN <| Op1.pickF (u := .bool _) (congrArg Value.bool (rfl : false = _)) rfl <| NL <| Run.forget [(0, .int .u8 _), (2, .int .u32 _), (4, .pointer (some ⟨_, _, none⟩)), (36, .bool _)] ⟨rfl, rfl, rfl, rfl, trivial⟩ fun f => run_cond_false (congrArg Value.bool (rfl : false = _)) <| run_skip <| SQ <| SR <| CN <| Op1.fieldAddr fld35_0 rfl <| CN <| Op1.load1 (v := .int .u8 _) ty5 rfl rfl (hst.cellL (.head _) rfl) <| CN (Op1.eql rfl rfl ?_)
 refine MB rfl <| RunL.splitD (d := 40) rfl (fun g74 => ?_) (fun g74 => ?_)
 · skip
   refine TK (t := 40) rfl (congrArg Value.bool (decide_eq_true g74)) <| Op1.fieldAddr fld35_1 rfl <| TK (t := 40) rfl (congrArg Value.bool (decide_eq_true g74)) <| Op1.load1 (v := .int .u32 _) ty22 rfl rfl (hst.cellL (.head _) rfl) <| TK (t := 40) rfl (congrArg Value.bool (decide_eq_true g74)) <| Op1.move (v := .int .u32 _) rfl <| TK (t := 40) rfl (congrArg Value.bool (decide_eq_true g74)) (Op1.call2 (v1 := .int .u32 _) (v2 := .int .u32 _) ent55 rfl rfl rfl ((R5ref4_None _ _ _).mono fun v w hp => ?_))
   obtain ⟨rfl, hp⟩ := hp
   replace hst := hst.keepc hp
   clear hp
   refine CN <| Op1.pickT (u := .bool _) (congrArg Value.bool (decide_eq_true g74)) rfl <| NL <| run_cond_split rfl (fun g75 => ?_) (fun g75 => ?_)
   · skip
     refine SR <| AI rfl <| NL <| run_ret1 Try.func44 rfl (TP (v := .int .i64 _) rfl) ?_
     have hE := wrongA_eq (c := c) (a := a) (bound := bound) (fun h => h.elim (by omega) (fun h => h (by rw [hkd]; omega))) (fun h => h.elim (fun h => by have := h.2; omega) (fun h => h.1 (by omega)))
     rw [if_pos ⟨by omega, by simpa using g75⟩] at hE
     exact ⟨congrArg (Value.int .i64) (hE).symm, hst.pure⟩
   refine run_skip <| SR <| MC rfl <| CN <| Op1.fieldAddr fld35_1 rfl <| CN <| Op1.load1 (v := .int .u32 _) ty22 rfl rfl (hst.cellL (.head _) rfl) <| CN <| Op1.call2 (v1 := .int .u8 _) (v2 := .int .u32 _) ent56 rfl rfl rfl <| Ret.det (R5ref_Enum2 ho _) hst fun w hst => CN <| Op1.move (v := .tuple #[str _, .bool _]) rfl <| CN <| Op1.extract (v := str _) rfl rfl <| CN <| Op1.extract (v := .bool _) rfl rfl <| AS rfl <| AB rfl <| NL <| SQ <| SQ ?_
   refine RG <| CN <| Op1.fieldAddr fld35_0 rfl <| CN <| Op1.load1 (v := .int .u8 _) ty5 rfl rfl (hst.cellL (.head _) rfl) <| CN <| Op1.eql rfl rfl <| MB rfl <| RunL.splitD (d := 56) rfl (fun g76 => ?_) (fun g76 => ?_)
   · skip
     refine TK (t := 56) rfl (congrArg Value.bool (decide_eq_true g76)) <| Op1.move (v := .bool _) rfl <| TK (t := 56) rfl (congrArg Value.bool (decide_eq_true g76)) <| Op1.not rfl <| CN <| Op1.pickT (u := .bool _) (congrArg Value.bool (decide_eq_true g76)) rfl <| NL <| Run.forget [(4, .pointer (some ⟨_, _, none⟩)), (59, .bool _)] ⟨rfl, rfl, trivial⟩ fun f => run_cond_split rfl (fun g77 => ?_) (fun g77 => ?_)
     · skip
       refine SR <| AI rfl <| NL <| run_ret1 Try.func44 rfl (TP (v := .int .i64 _) rfl) ?_
       have hE := wrongA_eq (c := c) (a := a) (bound := bound) (fun h => h.elim (by omega) (fun h => h (by rw [hkd]; omega))) (fun h => h.elim (fun h => by have := h.2; omega) (fun h => h.1 (by omega)))
       rw [if_neg (fun h => absurd h.2 (of_decide_eq_false g75))] at hE
       rw [if_pos ⟨by omega, by rw [ho]; simpa using g77⟩] at hE
       exact ⟨congrArg (Value.int .i64) (hE).symm, hst.pure⟩
     refine run_skip <| SQ <| SR <| AI rfl <| NL <| run_block <| run_loop <| Run.indW [(4, .pointer (some ⟨_, _, none⟩))] ⟨rfl, trivial⟩ (fun (i : Nat) => [(9, .int .i64 (i : Int))]) (fun (i : Nat) => []) (fun (i : Nat) => i ≤ a.s.length ∧ ∀ j, j < i → a.s.getD j 0 ≠ 0) (fun (i : Nat) => a.s.length - i) (0) hst ⟨Nat.zero_le _, no_lt⟩ ⟨rfl, trivial⟩ ?_
     intro i f w hst hJ ih78
     refine SQ <| SR <| MI rfl <| CN <| Op1.fieldAddr fld35_2 rfl <| CN <| Op1.load1 (v := str _) ty9 rfl rfl (hst.cellL (.head _) rfl) <| CN <| Op1.lenS (rest := []) ty9 rfl <| CN <| Op1.lss rfl rfl <| NL <| run_cond_dec rfl (fun g79 => ?_) (fun g79 => ?_)
     · skip
       refine run_skip <| SQ <| run_block <| SR <| CN <| Op1.fieldAddr fld35_2 rfl <| CN <| Op1.load1 (v := str _) ty9 rfl rfl (hst.cellL (.head _) rfl) <| MI rfl <| CN <| Op1.indexS ty9 rfl rfl (by omega) (by omega) <| CN <| Op1.eql rfl rfl <| NL <| run_cond_dec rfl (fun g80 => ?_) (fun g80 => ?_)
       · skip
         refine SR <| AI rfl <| NL <| run_ret1 Try.func44 rfl (TP (v := .int .i64 _) rfl) ?_
         have hE := wrongA_eq (c := c) (a := a) (bound := bound) (fun h => h.elim (by omega) (fun h => h (by rw [hkd]; omega))) (fun h => h.elim (fun h => by have := h.2; omega) (fun h => h.1 (by omega)))
         rw [if_neg (fun h => absurd h.2 (of_decide_eq_false g75))] at hE
         rw [if_neg (fun h => by have h2 := h.2; have hg := g77; rw [ho] at h2; rw [h2] at hg; cases hg)] at hE
         rw [textE_hit (i := i) (by omega) (byte0 (by have hg := g80; exact hg)) hJ.2] at hE
         exact ⟨congrArg (Value.int .i64) (hE).symm, hst.pure⟩
       refine run_skip <| run_inBlock <| RG <| MI rfl <| CN <| Op1.addN rfl rfl rfl (wrap_i64 (by omega) (by omega)) <| AI rfl <| NL <| run_inLoop ?_
       exact ih78 (i + 1) _ w (by omega) hst (⟨by omega, step_all hJ.2 (byte1 g80)⟩) ⟨rfl, trivial⟩ ⟨(congrArg (Value.int .i64) (by omega)), trivial⟩
     refine run_exit (id := 0) rfl <| SR <| AI rfl <| NL <| run_ret1 Try.func44 rfl (TP (v := .int .i64 _) rfl) ?_
     have hE := wrongA_eq (c := c) (a := a) (bound := bound) (fun h => h.elim (by omega) (fun h => h (by rw [hkd]; omega))) (fun h => h.elim (fun h => by have := h.2; omega) (fun h => h.1 (by omega)))
     rw [if_neg (fun h => absurd h.2 (of_decide_eq_false g75))] at hE
     rw [if_neg (fun h => by have h2 := h.2; have hg := g77; rw [ho] at h2; rw [h2] at hg; cases hg)] at hE
     rw [textE_none (fun j hj => hJ.2 j (by omega))] at hE
     exact ⟨congrArg (Value.int .i64) (hE).symm, hst.pure⟩
   refine OM (t := 56) rfl (congrArg Value.bool (decide_eq_false g76)) rfl <| OM (t := 56) rfl (congrArg Value.bool (decide_eq_false g76)) rfl <| CN <| Op1.pickF (u := .bool _) (congrArg Value.bool (decide_eq_false g76)) rfl <| NL <| Run.forget [(4, .pointer (some ⟨_, _, none⟩)), (59, .bool _)] ⟨rfl, rfl, trivial⟩ fun f => run_cond_false (congrArg Value.bool (rfl : false = _)) <| run_skip <| SQ <| SR <| AI rfl <| NL <| run_block <| run_loop <| Run.indW [(4, .pointer (some ⟨_, _, none⟩))] ⟨rfl, trivial⟩ (fun (i : Nat) => [(9, .int .i64 (i : Int))]) (fun (i : Nat) => []) (fun (i : Nat) => i ≤ a.s.length ∧ ∀ j, j < i → a.s.getD j 0 ≠ 0) (fun (i : Nat) => a.s.length - i) (0) hst ⟨Nat.zero_le _, no_lt⟩ ⟨rfl, trivial⟩ ?_
   intro i f w hst hJ ih81
   refine SQ <| SR <| MI rfl <| CN <| Op1.fieldAddr fld35_2 rfl <| CN <| Op1.load1 (v := str _) ty9 rfl rfl (hst.cellL (.head _) rfl) <| CN <| Op1.lenS (rest := []) ty9 rfl <| CN <| Op1.lss rfl rfl <| NL <| run_cond_dec rfl (fun g82 => ?_) (fun g82 => ?_)
   · skip
     refine run_skip <| SQ <| run_block <| SR <| CN <| Op1.fieldAddr fld35_2 rfl <| CN <| Op1.load1 (v := str _) ty9 rfl rfl (hst.cellL (.head _) rfl) <| MI rfl <| CN <| Op1.indexS ty9 rfl rfl (by omega) (by omega) <| CN <| Op1.eql rfl rfl <| NL <| run_cond_dec rfl (fun g83 => ?_) (fun g83 => ?_)
     · skip
       refine SR <| AI rfl <| NL <| run_ret1 Try.func44 rfl (TP (v := .int .i64 _) rfl) ?_
       have hE := wrongA_eq (c := c) (a := a) (bound := bound) (fun h => h.elim (by omega) (fun h => h (by rw [hkd]; omega))) (fun h => h.elim (fun h => by have := h.2; omega) (fun h => h.1 (by omega)))
       rw [if_neg (fun h => absurd h.2 (of_decide_eq_false g75))] at hE
       rw [if_neg (fun h => by have := h.1; omega)] at hE
       rw [textE_hit (i := i) (by omega) (byte0 (by have hg := g83; exact hg)) hJ.2] at hE
       exact ⟨congrArg (Value.int .i64) (hE).symm, hst.pure⟩
     refine run_skip <| run_inBlock <| RG <| MI rfl <| CN <| Op1.addN rfl rfl rfl (wrap_i64 (by omega) (by omega)) <| AI rfl <| NL <| run_inLoop ?_
     exact ih81 (i + 1) _ w (by omega) hst (⟨by omega, step_all hJ.2 (byte1 g83)⟩) ⟨rfl, trivial⟩ ⟨(congrArg (Value.int .i64) (by omega)), trivial⟩
   refine run_exit (id := 0) rfl <| SR <| AI rfl <| NL <| run_ret1 Try.func44 rfl (TP (v := .int .i64 _) rfl) ?_
   have hE := wrongA_eq (c := c) (a := a) (bound := bound) (fun h => h.elim (by omega) (fun h => h (by rw [hkd]; omega))) (fun h => h.elim (fun h => by have := h.2; omega) (fun h => h.1 (by omega)))
   rw [if_neg (fun h => absurd h.2 (of_decide_eq_false g75))] at hE
   rw [if_neg (fun h => by have := h.1; omega)] at hE
   rw [textE_none (fun j hj => hJ.2 j (by omega))] at hE
   exact ⟨congrArg (Value.int .i64) (hE).symm, hst.pure⟩
 refine OM (t := 40) rfl (congrArg Value.bool (decide_eq_false g74)) rfl <| OM (t := 40) rfl (congrArg Value.bool (decide_eq_false g74)) rfl <| OM (t := 40) rfl (congrArg Value.bool (decide_eq_false g74)) rfl <| OM (t := 40) rfl (congrArg Value.bool (decide_eq_false g74)) rfl <| CN <| Op1.pickF (u := .bool _) (congrArg Value.bool (decide_eq_false g74)) rfl <| NL <| run_cond_false (congrArg Value.bool (rfl : false = _)) <| run_skip <| SR <| MC rfl <| CN <| Op1.fieldAddr fld35_1 rfl <| CN <| Op1.load1 (v := .int .u32 _) ty22 rfl rfl (hst.cellL (.head _) rfl) <| CN <| Op1.call2 (v1 := .int .u8 _) (v2 := .int .u32 _) ent56 rfl rfl rfl <| Ret.det (R5ref_Enum2 ho _) hst fun w hst => CN (Op1.move (v := .tuple #[str _, .bool _]) rfl ?_)
 refine CN <| Op1.extract (v := str _) rfl rfl <| CN <| Op1.extract (v := .bool _) rfl rfl <| AS rfl <| AB rfl <| NL <| SQ <| SR <| CN <| Op1.fieldAddr fld35_0 rfl <| CN <| Op1.load1 (v := .int .u8 _) ty5 rfl rfl (hst.cellL (.head _) rfl) <| CN <| Op1.eql rfl rfl <| MB rfl <| RunL.splitD (d := 56) rfl (fun g84 => ?_) (fun g84 => ?_)
 · skip
   refine TK (t := 56) rfl (congrArg Value.bool (decide_eq_true g84)) <| Op1.move (v := .bool _) rfl <| TK (t := 56) rfl (congrArg Value.bool (decide_eq_true g84)) <| Op1.not rfl <| CN <| Op1.pickT (u := .bool _) (congrArg Value.bool (decide_eq_true g84)) rfl <| NL <| Run.forget [(4, .pointer (some ⟨_, _, none⟩)), (59, .bool _)] ⟨rfl, rfl, trivial⟩ fun f => run_cond_split rfl (fun g85 => ?_) (fun g85 => ?_)
   · skip
     refine SR <| AI rfl <| NL <| run_ret1 Try.func44 rfl (TP (v := .int .i64 _) rfl) ?_
     have hE := wrongA_eq (c := c) (a := a) (bound := bound) (fun h => h.elim (by omega) (fun h => h (by rw [hkd]; omega))) (fun h => h.elim (fun h => by have := h.2; omega) (fun h => h.1 (by omega)))
     rw [if_neg (fun h => by have := h.1; omega)] at hE
     rw [if_pos ⟨by omega, by rw [ho]; simpa using g85⟩] at hE
     exact ⟨congrArg (Value.int .i64) (hE).symm, hst.pure⟩
   refine run_skip <| SQ <| SR <| AI rfl <| NL <| run_block <| run_loop <| Run.indW [(4, .pointer (some ⟨_, _, none⟩))] ⟨rfl, trivial⟩ (fun (i : Nat) => [(9, .int .i64 (i : Int))]) (fun (i : Nat) => []) (fun (i : Nat) => i ≤ a.s.length ∧ ∀ j, j < i → a.s.getD j 0 ≠ 0) (fun (i : Nat) => a.s.length - i) (0) hst ⟨Nat.zero_le _, no_lt⟩ ⟨rfl, trivial⟩ ?_
   intro i f w hst hJ ih86
   refine SQ <| SR <| MI rfl <| CN <| Op1.fieldAddr fld35_2 rfl <| CN <| Op1.load1 (v := str _) ty9 rfl rfl (hst.cellL (.head _) rfl) <| CN <| Op1.lenS (rest := []) ty9 rfl <| CN <| Op1.lss rfl rfl <| NL <| run_cond_dec rfl (fun g87 => ?_) (fun g87 => ?_)
   · skip
     refine run_skip <| SQ <| run_block <| SR <| CN <| Op1.fieldAddr fld35_2 rfl <| CN <| Op1.load1 (v := str _) ty9 rfl rfl (hst.cellL (.head _) rfl) <| MI rfl <| CN <| Op1.indexS ty9 rfl rfl (by omega) (by omega) <| CN <| Op1.eql rfl rfl <| NL <| run_cond_dec rfl (fun g88 => ?_) (fun g88 => ?_)
     · skip
       refine SR <| AI rfl <| NL <| run_ret1 Try.func44 rfl (TP (v := .int .i64 _) rfl) ?_
       have hE := wrongA_eq (c := c) (a := a) (bound := bound) (fun h => h.elim (by omega) (fun h => h (by rw [hkd]; omega))) (fun h => h.elim (fun h => by have := h.2; omega) (fun h => h.1 (by omega)))
       rw [if_neg (fun h => by have := h.1; omega)] at hE
       rw [if_neg (fun h => by have h2 := h.2; have hg := g85; rw [ho] at h2; rw [h2] at hg; cases hg)] at hE
       rw [textE_hit (i := i) (by omega) (byte0 (by have hg := g88; exact hg)) hJ.2] at hE
       exact ⟨congrArg (Value.int .i64) (hE).symm, hst.pure⟩
     refine run_skip <| run_inBlock <| RG <| MI rfl <| CN <| Op1.addN rfl rfl rfl (wrap_i64 (by omega) (by omega)) <| AI rfl <| NL <| run_inLoop ?_
     exact ih86 (i + 1) _ w (by omega) hst (⟨by omega, step_all hJ.2 (byte1 g88)⟩) ⟨rfl, trivial⟩ ⟨(congrArg (Value.int .i64) (by omega)), trivial⟩
   refine run_exit (id := 0) rfl <| SR <| AI rfl <| NL <| run_ret1 Try.func44 rfl (TP (v := .int .i64 _) rfl) ?_
   have hE := wrongA_eq (c := c) (a := a) (bound := bound) (fun h => h.elim (by omega) (fun h => h (by rw [hkd]; omega))) (fun h => h.elim (fun h => by have := h.2; omega) (fun h => h.1 (by omega)))
   rw [if_neg (fun h => by have := h.1; omega)] at hE
   rw [if_neg (fun h => by have h2 := h.2; have hg := g85; rw [ho] at h2; rw [h2] at hg; cases hg)] at hE
   rw [textE_none (fun j hj => hJ.2 j (by omega))] at hE
   exact ⟨congrArg (Value.int .i64) (hE).symm, hst.pure⟩
 refine OM (t := 56) rfl (congrArg Value.bool (decide_eq_false g84)) rfl <| OM (t := 56) rfl (congrArg Value.bool (decide_eq_false g84)) rfl <| CN <| Op1.pickF (u := .bool _) (congrArg Value.bool (decide_eq_false g84)) rfl <| NL <| Run.forget [(4, .pointer (some ⟨_, _, none⟩)), (59, .bool _)] ⟨rfl, rfl, trivial⟩ fun f => run_cond_false (congrArg Value.bool (rfl : false = _)) <| run_skip <| SQ <| SR <| AI rfl <| NL <| run_block <| run_loop <| Run.indW [(4, .pointer (some ⟨_, _, none⟩))] ⟨rfl, trivial⟩ (fun (i : Nat) => [(9, .int .i64 (i : Int))]) (fun (i : Nat) => []) (fun (i : Nat) => i ≤ a.s.length ∧ ∀ j, j < i → a.s.getD j 0 ≠ 0) (fun (i : Nat) => a.s.length - i) (0) hst ⟨Nat.zero_le _, no_lt⟩ ⟨rfl, trivial⟩ ?_
 intro i f w hst hJ ih89
 refine SQ <| SR <| MI rfl <| CN <| Op1.fieldAddr fld35_2 rfl <| CN <| Op1.load1 (v := str _) ty9 rfl rfl (hst.cellL (.head _) rfl) <| CN <| Op1.lenS (rest := []) ty9 rfl <| CN <| Op1.lss rfl rfl <| NL <| run_cond_dec rfl (fun g90 => ?_) (fun g90 => ?_)
 · skip
   refine run_skip <| SQ <| run_block <| SR <| CN <| Op1.fieldAddr fld35_2 rfl <| CN <| Op1.load1 (v := str _) ty9 rfl rfl (hst.cellL (.head _) rfl) <| MI rfl <| CN <| Op1.indexS ty9 rfl rfl (by omega) (by omega) <| CN <| Op1.eql rfl rfl <| NL <| run_cond_dec rfl (fun g91 => ?_) (fun g91 => ?_)
   · skip
     refine SR <| AI rfl <| NL <| run_ret1 Try.func44 rfl (TP (v := .int .i64 _) rfl) ?_
     have hE := wrongA_eq (c := c) (a := a) (bound := bound) (fun h => h.elim (by omega) (fun h => h (by rw [hkd]; omega))) (fun h => h.elim (fun h => by have := h.2; omega) (fun h => h.1 (by omega)))
     rw [if_neg (fun h => by have := h.1; omega)] at hE
     rw [if_neg (fun h => by have := h.1; omega)] at hE
     rw [textE_hit (i := i) (by omega) (byte0 (by have hg := g91; exact hg)) hJ.2] at hE
     exact ⟨congrArg (Value.int .i64) (hE).symm, hst.pure⟩
   refine run_skip <| run_inBlock <| RG <| MI rfl <| CN <| Op1.addN rfl rfl rfl (wrap_i64 (by omega) (by omega)) <| AI rfl <| NL <| run_inLoop ?_
   exact ih89 (i + 1) _ w (by omega) hst (⟨by omega, step_all hJ.2 (byte1 g91)⟩) ⟨rfl, trivial⟩ ⟨(congrArg (Value.int .i64) (by omega)), trivial⟩
 refine run_exit (id := 0) rfl <| SR <| AI rfl <| NL <| run_ret1 Try.func44 rfl (TP (v := .int .i64 _) rfl) ?_
 have hE := wrongA_eq (c := c) (a := a) (bound := bound) (fun h => h.elim (by omega) (fun h => h (by rw [hkd]; omega))) (fun h => h.elim (fun h => by have := h.2; omega) (fun h => h.1 (by omega)))
 rw [if_neg (fun h => by have := h.1; omega)] at hE
 rw [if_neg (fun h => by have := h.1; omega)] at hE
 rw [textE_none (fun j hj => hJ.2 j (by omega))] at hE
 exact ⟨congrArg (Value.int .i64) (hE).symm, hst.pure⟩
theorem R5ref4_Room (p : InstP) (fm : FormL) (w : World) (hA : (Res.rargs p).holds w) (hsm : (p.args.map argRoom).sum ≤ 900000000) (hla : ∀ a ∈ p.args, a.s.length ≤ 100000000000) : Ret Try.prog 36 #[.agg #[.int .u16 p.op, .int .u32 p.ty, .int .u32 p.res, .slice p.ao p.args.length p.cap], .agg #[.int .u16 fm.op, str fm.name, .bool fm.ty, .bool fm.res, str fm.fixed, str fm.rest, .int .i64 fm.most, .int .u8 fm.part]] w (fun v w' => v = .int .i64 (roomI fm p.args : Int) ∧ St w NoM [] [] w') := by
 refine Ret.enter (args := [.agg #[.int .u16 p.op, .int .u32 p.ty, .int .u32 p.res, .slice p.ao p.args.length p.cap], .agg #[.int .u16 fm.op, str fm.name, .bool fm.ty, .bool fm.res, str fm.fixed, str fm.rest, .int .i64 fm.most, .int .u8 fm.part]]) Try.func36 rfl rfl rfl ?_
 have hst : St w NoM [] [Res.rargs p] w := St.init_D hA
 clear hA
 have hlen := len_sum p.args
 have hbt : b2n fm.ty ≤ 1 := by unfold b2n; split <;> omega
 have hbr : b2n fm.res ≤ 1 := by unfold b2n; split <;> omega
 refine SR <| CN <| Op1.box (v := .agg #[.int .u16 _, .int .u32 _, .int .u32 _, .slice _ _ _]) hst rfl rfl fun w b2 hst => CN <| Op1.box (v := .agg #[.int .u16 _, str _, .bool _, .bool _, str _, str _, .int .i64 _, .int .u8 _]) hst rfl rfl fun w b3 hst => AI rfl <| NSR <| AI rfl <| NL <| SQ <| Run.cutW (L1 := []) [(2, .pointer (some ⟨_, _, none⟩)), (3, .pointer (some ⟨_, _, none⟩))] hst ⟨rfl, rfl, trivial⟩ (fun (q : Int) => [(5, .int .i64 q)]) (fun (q : Int) => []) (fun (q : Int) => q = ((1 + b2n fm.ty : Nat) : Int)) (fun n1 f w hst hJ1 => ?_) (fun cut1 => ?_)
 replace hst : St _ _ ([] ++ [_, _]) _ _ := hst
 replace hJ1 : n1 = ((1 + b2n fm.ty : Nat) : Int) := hJ1
 refine Run.slots (sl := [(5, .int .i64 n1)]) ⟨rfl, trivial⟩ ?_
 · skip
   refine SQ <| Run.cutW (L1 := []) [(2, .pointer (some ⟨_, _, none⟩))] hst ⟨rfl, trivial⟩ (fun (q : Int) => [(5, .int .i64 q)]) (fun (q : Int) => []) (fun (q : Int) => q = ((1 + b2n fm.ty + b2n fm.res : Nat) : Int)) (fun n2 f w hst hJ2 => ?_) (fun cut3 => ?_)
   replace hst : St _ _ ([] ++ [_, _]) _ _ := hst
   replace hJ2 : n2 = ((1 + b2n fm.ty + b2n fm.res : Nat) : Int) := hJ2
   refine Run.slots (sl := [(5, .int .i64 n2)]) ⟨rfl, trivial⟩ ?_
   · skip
     refine SQ <| SR <| AI rfl <| NL <| run_block <| run_loop <| Run.indW [(2, .pointer (some ⟨_, _, none⟩))] ⟨rfl, trivial⟩ (fun (k : Nat) => [(5, .int .i64 ((1 + b2n fm.ty + b2n fm.res + sumR p.args k : Nat) : Int)), (6, .int .i64 (k : Int))]) (fun (k : Nat) => []) (fun (k : Nat) => k ≤ p.args.length) (fun (k : Nat) => p.args.length - k) (0) hst (Nat.zero_le _) ⟨(congrArg (Value.int .i64) (by rw [hJ2]; simp [sumR])), rfl, trivial⟩ ?_
     intro k f w hst hJ ih5
     refine SQ <| SR <| MI rfl <| CN <| Op1.fieldAddr fld39_3 rfl <| CN <| Op1.load1 (v := .slice _ _ _) ty37 rfl rfl (hst.cellL (.tail _ (.head _)) rfl) <| CN <| Op1.lenSl (rest := []) ty37 rfl <| CN <| Op1.lss rfl rfl <| NL <| run_cond_dec rfl (fun g6 => ?_) (fun g6 => ?_)
     · skip
       have hss := sumR_step (l := p.args) (k := k) (by omega)
       have hsum : sumR p.args k ≤ (p.args.map argRoom).sum := sumR_le
       have hmem : (p.args.getD k zeroA) ∈ p.args := getD_memD (by omega)
       have hsl := hla _ hmem
       have hidx : p.args.getD ((k : Int)).toNat zeroA = (p.args.getD k zeroA) := rfl
       have hidx2 : (p.args.getD ((k : Int)).toNat zeroA).kind = (p.args.getD k zeroA).kind := rfl
       refine run_skip <| SQ <| run_block <| SR <| CN <| Op1.fieldAddr fld39_3 rfl <| CN <| Op1.load1 (v := .slice _ _ _) ty37 rfl rfl (hst.cellL (.tail _ (.head _)) rfl) <| MI rfl <| CN <| Op1.indexRs ty37 ty35 (hst.hD _ (.head _)) rfl rfl (by omega) (by omega) <| CN <| Op1.fieldAddr fld35_0 rfl <| CN <| Op1.load1 (v := .int .u8 _) ty5 rfl rfl (Res.rs2_cellF (hst.hD _ (.head _)) (flat_cell (g := argC) (d := zeroA) argC_len rfl (by omega))) <| CN <| Op1.eql rfl rfl <| NL <| run_cond_dec rfl (fun g7 => ?_) (fun g7 => ?_)
       · skip
         refine RG <| MI rfl <| CN <| Op1.fieldAddr fld39_3 rfl <| CN <| Op1.load1 (v := .slice _ _ _) ty37 rfl rfl (hst.cellL (.tail _ (.head _)) rfl) <| MI rfl <| CN <| Op1.indexRs ty37 ty35 (hst.hD _ (.head _)) rfl rfl (by omega) (by omega) <| CN <| Op1.fieldAddr fld35_2 rfl <| CN <| Op1.load1 (v := str _) ty9 rfl rfl (Res.rs2_cellF (hst.hD _ (.head _)) (flat_cell (g := argC) (d := zeroA) argC_len rfl (by omega))) <| CN <| Op1.call1 (v1 := str _) ent48 rfl rfl <| Ret.det (R5ref1_Room (p.args.getD k zeroA).s _ (by omega)) hst fun w hst => CN <| Op1.addN rfl rfl rfl (wrap_i64 (by omega) (by omega)) <| AI rfl <| NL <| run_inBlock <| Run.forget [(2, .pointer (some ⟨_, _, none⟩)), (5, .int .i64 _), (6, .int .i64 _)] ⟨rfl, rfl, rfl, trivial⟩ fun f => RG ?_
         refine MI rfl <| CN <| Op1.addN rfl rfl rfl (wrap_i64 (by omega) (by omega)) <| AI rfl <| NL <| run_inLoop ?_
         have hy := (argW_text (a := (p.args.getD k zeroA)) (by omega)).2
         rw [hy] at hss
         exact ih5 (k + 1) _ w (by omega) hst (by omega) ⟨rfl, trivial⟩ ⟨(congrArg (Value.int .i64) (by rw [hss]; omega)), (congrArg (Value.int .i64) (by omega)), trivial⟩
       refine RG <| MI rfl <| CN <| Op1.addN rfl rfl rfl (wrap_i64 (by omega) (by omega)) <| AI rfl <| NL <| run_inBlock <| RG <| MI rfl <| CN <| Op1.addN rfl rfl rfl (wrap_i64 (by omega) (by omega)) <| AI rfl <| NL <| run_inLoop ?_
       have hy := (argW_one (a := (p.args.getD k zeroA)) (by omega)).2
       rw [hy] at hss
       exact ih5 (k + 1) _ w (by omega) hst (by omega) ⟨rfl, trivial⟩ ⟨(congrArg (Value.int .i64) (by rw [hss]; omega)), (congrArg (Value.int .i64) (by omega)), trivial⟩
     obtain rfl : k = p.args.length := by omega
     refine run_exit (id := 0) rfl <| SR <| MI rfl <| AI rfl <| NL <| run_ret1 Try.func36 rfl (TP (v := .int .i64 _) rfl) ?_
     exact ⟨congrArg (Value.int .i64) (by unfold roomI sumR; rw [List.take_length]; omega), hst.pure⟩
   · skip
     refine SR <| CN <| Op1.fieldAddr fld74_3 rfl <| CN <| Op1.load1 (v := .bool _) ty4 rfl rfl (hst.cellL (.head _) rfl) <| NL <| run_cond_split rfl (fun g8 => ?_) (fun g8 => ?_)
     · skip
       have hr : fm.res = true := by simpa using g8
       refine RG <| MI rfl <| CN <| Op1.addN rfl rfl rfl (wrap_i64 (by omega) (by omega)) <| AI rfl <| NL ?_
       exact cut3 ((n1 + 1)) _ w (hst) ((by rw [hJ1, b2n.eq_def fm.res, hr]; simp)) ⟨rfl, trivial⟩ ⟨rfl, trivial⟩
     have hr : fm.res = false := by simpa using g8
     refine run_skip ?_
     exact cut3 (n1) _ w (hst) ((by rw [hJ1, b2n.eq_def fm.res, hr]; rfl)) ⟨rfl, trivial⟩ ⟨rfl, trivial⟩
 · skip
   refine SR <| CN <| Op1.fieldAddr fld74_2 rfl <| CN <| Op1.load1 (v := .bool _) ty4 rfl rfl (hst.cellL (.head _) rfl) <| NL <| run_cond_split rfl (fun g9 => ?_) (fun g9 => ?_)
   · skip
     have ht : fm.ty = true := by simpa using g9
     refine RG <| MI rfl <| CN <| Op1.addN rfl rfl rfl (wrap_i64 (by omega) (by omega)) <| AI rfl <| NL ?_
     exact cut1 (2) _ w (hst) ((by rw [b2n, ht]; rfl)) ⟨rfl, rfl, trivial⟩ ⟨rfl, trivial⟩
   have ht : fm.ty = false := by simpa using g9
   refine run_skip ?_
   exact cut1 (1) _ w (hst) ((by rw [b2n, ht]; rfl)) ⟨rfl, rfl, trivial⟩ ⟨rfl, trivial⟩
end Go.SK
namespace Go.SK
open Go Go.Proofs
theorem ent43 : Enters Try.prog 43 := ⟨Try.f43, _, Try.func43, by kernel_rfl, rfl⟩
theorem ent45 : Enters Try.prog 45 := ⟨Try.f45, _, Try.func45, by kernel_rfl, rfl⟩
theorem ent44 : Enters Try.prog 44 := ⟨Try.f44, _, Try.func44, by kernel_rfl, rfl⟩
theorem ent46 : Enters Try.prog 46 := ⟨Try.f46, _, Try.func46, by kernel_rfl, rfl⟩
theorem ent36 : Enters Try.prog 36 := ⟨Try.f36, _, Try.func36, by kernel_rfl, rfl⟩
end Go.SK
namespace Go.SK
open Go Go.Proofs
open Go.RowKit
theorem R5ref4_Fault (p : InstP) (bound : Int) (h0 : 0 ≤ p.op) (w : World) (hA : (Res.rargs p).holds w) (hsm : (p.args.map argRoom).sum ≤ 900000000) (hla : ∀ a ∈ p.args, a.s.length ≤ 100000000000) : Ret Try.prog 34 #[.agg #[.int .u16 p.op, .int .u32 p.ty, .int .u32 p.res, .slice p.ao p.args.length p.cap], .int .u32 bound] w (fun v w' => v = .int .i64 (faultF bound p.L) ∧ St w NoM [] [] w') := by
 refine Ret.enter (args := [.agg #[.int .u16 p.op, .int .u32 p.ty, .int .u32 p.res, .slice p.ao p.args.length p.cap], .int .u32 bound]) Try.func34 rfl rfl rfl ?_
 have hst : St w NoM [] [Res.rargs p] w := St.init_D hA
 clear hA
 obtain ⟨fm, hfm⟩ : ∃ fm, refD p.op = fm := ⟨_, rfl⟩
 obtain ⟨ob, hob⟩ : ∃ ob, (refS p.op).isSome = ob := ⟨_, rfl⟩
 have hf : FOk fm := hfm ▸ refD_fok p.op
 have hlen := len_sum p.args
 refine SR <| CN <| Op1.box (v := .agg #[.int .u16 _, .int .u32 _, .int .u32 _, .slice _ _ _]) hst rfl rfl fun w b2 hst => AI rfl <| NSR <| CN <| Op1.fieldAddr fld39_0 rfl <| CN <| Op1.load1 (v := .int .u16 _) ty33 rfl rfl (hst.cellL (.head _) rfl) <| CN <| Op1.call1 (v1 := .int .u16 _) ent35 rfl rfl <| Ret.det (R5ref_Of2 hfm hob _) hst fun w hst => CN <| Op1.move (v := .tuple #[.agg #[.int .u16 _, str _, .bool _, .bool _, str _, str _, .int .i64 _, .int .u8 _], .bool _]) rfl <| CN <| Op1.extract (v := .agg #[.int .u16 _, str _, .bool _, .bool _, str _, str _, .int .i64 _, .int .u8 _]) rfl rfl <| CN <| Op1.extract (v := .bool _) rfl rfl <| CN <| Op1.alloc hst ty74 fun w b5 hst => CN (SO (v := .agg #[.int .u16 _, str _, .bool _, .bool _, str _, str _, .int .i64 _, .int .u8 _]) hst ty74 rfl rfl (.here) fun w hst => ?_)
 refine AB rfl <| NL <| SQ <| SR <| MB rfl <| CN <| Op1.not rfl <| NL <| run_cond_split rfl (fun g1 => ?_) (fun g1 => ?_)
 · skip
   refine SR <| AI rfl <| NL <| run_ret1 Try.func34 rfl (TP (v := .int .i64 _) rfl) ?_
   exact ⟨congrArg (Value.int .i64) (faultF_op (by rw [hob]; simpa using g1)).symm, hst.pure⟩
 refine run_skip <| SR <| CN <| Op1.fieldAddr fld74_2 rfl <| CN <| Op1.load1 (v := .bool _) ty4 rfl rfl (hst.cellL (.head _) rfl) <| CN <| Op1.fieldAddr fld39_1 rfl <| CN <| Op1.load1 (v := .int .u32 _) ty22 rfl rfl (hst.cellL (.tail _ (.head _)) rfl) <| MU rfl <| CN <| Op1.call4 (v1 := .bool _) (v2 := .int .u32 _) (v3 := .int .u32 _) (v4 := .int .i64 _) ent43 rfl rfl rfl rfl rfl <| Ret.det (R5ref4_Id _ _ _ _ _) hst fun w hst => AI rfl <| NL <| Run.forget [(1, .int .u32 _), (2, .pointer (some ⟨_, _, none⟩)), (5, .pointer (some ⟨_, _, none⟩)), (7, .int .i64 _)] ⟨rfl, rfl, rfl, rfl, trivial⟩ fun f => SQ <| SQ <| RG ?_
 refine MI rfl <| CN <| Op1.neq rfl rfl <| NL <| run_cond_dec rfl (fun g2 => ?_) (fun g2 => ?_)
 · skip
   refine SR <| MI rfl <| AI rfl <| NL <| run_ret1 Try.func34 rfl (TP (v := .int .i64 _) rfl) ?_
   have hF := faultF_eq (bound := bound) (i := p.L) (by rw [hob]; simpa using g1)
   rw [hfm] at hF
   rw [if_pos g2] at hF
   exact ⟨congrArg (Value.int .i64) (hF).symm, hst.pure⟩
 refine run_skip <| SR <| CN <| Op1.fieldAddr fld74_3 rfl <| CN <| Op1.load1 (v := .bool _) ty4 rfl rfl (hst.cellL (.head _) rfl) <| CN <| Op1.fieldAddr fld39_2 rfl <| CN <| Op1.load1 (v := .int .u32 _) ty22 rfl rfl (hst.cellL (.tail _ (.head _)) rfl) <| MU rfl <| CN <| Op1.call4 (v1 := .bool _) (v2 := .int .u32 _) (v3 := .int .u32 _) (v4 := .int .i64 _) ent43 rfl rfl rfl rfl rfl <| Ret.det (R5ref4_Id _ _ _ _ _) hst fun w hst => AI rfl <| NL <| SQ <| SR <| MI rfl ?_
 refine CN <| Op1.neq rfl rfl <| NL <| run_cond_dec rfl (fun g3 => ?_) (fun g3 => ?_)
 · skip
   refine SR <| MI rfl <| AI rfl <| NL <| run_ret1 Try.func34 rfl (TP (v := .int .i64 _) rfl) ?_
   have hF := faultF_eq (bound := bound) (i := p.L) (by rw [hob]; simpa using g1)
   rw [hfm] at hF
   rw [if_neg g2] at hF
   rw [if_pos g3] at hF
   exact ⟨congrArg (Value.int .i64) (hF).symm, hst.pure⟩
 refine run_skip <| SQ <| SR <| AI rfl <| NL <| run_block <| run_loop <| Run.indW [(1, .int .u32 _), (2, .pointer (some ⟨_, _, none⟩)), (5, .pointer (some ⟨_, _, none⟩))] ⟨rfl, rfl, rfl, trivial⟩ (fun (k : Nat) => [(8, .int .i64 (k : Int))]) (fun (k : Nat) => []) (fun (k : Nat) => k ≤ p.args.length ∧ wrongL fm bound 0 (p.args.take k) = 0) (fun (k : Nat) => p.args.length - k) (0) hst ⟨Nat.zero_le _, rfl⟩ ⟨rfl, trivial⟩ ?_
 intro k f w hst hJ ih4
 refine SQ <| SR <| MI rfl <| CN <| Op1.fieldAddr fld39_3 rfl <| CN <| Op1.load1 (v := .slice _ _ _) ty37 rfl rfl (hst.cellL (.tail _ (.head _)) rfl) <| CN <| Op1.lenSl (rest := []) ty37 rfl <| CN <| Op1.lss rfl rfl <| NL <| run_cond_dec rfl (fun g5 => ?_) (fun g5 => ?_)
 · skip
   refine run_skip <| SQ <| run_block <| SQ ?_
   have hidx : p.args.getD ((k : Int)).toNat zeroA = (p.args.getD k zeroA) := rfl
   refine RunD.start [] hst (bs := [0, 1, 0, 7, 0, 16, 0, 112, 240, 0, 1023, 2047]) (ds := [some 42, some 43, some 44, some 45, some 46, some 47, some 48, some 49, some 50, some 51, some 52, some 7]) ⟨by kernel_rfl, by kernel_rfl, by kernel_rfl⟩ (fun tab6 => ?_)
   refine RunD.op (det _) tab6 1 (fun f' L' w' hc => Op1.fieldAddr fld39_0 (hc.old (v := .pointer (some ⟨_, _, none⟩)) rfl rfl rfl) ⟨[], ⟨rfl, rfl⟩, hc.st⟩) <| RunD.op (det _) tab6 2 (fun f' L' w' hc => Op1.load1 (v := .int .u16 _) ty33 rfl (hc.det (j := 0) rfl rfl rfl rfl) (hc.st.cellL (List.mem_append_right _ (.tail _ (.head _))) rfl) ⟨[], ⟨rfl, rfl⟩, hc.st⟩) <| RunD.op (det _) tab6 3 (fun f' L' w' hc => Op1.move (v := .int .i64 _) (hc.old (v := .int .i64 _) rfl rfl rfl) ⟨[], ⟨rfl, rfl⟩, hc.st⟩) <| RunD.op (det _) tab6 4 (fun f' L' w' hc => Op1.call2 (v1 := .int .u16 _) (v2 := .int .i64 _) ent45 rfl (hc.det (j := 1) rfl rfl rfl rfl) (hc.det (j := 2) rfl rfl rfl rfl) ((R5ref_Letter2 h0 hfm _ (by omega) _).mono fun v w hp => ⟨[], ⟨hp.1, rfl⟩, hc.st.keepc hp.2⟩)) <| RunD.op (det _) tab6 5 (fun f' L' w' hc => Op1.fieldAddr fld39_3 (hc.old (v := .pointer (some ⟨_, _, none⟩)) rfl rfl rfl) ⟨[], ⟨rfl, rfl⟩, hc.st⟩) <| RunD.op (det _) tab6 6 (fun f' L' w' hc => Op1.load1 (v := .slice _ _ _) ty37 rfl (hc.det (j := 4) rfl rfl rfl rfl) (hc.st.cellL (List.mem_append_right _ (.tail _ (.head _))) rfl) ⟨[], ⟨rfl, rfl⟩, hc.st⟩) <| RunD.op (det _) tab6 7 (fun f' L' w' hc => Op1.move (v := .int .i64 _) (hc.old (v := .int .i64 _) rfl rfl rfl) ⟨[], ⟨rfl, rfl⟩, hc.st⟩) <| RunD.op (det _) tab6 8 (fun f' L' w' hc => Op1.indexRs ty37 ty35 (hc.st.hD _ (.head _)) (hc.det (j := 5) rfl rfl rfl rfl) (hc.det (j := 6) rfl rfl rfl rfl) (by omega) (by omega) ⟨[], ⟨rfl, rfl⟩, hc.st⟩) <| RunD.op (det _) tab6 9 (fun f' L' w' hc => Op1.loadA (vs := [.int .u8 _, .int .u32 _, str _]) ty35 rfl (hc.det (j := 7) rfl rfl rfl rfl) rfl (Res.rs2_cells (m := 3) (hc.st.hD _ (.head _)) _ (flat_seg (g := argC) (d := zeroA) argC_len _ _ (by omega))) ⟨[], ⟨rfl, rfl⟩, hc.st⟩) <| RunD.op (det _) tab6 10 (fun f' L' w' hc => Op1.move (v := .int .u32 _) (hc.old (v := .int .u32 _) rfl rfl rfl) ⟨[], ⟨rfl, rfl⟩, hc.st⟩) <| RunD.fin followsMixed tab6 hst rfl (fun f7 w R10 hs8 hd9 hr11 hst => ?_)
   obtain ⟨h42_, r0⟩ := hd9 0 42 rfl rfl
   obtain ⟨h43_, r1⟩ := hd9 1 43 rfl rfl
   obtain ⟨h44_, r2⟩ := hd9 2 44 rfl rfl
   obtain ⟨h45_, r3⟩ := hd9 3 45 rfl rfl
   obtain ⟨h46_, r4⟩ := hd9 4 46 rfl rfl
   obtain ⟨h47_, r5⟩ := hd9 5 47 rfl rfl
   obtain ⟨h48_, r6⟩ := hd9 6 48 rfl rfl
   obtain ⟨h49_, r7⟩ := hd9 7 49 rfl rfl
   obtain ⟨h50_, r8⟩ := hd9 8 50 rfl rfl
   obtain ⟨h51_, r9⟩ := hd9 9 51 rfl rfl
   simp only [show List.range 10 = [0, 1, 2, 3, 4, 5, 6, 7, 8, 9] from rfl, List.flatMap_cons, List.flatMap_nil, List.map_cons, List.map_nil, r0, r1, r2, r3, r4, r5, r6, r7, r8, r9, List.nil_append, List.append_nil, List.cons_append] at hst
   refine RunL.slots (sl := [(1, .int .u32 _), (2, .pointer (some ⟨_, _, none⟩)), (5, .pointer (some ⟨_, _, none⟩)), (8, .int .i64 _), (45, .int .u8 _), (50, .agg #[.int .u8 _, .int .u32 _, str _]), (51, .int .u32 _)]) ⟨(hs8 1 rfl).trans rfl, (hs8 2 rfl).trans rfl, (hs8 5 rfl).trans rfl, (hs8 8 rfl).trans rfl, h45_, h50_, h51_, trivial⟩ ?_
   clear hs8 hd9 hr11 tab6
   refine CN <| Op1.call3 (v1 := .int .u8 _) (v2 := .agg #[.int .u8 _, .int .u32 _, str _]) (v3 := .int .u32 _) ent44 rfl rfl rfl rfl <| Ret.det (R5ref4_Wrong _ (letterS_bd fm (k : Int)).1 (letterS_bd fm (k : Int)).2 (p.args.getD k zeroA) (by have := hla _ (getD_memD (l := p.args) (i := k) (d := zeroA) (by omega)); omega) bound _) hst fun w hst => AI rfl <| NSR <| MI rfl <| CN <| Op1.neq rfl rfl <| NL <| Run.forget [(1, .int .u32 _), (2, .pointer (some ⟨_, _, none⟩)), (5, .pointer (some ⟨_, _, none⟩)), (7, .int .i64 _), (8, .int .i64 _), (54, .bool _)] ⟨rfl, rfl, rfl, rfl, rfl, rfl, trivial⟩ fun f => run_cond_dec rfl (fun g12 => ?_) (fun g12 => ?_)
   · skip
     refine SR <| MI rfl <| AI rfl <| NL <| run_ret1 Try.func34 rfl (TP (v := .int .i64 _) rfl) ?_
     have hF := faultF_eq (bound := bound) (i := p.L) (by rw [hob]; simpa using g1)
     rw [hfm] at hF
     rw [if_neg g2] at hF
     rw [if_neg g3] at hF
     have hw := (wrongL_take (by omega) hJ.2).2 g12
     rw [if_pos (by (try dsimp only); rw [hw]; exact g12)] at hF
     try dsimp only at hF
     rw [hw] at hF
     exact ⟨congrArg (Value.int .i64) (hF).symm, hst.pure⟩
   refine run_skip <| run_inBlock <| RG <| MI rfl <| CN <| Op1.addN rfl rfl rfl (wrap_i64 (by omega) (by omega)) <| AI rfl <| NL <| run_inLoop ?_
   exact ih4 (k + 1) _ w (by omega) hst (⟨by omega, ((wrongL_take (by omega) hJ.2).1).trans (Classical.not_not.1 g12)⟩) ⟨rfl, rfl, rfl, trivial⟩ ⟨(congrArg (Value.int .i64) (by omega)), trivial⟩
 obtain rfl : k = p.args.length := by omega
 have hwl := hJ.2
 rw [List.take_length] at hwl
 refine run_exit (id := 0) rfl <| SQ <| SR <| CN <| Op1.loadA (vs := [.int .u16 _, str _, .bool _, .bool _, str _, str _, .int .i64 _, .int .u8 _]) ty74 rfl rfl rfl (cells_of_obj (n := 8) (hst.objL (.head _)) _ rfl) <| CN <| Op1.fieldAddr fld39_3 rfl <| CN <| Op1.load1 (v := .slice _ _ _) ty37 rfl rfl (hst.cellL (.tail _ (.head _)) rfl) <| CN <| Op1.lenSl (rest := []) ty37 rfl <| CN <| Op1.call2 (v1 := .agg #[.int .u16 _, str _, .bool _, .bool _, str _, str _, .int .i64 _, .int .u8 _]) (v2 := .int .i64 _) ent46 rfl rfl rfl <| Ret.det (R5ref4_Whole fm hf p.args.length (by omega) _) hst fun w hst => CN <| Op1.not rfl <| NL <| run_cond_split rfl (fun g13 => ?_) (fun g13 => ?_)
 · skip
   refine SR <| AI rfl <| NL <| run_ret1 Try.func34 rfl (TP (v := .int .i64 _) rfl) ?_
   have hF := faultF_eq (bound := bound) (i := p.L) (by rw [hob]; simpa using g1)
   rw [hfm] at hF
   rw [if_neg g2] at hF
   rw [if_neg g3] at hF
   rw [if_neg (fun h => h hwl)] at hF
   have hb := wrongL_none (op := p.op) (bound := bound) (l := p.args) (by rw [hfm]; exact hwl)
   have hq := wholeQ_off (fm := fm) (n := p.args.length) (fun hr => by have := bad_long (f := fm) hr (by rw [← hfm]; exact hb); rwa [List.length_map] at this)
   rw [if_pos (Classical.not_not.1 (fun hx => by have h2 := hq.2 hx; have hg := g13; rw [h2] at hg; cases hg))] at hF
   exact ⟨congrArg (Value.int .i64) (hF).symm, hst.pure⟩
 refine run_skip <| SQ <| SR <| CN <| Op1.loadA (vs := [.int .u16 _, .int .u32 _, .int .u32 _, .slice _ _ _]) ty39 rfl rfl rfl (cells_of_obj (n := 4) (hst.objL (.tail _ (.head _))) _ rfl) <| CN <| Op1.loadA (vs := [.int .u16 _, str _, .bool _, .bool _, str _, str _, .int .i64 _, .int .u8 _]) ty74 rfl rfl rfl (cells_of_obj (n := 8) (hst.objL (.head _)) _ rfl) <| CN <| Op1.call2 (v1 := .agg #[.int .u16 _, .int .u32 _, .int .u32 _, .slice _ _ _]) (v2 := .agg #[.int .u16 _, str _, .bool _, .bool _, str _, str _, .int .i64 _, .int .u8 _]) ent36 rfl rfl rfl <| Ret.det (R5ref4_Room p fm _ (hst.hD _ (.head _)) hsm hla) hst fun w hst => CN <| Op1.gtr rfl rfl <| NL <| run_cond_dec rfl (fun g14 => ?_) (fun g14 => ?_)
 · skip
   refine SR <| AI rfl <| NL <| run_ret1 Try.func34 rfl (TP (v := .int .i64 _) rfl) ?_
   have hF := faultF_eq (bound := bound) (i := p.L) (by rw [hob]; simpa using g1)
   rw [hfm] at hF
   rw [if_neg g2] at hF
   rw [if_neg g3] at hF
   rw [if_neg (fun h => h hwl)] at hF
   have hb := wrongL_none (op := p.op) (bound := bound) (l := p.args) (by rw [hfm]; exact hwl)
   have hq := wholeQ_off (fm := fm) (n := p.args.length) (fun hr => by have := bad_long (f := fm) hr (by rw [← hfm]; exact hb); rwa [List.length_map] at this)
   rw [if_neg (hq.1 (by simpa using g13))] at hF
   rw [if_pos (by (try dsimp only); omega)] at hF
   exact ⟨congrArg (Value.int .i64) (hF).symm, hst.pure⟩
 refine run_skip <| SR <| AI rfl <| NL <| run_ret1 Try.func34 rfl (TP (v := .int .i64 _) rfl) ?_
 have hF := faultF_eq (bound := bound) (i := p.L) (by rw [hob]; simpa using g1)
 rw [hfm] at hF
 rw [if_neg g2] at hF
 rw [if_neg g3] at hF
 rw [if_neg (fun h => h hwl)] at hF
 have hb := wrongL_none (op := p.op) (bound := bound) (l := p.args) (by rw [hfm]; exact hwl)
 have hq := wholeQ_off (fm := fm) (n := p.args.length) (fun hr => by have := bad_long (f := fm) hr (by rw [← hfm]; exact hb); rwa [List.length_map] at this)
 rw [if_neg (hq.1 (by simpa using g13))] at hF
 rw [if_neg (by (try dsimp only); omega)] at hF
 exact ⟨congrArg (Value.int .i64) (hF).symm, hst.pure⟩
end Go.SK
namespace Go.SK
open Go Go.Proofs
theorem ent34 : Enters Try.prog 34 := ⟨Try.f34, _, Try.func34, by kernel_rfl, rfl⟩
end Go.SK
namespace Go.SK
open Go Go.Proofs
open Go.RowKit
theorem R5ref4_Shape (gn bd : Int) (l : List InstP) (ao : Option Addr) (cp : Nat) (w : World) (hA : (Res.rmod ao l).holds w) (hl : l.length ≤ 3000000000000) (hop : ∀ i ∈ l, 0 ≤ i.op) (hsm : ∀ i ∈ l, (i.args.map argRoom).sum ≤ 900000000) (hla : ∀ i ∈ l, ∀ a ∈ i.args, a.s.length ≤ 100000000000) : Ret Try.prog 26 #[.agg #[.int .u32 gn, .int .u32 bd, .slice ao l.length cp]] w (fun v w' => v = .agg #[.int .i64 (shapeF bd (l.map InstP.L)).1, .int .i64 (shapeF bd (l.map InstP.L)).2] ∧ St w NoM [] [] w') := by
 refine Ret.enter (args := [.agg #[.int .u32 gn, .int .u32 bd, .slice ao l.length cp]]) Try.func26 rfl rfl rfl ?_
 have hst : St w NoM [] [Res.rmod ao l] w := St.init_D hA
 clear hA
 refine SR <| CN <| Op1.box (v := .agg #[.int .u32 _, .int .u32 _, .slice _ _ _]) hst rfl rfl fun w b1 hst => CN <| Op1.alloc hst ty29 fun w b2 hst => NL <| SQ <| SR <| CN <| Op1.fieldAddr fld25_1 rfl <| CN <| Op1.load1 (v := .int .u32 _) ty22 rfl rfl (hst.cellL (.tail _ (.head _)) rfl) <| CN <| Op1.eql rfl rfl <| MB rfl <| RunL.splitD (d := 11) rfl (fun g1 => ?_) (fun g1 => ?_)
 · skip
   refine OM (t := 11) rfl (congrArg Value.bool (decide_eq_true g1)) rfl <| OM (t := 11) rfl (congrArg Value.bool (decide_eq_true g1)) rfl <| OM (t := 11) rfl (congrArg Value.bool (decide_eq_true g1)) rfl <| CN <| Op1.pickT (u := .bool _) (congrArg Value.bool (decide_eq_true g1)) rfl <| NL <| run_cond_true (congrArg Value.bool (rfl : true = _)) <| SR <| CN (Op1.buildStruct ty29 stf29 (.c (v := .int .i64 _) rfl (h := .nil)) ?_)
   refine CN (SO (v := .agg #[.int .i64 _, .int .i64 _]) hst ty29 rfl rfl (.here) fun w hst => ?_)
   refine NL <| run_ret1 Try.func26 rfl (RV.cellA (vs := [.int .i64 _, .int .i64 _]) rfl ty29 rfl rfl (cells_of_obj (n := 2) (hst.objL (.head _)) _ rfl)) ?_
   have hS := shapeF_bound (bound := bd) (l := (l.map InstP.L)) (by omega)
   rw [hS]
   exact ⟨rfl, hst.pure⟩
 refine TK (t := 11) rfl (congrArg Value.bool (decide_eq_false g1)) <| Op1.fieldAddr fld25_1 rfl <| TK (t := 11) rfl (congrArg Value.bool (decide_eq_false g1)) <| Op1.load1 (v := .int .u32 _) ty22 rfl rfl (hst.cellL (.tail _ (.head _)) rfl) <| TK (t := 11) rfl (congrArg Value.bool (decide_eq_false g1)) <| Op1.gtr rfl rfl <| CN <| Op1.pickF (u := .bool _) (congrArg Value.bool (decide_eq_false g1)) rfl <| NL <| run_cond_dec rfl (fun g2 => ?_) (fun g2 => ?_)
 · skip
   refine SR <| CN (Op1.buildStruct ty29 stf29 (.c (v := .int .i64 _) rfl (h := .nil)) ?_)
   refine CN (SO (v := .agg #[.int .i64 _, .int .i64 _]) hst ty29 rfl rfl (.here) fun w hst => ?_)
   refine NL <| run_ret1 Try.func26 rfl (RV.cellA (vs := [.int .i64 _, .int .i64 _]) rfl ty29 rfl rfl (cells_of_obj (n := 2) (hst.objL (.head _)) _ rfl)) ?_
   have hS := shapeF_bound (bound := bd) (l := (l.map InstP.L)) (by omega)
   rw [hS]
   exact ⟨rfl, hst.pure⟩
 refine run_skip <| SR <| AI rfl <| NL <| SQ <| SR <| AI rfl <| NL <| run_block <| run_loop <| Run.indW [(1, .pointer (some ⟨_, _, none⟩)), (2, .pointer (some ⟨_, _, none⟩))] ⟨rfl, rfl, trivial⟩ (fun (q : Nat × Nat) => [(3, .int .i64 (q.2 : Int)), (4, .int .i64 (q.1 : Int))]) (fun (q : Nat × Nat) => []) (fun (q : Nat × Nat) => q.1 ≤ l.length ∧ shapeG bd 5 0 (l.map InstP.L) = shapeG bd q.2 q.1 ((l.map InstP.L).drop q.1) ∧ q.2 ≤ 1048576) (fun (q : Nat × Nat) => l.length - q.1) ((0, 5)) hst ⟨Nat.zero_le _, rfl, by decide⟩ ⟨rfl, rfl, trivial⟩ ?_
 intro ⟨i, n⟩ f w hst hJ ih3
 replace hst : St _ _ ([] ++ [_, _]) _ _ := hst
 replace hJ : i ≤ l.length ∧ shapeG bd 5 0 (l.map InstP.L) = shapeG bd n i ((l.map InstP.L).drop i) ∧ n ≤ 1048576 := hJ
 refine Run.slots (sl := [(3, .int .i64 (n : Int)), (4, .int .i64 (i : Int))]) ⟨rfl, rfl, trivial⟩ <| SQ <| SR <| MI rfl <| CN <| Op1.fieldAddr fld25_2 rfl <| CN <| Op1.load1 (v := .slice _ _ _) ty23 rfl rfl (hst.cellL (.tail _ (.head _)) rfl) <| CN <| Op1.lenSl (rest := []) ty23 rfl <| CN <| Op1.lss rfl rfl <| NL <| run_cond_dec rfl (fun g4 => ?_) (fun g4 => ?_)
 · skip
   have hmem : (l.getD i zeroI) ∈ l := getD_memD (by omega)
   have hidx : l.getD ((i : Int)).toNat zeroI = (l.getD i zeroI) := rfl
   obtain ⟨fe, hfe⟩ : ∃ fe, faultF bd (l.getD i zeroI).L = fe := ⟨_, rfl⟩
   obtain ⟨fm, hfm⟩ : ∃ fm, refD (l.getD i zeroI).op = fm := ⟨_, rfl⟩
   obtain ⟨ob, hob⟩ : ∃ ob, (refS (l.getD i zeroI).op).isSome = ob := ⟨_, rfl⟩
   have hsh := shapeG_step (bound := bd) (n := n) (k := i) (l := (l.map InstP.L)) (j := i) (by rw [List.length_map]; omega)
   rw [mapL_getD (by omega), hfe] at hsh
   dsimp only at hsh
   rw [hfm] at hsh
   refine run_skip <| SQ <| run_block <| SQ <| RunD.start [] hst (bs := [0, 1, 0, 7, 15, 0, 32, 127, 255]) (ds := [some 24, some 25, some 26, some 27, some 28, some 29, some 30, some 31, some 5]) ⟨by kernel_rfl, by kernel_rfl, by kernel_rfl⟩ (fun tab5 => ?_)
   refine RunD.op (det _) tab5 1 (fun f' L' w' hc => Op1.fieldAddr fld25_2 (hc.old (v := .pointer (some ⟨_, _, none⟩)) rfl rfl rfl) ⟨[], ⟨rfl, rfl⟩, hc.st⟩) <| RunD.op (det _) tab5 2 (fun f' L' w' hc => Op1.load1 (v := .slice _ _ _) ty23 rfl (hc.det (j := 0) rfl rfl rfl rfl) (hc.st.cellL (List.mem_append_right _ (.tail _ (.head _))) rfl) ⟨[], ⟨rfl, rfl⟩, hc.st⟩) <| RunD.op (det _) tab5 3 (fun f' L' w' hc => Op1.move (v := .int .i64 _) (hc.old (v := .int .i64 _) rfl rfl rfl) ⟨[], ⟨rfl, rfl⟩, hc.st⟩) <| RunD.op (det _) tab5 4 (fun f' L' w' hc => Op1.indexRs ty23 ty39 (Res.rmod_insts (hc.st.hD _ (.head _))) (hc.det (j := 1) rfl rfl rfl rfl) (hc.det (j := 2) rfl rfl rfl rfl) (by omega) (by omega) ⟨[], ⟨rfl, rfl⟩, hc.st⟩) <| RunD.op (det _) tab5 5 (fun f' L' w' hc => Op1.loadA (vs := [.int .u16 _, .int .u32 _, .int .u32 _, .slice _ _ _]) ty39 rfl (hc.det (j := 3) rfl rfl rfl rfl) rfl (Res.rs2_cells (m := 4) (Res.rmod_insts (hc.st.hD _ (.head _))) _ (flat_seg (g := instC) (d := zeroI) instC_len _ _ (by omega))) ⟨[], ⟨rfl, rfl⟩, hc.st⟩) <| RunD.op (det _) tab5 6 (fun f' L' w' hc => Op1.fieldAddr fld25_1 (hc.old (v := .pointer (some ⟨_, _, none⟩)) rfl rfl rfl) ⟨[], ⟨rfl, rfl⟩, hc.st⟩) <| RunD.op (det _) tab5 7 (fun f' L' w' hc => Op1.load1 (v := .int .u32 _) ty22 rfl (hc.det (j := 5) rfl rfl rfl rfl) (hc.st.cellL (List.mem_append_right _ (.tail _ (.head _))) rfl) ⟨[], ⟨rfl, rfl⟩, hc.st⟩) <| RunD.fin followsMixed tab5 hst rfl (fun f6 w R9 hs7 hd8 hr10 hst => ?_)
   obtain ⟨h24_, r0⟩ := hd8 0 24 rfl rfl
   obtain ⟨h25_, r1⟩ := hd8 1 25 rfl rfl
   obtain ⟨h26_, r2⟩ := hd8 2 26 rfl rfl
   obtain ⟨h27_, r3⟩ := hd8 3 27 rfl rfl
   obtain ⟨h28_, r4⟩ := hd8 4 28 rfl rfl
   obtain ⟨h29_, r5⟩ := hd8 5 29 rfl rfl
   obtain ⟨h30_, r6⟩ := hd8 6 30 rfl rfl
   simp only [show List.range 7 = [0, 1, 2, 3, 4, 5, 6] from rfl, List.flatMap_cons, List.flatMap_nil, List.map_cons, List.map_nil, r0, r1, r2, r3, r4, r5, r6, List.nil_append, List.append_nil, List.cons_append] at hst
   refine RunL.slots (sl := [(1, .pointer (some ⟨_, _, none⟩)), (2, .pointer (some ⟨_, _, none⟩)), (3, .int .i64 _), (4, .int .i64 _), (28, .agg #[.int .u16 _, .int .u32 _, .int .u32 _, .slice _ _ _]), (30, .int .u32 _)]) ⟨(hs7 1 rfl).trans rfl, (hs7 2 rfl).trans rfl, (hs7 3 rfl).trans rfl, (hs7 4 rfl).trans rfl, h28_, h30_, trivial⟩ ?_
   clear hs7 hd8 hr10 tab5
   refine CN <| Op1.call2 (v1 := .agg #[.int .u16 _, .int .u32 _, .int .u32 _, .slice _ _ _]) (v2 := .int .u32 _) ent34 rfl rfl rfl <| Ret.detE (R5ref4_Fault (l.getD i zeroI) bd (hop _ hmem) _ (Res.rmod_argsI (hst.hD _ (.head _)) (i := i) (by omega)) (hsm _ hmem) (hla _ hmem)) (congrArg (Value.int .i64) hfe) hst fun w hst => AI rfl <| NL <| SQ <| SR <| MI rfl <| CN <| Op1.neq rfl rfl <| NL <| run_cond_dec rfl (fun g11 => ?_) (fun g11 => ?_)
   · skip
     refine SR <| MI rfl <| MI rfl <| CN (Op1.buildStruct ty29 stf29 (.c (v := .int .i64 _) rfl (h := (.c (v := .int .i64 _) rfl (h := .nil)))) ?_)
     refine CN (SO (v := .agg #[.int .i64 _, .int .i64 _]) hst ty29 rfl rfl (.here) fun w hst => ?_)
     refine NL <| run_ret1 Try.func26 rfl (RV.cellA (vs := [.int .i64 _, .int .i64 _]) rfl ty29 rfl rfl (cells_of_obj (n := 2) (hst.objL (.head _)) _ rfl)) ?_
     rw [if_pos g11] at hsh
     have hS := shapeF_in (bound := bd) (l := (l.map InstP.L)) (by omega) (by omega)
     rw [hJ.2.1, hsh] at hS
     rw [hS]
     exact ⟨rfl, hst.pure⟩
   refine run_skip <| SR <| CN <| Op1.fieldAddr fld25_2 rfl <| CN <| Op1.load1 (v := .slice _ _ _) ty23 rfl rfl (hst.cellL (.tail _ (.head _)) rfl) <| MI rfl <| CN <| Op1.indexRs ty23 ty39 (Res.rmod_insts (hst.hD _ (.head _))) rfl rfl (by omega) (by omega) <| CN <| Op1.fieldAddr fld39_0 rfl <| CN <| Op1.load1 (v := .int .u16 _) ty33 rfl rfl (Res.rs2_cellF (Res.rmod_insts (hst.hD _ (.head _))) (flat_cell (g := instC) (d := zeroI) instC_len rfl (by omega))) <| CN <| Op1.call1 (v1 := .int .u16 _) ent35 rfl rfl <| Ret.det (R5ref_Of2 hfm hob _) hst fun w hst => CN <| Op1.move (v := .tuple #[.agg #[.int .u16 _, str _, .bool _, .bool _, str _, str _, .int .i64 _, .int .u8 _], .bool _]) rfl <| CN <| Op1.extract (v := .agg #[.int .u16 _, str _, .bool _, .bool _, str _, str _, .int .i64 _, .int .u8 _]) rfl rfl <| CN <| Op1.extract (v := .bool _) rfl rfl <| CN <| Op1.alloc hst ty74 fun w b6 hst => CN (SO (v := .agg #[.int .u16 _, str _, .bool _, .bool _, str _, str _, .int .i64 _, .int .u8 _]) hst ty74 rfl rfl (.here) fun w hst => ?_)
   refine AB rfl <| NL <| Run.forget [(1, .pointer (some ⟨_, _, none⟩)), (2, .pointer (some ⟨_, _, none⟩)), (3, .int .i64 _), (4, .int .i64 _), (6, .pointer (some ⟨_, _, none⟩))] ⟨rfl, rfl, rfl, rfl, rfl, trivial⟩ fun f => SQ ?_
   have hrb : (roomI fm (l.getD i zeroI).args : Int) ≤ 900000003 := by have := hsm _ hmem; unfold roomI b2n; split <;> split <;> omega
   refine RunD.start [] hst (bs := [0, 0, 2, 0, 14, 30, 0, 126, 255, 511]) (ds := [some 47, some 48, some 49, some 50, some 51, some 52, some 53, some 54, some 55, some 3]) ⟨by kernel_rfl, by kernel_rfl, by kernel_rfl⟩ (fun tab12 => ?_)
   refine RunD.op (det _) tab12 1 (fun f' L' w' hc => Op1.move (v := .int .i64 _) (hc.old (v := .int .i64 _) rfl rfl rfl) ⟨[], ⟨rfl, rfl⟩, hc.st⟩) <| RunD.op (det _) tab12 2 (fun f' L' w' hc => Op1.fieldAddr fld25_2 (hc.old (v := .pointer (some ⟨_, _, none⟩)) rfl rfl rfl) ⟨[], ⟨rfl, rfl⟩, hc.st⟩) <| RunD.op (det _) tab12 3 (fun f' L' w' hc => Op1.load1 (v := .slice _ _ _) ty23 rfl (hc.det (j := 1) rfl rfl rfl rfl) (hc.st.cellL (List.mem_append_right _ (.tail _ (.tail _ (.head _)))) rfl) ⟨[], ⟨rfl, rfl⟩, hc.st⟩) <| RunD.op (det _) tab12 4 (fun f' L' w' hc => Op1.move (v := .int .i64 _) (hc.old (v := .int .i64 _) rfl rfl rfl) ⟨[], ⟨rfl, rfl⟩, hc.st⟩) <| RunD.op (det _) tab12 5 (fun f' L' w' hc => Op1.indexRs ty23 ty39 (Res.rmod_insts (hc.st.hD _ (.head _))) (hc.det (j := 2) rfl rfl rfl rfl) (hc.det (j := 3) rfl rfl rfl rfl) (by omega) (by omega) ⟨[], ⟨rfl, rfl⟩, hc.st⟩) <| RunD.op (det _) tab12 6 (fun f' L' w' hc => Op1.loadA (vs := [.int .u16 _, .int .u32 _, .int .u32 _, .slice _ _ _]) ty39 rfl (hc.det (j := 4) rfl rfl rfl rfl) rfl (Res.rs2_cells (m := 4) (Res.rmod_insts (hc.st.hD _ (.head _))) _ (flat_seg (g := instC) (d := zeroI) instC_len _ _ (by omega))) ⟨[], ⟨rfl, rfl⟩, hc.st⟩) <| RunD.op (det _) tab12 7 (fun f' L' w' hc => Op1.loadA (vs := [.int .u16 _, str _, .bool _, .bool _, str _, str _, .int .i64 _, .int .u8 _]) ty74 rfl (hc.old (v := .pointer (some ⟨_, _, none⟩)) rfl rfl rfl) rfl (cells_of_obj (n := 8) (hc.st.objL (List.mem_append_right _ (.head _))) _ rfl) ⟨[], ⟨rfl, rfl⟩, hc.st⟩) <| RunD.op (det _) tab12 8 (fun f' L' w' hc => Op1.call2 (v1 := .agg #[.int .u16 _, .int .u32 _, .int .u32 _, .slice _ _ _]) (v2 := .agg #[.int .u16 _, str _, .bool _, .bool _, str _, str _, .int .i64 _, .int .u8 _]) ent36 rfl (hc.det (j := 5) rfl rfl rfl rfl) (hc.det (j := 6) rfl rfl rfl rfl) ((R5ref4_Room (l.getD i zeroI) fm _ (Res.rmod_argsI (hc.st.hD _ (.head _)) (i := i) (by omega)) (hsm _ hmem) (hla _ hmem)).mono fun v w hp => ⟨[], ⟨hp.1, rfl⟩, hc.st.keepc hp.2⟩)) <| RunD.fin followsMixed tab12 hst rfl (fun f13 w R16 hs14 hd15 hr17 hst => ?_)
   obtain ⟨h47_, r0⟩ := hd15 0 47 rfl rfl
   obtain ⟨h48_, r1⟩ := hd15 1 48 rfl rfl
   obtain ⟨h49_, r2⟩ := hd15 2 49 rfl rfl
   obtain ⟨h50_, r3⟩ := hd15 3 50 rfl rfl
   obtain ⟨h51_, r4⟩ := hd15 4 51 rfl rfl
   obtain ⟨h52_, r5⟩ := hd15 5 52 rfl rfl
   obtain ⟨h53_, r6⟩ := hd15 6 53 rfl rfl
   obtain ⟨h54_, r7⟩ := hd15 7 54 rfl rfl
   simp only [show List.range 8 = [0, 1, 2, 3, 4, 5, 6, 7] from rfl, List.flatMap_cons, List.flatMap_nil, List.map_cons, List.map_nil, r0, r1, r2, r3, r4, r5, r6, r7, List.nil_append, List.append_nil, List.cons_append] at hst
   refine RunL.slots (sl := [(1, .pointer (some ⟨_, _, none⟩)), (2, .pointer (some ⟨_, _, none⟩)), (4, .int .i64 _), (47, .int .i64 _), (54, .int .i64 _)]) ⟨(hs14 1 rfl).trans rfl, (hs14 2 rfl).trans rfl, (hs14 4 rfl).trans rfl, h47_, h54_, trivial⟩ ?_
   clear hs14 hd15 hr17 tab12
   refine CN <| Op1.addN rfl rfl rfl (wrap_i64 (by omega) (by omega)) <| AI rfl <| NSR <| MI rfl <| CN <| Op1.gtr rfl rfl <| NL <| run_cond_dec rfl (fun g18 => ?_) (fun g18 => ?_)
   · skip
     refine SR <| MI rfl <| CN (Op1.buildStruct ty29 stf29 (.c (v := .int .i64 _) rfl (h := (.c (v := .int .i64 _) rfl (h := .nil)))) ?_)
     refine CN (SO (v := .agg #[.int .i64 _, .int .i64 _]) hst ty29 rfl rfl (.there (.here)) fun w hst => ?_)
     refine NL <| run_ret1 Try.func26 rfl (RV.cellA (vs := [.int .i64 _, .int .i64 _]) rfl ty29 rfl rfl (cells_of_obj (n := 2) (hst.objL (.tail _ (.head _))) _ rfl)) ?_
     rw [if_neg g11, if_pos (by omega)] at hsh
     have hS := shapeF_in (bound := bd) (l := (l.map InstP.L)) (by omega) (by omega)
     rw [hJ.2.1, hsh] at hS
     rw [hS]
     exact ⟨rfl, hst.pure⟩
   refine run_skip <| run_inBlock <| RG <| MI rfl <| CN <| Op1.addN rfl rfl rfl (wrap_i64 (by omega) (by omega)) <| AI rfl <| NL <| run_inLoop ?_
   rw [if_neg g11, if_neg (by omega)] at hsh
   replace hst := hst.pick (.cons (.there (.here)) (.cons (.there (.here)) .nil))
   exact ih3 ((i + 1, n + roomI fm (l.getD i zeroI).args)) _ w (by (try dsimp only); omega) hst (⟨by (try dsimp only); omega, hJ.2.1.trans hsh, by (try dsimp only); omega⟩) ⟨rfl, rfl, trivial⟩ ⟨(congrArg (Value.int .i64) (by (try dsimp only); omega)), (congrArg (Value.int .i64) (by (try dsimp only); omega)), trivial⟩
 obtain rfl : i = l.length := by omega
 refine run_exit (id := 0) rfl <| SR <| CN (Op1.buildStruct ty29 stf29 .nil ?_)
 refine CN (SO (v := .agg #[.int .i64 _, .int .i64 _]) hst ty29 rfl rfl (.here) fun w hst => ?_)
 refine NL <| run_ret1 Try.func26 rfl (RV.cellA (vs := [.int .i64 _, .int .i64 _]) rfl ty29 rfl rfl (cells_of_obj (n := 2) (hst.objL (.head _)) _ rfl)) ?_
 have hll : l.length = (l.map InstP.L).length := by rw [List.length_map]
 have hS := shapeF_in (bound := bd) (l := (l.map InstP.L)) (by omega) (by omega)
 rw [hJ.2.1, hll, shapeG_end] at hS
 rw [hS]
 exact ⟨rfl, hst.pure⟩
theorem R5ref4_Shape2 (gn bd : Int) (l : List InstP) (ao : Option Addr) (cp : Nat) {se sa : Int} (hS : shapeF bd (l.map InstP.L) = (se, sa)) (w : World) (hA : (Res.rmod ao l).holds w) (hl : l.length ≤ 3000000000000) (hop : ∀ i ∈ l, 0 ≤ i.op) (hsm : ∀ i ∈ l, (i.args.map argRoom).sum ≤ 900000000) (hla : ∀ i ∈ l, ∀ a ∈ i.args, a.s.length ≤ 100000000000) : Ret Try.prog 26 #[.agg #[.int .u32 gn, .int .u32 bd, .slice ao l.length cp]] w (fun v w' => v = .agg #[.int .i64 se, .int .i64 sa] ∧ St w NoM [] [] w') := by
 have h := R5ref4_Shape gn bd l ao cp w hA hl hop hsm hla
 rw [hS] at h; exact h
end Go.SK
namespace Go.SK
open Go Go.Proofs
open Go.RowKit
theorem R5ref5_Part (p : InstP) (hkn : p.L.Known) (w : World) (hA : (Res.rargs p).holds w) (hl : p.args.length ≤ 9000000000000000000) : Ret Try.prog 28 #[.agg #[.int .u16 p.op, .int .u32 p.ty, .int .u32 p.res, .slice p.ao p.args.length p.cap]] w (fun v w' => v = .int .i64 (ptF p.L) ∧ St w NoM [] [] w') := by
 refine Ret.enter (args := [.agg #[.int .u16 p.op, .int .u32 p.ty, .int .u32 p.res, .slice p.ao p.args.length p.cap]]) Try.func28 rfl rfl rfl ?_
 have hst : St w NoM [] [Res.rargs p] w := St.init_D hA
 clear hA
 obtain ⟨fm, hfm⟩ : ∃ fm, refD p.op = fm := ⟨_, rfl⟩
 obtain ⟨ob, hob⟩ : ∃ ob, (refS p.op).isSome = ob := ⟨_, rfl⟩
 have hpb := (known_parts hkn).1
 rw [show p.L.op = p.op from rfl, hfm] at hpb
 refine SR <| CN <| Op1.box (v := .agg #[.int .u16 _, .int .u32 _, .int .u32 _, .slice _ _ _]) hst rfl rfl fun w b1 hst => AI rfl <| NL <| SQ <| SR <| CN <| Op1.fieldAddr fld39_0 rfl <| CN <| Op1.load1 (v := .int .u16 _) ty33 rfl rfl (hst.cellL (.head _) rfl) <| CN <| Op1.eql rfl rfl <| MB rfl <| RunL.splitD (d := 8) rfl (fun g1 => ?_) (fun g1 => ?_)
 · skip
   refine TK (t := 8) rfl (congrArg Value.bool (decide_eq_true g1)) <| Op1.fieldAddr fld39_3 rfl <| TK (t := 8) rfl (congrArg Value.bool (decide_eq_true g1)) <| Op1.load1 (v := .slice _ _ _) ty37 rfl rfl (hst.cellL (.head _) rfl) <| TK (t := 8) rfl (congrArg Value.bool (decide_eq_true g1)) <| Op1.lenSl (rest := []) ty37 rfl <| TK (t := 8) rfl (congrArg Value.bool (decide_eq_true g1)) <| Op1.gtr rfl rfl <| CN <| Op1.pickT (u := .bool _) (congrArg Value.bool (decide_eq_true g1)) rfl <| MB rfl <| RunL.splitD (d := 14) rfl (fun g2 => ?_) (fun g2 => ?_)
   · skip
     refine TK (t := 14) rfl (congrArg Value.bool (decide_eq_true g2)) <| Op1.fieldAddr fld39_3 rfl <| TK (t := 14) rfl (congrArg Value.bool (decide_eq_true g2)) <| Op1.load1 (v := .slice _ _ _) ty37 rfl rfl (hst.cellL (.head _) rfl) <| TK (t := 14) rfl (congrArg Value.bool (decide_eq_true g2)) <| Op1.indexRs ty37 ty35 (hst.hD _ (.head _)) rfl rfl (by omega) (by omega) <| TK (t := 14) rfl (congrArg Value.bool (decide_eq_true g2)) <| Op1.fieldAddr fld35_1 rfl <| TK (t := 14) rfl (congrArg Value.bool (decide_eq_true g2)) <| Op1.load1 (v := .int .u32 _) ty22 rfl rfl (Res.rs2_cellF (hst.hD _ (.head _)) (flat_cell (g := argC) (d := zeroA) argC_len rfl (by omega))) <| TK (t := 14) rfl (congrArg Value.bool (decide_eq_true g2)) <| Op1.eql rfl rfl <| CN <| Op1.pickT (u := .bool _) (congrArg Value.bool (decide_eq_true g2)) rfl <| NL <| Run.forget [(1, .pointer (some ⟨_, _, none⟩)), (21, .bool _)] ⟨rfl, rfl, trivial⟩ fun f => run_cond_dec rfl (fun g3 => ?_) (fun g3 => ?_)
     · skip
       refine SR <| AI rfl <| NL <| run_ret1 Try.func28 rfl (TP (v := .int .i64 _) rfl) ?_
       exact ⟨congrArg (Value.int .i64) (by unfold ptF; rw [if_pos ⟨g1, (by have h := g2; have e : p.L.args.length = p.args.length := rfl; omega), g3⟩]), hst.pure⟩
     refine run_skip <| SR <| CN <| Op1.fieldAddr fld39_0 rfl <| CN <| Op1.load1 (v := .int .u16 _) ty33 rfl rfl (hst.cellL (.head _) rfl) <| CN <| Op1.call1 (v1 := .int .u16 _) ent35 rfl rfl <| Ret.det (R5ref_Of2 hfm hob _) hst fun w hst => CN <| Op1.move (v := .tuple #[.agg #[.int .u16 _, str _, .bool _, .bool _, str _, str _, .int .i64 _, .int .u8 _], .bool _]) rfl <| CN <| Op1.extract (v := .agg #[.int .u16 _, str _, .bool _, .bool _, str _, str _, .int .i64 _, .int .u8 _]) rfl rfl <| CN <| Op1.extract (v := .bool _) rfl rfl <| CN <| Op1.alloc hst ty74 fun w b3 hst => CN (SO (v := .agg #[.int .u16 _, str _, .bool _, .bool _, str _, str _, .int .i64 _, .int .u8 _]) hst ty74 rfl rfl (.here) fun w hst => ?_)
     refine AB rfl <| NSR <| CN <| Op1.fieldAddr fld74_7 rfl <| CN (Op1.load1 (v := .int .u8 _) ty5 rfl rfl (hst.cellL (.head _) rfl) ?_)
     first | refine CN (Op1.convN ty5 ty3 rfl (wrap_i64 (by omega) (by omega)) ?_) | refine CN (Op1.convN ty5 ty3 rfl (wrapB_i64 _) ?_) | refine CN (Op1.conv ty5 ty3 rfl ?_)
     refine AI rfl <| NL <| run_ret1 Try.func28 rfl (TP (v := .int .i64 _) rfl) ?_
     exact ⟨congrArg (Value.int .i64) (by unfold ptF; rw [if_neg (fun h => g3 h.2.2), show p.L.op = p.op from rfl, hfm]), hst.pure⟩
   refine OM (t := 14) rfl (congrArg Value.bool (decide_eq_false g2)) rfl <| OM (t := 14) rfl (congrArg Value.bool (decide_eq_false g2)) rfl <| OM (t := 14) rfl (congrArg Value.bool (decide_eq_false g2)) rfl <| OM (t := 14) rfl (congrArg Value.bool (decide_eq_false g2)) rfl <| OM (t := 14) rfl (congrArg Value.bool (decide_eq_false g2)) rfl <| OM (t := 14) rfl (congrArg Value.bool (decide_eq_false g2)) rfl <| CN <| Op1.pickF (u := .bool _) (congrArg Value.bool (decide_eq_false g2)) rfl <| NL <| run_cond_false (congrArg Value.bool (rfl : false = _)) <| run_skip <| SR <| CN <| Op1.fieldAddr fld39_0 rfl <| CN <| Op1.load1 (v := .int .u16 _) ty33 rfl rfl (hst.cellL (.head _) rfl) <| CN <| Op1.call1 (v1 := .int .u16 _) ent35 rfl rfl <| Ret.det (R5ref_Of2 hfm hob _) hst fun w hst => ?_
   refine CN <| Op1.move (v := .tuple #[.agg #[.int .u16 _, str _, .bool _, .bool _, str _, str _, .int .i64 _, .int .u8 _], .bool _]) rfl <| CN <| Op1.extract (v := .agg #[.int .u16 _, str _, .bool _, .bool _, str _, str _, .int .i64 _, .int .u8 _]) rfl rfl <| CN <| Op1.extract (v := .bool _) rfl rfl <| CN <| Op1.alloc hst ty74 fun w b3 hst => CN (SO (v := .agg #[.int .u16 _, str _, .bool _, .bool _, str _, str _, .int .i64 _, .int .u8 _]) hst ty74 rfl rfl (.here) fun w hst => ?_)
   refine AB rfl <| NL <| Run.forget [(3, .pointer (some ⟨_, _, none⟩))] ⟨rfl, trivial⟩ fun f => SR <| CN <| Op1.fieldAddr fld74_7 rfl <| CN (Op1.load1 (v := .int .u8 _) ty5 rfl rfl (hst.cellL (.head _) rfl) ?_)
   first | refine CN (Op1.convN ty5 ty3 rfl (wrap_i64 (by omega) (by omega)) ?_) | refine CN (Op1.convN ty5 ty3 rfl (wrapB_i64 _) ?_) | refine CN (Op1.conv ty5 ty3 rfl ?_)
   refine AI rfl <| NL <| run_ret1 Try.func28 rfl (TP (v := .int .i64 _) rfl) ?_
   exact ⟨congrArg (Value.int .i64) (by unfold ptF; rw [if_neg (fun h => g2 (by have h1 := h.2.1; have e : p.L.args.length = p.args.length := rfl; omega)), show p.L.op = p.op from rfl, hfm]), hst.pure⟩
 refine OM (t := 8) rfl (congrArg Value.bool (decide_eq_false g1)) rfl <| OM (t := 8) rfl (congrArg Value.bool (decide_eq_false g1)) rfl <| OM (t := 8) rfl (congrArg Value.bool (decide_eq_false g1)) rfl <| OM (t := 8) rfl (congrArg Value.bool (decide_eq_false g1)) rfl <| CN <| Op1.pickF (u := .bool _) (congrArg Value.bool (decide_eq_false g1)) rfl <| MB rfl <| OM (t := 14) rfl (congrArg Value.bool (rfl : false = _)) rfl <| OM (t := 14) rfl (congrArg Value.bool (rfl : false = _)) rfl <| OM (t := 14) rfl (congrArg Value.bool (rfl : false = _)) rfl <| OM (t := 14) rfl (congrArg Value.bool (rfl : false = _)) rfl <| OM (t := 14) rfl (congrArg Value.bool (rfl : false = _)) rfl <| OM (t := 14) rfl (congrArg Value.bool (rfl : false = _)) rfl <| CN <| Op1.pickF (u := .bool _) (congrArg Value.bool (rfl : false = _)) rfl <| NL <| run_cond_false (congrArg Value.bool (rfl : false = _)) ?_
 refine run_skip <| SR <| CN <| Op1.fieldAddr fld39_0 rfl <| CN <| Op1.load1 (v := .int .u16 _) ty33 rfl rfl (hst.cellL (.head _) rfl) <| CN <| Op1.call1 (v1 := .int .u16 _) ent35 rfl rfl <| Ret.det (R5ref_Of2 hfm hob _) hst fun w hst => CN <| Op1.move (v := .tuple #[.agg #[.int .u16 _, str _, .bool _, .bool _, str _, str _, .int .i64 _, .int .u8 _], .bool _]) rfl <| CN <| Op1.extract (v := .agg #[.int .u16 _, str _, .bool _, .bool _, str _, str _, .int .i64 _, .int .u8 _]) rfl rfl <| CN <| Op1.extract (v := .bool _) rfl rfl <| CN <| Op1.alloc hst ty74 fun w b3 hst => CN (SO (v := .agg #[.int .u16 _, str _, .bool _, .bool _, str _, str _, .int .i64 _, .int .u8 _]) hst ty74 rfl rfl (.here) fun w hst => ?_)
 refine AB rfl <| NSR <| CN <| Op1.fieldAddr fld74_7 rfl <| CN (Op1.load1 (v := .int .u8 _) ty5 rfl rfl (hst.cellL (.head _) rfl) ?_)
 first | refine CN (Op1.convN ty5 ty3 rfl (wrap_i64 (by omega) (by omega)) ?_) | refine CN (Op1.convN ty5 ty3 rfl (wrapB_i64 _) ?_) | refine CN (Op1.conv ty5 ty3 rfl ?_)
 refine AI rfl <| NL <| run_ret1 Try.func28 rfl (TP (v := .int .i64 _) rfl) ?_
 exact ⟨congrArg (Value.int .i64) (by unfold ptF; rw [if_neg (fun h => g1 h.1), show p.L.op = p.op from rfl, hfm]), hst.pure⟩
theorem R5ref5_Ends (op : Int) (w : World) : Ret Try.prog 30 #[.int .u16 op] w (fun v w' => v = .bool (endsB op) ∧ St w NoM [] [] w') := by
 refine Ret.enter (args := [.int .u16 op]) Try.func30 rfl rfl rfl ?_
 have hst := St.init w
 refine SR <| AB rfl <| NSR <| MH rfl <| CN <| Op1.eql rfl rfl <| MB rfl <| RunL.splitD (d := 5) rfl (fun g1 => ?_) (fun g1 => ?_)
 · skip
   refine OM (t := 5) rfl (congrArg Value.bool (decide_eq_true g1)) rfl <| OM (t := 5) rfl (congrArg Value.bool (decide_eq_true g1)) rfl <| CN <| Op1.pickT (u := .bool _) (congrArg Value.bool (decide_eq_true g1)) rfl <| MB rfl <| OM (t := 9) rfl (congrArg Value.bool (rfl : true = _)) rfl <| OM (t := 9) rfl (congrArg Value.bool (rfl : true = _)) rfl <| CN <| Op1.pickT (u := .bool _) (congrArg Value.bool (rfl : true = _)) rfl <| MB rfl <| OM (t := 13) rfl (congrArg Value.bool (rfl : true = _)) rfl <| OM (t := 13) rfl (congrArg Value.bool (rfl : true = _)) rfl <| CN <| Op1.pickT (u := .bool _) (congrArg Value.bool (rfl : true = _)) rfl <| MB rfl <| OM (t := 17) rfl (congrArg Value.bool (rfl : true = _)) rfl <| OM (t := 17) rfl (congrArg Value.bool (rfl : true = _)) rfl <| CN (Op1.pickT (u := .bool _) (congrArg Value.bool (rfl : true = _)) rfl ?_)
   refine MB rfl <| OM (t := 21) rfl (congrArg Value.bool (rfl : true = _)) rfl <| OM (t := 21) rfl (congrArg Value.bool (rfl : true = _)) rfl <| CN <| Op1.pickT (u := .bool _) (congrArg Value.bool (rfl : true = _)) rfl <| MB rfl <| OM (t := 25) rfl (congrArg Value.bool (rfl : true = _)) rfl <| OM (t := 25) rfl (congrArg Value.bool (rfl : true = _)) rfl <| CN <| Op1.pickT (u := .bool _) (congrArg Value.bool (rfl : true = _)) rfl <| AB rfl <| NL <| run_ret1 Try.func30 rfl (TP (v := .bool _) rfl) ?_
   exact ⟨congrArg Value.bool (by unfold endsB; first | (rw [decide_eq_decide]; omega) | exact (decide_eq_true (by omega)).symm | exact (decide_eq_false (by omega)).symm), hst.pure⟩
 refine TK (t := 5) rfl (congrArg Value.bool (decide_eq_false g1)) <| Op1.move (v := .int .u16 _) rfl <| TK (t := 5) rfl (congrArg Value.bool (decide_eq_false g1)) <| Op1.eql rfl rfl <| CN <| Op1.pickF (u := .bool _) (congrArg Value.bool (decide_eq_false g1)) rfl <| MB rfl <| RunL.splitD (d := 9) rfl (fun g2 => ?_) (fun g2 => ?_)
 · skip
   refine OM (t := 9) rfl (congrArg Value.bool (decide_eq_true g2)) rfl <| OM (t := 9) rfl (congrArg Value.bool (decide_eq_true g2)) rfl <| CN <| Op1.pickT (u := .bool _) (congrArg Value.bool (decide_eq_true g2)) rfl <| MB rfl <| OM (t := 13) rfl (congrArg Value.bool (rfl : true = _)) rfl <| OM (t := 13) rfl (congrArg Value.bool (rfl : true = _)) rfl <| CN <| Op1.pickT (u := .bool _) (congrArg Value.bool (rfl : true = _)) rfl <| MB rfl <| OM (t := 17) rfl (congrArg Value.bool (rfl : true = _)) rfl <| OM (t := 17) rfl (congrArg Value.bool (rfl : true = _)) rfl <| CN <| Op1.pickT (u := .bool _) (congrArg Value.bool (rfl : true = _)) rfl <| MB rfl <| OM (t := 21) rfl (congrArg Value.bool (rfl : true = _)) rfl <| OM (t := 21) rfl (congrArg Value.bool (rfl : true = _)) rfl <| CN (Op1.pickT (u := .bool _) (congrArg Value.bool (rfl : true = _)) rfl ?_)
   refine MB rfl <| OM (t := 25) rfl (congrArg Value.bool (rfl : true = _)) rfl <| OM (t := 25) rfl (congrArg Value.bool (rfl : true = _)) rfl <| CN <| Op1.pickT (u := .bool _) (congrArg Value.bool (rfl : true = _)) rfl <| AB rfl <| NL <| run_ret1 Try.func30 rfl (TP (v := .bool _) rfl) ?_
   exact ⟨congrArg Value.bool (by unfold endsB; first | (rw [decide_eq_decide]; omega) | exact (decide_eq_true (by omega)).symm | exact (decide_eq_false (by omega)).symm), hst.pure⟩
 refine TK (t := 9) rfl (congrArg Value.bool (decide_eq_false g2)) <| Op1.move (v := .int .u16 _) rfl <| TK (t := 9) rfl (congrArg Value.bool (decide_eq_false g2)) <| Op1.eql rfl rfl <| CN <| Op1.pickF (u := .bool _) (congrArg Value.bool (decide_eq_false g2)) rfl <| MB rfl <| RunL.splitD (d := 13) rfl (fun g3 => ?_) (fun g3 => ?_)
 · skip
   refine OM (t := 13) rfl (congrArg Value.bool (decide_eq_true g3)) rfl <| OM (t := 13) rfl (congrArg Value.bool (decide_eq_true g3)) rfl <| CN <| Op1.pickT (u := .bool _) (congrArg Value.bool (decide_eq_true g3)) rfl <| MB rfl <| OM (t := 17) rfl (congrArg Value.bool (rfl : true = _)) rfl <| OM (t := 17) rfl (congrArg Value.bool (rfl : true = _)) rfl <| CN <| Op1.pickT (u := .bool _) (congrArg Value.bool (rfl : true = _)) rfl <| MB rfl <| OM (t := 21) rfl (congrArg Value.bool (rfl : true = _)) rfl <| OM (t := 21) rfl (congrArg Value.bool (rfl : true = _)) rfl <| CN <| Op1.pickT (u := .bool _) (congrArg Value.bool (rfl : true = _)) rfl <| MB rfl <| OM (t := 25) rfl (congrArg Value.bool (rfl : true = _)) rfl <| OM (t := 25) rfl (congrArg Value.bool (rfl : true = _)) rfl <| CN (Op1.pickT (u := .bool _) (congrArg Value.bool (rfl : true = _)) rfl ?_)
   refine AB rfl <| NL <| run_ret1 Try.func30 rfl (TP (v := .bool _) rfl) ?_
   exact ⟨congrArg Value.bool (by unfold endsB; first | (rw [decide_eq_decide]; omega) | exact (decide_eq_true (by omega)).symm | exact (decide_eq_false (by omega)).symm), hst.pure⟩
 refine TK (t := 13) rfl (congrArg Value.bool (decide_eq_false g3)) <| Op1.move (v := .int .u16 _) rfl <| TK (t := 13) rfl (congrArg Value.bool (decide_eq_false g3)) <| Op1.eql rfl rfl <| CN <| Op1.pickF (u := .bool _) (congrArg Value.bool (decide_eq_false g3)) rfl <| MB rfl <| RunL.splitD (d := 17) rfl (fun g4 => ?_) (fun g4 => ?_)
 · skip
   refine OM (t := 17) rfl (congrArg Value.bool (decide_eq_true g4)) rfl <| OM (t := 17) rfl (congrArg Value.bool (decide_eq_true g4)) rfl <| CN <| Op1.pickT (u := .bool _) (congrArg Value.bool (decide_eq_true g4)) rfl <| MB rfl <| OM (t := 21) rfl (congrArg Value.bool (rfl : true = _)) rfl <| OM (t := 21) rfl (congrArg Value.bool (rfl : true = _)) rfl <| CN <| Op1.pickT (u := .bool _) (congrArg Value.bool (rfl : true = _)) rfl <| MB rfl <| OM (t := 25) rfl (congrArg Value.bool (rfl : true = _)) rfl <| OM (t := 25) rfl (congrArg Value.bool (rfl : true = _)) rfl <| CN <| Op1.pickT (u := .bool _) (congrArg Value.bool (rfl : true = _)) rfl <| AB rfl <| NL <| run_ret1 Try.func30 rfl (TP (v := .bool _) rfl) ?_
   exact ⟨congrArg Value.bool (by unfold endsB; first | (rw [decide_eq_decide]; omega) | exact (decide_eq_true (by omega)).symm | exact (decide_eq_false (by omega)).symm), hst.pure⟩
 refine TK (t := 17) rfl (congrArg Value.bool (decide_eq_false g4)) <| Op1.move (v := .int .u16 _) rfl <| TK (t := 17) rfl (congrArg Value.bool (decide_eq_false g4)) <| Op1.eql rfl rfl <| CN <| Op1.pickF (u := .bool _) (congrArg Value.bool (decide_eq_false g4)) rfl <| MB rfl <| RunL.splitD (d := 21) rfl (fun g5 => ?_) (fun g5 => ?_)
 · skip
   refine OM (t := 21) rfl (congrArg Value.bool (decide_eq_true g5)) rfl <| OM (t := 21) rfl (congrArg Value.bool (decide_eq_true g5)) rfl <| CN <| Op1.pickT (u := .bool _) (congrArg Value.bool (decide_eq_true g5)) rfl <| MB rfl <| OM (t := 25) rfl (congrArg Value.bool (rfl : true = _)) rfl <| OM (t := 25) rfl (congrArg Value.bool (rfl : true = _)) rfl <| CN <| Op1.pickT (u := .bool _) (congrArg Value.bool (rfl : true = _)) rfl <| AB rfl <| NL <| run_ret1 Try.func30 rfl (TP (v := .bool _) rfl) ?_
   exact ⟨congrArg Value.bool (by unfold endsB; first | (rw [decide_eq_decide]; omega) | exact (decide_eq_true (by omega)).symm | exact (decide_eq_false (by omega)).symm), hst.pure⟩
 refine TK (t := 21) rfl (congrArg Value.bool (decide_eq_false g5)) <| Op1.move (v := .int .u16 _) rfl <| TK (t := 21) rfl (congrArg Value.bool (decide_eq_false g5)) <| Op1.eql rfl rfl <| CN <| Op1.pickF (u := .bool _) (congrArg Value.bool (decide_eq_false g5)) rfl <| MB rfl <| RunL.splitD (d := 25) rfl (fun g6 => ?_) (fun g6 => ?_)
 · skip
   refine OM (t := 25) rfl (congrArg Value.bool (decide_eq_true g6)) rfl <| OM (t := 25) rfl (congrArg Value.bool (decide_eq_true g6)) rfl <| CN <| Op1.pickT (u := .bool _) (congrArg Value.bool (decide_eq_true g6)) rfl <| AB rfl <| NL <| run_ret1 Try.func30 rfl (TP (v := .bool _) rfl) ?_
   exact ⟨congrArg Value.bool (by unfold endsB; first | (rw [decide_eq_decide]; omega) | exact (decide_eq_true (by omega)).symm | exact (decide_eq_false (by omega)).symm), hst.pure⟩
 refine TK (t := 25) rfl (congrArg Value.bool (decide_eq_false g6)) <| Op1.move (v := .int .u16 _) rfl <| TK (t := 25) rfl (congrArg Value.bool (decide_eq_false g6)) <| Op1.eql rfl rfl <| CN <| Op1.pickF (u := .bool _) (congrArg Value.bool (decide_eq_false g6)) rfl <| AB rfl <| NL <| run_ret1 Try.func30 rfl (TP (v := .bool _) rfl) ?_
 exact ⟨congrArg Value.bool (by unfold endsB; first | (rw [decide_eq_decide]; omega) | exact (decide_eq_true (by omega)).symm | exact (decide_eq_false (by omega)).symm), hst.pure⟩
end Go.SK
namespace Go.SK
open Go Go.Proofs
theorem ent28 : Enters Try.prog 28 := ⟨Try.f28, _, Try.func28, by kernel_rfl, rfl⟩
theorem ent30 : Enters Try.prog 30 := ⟨Try.f30, _, Try.func30, by kernel_rfl, rfl⟩
theorem ent37 : Enters Try.prog 37 := ⟨Try.f37, _, Try.func37, by kernel_rfl, rfl⟩
end Go.SK
namespace Go.SK
open Go Go.Proofs
open Go.RowKit
theorem R5ref5_first (l : List InstP) (ao : Option Addr) (cp : Nat) (k : Nat) (ka : Int) (hka : ka = (k : Int)) (hex : ∃ j, 1 ≤ j ∧ j ≤ k ∧ opA (l.map InstP.L) j = 248) (w : World) (hA : (Res.rmod ao l).holds w) (hk : k < l.length) (hl : l.length ≤ 9000000000000000000) : Ret Try.prog 37 #[.slice ao l.length cp, .int .i64 ka] w (fun v w' => v = .bool (firstF (l.map InstP.L) k) ∧ St w NoM [] [] w') := by
 refine Ret.enter (args := [.slice ao l.length cp, .int .i64 ka]) Try.func37 rfl rfl rfl ?_
 have hst : St w NoM [] [Res.rmod ao l] w := St.init_D hA
 clear hA
 subst hka
 refine SR <| AB rfl <| NSR <| MI rfl <| AI rfl <| NL <| SQ <| run_block <| run_loop <| Run.indW [(0, .slice _ _ _)] ⟨rfl, trivial⟩ (fun (i : Nat) => [(5, .int .i64 (i : Int))]) (fun (i : Nat) => []) (fun (i : Nat) => i ≤ k ∧ firstF (l.map InstP.L) i = firstF (l.map InstP.L) k ∧ ∃ j, 1 ≤ j ∧ j ≤ i ∧ opA (l.map InstP.L) j = 248) (fun (i : Nat) => i) (k) hst ⟨Nat.le_refl _, rfl, hex⟩ ⟨rfl, trivial⟩ ?_
 intro i f w hst hJ ih1
 refine SQ <| SR <| ML rfl <| MI rfl <| CN <| Op1.indexRs ty23 ty39 (Res.rmod_insts (hst.hD _ (.head _))) rfl rfl (by omega) (by omega) <| CN <| Op1.fieldAddr fld39_0 rfl <| CN <| Op1.load1 (v := .int .u16 _) ty33 rfl rfl (Res.rs2_cellF (Res.rmod_insts (hst.hD _ (.head _))) (flat_cell (g := instC) (d := zeroI) instC_len rfl (by omega))) <| CN <| Op1.neq rfl rfl <| NL <| run_cond_dec rfl (fun g2 => ?_) (fun g2 => ?_)
 · skip
   obtain ⟨j, hj1, hj2, hj3⟩ := hJ.2.2
   have ho : opA (l.map InstP.L) i = (l.getD (i : Int).toNat zeroI).op := opA_map _ _
   have ho2 : opA (l.map InstP.L) (i - 1) = (l.getD ((i : Int) - 1).toNat zeroI).op := by rw [opA_map, show ((i : Int) - 1).toNat = i - 1 by omega]
   refine run_skip <| run_block <| RG <| MI rfl <| CN <| Op1.subN rfl rfl rfl (wrap_i64 (by omega) (by omega)) <| AI rfl <| NL <| run_inBlock <| run_inLoop ?_
   exact ih1 (i - 1) _ w (by omega) hst (⟨by omega, by rw [← hJ.2.1]; exact (first_back (by omega) (by rw [ho]; exact g2)).symm, j, hj1, (by have : j ≠ i := (fun e => by subst e; exact g2 (ho.symm.trans hj3)); omega), hj3⟩) ⟨rfl, trivial⟩ ⟨(congrArg (Value.int .i64) (by omega)), trivial⟩
 obtain ⟨j, hj1, hj2, hj3⟩ := hJ.2.2
 have ho : opA (l.map InstP.L) i = (l.getD (i : Int).toNat zeroI).op := opA_map _ _
 have ho2 : opA (l.map InstP.L) (i - 1) = (l.getD ((i : Int) - 1).toNat zeroI).op := by rw [opA_map, show ((i : Int) - 1).toNat = i - 1 by omega]
 refine run_exit (id := 0) rfl <| SR <| ML rfl <| MI rfl <| CN <| Op1.subN rfl rfl rfl (wrap_i64 (by omega) (by omega)) <| CN <| Op1.indexRs ty23 ty39 (Res.rmod_insts (hst.hD _ (.head _))) rfl rfl (by omega) (by omega) <| CN <| Op1.fieldAddr fld39_0 rfl <| CN <| Op1.load1 (v := .int .u16 _) ty33 rfl rfl (Res.rs2_cellF (Res.rmod_insts (hst.hD _ (.head _))) (flat_cell (g := instC) (d := zeroI) instC_len rfl (by omega))) <| CN <| Op1.eql rfl rfl <| MB rfl <| RunL.splitD (d := 22) rfl (fun g3 => ?_) (fun g3 => ?_)
 · skip
   refine OM (t := 22) rfl (congrArg Value.bool (decide_eq_true g3)) rfl <| OM (t := 22) rfl (congrArg Value.bool (decide_eq_true g3)) rfl <| OM (t := 22) rfl (congrArg Value.bool (decide_eq_true g3)) rfl <| OM (t := 22) rfl (congrArg Value.bool (decide_eq_true g3)) rfl <| OM (t := 22) rfl (congrArg Value.bool (decide_eq_true g3)) rfl <| OM (t := 22) rfl (congrArg Value.bool (decide_eq_true g3)) rfl <| OM (t := 22) rfl (congrArg Value.bool (decide_eq_true g3)) rfl <| CN <| Op1.pickT (u := .bool _) (congrArg Value.bool (decide_eq_true g3)) rfl <| AB rfl <| NL <| run_ret1 Try.func37 rfl (TP (v := .bool _) rfl) ?_
   exact ⟨congrArg Value.bool (by rw [← hJ.2.1, first_at (by omega) (by rw [ho]; exact (Classical.not_not.1 g2)), ho2]; exact (decide_eq_true (.inl g3)).symm), hst.pure⟩
 refine TK (t := 22) rfl (congrArg Value.bool (decide_eq_false g3)) <| Op1.move (v := .slice _ _ _) rfl <| TK (t := 22) rfl (congrArg Value.bool (decide_eq_false g3)) <| Op1.move (v := .int .i64 _) rfl <| TK (t := 22) rfl (congrArg Value.bool (decide_eq_false g3)) <| Op1.subN rfl rfl rfl (wrap_i64 (by omega) (by omega)) <| TK (t := 22) rfl (congrArg Value.bool (decide_eq_false g3)) <| Op1.indexRs ty23 ty39 (Res.rmod_insts (hst.hD _ (.head _))) rfl rfl (by omega) (by omega) <| TK (t := 22) rfl (congrArg Value.bool (decide_eq_false g3)) <| Op1.fieldAddr fld39_0 rfl <| TK (t := 22) rfl (congrArg Value.bool (decide_eq_false g3)) <| Op1.load1 (v := .int .u16 _) ty33 rfl rfl (Res.rs2_cellF (Res.rmod_insts (hst.hD _ (.head _))) (flat_cell (g := instC) (d := zeroI) instC_len rfl (by omega))) <| TK (t := 22) rfl (congrArg Value.bool (decide_eq_false g3)) <| Op1.eql rfl rfl <| CN <| Op1.pickF (u := .bool _) (congrArg Value.bool (decide_eq_false g3)) rfl <| AB rfl <| NL <| run_ret1 Try.func37 rfl (TP (v := .bool _) rfl) ?_
 exact ⟨congrArg Value.bool (by rw [← hJ.2.1, first_at (by omega) (by rw [ho]; exact (Classical.not_not.1 g2)), ho2]; rw [decide_eq_decide]; exact ⟨fun h => .inr h, fun h => h.elim (fun e => absurd e g3) id⟩), hst.pure⟩
theorem R5ref5_May (l : List InstP) (ao : Option Addr) (cp : Nat) (k : Nat) {S : LS} (hS : dfaF ((l.map InstP.L).take k) = some S) (w : World) (hk : k < l.length) (hA : (Res.rmod ao l).holds w) (hl : l.length ≤ 3000000000000) (hla : ∀ i ∈ l, i.args.length ≤ 9000000000000000000) (hkn : ∀ i ∈ l, i.L.Known) : Ret Try.prog 27 #[.slice ao l.length cp, .int .i64 (k : Int)] w (fun v w' => v = .bool (mayB (l.map InstP.L) k) ∧ St w NoM [] [] w') := by
 refine Ret.enter (args := [.slice ao l.length cp, .int .i64 (k : Int)]) Try.func27 rfl rfl rfl ?_
 have hst : St w NoM [] [Res.rmod ao l] w := St.init_D hA
 clear hA
 have hkm := known_map hkn
 have hL : (l.map InstP.L).length = l.length := List.length_map _
 have hP := ptA_map l k
 have hO : opA (l.map InstP.L) k = (l.getD (k : Int).toNat zeroI).op := opA_map _ _
 have hS2 := ahead_of hkm (by omega) hS
 refine SR <| AB rfl <| NSR <| ML rfl <| MI rfl <| CN <| Op1.indexRs ty23 ty39 (Res.rmod_insts (hst.hD _ (.head _))) rfl rfl (by omega) (by omega) <| CN <| Op1.loadA (vs := [.int .u16 _, .int .u32 _, .int .u32 _, .slice _ _ _]) ty39 rfl rfl rfl (Res.rs2_cells (m := 4) (Res.rmod_insts (hst.hD _ (.head _))) _ (flat_seg (g := instC) (d := zeroI) instC_len _ _ (by omega))) <| CN <| Op1.call1 (v1 := .agg #[.int .u16 _, .int .u32 _, .int .u32 _, .slice _ _ _]) ent28 rfl rfl <| Ret.det (R5ref5_Part (l.getD k zeroI) (hkn _ (getD_memD (by omega))) _ (Res.rmod_argsI (hst.hD _ (.head _)) (i := k) (by omega)) (hla _ (getD_memD (by omega)))) hst fun w hst => AI rfl <| NL <| SQ <| RG ?_
 refine AI rfl <| NL <| SQ <| SR <| AI rfl <| NL <| run_block <| run_loop <| Run.indW [(0, .slice _ _ _), (1, .int .i64 _), (5, .int .i64 _)] ⟨rfl, rfl, rfl, trivial⟩ (fun (q : Nat × Nat) => [(6, .int .i64 (q.2 : Int)), (7, .int .i64 (q.1 : Int))]) (fun (q : Nat × Nat) => []) (fun (q : Nat × Nat) => q.1 ≤ k ∧ cnt1 (l.map InstP.L) q.1 = q.2 ∧ overB (l.map InstP.L) q.1 (ptA (l.map InstP.L) k) = false ∧ q.2 ≤ q.1) (fun (q : Nat × Nat) => k - q.1) ((0, 0)) hst ⟨Nat.zero_le _, rfl, rfl, Nat.le_refl _⟩ ⟨rfl, rfl, trivial⟩ ?_
 intro ⟨n, c⟩ f w hst hJ ih1
 replace hst : St _ _ ([] ++ []) _ _ := hst
 replace hJ : n ≤ k ∧ cnt1 (l.map InstP.L) n = c ∧ overB (l.map InstP.L) n (ptA (l.map InstP.L) k) = false ∧ c ≤ n := hJ
 refine Run.slots (sl := [(6, .int .i64 (c : Int)), (7, .int .i64 (n : Int))]) ⟨rfl, rfl, trivial⟩ <| SQ <| SR <| MI rfl <| MI rfl <| CN <| Op1.lss rfl rfl <| NL <| run_cond_dec rfl (fun g2 => ?_) (fun g2 => ?_)
 · skip
   have hPn := ptA_map l n
   have hc1 := cnt1_step (l := (l.map InstP.L)) (k := n) (by omega)
   have ho1 := overB_step (l := (l.map InstP.L)) (k := n) (p := ptA (l.map InstP.L) k) (by omega)
   refine run_skip <| SQ <| run_block <| SQ <| SR <| ML rfl <| MI rfl <| CN <| Op1.indexRs ty23 ty39 (Res.rmod_insts (hst.hD _ (.head _))) rfl rfl (by omega) (by omega) <| CN <| Op1.loadA (vs := [.int .u16 _, .int .u32 _, .int .u32 _, .slice _ _ _]) ty39 rfl rfl rfl (Res.rs2_cells (m := 4) (Res.rmod_insts (hst.hD _ (.head _))) _ (flat_seg (g := instC) (d := zeroI) instC_len _ _ (by omega))) <| CN <| Op1.call1 (v1 := .agg #[.int .u16 _, .int .u32 _, .int .u32 _, .slice _ _ _]) ent28 rfl rfl <| Ret.det (R5ref5_Part (l.getD n zeroI) (hkn _ (getD_memD (by omega))) _ (Res.rmod_argsI (hst.hD _ (.head _)) (i := n) (by omega)) (hla _ (getD_memD (by omega)))) hst fun w hst => MI rfl <| CN <| Op1.gtr rfl rfl <| NL <| run_cond_dec rfl (fun g3 => ?_) (fun g3 => ?_)
   · skip
     refine SR <| AB rfl <| NL <| run_ret1 Try.func27 rfl (TP (v := .bool _) rfl) ?_
     exact ⟨congrArg Value.bool (by unfold mayB; rw [if_pos ((overB_iff (by omega)).2 ⟨n, by omega, by omega⟩)]), hst.pure⟩
   refine run_skip <| SR <| ML rfl <| MI rfl <| CN <| Op1.indexRs ty23 ty39 (Res.rmod_insts (hst.hD _ (.head _))) rfl rfl (by omega) (by omega) <| CN <| Op1.loadA (vs := [.int .u16 _, .int .u32 _, .int .u32 _, .slice _ _ _]) ty39 rfl rfl rfl (Res.rs2_cells (m := 4) (Res.rmod_insts (hst.hD _ (.head _))) _ (flat_seg (g := instC) (d := zeroI) instC_len _ _ (by omega))) <| CN <| Op1.call1 (v1 := .agg #[.int .u16 _, .int .u32 _, .int .u32 _, .slice _ _ _]) ent28 rfl rfl <| Ret.det (R5ref5_Part (l.getD n zeroI) (hkn _ (getD_memD (by omega))) _ (Res.rmod_argsI (hst.hD _ (.head _)) (i := n) (by omega)) (hla _ (getD_memD (by omega)))) hst fun w hst => CN <| Op1.eql rfl rfl <| NL <| run_cond_dec rfl (fun g4 => ?_) (fun g4 => ?_)
   · skip
     refine RG <| MI rfl <| CN <| Op1.addN rfl rfl rfl (wrap_i64 (by omega) (by omega)) <| AI rfl <| NL <| run_inBlock <| Run.forget [(0, .slice _ _ _), (1, .int .i64 _), (5, .int .i64 _), (6, .int .i64 _), (7, .int .i64 _)] ⟨rfl, rfl, rfl, rfl, rfl, trivial⟩ fun f => RG <| MI rfl <| CN <| Op1.addN rfl rfl rfl (wrap_i64 (by omega) (by omega)) <| AI rfl <| NL <| run_inLoop ?_
     exact ih1 ((n + 1, c + 1)) _ w (by (try dsimp only); omega) hst (⟨by (try dsimp only); omega, by (try dsimp only); rw [hc1, hJ.2.1, if_pos (by omega)], by (try dsimp only); rw [ho1, hJ.2.2.1, decide_eq_false (by omega)] <;> decide, by (try dsimp only); omega⟩) ⟨rfl, rfl, rfl, trivial⟩ ⟨(congrArg (Value.int .i64) (by first | rfl | omega | (dsimp only; omega))), (congrArg (Value.int .i64) (by (try dsimp only); omega)), trivial⟩
   refine run_skip <| run_inBlock <| RG <| MI rfl <| CN <| Op1.addN rfl rfl rfl (wrap_i64 (by omega) (by omega)) <| AI rfl <| NL <| run_inLoop ?_
   exact ih1 ((n + 1, c)) _ w (by (try dsimp only); omega) hst (⟨by (try dsimp only); omega, by (try dsimp only); rw [hc1, hJ.2.1, if_neg (by omega)] <;> exact Nat.add_zero c, by (try dsimp only); rw [ho1, hJ.2.2.1, decide_eq_false (by omega)] <;> decide, by (try dsimp only); omega⟩) ⟨rfl, rfl, rfl, trivial⟩ ⟨(congrArg (Value.int .i64) (by first | rfl | omega | (dsimp only; omega))), (congrArg (Value.int .i64) (by (try dsimp only); omega)), trivial⟩
 obtain rfl : k = n := by omega
 refine run_exit (id := 0) rfl <| SQ <| SR <| MI rfl <| CN <| Op1.eql rfl rfl <| NL <| run_cond_dec rfl (fun g5 => ?_) (fun g5 => ?_)
 · skip
   refine SR <| MI rfl <| CN <| Op1.eql rfl rfl <| AB rfl <| NL <| run_ret1 Try.func27 rfl (TP (v := .bool _) rfl) ?_
   exact ⟨congrArg Value.bool (by unfold mayB; rw [if_neg (by rw [hJ.2.2.1]; decide)]; rw [if_pos (by omega)]; first | exact (decide_eq_true (by omega)).symm | (rw [decide_eq_decide]; omega) | exact (decide_eq_false (by omega)).symm), hst.pure⟩
 refine run_skip <| SQ <| SR <| MI rfl <| CN <| Op1.gtr rfl rfl <| MB rfl <| RunL.splitD (d := 41) rfl (fun g6 => ?_) (fun g6 => ?_)
 · skip
   refine TK (t := 41) rfl (congrArg Value.bool (decide_eq_true g6)) <| Op1.move (v := .int .i64 _) rfl <| TK (t := 41) rfl (congrArg Value.bool (decide_eq_true g6)) <| Op1.eql rfl rfl <| CN <| Op1.pickT (u := .bool _) (congrArg Value.bool (decide_eq_true g6)) rfl <| NL <| run_cond_dec rfl (fun g7 => ?_) (fun g7 => ?_)
   · skip
     refine SR <| AB rfl <| NL <| run_ret1 Try.func27 rfl (TP (v := .bool _) rfl) ?_
     exact ⟨congrArg Value.bool (by unfold mayB; rw [if_neg (by rw [hJ.2.2.1]; decide)]; rw [if_neg (by omega)]; rw [if_pos (by omega)]), hst.pure⟩
   refine run_skip <| SQ <| SR <| MI rfl <| CN <| Op1.lss rfl rfl <| NL <| run_cond_dec rfl (fun g8 => ?_) (fun g8 => ?_)
   · skip
     refine SR <| AB rfl <| NL <| run_ret1 Try.func27 rfl (TP (v := .bool _) rfl) ?_
     exact ⟨congrArg Value.bool (by unfold mayB; rw [if_neg (by rw [hJ.2.2.1]; decide)]; rw [if_neg (by omega)]; rw [if_neg (by omega)]; rw [if_pos (by omega)]), hst.pure⟩
   refine run_skip <| SR <| ML rfl <| MI rfl <| CN <| Op1.indexRs ty23 ty39 (Res.rmod_insts (hst.hD _ (.head _))) rfl rfl (by omega) (by omega) <| CN <| Op1.fieldAddr fld39_0 rfl <| CN <| Op1.load1 (v := .int .u16 _) ty33 rfl rfl (Res.rs2_cellF (Res.rmod_insts (hst.hD _ (.head _))) (flat_cell (g := instC) (d := zeroI) instC_len rfl (by omega))) <| AH rfl <| NL <| Run.forget [(0, .slice _ _ _), (1, .int .i64 _), (8, .int .u16 _)] ⟨rfl, rfl, rfl, trivial⟩ fun f => SR <| AH rfl <| NL ?_
   refine SQ <| Run.cutW (L1 := []) [(0, .slice _ _ _), (1, .int .i64 _)] hst ⟨rfl, rfl, trivial⟩ (fun (_u : Unit) => [(8, .int .u16 (opA (l.map InstP.L) k)), (9, .int .u16 (aheadF (l.map InstP.L) k))]) (fun (_u : Unit) => []) (fun (_u : Unit) => True) (fun _u f w hst hJ10 => ?_) (fun cut9 => ?_)
   · skip
     refine SQ <| SR <| MH rfl <| CN <| Op1.eql rfl rfl <| NL <| run_cond_dec rfl (fun g12 => ?_) (fun g12 => ?_)
     · skip
       refine SR <| MH rfl <| CN <| Op1.eql rfl rfl <| MB rfl <| RunL.splitD (d := 73) rfl (fun g13 => ?_) (fun g13 => ?_)
       · skip
         refine OM (t := 73) rfl (congrArg Value.bool (decide_eq_true g13)) rfl <| OM (t := 73) rfl (congrArg Value.bool (decide_eq_true g13)) rfl <| CN <| Op1.pickT (u := .bool _) (congrArg Value.bool (decide_eq_true g13)) rfl <| AB rfl <| NL <| run_ret1 Try.func27 rfl (TP (v := .bool _) rfl) ?_
         exact ⟨congrArg Value.bool (by unfold mayB; rw [if_neg (by rw [hJ.2.2.1]; decide)]; rw [if_neg (by omega)]; rw [if_neg (by omega)]; rw [if_neg (by omega)]; unfold mayO; rw [if_pos (by omega)]; first | exact (decide_eq_true (by omega)).symm | (rw [decide_eq_decide]; omega) | exact (decide_eq_false (by omega)).symm), hst.pure⟩
       refine TK (t := 73) rfl (congrArg Value.bool (decide_eq_false g13)) <| Op1.move (v := .int .u16 _) rfl <| TK (t := 73) rfl (congrArg Value.bool (decide_eq_false g13)) <| Op1.eql rfl rfl <| CN <| Op1.pickF (u := .bool _) (congrArg Value.bool (decide_eq_false g13)) rfl <| AB rfl <| NL <| run_ret1 Try.func27 rfl (TP (v := .bool _) rfl) ?_
       exact ⟨congrArg Value.bool (by unfold mayB; rw [if_neg (by rw [hJ.2.2.1]; decide)]; rw [if_neg (by omega)]; rw [if_neg (by omega)]; rw [if_neg (by omega)]; unfold mayO; rw [if_pos (by omega)]; first | exact (decide_eq_true (by omega)).symm | (rw [decide_eq_decide]; omega) | exact (decide_eq_false (by omega)).symm), hst.pure⟩
     refine run_skip <| SQ <| SR <| MH rfl <| CN <| Op1.eql rfl rfl <| NL <| run_cond_dec rfl (fun g14 => ?_) (fun g14 => ?_)
     · skip
       refine SR <| MH rfl <| CN <| Op1.eql rfl rfl <| MB rfl <| RunL.splitD (d := 81) rfl (fun g15 => ?_) (fun g15 => ?_)
       · skip
         refine OM (t := 81) rfl (congrArg Value.bool (decide_eq_true g15)) rfl <| OM (t := 81) rfl (congrArg Value.bool (decide_eq_true g15)) rfl <| CN <| Op1.pickT (u := .bool _) (congrArg Value.bool (decide_eq_true g15)) rfl <| AB rfl <| NL <| run_ret1 Try.func27 rfl (TP (v := .bool _) rfl) ?_
         exact ⟨congrArg Value.bool (by unfold mayB; rw [if_neg (by rw [hJ.2.2.1]; decide)]; rw [if_neg (by omega)]; rw [if_neg (by omega)]; rw [if_neg (by omega)]; unfold mayO; rw [if_neg (by omega)]; rw [if_pos (by omega)]; first | exact (decide_eq_true (by omega)).symm | (rw [decide_eq_decide]; omega) | exact (decide_eq_false (by omega)).symm), hst.pure⟩
       refine TK (t := 81) rfl (congrArg Value.bool (decide_eq_false g15)) <| Op1.move (v := .int .u16 _) rfl <| TK (t := 81) rfl (congrArg Value.bool (decide_eq_false g15)) <| Op1.eql rfl rfl <| CN <| Op1.pickF (u := .bool _) (congrArg Value.bool (decide_eq_false g15)) rfl <| AB rfl <| NL <| run_ret1 Try.func27 rfl (TP (v := .bool _) rfl) ?_
       exact ⟨congrArg Value.bool (by unfold mayB; rw [if_neg (by rw [hJ.2.2.1]; decide)]; rw [if_neg (by omega)]; rw [if_neg (by omega)]; rw [if_neg (by omega)]; unfold mayO; rw [if_neg (by omega)]; rw [if_pos (by omega)]; first | exact (decide_eq_true (by omega)).symm | (rw [decide_eq_decide]; omega) | exact (decide_eq_false (by omega)).symm), hst.pure⟩
     refine run_skip <| SQ <| SR <| MH rfl <| CN <| Op1.eql rfl rfl <| NL <| run_cond_dec rfl (fun g16 => ?_) (fun g16 => ?_)
     · skip
       refine SR <| MH rfl <| CN <| Op1.eql rfl rfl <| MB rfl <| RunL.splitD (d := 89) rfl (fun g17 => ?_) (fun g17 => ?_)
       · skip
         refine OM (t := 89) rfl (congrArg Value.bool (decide_eq_true g17)) rfl <| OM (t := 89) rfl (congrArg Value.bool (decide_eq_true g17)) rfl <| CN <| Op1.pickT (u := .bool _) (congrArg Value.bool (decide_eq_true g17)) rfl <| MB rfl <| OM (t := 93) rfl (congrArg Value.bool (rfl : true = _)) rfl <| OM (t := 93) rfl (congrArg Value.bool (rfl : true = _)) rfl <| CN <| Op1.pickT (u := .bool _) (congrArg Value.bool (rfl : true = _)) rfl <| AB rfl <| NL <| run_ret1 Try.func27 rfl (TP (v := .bool _) rfl) ?_
         exact ⟨congrArg Value.bool (by unfold mayB; rw [if_neg (by rw [hJ.2.2.1]; decide)]; rw [if_neg (by omega)]; rw [if_neg (by omega)]; rw [if_neg (by omega)]; unfold mayO; rw [if_neg (by omega)]; rw [if_neg (by omega)]; rw [if_pos (by omega)]; first | exact (decide_eq_true (by omega)).symm | exact may_248 (by omega) (by omega)), hst.pure⟩
       refine TK (t := 89) rfl (congrArg Value.bool (decide_eq_false g17)) <| Op1.move (v := .int .u16 _) rfl <| TK (t := 89) rfl (congrArg Value.bool (decide_eq_false g17)) <| Op1.eql rfl rfl <| CN <| Op1.pickF (u := .bool _) (congrArg Value.bool (decide_eq_false g17)) rfl <| MB rfl <| RunL.splitD (d := 93) rfl (fun g18 => ?_) (fun g18 => ?_)
       · skip
         refine OM (t := 93) rfl (congrArg Value.bool (decide_eq_true g18)) rfl <| OM (t := 93) rfl (congrArg Value.bool (decide_eq_true g18)) rfl <| CN <| Op1.pickT (u := .bool _) (congrArg Value.bool (decide_eq_true g18)) rfl <| AB rfl <| NL <| run_ret1 Try.func27 rfl (TP (v := .bool _) rfl) ?_
         exact ⟨congrArg Value.bool (by unfold mayB; rw [if_neg (by rw [hJ.2.2.1]; decide)]; rw [if_neg (by omega)]; rw [if_neg (by omega)]; rw [if_neg (by omega)]; unfold mayO; rw [if_neg (by omega)]; rw [if_neg (by omega)]; rw [if_pos (by omega)]; first | exact (decide_eq_true (by omega)).symm | exact may_248 (by omega) (by omega)), hst.pure⟩
       refine TK (t := 93) rfl (congrArg Value.bool (decide_eq_false g18)) <| Op1.move (v := .int .u16 _) rfl <| TK (t := 93) rfl (congrArg Value.bool (decide_eq_false g18)) (Op1.call1 (v1 := .int .u16 _) ent30 rfl rfl ((R5ref5_Ends (aheadF (l.map InstP.L) k) _).mono fun v w hp => ?_))
       obtain ⟨rfl, hp⟩ := hp
       replace hst := hst.keepc hp
       clear hp
       refine CN <| Op1.pickF (u := .bool _) (congrArg Value.bool (decide_eq_false g18)) rfl <| AB rfl <| NL <| run_ret1 Try.func27 rfl (TP (v := .bool _) rfl) ?_
       exact ⟨congrArg Value.bool (by unfold mayB; rw [if_neg (by rw [hJ.2.2.1]; decide)]; rw [if_neg (by omega)]; rw [if_neg (by omega)]; rw [if_neg (by omega)]; unfold mayO; rw [if_neg (by omega)]; rw [if_neg (by omega)]; rw [if_pos (by omega)]; first | exact (decide_eq_true (by omega)).symm | exact may_248 (by omega) (by omega)), hst.pure⟩
     refine run_skip <| SQ <| SR <| MH rfl <| CN <| Op1.eql rfl rfl <| NL <| run_cond_dec rfl (fun g19 => ?_) (fun g19 => ?_)
     · skip
       refine SR <| MH rfl <| CN <| Op1.call1 (v1 := .int .u16 _) ent30 rfl rfl <| Ret.det (R5ref5_Ends (aheadF (l.map InstP.L) k) _) hst fun w hst => AB rfl <| NL <| run_ret1 Try.func27 rfl (TP (v := .bool _) rfl) ?_
       exact ⟨congrArg Value.bool (by unfold mayB; rw [if_neg (by rw [hJ.2.2.1]; decide)]; rw [if_neg (by omega)]; rw [if_neg (by omega)]; rw [if_neg (by omega)]; unfold mayO; rw [if_neg (by omega)]; rw [if_neg (by omega)]; rw [if_neg (by omega)]; rw [if_pos (by omega)]), hst.pure⟩
     refine run_skip <| SQ <| SR <| MH rfl <| CN <| Op1.eql rfl rfl <| MB rfl <| RunL.splitD (d := 103) rfl (fun g20 => ?_) (fun g20 => ?_)
     · skip
       refine OM (t := 103) rfl (congrArg Value.bool (decide_eq_true g20)) rfl <| OM (t := 103) rfl (congrArg Value.bool (decide_eq_true g20)) rfl <| CN <| Op1.pickT (u := .bool _) (congrArg Value.bool (decide_eq_true g20)) rfl <| MB rfl <| OM (t := 107) rfl (congrArg Value.bool (rfl : true = _)) rfl <| OM (t := 107) rfl (congrArg Value.bool (rfl : true = _)) rfl <| CN <| Op1.pickT (u := .bool _) (congrArg Value.bool (rfl : true = _)) rfl <| MB rfl <| OM (t := 111) rfl (congrArg Value.bool (rfl : true = _)) rfl <| OM (t := 111) rfl (congrArg Value.bool (rfl : true = _)) rfl <| CN <| Op1.pickT (u := .bool _) (congrArg Value.bool (rfl : true = _)) rfl <| MB rfl <| OM (t := 115) rfl (congrArg Value.bool (rfl : true = _)) rfl <| OM (t := 115) rfl (congrArg Value.bool (rfl : true = _)) rfl <| CN (Op1.pickT (u := .bool _) (congrArg Value.bool (rfl : true = _)) rfl ?_)
       refine NL <| run_cond_true (congrArg Value.bool (rfl : true = _)) <| SR <| AB rfl <| NL <| run_ret1 Try.func27 rfl (TP (v := .bool _) rfl) ?_
       exact ⟨congrArg Value.bool (by unfold mayB; rw [if_neg (by rw [hJ.2.2.1]; decide)]; rw [if_neg (by omega)]; rw [if_neg (by omega)]; rw [if_neg (by omega)]; unfold mayO; rw [if_neg (by omega)]; rw [if_neg (by omega)]; rw [if_neg (by omega)]; rw [if_neg (by omega)]; rw [if_pos (by first | omega | exact .inr (.inr (.inr (.inr rfl))))]), hst.pure⟩
     refine TK (t := 103) rfl (congrArg Value.bool (decide_eq_false g20)) <| Op1.move (v := .int .u16 _) rfl <| TK (t := 103) rfl (congrArg Value.bool (decide_eq_false g20)) <| Op1.eql rfl rfl <| CN <| Op1.pickF (u := .bool _) (congrArg Value.bool (decide_eq_false g20)) rfl <| MB rfl <| RunL.splitD (d := 107) rfl (fun g21 => ?_) (fun g21 => ?_)
     · skip
       refine OM (t := 107) rfl (congrArg Value.bool (decide_eq_true g21)) rfl <| OM (t := 107) rfl (congrArg Value.bool (decide_eq_true g21)) rfl <| CN <| Op1.pickT (u := .bool _) (congrArg Value.bool (decide_eq_true g21)) rfl <| MB rfl <| OM (t := 111) rfl (congrArg Value.bool (rfl : true = _)) rfl <| OM (t := 111) rfl (congrArg Value.bool (rfl : true = _)) rfl <| CN <| Op1.pickT (u := .bool _) (congrArg Value.bool (rfl : true = _)) rfl <| MB rfl <| OM (t := 115) rfl (congrArg Value.bool (rfl : true = _)) rfl <| OM (t := 115) rfl (congrArg Value.bool (rfl : true = _)) rfl <| CN <| Op1.pickT (u := .bool _) (congrArg Value.bool (rfl : true = _)) rfl <| NL <| Run.forget [(0, .slice _ _ _), (1, .int .i64 _), (8, .int .u16 _), (9, .int .u16 _), (118, .bool _)] ⟨rfl, rfl, rfl, rfl, rfl, trivial⟩ fun f => run_cond_true (congrArg Value.bool (rfl : true = _)) <| SQ ?_
       refine RG <| AB rfl <| NL <| run_ret1 Try.func27 rfl (TP (v := .bool _) rfl) ?_
       exact ⟨congrArg Value.bool (by unfold mayB; rw [if_neg (by rw [hJ.2.2.1]; decide)]; rw [if_neg (by omega)]; rw [if_neg (by omega)]; rw [if_neg (by omega)]; unfold mayO; rw [if_neg (by omega)]; rw [if_neg (by omega)]; rw [if_neg (by omega)]; rw [if_neg (by omega)]; rw [if_pos (by first | omega | exact .inr (.inr (.inr (.inr rfl))))]), hst.pure⟩
     refine TK (t := 107) rfl (congrArg Value.bool (decide_eq_false g21)) <| Op1.move (v := .int .u16 _) rfl <| TK (t := 107) rfl (congrArg Value.bool (decide_eq_false g21)) <| Op1.eql rfl rfl <| CN <| Op1.pickF (u := .bool _) (congrArg Value.bool (decide_eq_false g21)) rfl <| MB rfl <| RunL.splitD (d := 111) rfl (fun g22 => ?_) (fun g22 => ?_)
     · skip
       refine OM (t := 111) rfl (congrArg Value.bool (decide_eq_true g22)) rfl <| OM (t := 111) rfl (congrArg Value.bool (decide_eq_true g22)) rfl <| CN <| Op1.pickT (u := .bool _) (congrArg Value.bool (decide_eq_true g22)) rfl <| MB rfl <| OM (t := 115) rfl (congrArg Value.bool (rfl : true = _)) rfl <| OM (t := 115) rfl (congrArg Value.bool (rfl : true = _)) rfl <| CN <| Op1.pickT (u := .bool _) (congrArg Value.bool (rfl : true = _)) rfl <| NL <| Run.forget [(0, .slice _ _ _), (1, .int .i64 _), (8, .int .u16 _), (9, .int .u16 _), (118, .bool _)] ⟨rfl, rfl, rfl, rfl, rfl, trivial⟩ fun f => run_cond_true (congrArg Value.bool (rfl : true = _)) <| SR <| AB rfl <| NL <| run_ret1 Try.func27 rfl (TP (v := .bool _) rfl) ?_
       exact ⟨congrArg Value.bool (by unfold mayB; rw [if_neg (by rw [hJ.2.2.1]; decide)]; rw [if_neg (by omega)]; rw [if_neg (by omega)]; rw [if_neg (by omega)]; unfold mayO; rw [if_neg (by omega)]; rw [if_neg (by omega)]; rw [if_neg (by omega)]; rw [if_neg (by omega)]; rw [if_pos (by first | omega | exact .inr (.inr (.inr (.inr rfl))))]), hst.pure⟩
     refine TK (t := 111) rfl (congrArg Value.bool (decide_eq_false g22)) <| Op1.move (v := .int .u16 _) rfl <| TK (t := 111) rfl (congrArg Value.bool (decide_eq_false g22)) <| Op1.eql rfl rfl <| CN <| Op1.pickF (u := .bool _) (congrArg Value.bool (decide_eq_false g22)) rfl <| MB rfl <| RunL.splitD (d := 115) rfl (fun g23 => ?_) (fun g23 => ?_)
     · skip
       refine OM (t := 115) rfl (congrArg Value.bool (decide_eq_true g23)) rfl <| OM (t := 115) rfl (congrArg Value.bool (decide_eq_true g23)) rfl <| CN <| Op1.pickT (u := .bool _) (congrArg Value.bool (decide_eq_true g23)) rfl <| NL <| Run.forget [(0, .slice _ _ _), (1, .int .i64 _), (8, .int .u16 _), (9, .int .u16 _), (118, .bool _)] ⟨rfl, rfl, rfl, rfl, rfl, trivial⟩ fun f => run_cond_true (congrArg Value.bool (rfl : true = _)) <| SR <| AB rfl <| NL <| run_ret1 Try.func27 rfl (TP (v := .bool _) rfl) ?_
       exact ⟨congrArg Value.bool (by unfold mayB; rw [if_neg (by rw [hJ.2.2.1]; decide)]; rw [if_neg (by omega)]; rw [if_neg (by omega)]; rw [if_neg (by omega)]; unfold mayO; rw [if_neg (by omega)]; rw [if_neg (by omega)]; rw [if_neg (by omega)]; rw [if_neg (by omega)]; rw [if_pos (by first | omega | exact .inr (.inr (.inr (.inr rfl))))]), hst.pure⟩
     refine TK (t := 115) rfl (congrArg Value.bool (decide_eq_false g23)) <| Op1.move (v := .int .u16 _) rfl <| TK (t := 115) rfl (congrArg Value.bool (decide_eq_false g23)) (Op1.call1 (v1 := .int .u16 _) ent30 rfl rfl ((R5ref5_Ends (aheadF (l.map InstP.L) k) _).mono fun v w hp => ?_))
     obtain ⟨rfl, hp⟩ := hp
     replace hst := hst.keepc hp
     clear hp
     refine CN <| Op1.pickF (u := .bool _) (congrArg Value.bool (decide_eq_false g23)) rfl <| NL <| Run.forget [(0, .slice _ _ _), (1, .int .i64 _), (8, .int .u16 _), (9, .int .u16 _), (118, .bool _)] ⟨rfl, rfl, rfl, rfl, rfl, trivial⟩ fun f => run_cond_split rfl (fun g24 => ?_) (fun g24 => ?_)
     · skip
       refine SR <| AB rfl <| NL <| run_ret1 Try.func27 rfl (TP (v := .bool _) rfl) ?_
       exact ⟨congrArg Value.bool (by unfold mayB; rw [if_neg (by rw [hJ.2.2.1]; decide)]; rw [if_neg (by omega)]; rw [if_neg (by omega)]; rw [if_neg (by omega)]; unfold mayO; rw [if_neg (by omega)]; rw [if_neg (by omega)]; rw [if_neg (by omega)]; rw [if_neg (by omega)]; rw [if_pos (by first | omega | exact .inr (.inr (.inr (.inr g24))))]), hst.pure⟩
     refine run_skip <| SQ <| SR <| MH rfl <| CN <| Op1.eql rfl rfl <| NL <| run_cond_dec rfl (fun g25 => ?_) (fun g25 => ?_)
     · skip
       refine SR <| MH rfl <| CN <| Op1.eql rfl rfl <| MB rfl <| RunL.splitD (d := 123) rfl (fun g26 => ?_) (fun g26 => ?_)
       · skip
         refine OM (t := 123) rfl (congrArg Value.bool (decide_eq_true g26)) rfl <| OM (t := 123) rfl (congrArg Value.bool (decide_eq_true g26)) rfl <| CN <| Op1.pickT (u := .bool _) (congrArg Value.bool (decide_eq_true g26)) rfl <| MB rfl <| TK (t := 127) rfl (congrArg Value.bool (rfl : true = _)) <| Op1.move (v := .slice _ _ _) rfl <| TK (t := 127) rfl (congrArg Value.bool (rfl : true = _)) <| Op1.move (v := .int .i64 _) rfl <| TK (t := 127) rfl (congrArg Value.bool (rfl : true = _)) <| Op1.subN rfl rfl rfl (wrap_i64 (by omega) (by omega)) <| TK (t := 127) rfl (congrArg Value.bool (rfl : true = _)) (Op1.call2 (v1 := .slice _ _ _) (v2 := .int .i64 _) ent37 rfl rfl rfl ((R5ref5_first l ao cp (k - 1) _ (by have := (label_of hkm (by omega) hS2 (by omega)).1; omega) (label_of hkm (by omega) hS2 (by omega)).2 _ (hst.hD _ (.head _)) (by omega) (by omega)).mono fun v w hp => ?_))
         obtain ⟨rfl, hp⟩ := hp
         replace hst := hst.keepc hp
         clear hp
         refine TK (t := 127) rfl (congrArg Value.bool (rfl : true = _)) <| Op1.not rfl <| CN <| Op1.pickT (u := .bool _) (congrArg Value.bool (rfl : true = _)) rfl <| AB rfl <| NL <| run_ret1 Try.func27 rfl (TP (v := .bool _) rfl) ?_
         exact ⟨congrArg Value.bool (by unfold mayB; rw [if_neg (by rw [hJ.2.2.1]; decide)]; rw [if_neg (by omega)]; rw [if_neg (by omega)]; rw [if_neg (by omega)]; unfold mayO; rw [if_neg (by omega)]; rw [if_neg (by omega)]; rw [if_neg (by omega)]; rw [if_neg (by omega)]; rw [if_neg (fun h => by rcases h with h | h | h | h | h; (omega); (omega); (omega); (omega); (rw [g24] at h; cases h))]; rw [if_pos (by omega)]; first | exact may_245 (by omega) | exact (decide_eq_false (fun h => by omega)).symm), hst.pure⟩
       refine TK (t := 123) rfl (congrArg Value.bool (decide_eq_false g26)) <| Op1.move (v := .int .u16 _) rfl <| TK (t := 123) rfl (congrArg Value.bool (decide_eq_false g26)) <| Op1.eql rfl rfl <| CN <| Op1.pickF (u := .bool _) (congrArg Value.bool (decide_eq_false g26)) rfl <| MB rfl <| RunL.splitD (d := 127) rfl (fun g27 => ?_) (fun g27 => ?_)
       · skip
         refine TK (t := 127) rfl (congrArg Value.bool (decide_eq_true g27)) <| Op1.move (v := .slice _ _ _) rfl <| TK (t := 127) rfl (congrArg Value.bool (decide_eq_true g27)) <| Op1.move (v := .int .i64 _) rfl <| TK (t := 127) rfl (congrArg Value.bool (decide_eq_true g27)) <| Op1.subN rfl rfl rfl (wrap_i64 (by omega) (by omega)) <| TK (t := 127) rfl (congrArg Value.bool (decide_eq_true g27)) (Op1.call2 (v1 := .slice _ _ _) (v2 := .int .i64 _) ent37 rfl rfl rfl ((R5ref5_first l ao cp (k - 1) _ (by have := (label_of hkm (by omega) hS2 (by omega)).1; omega) (label_of hkm (by omega) hS2 (by omega)).2 _ (hst.hD _ (.head _)) (by omega) (by omega)).mono fun v w hp => ?_))
         obtain ⟨rfl, hp⟩ := hp
         replace hst := hst.keepc hp
         clear hp
         refine TK (t := 127) rfl (congrArg Value.bool (decide_eq_true g27)) <| Op1.not rfl <| CN <| Op1.pickT (u := .bool _) (congrArg Value.bool (decide_eq_true g27)) rfl <| AB rfl <| NL <| run_ret1 Try.func27 rfl (TP (v := .bool _) rfl) ?_
         exact ⟨congrArg Value.bool (by unfold mayB; rw [if_neg (by rw [hJ.2.2.1]; decide)]; rw [if_neg (by omega)]; rw [if_neg (by omega)]; rw [if_neg (by omega)]; unfold mayO; rw [if_neg (by omega)]; rw [if_neg (by omega)]; rw [if_neg (by omega)]; rw [if_neg (by omega)]; rw [if_neg (fun h => by rcases h with h | h | h | h | h; (omega); (omega); (omega); (omega); (rw [g24] at h; cases h))]; rw [if_pos (by omega)]; first | exact may_245 (by omega) | exact (decide_eq_false (fun h => by omega)).symm), hst.pure⟩
       refine OM (t := 127) rfl (congrArg Value.bool (decide_eq_false g27)) rfl <| OM (t := 127) rfl (congrArg Value.bool (decide_eq_false g27)) rfl <| OM (t := 127) rfl (congrArg Value.bool (decide_eq_false g27)) rfl <| OM (t := 127) rfl (congrArg Value.bool (decide_eq_false g27)) rfl <| OM (t := 127) rfl (congrArg Value.bool (decide_eq_false g27)) rfl <| CN <| Op1.pickF (u := .bool _) (congrArg Value.bool (decide_eq_false g27)) rfl <| AB rfl <| NL <| run_ret1 Try.func27 rfl (TP (v := .bool _) rfl) ?_
       exact ⟨congrArg Value.bool (by unfold mayB; rw [if_neg (by rw [hJ.2.2.1]; decide)]; rw [if_neg (by omega)]; rw [if_neg (by omega)]; rw [if_neg (by omega)]; unfold mayO; rw [if_neg (by omega)]; rw [if_neg (by omega)]; rw [if_neg (by omega)]; rw [if_neg (by omega)]; rw [if_neg (fun h => by rcases h with h | h | h | h | h; (omega); (omega); (omega); (omega); (rw [g24] at h; cases h))]; rw [if_pos (by omega)]; first | exact may_245 (by omega) | exact (decide_eq_false (fun h => by omega)).symm), hst.pure⟩
     refine run_skip <| SQ <| SR <| MH rfl <| CN <| Op1.eql rfl rfl <| NL <| run_cond_dec rfl (fun g28 => ?_) (fun g28 => ?_)
     · skip
       refine SR <| MH rfl <| CN <| Op1.eql rfl rfl <| MB rfl <| RunL.splitD (d := 138) rfl (fun g29 => ?_) (fun g29 => ?_)
       · skip
         refine OM (t := 138) rfl (congrArg Value.bool (decide_eq_true g29)) rfl <| OM (t := 138) rfl (congrArg Value.bool (decide_eq_true g29)) rfl <| CN <| Op1.pickT (u := .bool _) (congrArg Value.bool (decide_eq_true g29)) rfl <| MB rfl <| TK (t := 142) rfl (congrArg Value.bool (rfl : true = _)) <| Op1.move (v := .slice _ _ _) rfl <| TK (t := 142) rfl (congrArg Value.bool (rfl : true = _)) <| Op1.move (v := .int .i64 _) rfl <| TK (t := 142) rfl (congrArg Value.bool (rfl : true = _)) <| Op1.subN rfl rfl rfl (wrap_i64 (by omega) (by omega)) <| TK (t := 142) rfl (congrArg Value.bool (rfl : true = _)) (Op1.call2 (v1 := .slice _ _ _) (v2 := .int .i64 _) ent37 rfl rfl rfl ((R5ref5_first l ao cp (k - 1) _ (by have := (label_of hkm (by omega) hS2 (by omega)).1; omega) (label_of hkm (by omega) hS2 (by omega)).2 _ (hst.hD _ (.head _)) (by omega) (by omega)).mono fun v w hp => ?_))
         obtain ⟨rfl, hp⟩ := hp
         replace hst := hst.keepc hp
         clear hp
         refine CN <| Op1.pickT (u := .bool _) (congrArg Value.bool (rfl : true = _)) rfl <| AB rfl <| NL <| run_ret1 Try.func27 rfl (TP (v := .bool _) rfl) ?_
         exact ⟨congrArg Value.bool (by unfold mayB; rw [if_neg (by rw [hJ.2.2.1]; decide)]; rw [if_neg (by omega)]; rw [if_neg (by omega)]; rw [if_neg (by omega)]; unfold mayO; rw [if_neg (by omega)]; rw [if_neg (by omega)]; rw [if_neg (by omega)]; rw [if_neg (by omega)]; rw [if_neg (fun h => by rcases h with h | h | h | h | h; (omega); (omega); (omega); (omega); (rw [g24] at h; cases h))]; rw [if_neg (by omega)]; rw [if_pos (by omega)]; first | exact may_59 (by omega) | exact (decide_eq_false (fun h => by omega)).symm), hst.pure⟩
       refine TK (t := 138) rfl (congrArg Value.bool (decide_eq_false g29)) <| Op1.move (v := .int .u16 _) rfl <| TK (t := 138) rfl (congrArg Value.bool (decide_eq_false g29)) <| Op1.eql rfl rfl <| CN <| Op1.pickF (u := .bool _) (congrArg Value.bool (decide_eq_false g29)) rfl <| MB rfl <| RunL.splitD (d := 142) rfl (fun g30 => ?_) (fun g30 => ?_)
       · skip
         refine TK (t := 142) rfl (congrArg Value.bool (decide_eq_true g30)) <| Op1.move (v := .slice _ _ _) rfl <| TK (t := 142) rfl (congrArg Value.bool (decide_eq_true g30)) <| Op1.move (v := .int .i64 _) rfl <| TK (t := 142) rfl (congrArg Value.bool (decide_eq_true g30)) <| Op1.subN rfl rfl rfl (wrap_i64 (by omega) (by omega)) <| TK (t := 142) rfl (congrArg Value.bool (decide_eq_true g30)) (Op1.call2 (v1 := .slice _ _ _) (v2 := .int .i64 _) ent37 rfl rfl rfl ((R5ref5_first l ao cp (k - 1) _ (by have := (label_of hkm (by omega) hS2 (by omega)).1; omega) (label_of hkm (by omega) hS2 (by omega)).2 _ (hst.hD _ (.head _)) (by omega) (by omega)).mono fun v w hp => ?_))
         obtain ⟨rfl, hp⟩ := hp
         replace hst := hst.keepc hp
         clear hp
         refine CN <| Op1.pickT (u := .bool _) (congrArg Value.bool (decide_eq_true g30)) rfl <| AB rfl <| NL <| run_ret1 Try.func27 rfl (TP (v := .bool _) rfl) ?_
         exact ⟨congrArg Value.bool (by unfold mayB; rw [if_neg (by rw [hJ.2.2.1]; decide)]; rw [if_neg (by omega)]; rw [if_neg (by omega)]; rw [if_neg (by omega)]; unfold mayO; rw [if_neg (by omega)]; rw [if_neg (by omega)]; rw [if_neg (by omega)]; rw [if_neg (by omega)]; rw [if_neg (fun h => by rcases h with h | h | h | h | h; (omega); (omega); (omega); (omega); (rw [g24] at h; cases h))]; rw [if_neg (by omega)]; rw [if_pos (by omega)]; first | exact may_59 (by omega) | exact (decide_eq_false (fun h => by omega)).symm), hst.pure⟩
       refine OM (t := 142) rfl (congrArg Value.bool (decide_eq_false g30)) rfl <| OM (t := 142) rfl (congrArg Value.bool (decide_eq_false g30)) rfl <| OM (t := 142) rfl (congrArg Value.bool (decide_eq_false g30)) rfl <| OM (t := 142) rfl (congrArg Value.bool (decide_eq_false g30)) rfl <| CN <| Op1.pickF (u := .bool _) (congrArg Value.bool (decide_eq_false g30)) rfl <| AB rfl <| NL <| run_ret1 Try.func27 rfl (TP (v := .bool _) rfl) ?_
       exact ⟨congrArg Value.bool (by unfold mayB; rw [if_neg (by rw [hJ.2.2.1]; decide)]; rw [if_neg (by omega)]; rw [if_neg (by omega)]; rw [if_neg (by omega)]; unfold mayO; rw [if_neg (by omega)]; rw [if_neg (by omega)]; rw [if_neg (by omega)]; rw [if_neg (by omega)]; rw [if_neg (fun h => by rcases h with h | h | h | h | h; (omega); (omega); (omega); (omega); (rw [g24] at h; cases h))]; rw [if_neg (by omega)]; rw [if_pos (by omega)]; first | exact may_59 (by omega) | exact (decide_eq_false (fun h => by omega)).symm), hst.pure⟩
     refine run_skip <| SQ <| SR <| MH rfl <| CN <| Op1.eql rfl rfl <| NL <| run_cond_dec rfl (fun g31 => ?_) (fun g31 => ?_)
     · skip
       refine SR <| MH rfl <| CN <| Op1.eql rfl rfl <| MB rfl <| RunL.splitD (d := 152) rfl (fun g32 => ?_) (fun g32 => ?_)
       · skip
         refine OM (t := 152) rfl (congrArg Value.bool (decide_eq_true g32)) rfl <| OM (t := 152) rfl (congrArg Value.bool (decide_eq_true g32)) rfl <| CN <| Op1.pickT (u := .bool _) (congrArg Value.bool (decide_eq_true g32)) rfl <| AB rfl <| NL <| run_ret1 Try.func27 rfl (TP (v := .bool _) rfl) ?_
         exact ⟨congrArg Value.bool (by unfold mayB; rw [if_neg (by rw [hJ.2.2.1]; decide)]; rw [if_neg (by omega)]; rw [if_neg (by omega)]; rw [if_neg (by omega)]; unfold mayO; rw [if_neg (by omega)]; rw [if_neg (by omega)]; rw [if_neg (by omega)]; rw [if_neg (by omega)]; rw [if_neg (fun h => by rcases h with h | h | h | h | h; (omega); (omega); (omega); (omega); (rw [g24] at h; cases h))]; rw [if_neg (by omega)]; rw [if_neg (by omega)]; rw [if_pos (by omega)]; first | exact (decide_eq_true (by omega)).symm | (rw [decide_eq_decide]; omega) | exact (decide_eq_false (by omega)).symm), hst.pure⟩
       refine TK (t := 152) rfl (congrArg Value.bool (decide_eq_false g32)) <| Op1.move (v := .int .u16 _) rfl <| TK (t := 152) rfl (congrArg Value.bool (decide_eq_false g32)) <| Op1.eql rfl rfl <| CN <| Op1.pickF (u := .bool _) (congrArg Value.bool (decide_eq_false g32)) rfl <| AB rfl <| NL <| run_ret1 Try.func27 rfl (TP (v := .bool _) rfl) ?_
       exact ⟨congrArg Value.bool (by unfold mayB; rw [if_neg (by rw [hJ.2.2.1]; decide)]; rw [if_neg (by omega)]; rw [if_neg (by omega)]; rw [if_neg (by omega)]; unfold mayO; rw [if_neg (by omega)]; rw [if_neg (by omega)]; rw [if_neg (by omega)]; rw [if_neg (by omega)]; rw [if_neg (fun h => by rcases h with h | h | h | h | h; (omega); (omega); (omega); (omega); (rw [g24] at h; cases h))]; rw [if_neg (by omega)]; rw [if_neg (by omega)]; rw [if_pos (by omega)]; first | exact (decide_eq_true (by omega)).symm | (rw [decide_eq_decide]; omega) | exact (decide_eq_false (by omega)).symm), hst.pure⟩
     refine run_skip <| SQ <| SR <| MH rfl <| CN <| Op1.eql rfl rfl <| NL <| run_cond_dec rfl (fun g33 => ?_) (fun g33 => ?_)
     · skip
       refine SR <| MH rfl <| CN <| Op1.eql rfl rfl <| MB rfl <| RunL.splitD (d := 160) rfl (fun g34 => ?_) (fun g34 => ?_)
       · skip
         refine OM (t := 160) rfl (congrArg Value.bool (decide_eq_true g34)) rfl <| OM (t := 160) rfl (congrArg Value.bool (decide_eq_true g34)) rfl <| CN <| Op1.pickT (u := .bool _) (congrArg Value.bool (decide_eq_true g34)) rfl <| AB rfl <| NL <| run_ret1 Try.func27 rfl (TP (v := .bool _) rfl) ?_
         exact ⟨congrArg Value.bool (by unfold mayB; rw [if_neg (by rw [hJ.2.2.1]; decide)]; rw [if_neg (by omega)]; rw [if_neg (by omega)]; rw [if_neg (by omega)]; unfold mayO; rw [if_neg (by omega)]; rw [if_neg (by omega)]; rw [if_neg (by omega)]; rw [if_neg (by omega)]; rw [if_neg (fun h => by rcases h with h | h | h | h | h; (omega); (omega); (omega); (omega); (rw [g24] at h; cases h))]; rw [if_neg (by omega)]; rw [if_neg (by omega)]; rw [if_neg (by omega)]; rw [if_pos (by omega)]; first | exact (decide_eq_true (by omega)).symm | (rw [decide_eq_decide]; omega) | exact (decide_eq_false (by omega)).symm), hst.pure⟩
       refine TK (t := 160) rfl (congrArg Value.bool (decide_eq_false g34)) <| Op1.move (v := .int .u16 _) rfl <| TK (t := 160) rfl (congrArg Value.bool (decide_eq_false g34)) <| Op1.eql rfl rfl <| CN <| Op1.pickF (u := .bool _) (congrArg Value.bool (decide_eq_false g34)) rfl <| AB rfl <| NL <| run_ret1 Try.func27 rfl (TP (v := .bool _) rfl) ?_
       exact ⟨congrArg Value.bool (by unfold mayB; rw [if_neg (by rw [hJ.2.2.1]; decide)]; rw [if_neg (by omega)]; rw [if_neg (by omega)]; rw [if_neg (by omega)]; unfold mayO; rw [if_neg (by omega)]; rw [if_neg (by omega)]; rw [if_neg (by omega)]; rw [if_neg (by omega)]; rw [if_neg (fun h => by rcases h with h | h | h | h | h; (omega); (omega); (omega); (omega); (rw [g24] at h; cases h))]; rw [if_neg (by omega)]; rw [if_neg (by omega)]; rw [if_neg (by omega)]; rw [if_pos (by omega)]; first | exact (decide_eq_true (by omega)).symm | (rw [decide_eq_decide]; omega) | exact (decide_eq_false (by omega)).symm), hst.pure⟩
     refine run_skip <| SR <| AB rfl <| NL <| run_ret1 Try.func27 rfl (TP (v := .bool _) rfl) ?_
     exact ⟨congrArg Value.bool (by unfold mayB; rw [if_neg (by rw [hJ.2.2.1]; decide)]; rw [if_neg (by omega)]; rw [if_neg (by omega)]; rw [if_neg (by omega)]; unfold mayO; rw [if_neg (by omega)]; rw [if_neg (by omega)]; rw [if_neg (by omega)]; rw [if_neg (by omega)]; rw [if_neg (fun h => by rcases h with h | h | h | h | h; (omega); (omega); (omega); (omega); (rw [g24] at h; cases h))]; rw [if_neg (by omega)]; rw [if_neg (by omega)]; rw [if_neg (by omega)]; rw [if_neg (by omega)]), hst.pure⟩
   · skip
     refine SQ ?_
     have hP1 : ptA (l.map InstP.L) (k - 1) = ptF (l.getD ((k : Int) - 1).toNat zeroI).L := by rw [ptA_map, show k - 1 = ((k : Int) - 1).toNat by omega]
     refine RG <| MI rfl <| CN <| Op1.gtr rfl rfl <| MB rfl <| RunL.splitD (d := 54) rfl (fun g35 => ?_) (fun g35 => ?_)
     · skip
       refine TK (t := 54) rfl (congrArg Value.bool (decide_eq_true g35)) <| Op1.move (v := .slice _ _ _) rfl <| TK (t := 54) rfl (congrArg Value.bool (decide_eq_true g35)) <| Op1.move (v := .int .i64 _) rfl <| TK (t := 54) rfl (congrArg Value.bool (decide_eq_true g35)) <| Op1.subN rfl rfl rfl (wrap_i64 (by omega) (by omega)) <| TK (t := 54) rfl (congrArg Value.bool (decide_eq_true g35)) <| Op1.indexRs ty23 ty39 (Res.rmod_insts (hst.hD _ (.head _))) rfl rfl (by omega) (by omega) <| TK (t := 54) rfl (congrArg Value.bool (decide_eq_true g35)) <| Op1.loadA (vs := [.int .u16 _, .int .u32 _, .int .u32 _, .slice _ _ _]) ty39 rfl rfl rfl (Res.rs2_cells (m := 4) (Res.rmod_insts (hst.hD _ (.head _))) _ (flat_seg (g := instC) (d := zeroI) instC_len _ _ (by omega))) <| TK (t := 54) rfl (congrArg Value.bool (decide_eq_true g35)) (Op1.call1 (v1 := .agg #[.int .u16 _, .int .u32 _, .int .u32 _, .slice _ _ _]) ent28 rfl rfl ((R5ref5_Part (l.getD ((k : Int) - 1).toNat zeroI) (hkn _ (getD_memD (by omega))) _ (Res.rmod_argsI (hst.hD _ (.head _)) (i := ((k : Int) - 1).toNat) (by omega)) (hla _ (getD_memD (by omega)))).mono fun v w hp => ?_))
       obtain ⟨rfl, hp⟩ := hp
       replace hst := hst.keepc hp
       clear hp
       refine TK (t := 54) rfl (congrArg Value.bool (decide_eq_true g35)) <| Op1.eql rfl rfl <| CN <| Op1.pickT (u := .bool _) (congrArg Value.bool (decide_eq_true g35)) rfl <| NL <| run_cond_dec rfl (fun g36 => ?_) (fun g36 => ?_)
       · skip
         refine RG <| ML rfl <| MI rfl <| CN <| Op1.subN rfl rfl rfl (wrap_i64 (by omega) (by omega)) <| CN <| Op1.indexRs ty23 ty39 (Res.rmod_insts (hst.hD _ (.head _))) rfl rfl (by omega) (by omega) <| CN <| Op1.fieldAddr fld39_0 rfl <| CN <| Op1.load1 (v := .int .u16 _) ty33 rfl rfl (Res.rs2_cellF (Res.rmod_insts (hst.hD _ (.head _))) (flat_cell (g := instC) (d := zeroI) instC_len rfl (by omega))) <| AH rfl <| NL ?_
         exact cut9 (()) _ w (hst) (trivial) ⟨rfl, rfl, trivial⟩ ⟨(congrArg (Value.int .u16) hO.symm), (congrArg (Value.int .u16) (by unfold aheadF; rw [if_pos ⟨by omega, by omega⟩, opA_map, show ((k : Int) - 1).toNat = k - 1 by omega])), trivial⟩
       refine run_skip ?_
       exact cut9 (()) _ w (hst) (trivial) ⟨rfl, rfl, trivial⟩ ⟨(congrArg (Value.int .u16) hO.symm), (congrArg (Value.int .u16) (by unfold aheadF; rw [if_neg (by omega)])), trivial⟩
     refine OM (t := 54) rfl (congrArg Value.bool (decide_eq_false g35)) rfl <| OM (t := 54) rfl (congrArg Value.bool (decide_eq_false g35)) rfl <| OM (t := 54) rfl (congrArg Value.bool (decide_eq_false g35)) rfl <| OM (t := 54) rfl (congrArg Value.bool (decide_eq_false g35)) rfl <| OM (t := 54) rfl (congrArg Value.bool (decide_eq_false g35)) rfl <| OM (t := 54) rfl (congrArg Value.bool (decide_eq_false g35)) rfl <| OM (t := 54) rfl (congrArg Value.bool (decide_eq_false g35)) rfl <| CN <| Op1.pickF (u := .bool _) (congrArg Value.bool (decide_eq_false g35)) rfl <| NL <| run_cond_false (congrArg Value.bool (rfl : false = _)) <| run_skip ?_
     exact cut9 (()) _ w (hst) (trivial) ⟨rfl, rfl, trivial⟩ ⟨(congrArg (Value.int .u16) hO.symm), (congrArg (Value.int .u16) (by unfold aheadF; rw [if_neg (by omega)])), trivial⟩
 refine OM (t := 41) rfl (congrArg Value.bool (decide_eq_false g6)) rfl <| OM (t := 41) rfl (congrArg Value.bool (decide_eq_false g6)) rfl <| CN <| Op1.pickF (u := .bool _) (congrArg Value.bool (decide_eq_false g6)) rfl <| NL <| run_cond_false (congrArg Value.bool (rfl : false = _)) <| run_skip <| SQ <| SR <| MI rfl <| CN <| Op1.lss rfl rfl <| NL <| run_cond_dec rfl (fun g37 => ?_) (fun g37 => ?_)
 · skip
   refine SR <| AB rfl <| NL <| run_ret1 Try.func27 rfl (TP (v := .bool _) rfl) ?_
   exact ⟨congrArg Value.bool (by unfold mayB; rw [if_neg (by rw [hJ.2.2.1]; decide)]; rw [if_neg (by omega)]; rw [if_neg (by omega)]; rw [if_pos (by omega)]), hst.pure⟩
 refine run_skip <| SR <| ML rfl <| MI rfl <| CN <| Op1.indexRs ty23 ty39 (Res.rmod_insts (hst.hD _ (.head _))) rfl rfl (by omega) (by omega) <| CN <| Op1.fieldAddr fld39_0 rfl <| CN <| Op1.load1 (v := .int .u16 _) ty33 rfl rfl (Res.rs2_cellF (Res.rmod_insts (hst.hD _ (.head _))) (flat_cell (g := instC) (d := zeroI) instC_len rfl (by omega))) <| AH rfl <| NSR <| AH rfl <| NL <| SQ ?_
 refine Run.cutW (L1 := []) [(0, .slice _ _ _), (1, .int .i64 _)] hst ⟨rfl, rfl, trivial⟩ (fun (_u : Unit) => [(8, .int .u16 (opA (l.map InstP.L) k)), (9, .int .u16 (aheadF (l.map InstP.L) k))]) (fun (_u : Unit) => []) (fun (_u : Unit) => True) (fun _u f w hst hJ39 => ?_) (fun cut38 => ?_)
 · skip
   refine SQ <| SR <| MH rfl <| CN <| Op1.eql rfl rfl <| NL <| run_cond_dec rfl (fun g41 => ?_) (fun g41 => ?_)
   · skip
     refine SR <| MH rfl <| CN <| Op1.eql rfl rfl <| MB rfl <| RunL.splitD (d := 73) rfl (fun g42 => ?_) (fun g42 => ?_)
     · skip
       refine OM (t := 73) rfl (congrArg Value.bool (decide_eq_true g42)) rfl <| OM (t := 73) rfl (congrArg Value.bool (decide_eq_true g42)) rfl <| CN <| Op1.pickT (u := .bool _) (congrArg Value.bool (decide_eq_true g42)) rfl <| AB rfl <| NL <| run_ret1 Try.func27 rfl (TP (v := .bool _) rfl) ?_
       exact ⟨congrArg Value.bool (by unfold mayB; rw [if_neg (by rw [hJ.2.2.1]; decide)]; rw [if_neg (by omega)]; rw [if_neg (by omega)]; rw [if_neg (by omega)]; unfold mayO; rw [if_pos (by omega)]; first | exact (decide_eq_true (by omega)).symm | (rw [decide_eq_decide]; omega) | exact (decide_eq_false (by omega)).symm), hst.pure⟩
     refine TK (t := 73) rfl (congrArg Value.bool (decide_eq_false g42)) <| Op1.move (v := .int .u16 _) rfl <| TK (t := 73) rfl (congrArg Value.bool (decide_eq_false g42)) <| Op1.eql rfl rfl <| CN <| Op1.pickF (u := .bool _) (congrArg Value.bool (decide_eq_false g42)) rfl <| AB rfl <| NL <| run_ret1 Try.func27 rfl (TP (v := .bool _) rfl) ?_
     exact ⟨congrArg Value.bool (by unfold mayB; rw [if_neg (by rw [hJ.2.2.1]; decide)]; rw [if_neg (by omega)]; rw [if_neg (by omega)]; rw [if_neg (by omega)]; unfold mayO; rw [if_pos (by omega)]; first | exact (decide_eq_true (by omega)).symm | (rw [decide_eq_decide]; omega) | exact (decide_eq_false (by omega)).symm), hst.pure⟩
   refine run_skip <| SQ <| SR <| MH rfl <| CN <| Op1.eql rfl rfl <| NL <| run_cond_dec rfl (fun g43 => ?_) (fun g43 => ?_)
   · skip
     refine SR <| MH rfl <| CN <| Op1.eql rfl rfl <| MB rfl <| RunL.splitD (d := 81) rfl (fun g44 => ?_) (fun g44 => ?_)
     · skip
       refine OM (t := 81) rfl (congrArg Value.bool (decide_eq_true g44)) rfl <| OM (t := 81) rfl (congrArg Value.bool (decide_eq_true g44)) rfl <| CN <| Op1.pickT (u := .bool _) (congrArg Value.bool (decide_eq_true g44)) rfl <| AB rfl <| NL <| run_ret1 Try.func27 rfl (TP (v := .bool _) rfl) ?_
       exact ⟨congrArg Value.bool (by unfold mayB; rw [if_neg (by rw [hJ.2.2.1]; decide)]; rw [if_neg (by omega)]; rw [if_neg (by omega)]; rw [if_neg (by omega)]; unfold mayO; rw [if_neg (by omega)]; rw [if_pos (by omega)]; first | exact (decide_eq_true (by omega)).symm | (rw [decide_eq_decide]; omega) | exact (decide_eq_false (by omega)).symm), hst.pure⟩
     refine TK (t := 81) rfl (congrArg Value.bool (decide_eq_false g44)) <| Op1.move (v := .int .u16 _) rfl <| TK (t := 81) rfl (congrArg Value.bool (decide_eq_false g44)) <| Op1.eql rfl rfl <| CN <| Op1.pickF (u := .bool _) (congrArg Value.bool (decide_eq_false g44)) rfl <| AB rfl <| NL <| run_ret1 Try.func27 rfl (TP (v := .bool _) rfl) ?_
     exact ⟨congrArg Value.bool (by unfold mayB; rw [if_neg (by rw [hJ.2.2.1]; decide)]; rw [if_neg (by omega)]; rw [if_neg (by omega)]; rw [if_neg (by omega)]; unfold mayO; rw [if_neg (by omega)]; rw [if_pos (by omega)]; first | exact (decide_eq_true (by omega)).symm | (rw [decide_eq_decide]; omega) | exact (decide_eq_false (by omega)).symm), hst.pure⟩
   refine run_skip <| SQ <| SR <| MH rfl <| CN <| Op1.eql rfl rfl <| NL <| run_cond_dec rfl (fun g45 => ?_) (fun g45 => ?_)
   · skip
     refine SR <| MH rfl <| CN <| Op1.eql rfl rfl <| MB rfl <| RunL.splitD (d := 89) rfl (fun g46 => ?_) (fun g46 => ?_)
     · skip
       refine OM (t := 89) rfl (congrArg Value.bool (decide_eq_true g46)) rfl <| OM (t := 89) rfl (congrArg Value.bool (decide_eq_true g46)) rfl <| CN <| Op1.pickT (u := .bool _) (congrArg Value.bool (decide_eq_true g46)) rfl <| MB rfl <| OM (t := 93) rfl (congrArg Value.bool (rfl : true = _)) rfl <| OM (t := 93) rfl (congrArg Value.bool (rfl : true = _)) rfl <| CN <| Op1.pickT (u := .bool _) (congrArg Value.bool (rfl : true = _)) rfl <| AB rfl <| NL <| run_ret1 Try.func27 rfl (TP (v := .bool _) rfl) ?_
       exact ⟨congrArg Value.bool (by unfold mayB; rw [if_neg (by rw [hJ.2.2.1]; decide)]; rw [if_neg (by omega)]; rw [if_neg (by omega)]; rw [if_neg (by omega)]; unfold mayO; rw [if_neg (by omega)]; rw [if_neg (by omega)]; rw [if_pos (by omega)]; first | exact (decide_eq_true (by omega)).symm | exact may_248 (by omega) (by omega)), hst.pure⟩
     refine TK (t := 89) rfl (congrArg Value.bool (decide_eq_false g46)) <| Op1.move (v := .int .u16 _) rfl <| TK (t := 89) rfl (congrArg Value.bool (decide_eq_false g46)) <| Op1.eql rfl rfl <| CN <| Op1.pickF (u := .bool _) (congrArg Value.bool (decide_eq_false g46)) rfl <| MB rfl <| RunL.splitD (d := 93) rfl (fun g47 => ?_) (fun g47 => ?_)
     · skip
       refine OM (t := 93) rfl (congrArg Value.bool (decide_eq_true g47)) rfl <| OM (t := 93) rfl (congrArg Value.bool (decide_eq_true g47)) rfl <| CN <| Op1.pickT (u := .bool _) (congrArg Value.bool (decide_eq_true g47)) rfl <| AB rfl <| NL <| run_ret1 Try.func27 rfl (TP (v := .bool _) rfl) ?_
       exact ⟨congrArg Value.bool (by unfold mayB; rw [if_neg (by rw [hJ.2.2.1]; decide)]; rw [if_neg (by omega)]; rw [if_neg (by omega)]; rw [if_neg (by omega)]; unfold mayO; rw [if_neg (by omega)]; rw [if_neg (by omega)]; rw [if_pos (by omega)]; first | exact (decide_eq_true (by omega)).symm | exact may_248 (by omega) (by omega)), hst.pure⟩
     refine TK (t := 93) rfl (congrArg Value.bool (decide_eq_false g47)) <| Op1.move (v := .int .u16 _) rfl <| TK (t := 93) rfl (congrArg Value.bool (decide_eq_false g47)) (Op1.call1 (v1 := .int .u16 _) ent30 rfl rfl ((R5ref5_Ends (aheadF (l.map InstP.L) k) _).mono fun v w hp => ?_))
     obtain ⟨rfl, hp⟩ := hp
     replace hst := hst.keepc hp
     clear hp
     refine CN <| Op1.pickF (u := .bool _) (congrArg Value.bool (decide_eq_false g47)) rfl <| AB rfl <| NL <| run_ret1 Try.func27 rfl (TP (v := .bool _) rfl) ?_
     exact ⟨congrArg Value.bool (by unfold mayB; rw [if_neg (by rw [hJ.2.2.1]; decide)]; rw [if_neg (by omega)]; rw [if_neg (by omega)]; rw [if_neg (by omega)]; unfold mayO; rw [if_neg (by omega)]; rw [if_neg (by omega)]; rw [if_pos (by omega)]; first | exact (decide_eq_true (by omega)).symm | exact may_248 (by omega) (by omega)), hst.pure⟩
   refine run_skip <| SQ <| SR <| MH rfl <| CN <| Op1.eql rfl rfl <| NL <| run_cond_dec rfl (fun g48 => ?_) (fun g48 => ?_)
   · skip
     refine SR <| MH rfl <| CN <| Op1.call1 (v1 := .int .u16 _) ent30 rfl rfl <| Ret.det (R5ref5_Ends (aheadF (l.map InstP.L) k) _) hst fun w hst => AB rfl <| NL <| run_ret1 Try.func27 rfl (TP (v := .bool _) rfl) ?_
     exact ⟨congrArg Value.bool (by unfold mayB; rw [if_neg (by rw [hJ.2.2.1]; decide)]; rw [if_neg (by omega)]; rw [if_neg (by omega)]; rw [if_neg (by omega)]; unfold mayO; rw [if_neg (by omega)]; rw [if_neg (by omega)]; rw [if_neg (by omega)]; rw [if_pos (by omega)]), hst.pure⟩
   refine run_skip <| SQ <| SR <| MH rfl <| CN <| Op1.eql rfl rfl <| MB rfl <| RunL.splitD (d := 103) rfl (fun g49 => ?_) (fun g49 => ?_)
   · skip
     refine OM (t := 103) rfl (congrArg Value.bool (decide_eq_true g49)) rfl <| OM (t := 103) rfl (congrArg Value.bool (decide_eq_true g49)) rfl <| CN <| Op1.pickT (u := .bool _) (congrArg Value.bool (decide_eq_true g49)) rfl <| MB rfl <| OM (t := 107) rfl (congrArg Value.bool (rfl : true = _)) rfl <| OM (t := 107) rfl (congrArg Value.bool (rfl : true = _)) rfl <| CN <| Op1.pickT (u := .bool _) (congrArg Value.bool (rfl : true = _)) rfl <| MB rfl <| OM (t := 111) rfl (congrArg Value.bool (rfl : true = _)) rfl <| OM (t := 111) rfl (congrArg Value.bool (rfl : true = _)) rfl <| CN <| Op1.pickT (u := .bool _) (congrArg Value.bool (rfl : true = _)) rfl <| MB rfl <| OM (t := 115) rfl (congrArg Value.bool (rfl : true = _)) rfl <| OM (t := 115) rfl (congrArg Value.bool (rfl : true = _)) rfl <| CN (Op1.pickT (u := .bool _) (congrArg Value.bool (rfl : true = _)) rfl ?_)
     refine NL <| run_cond_true (congrArg Value.bool (rfl : true = _)) <| SR <| AB rfl <| NL <| run_ret1 Try.func27 rfl (TP (v := .bool _) rfl) ?_
     exact ⟨congrArg Value.bool (by unfold mayB; rw [if_neg (by rw [hJ.2.2.1]; decide)]; rw [if_neg (by omega)]; rw [if_neg (by omega)]; rw [if_neg (by omega)]; unfold mayO; rw [if_neg (by omega)]; rw [if_neg (by omega)]; rw [if_neg (by omega)]; rw [if_neg (by omega)]; rw [if_pos (by first | omega | exact .inr (.inr (.inr (.inr rfl))))]), hst.pure⟩
   refine TK (t := 103) rfl (congrArg Value.bool (decide_eq_false g49)) <| Op1.move (v := .int .u16 _) rfl <| TK (t := 103) rfl (congrArg Value.bool (decide_eq_false g49)) <| Op1.eql rfl rfl <| CN <| Op1.pickF (u := .bool _) (congrArg Value.bool (decide_eq_false g49)) rfl <| MB rfl <| RunL.splitD (d := 107) rfl (fun g50 => ?_) (fun g50 => ?_)
   · skip
     refine OM (t := 107) rfl (congrArg Value.bool (decide_eq_true g50)) rfl <| OM (t := 107) rfl (congrArg Value.bool (decide_eq_true g50)) rfl <| CN <| Op1.pickT (u := .bool _) (congrArg Value.bool (decide_eq_true g50)) rfl <| MB rfl <| OM (t := 111) rfl (congrArg Value.bool (rfl : true = _)) rfl <| OM (t := 111) rfl (congrArg Value.bool (rfl : true = _)) rfl <| CN <| Op1.pickT (u := .bool _) (congrArg Value.bool (rfl : true = _)) rfl <| MB rfl <| OM (t := 115) rfl (congrArg Value.bool (rfl : true = _)) rfl <| OM (t := 115) rfl (congrArg Value.bool (rfl : true = _)) rfl <| CN <| Op1.pickT (u := .bool _) (congrArg Value.bool (rfl : true = _)) rfl <| NL <| Run.forget [(0, .slice _ _ _), (1, .int .i64 _), (8, .int .u16 _), (9, .int .u16 _), (118, .bool _)] ⟨rfl, rfl, rfl, rfl, rfl, trivial⟩ fun f => run_cond_true (congrArg Value.bool (rfl : true = _)) <| SQ ?_
     refine RG <| AB rfl <| NL <| run_ret1 Try.func27 rfl (TP (v := .bool _) rfl) ?_
     exact ⟨congrArg Value.bool (by unfold mayB; rw [if_neg (by rw [hJ.2.2.1]; decide)]; rw [if_neg (by omega)]; rw [if_neg (by omega)]; rw [if_neg (by omega)]; unfold mayO; rw [if_neg (by omega)]; rw [if_neg (by omega)]; rw [if_neg (by omega)]; rw [if_neg (by omega)]; rw [if_pos (by first | omega | exact .inr (.inr (.inr (.inr rfl))))]), hst.pure⟩
   refine TK (t := 107) rfl (congrArg Value.bool (decide_eq_false g50)) <| Op1.move (v := .int .u16 _) rfl <| TK (t := 107) rfl (congrArg Value.bool (decide_eq_false g50)) <| Op1.eql rfl rfl <| CN <| Op1.pickF (u := .bool _) (congrArg Value.bool (decide_eq_false g50)) rfl <| MB rfl <| RunL.splitD (d := 111) rfl (fun g51 => ?_) (fun g51 => ?_)
   · skip
     refine OM (t := 111) rfl (congrArg Value.bool (decide_eq_true g51)) rfl <| OM (t := 111) rfl (congrArg Value.bool (decide_eq_true g51)) rfl <| CN <| Op1.pickT (u := .bool _) (congrArg Value.bool (decide_eq_true g51)) rfl <| MB rfl <| OM (t := 115) rfl (congrArg Value.bool (rfl : true = _)) rfl <| OM (t := 115) rfl (congrArg Value.bool (rfl : true = _)) rfl <| CN <| Op1.pickT (u := .bool _) (congrArg Value.bool (rfl : true = _)) rfl <| NL <| Run.forget [(0, .slice _ _ _), (1, .int .i64 _), (8, .int .u16 _), (9, .int .u16 _), (118, .bool _)] ⟨rfl, rfl, rfl, rfl, rfl, trivial⟩ fun f => run_cond_true (congrArg Value.bool (rfl : true = _)) <| SR <| AB rfl <| NL <| run_ret1 Try.func27 rfl (TP (v := .bool _) rfl) ?_
     exact ⟨congrArg Value.bool (by unfold mayB; rw [if_neg (by rw [hJ.2.2.1]; decide)]; rw [if_neg (by omega)]; rw [if_neg (by omega)]; rw [if_neg (by omega)]; unfold mayO; rw [if_neg (by omega)]; rw [if_neg (by omega)]; rw [if_neg (by omega)]; rw [if_neg (by omega)]; rw [if_pos (by first | omega | exact .inr (.inr (.inr (.inr rfl))))]), hst.pure⟩
   refine TK (t := 111) rfl (congrArg Value.bool (decide_eq_false g51)) <| Op1.move (v := .int .u16 _) rfl <| TK (t := 111) rfl (congrArg Value.bool (decide_eq_false g51)) <| Op1.eql rfl rfl <| CN <| Op1.pickF (u := .bool _) (congrArg Value.bool (decide_eq_false g51)) rfl <| MB rfl <| RunL.splitD (d := 115) rfl (fun g52 => ?_) (fun g52 => ?_)
   · skip
     refine OM (t := 115) rfl (congrArg Value.bool (decide_eq_true g52)) rfl <| OM (t := 115) rfl (congrArg Value.bool (decide_eq_true g52)) rfl <| CN <| Op1.pickT (u := .bool _) (congrArg Value.bool (decide_eq_true g52)) rfl <| NL <| Run.forget [(0, .slice _ _ _), (1, .int .i64 _), (8, .int .u16 _), (9, .int .u16 _), (118, .bool _)] ⟨rfl, rfl, rfl, rfl, rfl, trivial⟩ fun f => run_cond_true (congrArg Value.bool (rfl : true = _)) <| SR <| AB rfl <| NL <| run_ret1 Try.func27 rfl (TP (v := .bool _) rfl) ?_
     exact ⟨congrArg Value.bool (by unfold mayB; rw [if_neg (by rw [hJ.2.2.1]; decide)]; rw [if_neg (by omega)]; rw [if_neg (by omega)]; rw [if_neg (by omega)]; unfold mayO; rw [if_neg (by omega)]; rw [if_neg (by omega)]; rw [if_neg (by omega)]; rw [if_neg (by omega)]; rw [if_pos (by first | omega | exact .inr (.inr (.inr (.inr rfl))))]), hst.pure⟩
   refine TK (t := 115) rfl (congrArg Value.bool (decide_eq_false g52)) <| Op1.move (v := .int .u16 _) rfl <| TK (t := 115) rfl (congrArg Value.bool (decide_eq_false g52)) (Op1.call1 (v1 := .int .u16 _) ent30 rfl rfl ((R5ref5_Ends (aheadF (l.map InstP.L) k) _).mono fun v w hp => ?_))
   obtain ⟨rfl, hp⟩ := hp
   replace hst := hst.keepc hp
   clear hp
   refine CN <| Op1.pickF (u := .bool _) (congrArg Value.bool (decide_eq_false g52)) rfl <| NL <| Run.forget [(0, .slice _ _ _), (1, .int .i64 _), (8, .int .u16 _), (9, .int .u16 _), (118, .bool _)] ⟨rfl, rfl, rfl, rfl, rfl, trivial⟩ fun f => run_cond_split rfl (fun g53 => ?_) (fun g53 => ?_)
   · skip
     refine SR <| AB rfl <| NL <| run_ret1 Try.func27 rfl (TP (v := .bool _) rfl) ?_
     exact ⟨congrArg Value.bool (by unfold mayB; rw [if_neg (by rw [hJ.2.2.1]; decide)]; rw [if_neg (by omega)]; rw [if_neg (by omega)]; rw [if_neg (by omega)]; unfold mayO; rw [if_neg (by omega)]; rw [if_neg (by omega)]; rw [if_neg (by omega)]; rw [if_neg (by omega)]; rw [if_pos (by first | omega | exact .inr (.inr (.inr (.inr g53))))]), hst.pure⟩
   refine run_skip <| SQ <| SR <| MH rfl <| CN <| Op1.eql rfl rfl <| NL <| run_cond_dec rfl (fun g54 => ?_) (fun g54 => ?_)
   · skip
     refine SR <| MH rfl <| CN <| Op1.eql rfl rfl <| MB rfl <| RunL.splitD (d := 123) rfl (fun g55 => ?_) (fun g55 => ?_)
     · skip
       refine OM (t := 123) rfl (congrArg Value.bool (decide_eq_true g55)) rfl <| OM (t := 123) rfl (congrArg Value.bool (decide_eq_true g55)) rfl <| CN <| Op1.pickT (u := .bool _) (congrArg Value.bool (decide_eq_true g55)) rfl <| MB rfl <| TK (t := 127) rfl (congrArg Value.bool (rfl : true = _)) <| Op1.move (v := .slice _ _ _) rfl <| TK (t := 127) rfl (congrArg Value.bool (rfl : true = _)) <| Op1.move (v := .int .i64 _) rfl <| TK (t := 127) rfl (congrArg Value.bool (rfl : true = _)) <| Op1.subN rfl rfl rfl (wrap_i64 (by omega) (by omega)) <| TK (t := 127) rfl (congrArg Value.bool (rfl : true = _)) (Op1.call2 (v1 := .slice _ _ _) (v2 := .int .i64 _) ent37 rfl rfl rfl ((R5ref5_first l ao cp (k - 1) _ (by have := (label_of hkm (by omega) hS2 (by omega)).1; omega) (label_of hkm (by omega) hS2 (by omega)).2 _ (hst.hD _ (.head _)) (by omega) (by omega)).mono fun v w hp => ?_))
       obtain ⟨rfl, hp⟩ := hp
       replace hst := hst.keepc hp
       clear hp
       refine TK (t := 127) rfl (congrArg Value.bool (rfl : true = _)) <| Op1.not rfl <| CN <| Op1.pickT (u := .bool _) (congrArg Value.bool (rfl : true = _)) rfl <| AB rfl <| NL <| run_ret1 Try.func27 rfl (TP (v := .bool _) rfl) ?_
       exact ⟨congrArg Value.bool (by unfold mayB; rw [if_neg (by rw [hJ.2.2.1]; decide)]; rw [if_neg (by omega)]; rw [if_neg (by omega)]; rw [if_neg (by omega)]; unfold mayO; rw [if_neg (by omega)]; rw [if_neg (by omega)]; rw [if_neg (by omega)]; rw [if_neg (by omega)]; rw [if_neg (fun h => by rcases h with h | h | h | h | h; (omega); (omega); (omega); (omega); (rw [g53] at h; cases h))]; rw [if_pos (by omega)]; first | exact may_245 (by omega) | exact (decide_eq_false (fun h => by omega)).symm), hst.pure⟩
     refine TK (t := 123) rfl (congrArg Value.bool (decide_eq_false g55)) <| Op1.move (v := .int .u16 _) rfl <| TK (t := 123) rfl (congrArg Value.bool (decide_eq_false g55)) <| Op1.eql rfl rfl <| CN <| Op1.pickF (u := .bool _) (congrArg Value.bool (decide_eq_false g55)) rfl <| MB rfl <| RunL.splitD (d := 127) rfl (fun g56 => ?_) (fun g56 => ?_)
     · skip
       refine TK (t := 127) rfl (congrArg Value.bool (decide_eq_true g56)) <| Op1.move (v := .slice _ _ _) rfl <| TK (t := 127) rfl (congrArg Value.bool (decide_eq_true g56)) <| Op1.move (v := .int .i64 _) rfl <| TK (t := 127) rfl (congrArg Value.bool (decide_eq_true g56)) <| Op1.subN rfl rfl rfl (wrap_i64 (by omega) (by omega)) <| TK (t := 127) rfl (congrArg Value.bool (decide_eq_true g56)) (Op1.call2 (v1 := .slice _ _ _) (v2 := .int .i64 _) ent37 rfl rfl rfl ((R5ref5_first l ao cp (k - 1) _ (by have := (label_of hkm (by omega) hS2 (by omega)).1; omega) (label_of hkm (by omega) hS2 (by omega)).2 _ (hst.hD _ (.head _)) (by omega) (by omega)).mono fun v w hp => ?_))
       obtain ⟨rfl, hp⟩ := hp
       replace hst := hst.keepc hp
       clear hp
       refine TK (t := 127) rfl (congrArg Value.bool (decide_eq_true g56)) <| Op1.not rfl <| CN <| Op1.pickT (u := .bool _) (congrArg Value.bool (decide_eq_true g56)) rfl <| AB rfl <| NL <| run_ret1 Try.func27 rfl (TP (v := .bool _) rfl) ?_
       exact ⟨congrArg Value.bool (by unfold mayB; rw [if_neg (by rw [hJ.2.2.1]; decide)]; rw [if_neg (by omega)]; rw [if_neg (by omega)]; rw [if_neg (by omega)]; unfold mayO; rw [if_neg (by omega)]; rw [if_neg (by omega)]; rw [if_neg (by omega)]; rw [if_neg (by omega)]; rw [if_neg (fun h => by rcases h with h | h | h | h | h; (omega); (omega); (omega); (omega); (rw [g53] at h; cases h))]; rw [if_pos (by omega)]; first | exact may_245 (by omega) | exact (decide_eq_false (fun h => by omega)).symm), hst.pure⟩
     refine OM (t := 127) rfl (congrArg Value.bool (decide_eq_false g56)) rfl <| OM (t := 127) rfl (congrArg Value.bool (decide_eq_false g56)) rfl <| OM (t := 127) rfl (congrArg Value.bool (decide_eq_false g56)) rfl <| OM (t := 127) rfl (congrArg Value.bool (decide_eq_false g56)) rfl <| OM (t := 127) rfl (congrArg Value.bool (decide_eq_false g56)) rfl <| CN <| Op1.pickF (u := .bool _) (congrArg Value.bool (decide_eq_false g56)) rfl <| AB rfl <| NL <| run_ret1 Try.func27 rfl (TP (v := .bool _) rfl) ?_
     exact ⟨congrArg Value.bool (by unfold mayB; rw [if_neg (by rw [hJ.2.2.1]; decide)]; rw [if_neg (by omega)]; rw [if_neg (by omega)]; rw [if_neg (by omega)]; unfold mayO; rw [if_neg (by omega)]; rw [if_neg (by omega)]; rw [if_neg (by omega)]; rw [if_neg (by omega)]; rw [if_neg (fun h => by rcases h with h | h | h | h | h; (omega); (omega); (omega); (omega); (rw [g53] at h; cases h))]; rw [if_pos (by omega)]; first | exact may_245 (by omega) | exact (decide_eq_false (fun h => by omega)).symm), hst.pure⟩
   refine run_skip <| SQ <| SR <| MH rfl <| CN <| Op1.eql rfl rfl <| NL <| run_cond_dec rfl (fun g57 => ?_) (fun g57 => ?_)
   · skip
     refine SR <| MH rfl <| CN <| Op1.eql rfl rfl <| MB rfl <| RunL.splitD (d := 138) rfl (fun g58 => ?_) (fun g58 => ?_)
     · skip
       refine OM (t := 138) rfl (congrArg Value.bool (decide_eq_true g58)) rfl <| OM (t := 138) rfl (congrArg Value.bool (decide_eq_true g58)) rfl <| CN <| Op1.pickT (u := .bool _) (congrArg Value.bool (decide_eq_true g58)) rfl <| MB rfl <| TK (t := 142) rfl (congrArg Value.bool (rfl : true = _)) <| Op1.move (v := .slice _ _ _) rfl <| TK (t := 142) rfl (congrArg Value.bool (rfl : true = _)) <| Op1.move (v := .int .i64 _) rfl <| TK (t := 142) rfl (congrArg Value.bool (rfl : true = _)) <| Op1.subN rfl rfl rfl (wrap_i64 (by omega) (by omega)) <| TK (t := 142) rfl (congrArg Value.bool (rfl : true = _)) (Op1.call2 (v1 := .slice _ _ _) (v2 := .int .i64 _) ent37 rfl rfl rfl ((R5ref5_first l ao cp (k - 1) _ (by have := (label_of hkm (by omega) hS2 (by omega)).1; omega) (label_of hkm (by omega) hS2 (by omega)).2 _ (hst.hD _ (.head _)) (by omega) (by omega)).mono fun v w hp => ?_))
       obtain ⟨rfl, hp⟩ := hp
       replace hst := hst.keepc hp
       clear hp
       refine CN <| Op1.pickT (u := .bool _) (congrArg Value.bool (rfl : true = _)) rfl <| AB rfl <| NL <| run_ret1 Try.func27 rfl (TP (v := .bool _) rfl) ?_
       exact ⟨congrArg Value.bool (by unfold mayB; rw [if_neg (by rw [hJ.2.2.1]; decide)]; rw [if_neg (by omega)]; rw [if_neg (by omega)]; rw [if_neg (by omega)]; unfold mayO; rw [if_neg (by omega)]; rw [if_neg (by omega)]; rw [if_neg (by omega)]; rw [if_neg (by omega)]; rw [if_neg (fun h => by rcases h with h | h | h | h | h; (omega); (omega); (omega); (omega); (rw [g53] at h; cases h))]; rw [if_neg (by omega)]; rw [if_pos (by omega)]; first | exact may_59 (by omega) | exact (decide_eq_false (fun h => by omega)).symm), hst.pure⟩
     refine TK (t := 138) rfl (congrArg Value.bool (decide_eq_false g58)) <| Op1.move (v := .int .u16 _) rfl <| TK (t := 138) rfl (congrArg Value.bool (decide_eq_false g58)) <| Op1.eql rfl rfl <| CN <| Op1.pickF (u := .bool _) (congrArg Value.bool (decide_eq_false g58)) rfl <| MB rfl <| RunL.splitD (d := 142) rfl (fun g59 => ?_) (fun g59 => ?_)
     · skip
       refine TK (t := 142) rfl (congrArg Value.bool (decide_eq_true g59)) <| Op1.move (v := .slice _ _ _) rfl <| TK (t := 142) rfl (congrArg Value.bool (decide_eq_true g59)) <| Op1.move (v := .int .i64 _) rfl <| TK (t := 142) rfl (congrArg Value.bool (decide_eq_true g59)) <| Op1.subN rfl rfl rfl (wrap_i64 (by omega) (by omega)) <| TK (t := 142) rfl (congrArg Value.bool (decide_eq_true g59)) (Op1.call2 (v1 := .slice _ _ _) (v2 := .int .i64 _) ent37 rfl rfl rfl ((R5ref5_first l ao cp (k - 1) _ (by have := (label_of hkm (by omega) hS2 (by omega)).1; omega) (label_of hkm (by omega) hS2 (by omega)).2 _ (hst.hD _ (.head _)) (by omega) (by omega)).mono fun v w hp => ?_))
       obtain ⟨rfl, hp⟩ := hp
       replace hst := hst.keepc hp
       clear hp
       refine CN <| Op1.pickT (u := .bool _) (congrArg Value.bool (decide_eq_true g59)) rfl <| AB rfl <| NL <| run_ret1 Try.func27 rfl (TP (v := .bool _) rfl) ?_
       exact ⟨congrArg Value.bool (by unfold mayB; rw [if_neg (by rw [hJ.2.2.1]; decide)]; rw [if_neg (by omega)]; rw [if_neg (by omega)]; rw [if_neg (by omega)]; unfold mayO; rw [if_neg (by omega)]; rw [if_neg (by omega)]; rw [if_neg (by omega)]; rw [if_neg (by omega)]; rw [if_neg (fun h => by rcases h with h | h | h | h | h; (omega); (omega); (omega); (omega); (rw [g53] at h; cases h))]; rw [if_neg (by omega)]; rw [if_pos (by omega)]; first | exact may_59 (by omega) | exact (decide_eq_false (fun h => by omega)).symm), hst.pure⟩
     refine OM (t := 142) rfl (congrArg Value.bool (decide_eq_false g59)) rfl <| OM (t := 142) rfl (congrArg Value.bool (decide_eq_false g59)) rfl <| OM (t := 142) rfl (congrArg Value.bool (decide_eq_false g59)) rfl <| OM (t := 142) rfl (congrArg Value.bool (decide_eq_false g59)) rfl <| CN <| Op1.pickF (u := .bool _) (congrArg Value.bool (decide_eq_false g59)) rfl <| AB rfl <| NL <| run_ret1 Try.func27 rfl (TP (v := .bool _) rfl) ?_
     exact ⟨congrArg Value.bool (by unfold mayB; rw [if_neg (by rw [hJ.2.2.1]; decide)]; rw [if_neg (by omega)]; rw [if_neg (by omega)]; rw [if_neg (by omega)]; unfold mayO; rw [if_neg (by omega)]; rw [if_neg (by omega)]; rw [if_neg (by omega)]; rw [if_neg (by omega)]; rw [if_neg (fun h => by rcases h with h | h | h | h | h; (omega); (omega); (omega); (omega); (rw [g53] at h; cases h))]; rw [if_neg (by omega)]; rw [if_pos (by omega)]; first | exact may_59 (by omega) | exact (decide_eq_false (fun h => by omega)).symm), hst.pure⟩
   refine run_skip <| SQ <| SR <| MH rfl <| CN <| Op1.eql rfl rfl <| NL <| run_cond_dec rfl (fun g60 => ?_) (fun g60 => ?_)
   · skip
     refine SR <| MH rfl <| CN <| Op1.eql rfl rfl <| MB rfl <| RunL.splitD (d := 152) rfl (fun g61 => ?_) (fun g61 => ?_)
     · skip
       refine OM (t := 152) rfl (congrArg Value.bool (decide_eq_true g61)) rfl <| OM (t := 152) rfl (congrArg Value.bool (decide_eq_true g61)) rfl <| CN <| Op1.pickT (u := .bool _) (congrArg Value.bool (decide_eq_true g61)) rfl <| AB rfl <| NL <| run_ret1 Try.func27 rfl (TP (v := .bool _) rfl) ?_
       exact ⟨congrArg Value.bool (by unfold mayB; rw [if_neg (by rw [hJ.2.2.1]; decide)]; rw [if_neg (by omega)]; rw [if_neg (by omega)]; rw [if_neg (by omega)]; unfold mayO; rw [if_neg (by omega)]; rw [if_neg (by omega)]; rw [if_neg (by omega)]; rw [if_neg (by omega)]; rw [if_neg (fun h => by rcases h with h | h | h | h | h; (omega); (omega); (omega); (omega); (rw [g53] at h; cases h))]; rw [if_neg (by omega)]; rw [if_neg (by omega)]; rw [if_pos (by omega)]; first | exact (decide_eq_true (by omega)).symm | (rw [decide_eq_decide]; omega) | exact (decide_eq_false (by omega)).symm), hst.pure⟩
     refine TK (t := 152) rfl (congrArg Value.bool (decide_eq_false g61)) <| Op1.move (v := .int .u16 _) rfl <| TK (t := 152) rfl (congrArg Value.bool (decide_eq_false g61)) <| Op1.eql rfl rfl <| CN <| Op1.pickF (u := .bool _) (congrArg Value.bool (decide_eq_false g61)) rfl <| AB rfl <| NL <| run_ret1 Try.func27 rfl (TP (v := .bool _) rfl) ?_
     exact ⟨congrArg Value.bool (by unfold mayB; rw [if_neg (by rw [hJ.2.2.1]; decide)]; rw [if_neg (by omega)]; rw [if_neg (by omega)]; rw [if_neg (by omega)]; unfold mayO; rw [if_neg (by omega)]; rw [if_neg (by omega)]; rw [if_neg (by omega)]; rw [if_neg (by omega)]; rw [if_neg (fun h => by rcases h with h | h | h | h | h; (omega); (omega); (omega); (omega); (rw [g53] at h; cases h))]; rw [if_neg (by omega)]; rw [if_neg (by omega)]; rw [if_pos (by omega)]; first | exact (decide_eq_true (by omega)).symm | (rw [decide_eq_decide]; omega) | exact (decide_eq_false (by omega)).symm), hst.pure⟩
   refine run_skip <| SQ <| SR <| MH rfl <| CN <| Op1.eql rfl rfl <| NL <| run_cond_dec rfl (fun g62 => ?_) (fun g62 => ?_)
   · skip
     refine SR <| MH rfl <| CN <| Op1.eql rfl rfl <| MB rfl <| RunL.splitD (d := 160) rfl (fun g63 => ?_) (fun g63 => ?_)
     · skip
       refine OM (t := 160) rfl (congrArg Value.bool (decide_eq_true g63)) rfl <| OM (t := 160) rfl (congrArg Value.bool (decide_eq_true g63)) rfl <| CN <| Op1.pickT (u := .bool _) (congrArg Value.bool (decide_eq_true g63)) rfl <| AB rfl <| NL <| run_ret1 Try.func27 rfl (TP (v := .bool _) rfl) ?_
       exact ⟨congrArg Value.bool (by unfold mayB; rw [if_neg (by rw [hJ.2.2.1]; decide)]; rw [if_neg (by omega)]; rw [if_neg (by omega)]; rw [if_neg (by omega)]; unfold mayO; rw [if_neg (by omega)]; rw [if_neg (by omega)]; rw [if_neg (by omega)]; rw [if_neg (by omega)]; rw [if_neg (fun h => by rcases h with h | h | h | h | h; (omega); (omega); (omega); (omega); (rw [g53] at h; cases h))]; rw [if_neg (by omega)]; rw [if_neg (by omega)]; rw [if_neg (by omega)]; rw [if_pos (by omega)]; first | exact (decide_eq_true (by omega)).symm | (rw [decide_eq_decide]; omega) | exact (decide_eq_false (by omega)).symm), hst.pure⟩
     refine TK (t := 160) rfl (congrArg Value.bool (decide_eq_false g63)) <| Op1.move (v := .int .u16 _) rfl <| TK (t := 160) rfl (congrArg Value.bool (decide_eq_false g63)) <| Op1.eql rfl rfl <| CN <| Op1.pickF (u := .bool _) (congrArg Value.bool (decide_eq_false g63)) rfl <| AB rfl <| NL <| run_ret1 Try.func27 rfl (TP (v := .bool _) rfl) ?_
     exact ⟨congrArg Value.bool (by unfold mayB; rw [if_neg (by rw [hJ.2.2.1]; decide)]; rw [if_neg (by omega)]; rw [if_neg (by omega)]; rw [if_neg (by omega)]; unfold mayO; rw [if_neg (by omega)]; rw [if_neg (by omega)]; rw [if_neg (by omega)]; rw [if_neg (by omega)]; rw [if_neg (fun h => by rcases h with h | h | h | h | h; (omega); (omega); (omega); (omega); (rw [g53] at h; cases h))]; rw [if_neg (by omega)]; rw [if_neg (by omega)]; rw [if_neg (by omega)]; rw [if_pos (by omega)]; first | exact (decide_eq_true (by omega)).symm | (rw [decide_eq_decide]; omega) | exact (decide_eq_false (by omega)).symm), hst.pure⟩
   refine run_skip <| SR <| AB rfl <| NL <| run_ret1 Try.func27 rfl (TP (v := .bool _) rfl) ?_
   exact ⟨congrArg Value.bool (by unfold mayB; rw [if_neg (by rw [hJ.2.2.1]; decide)]; rw [if_neg (by omega)]; rw [if_neg (by omega)]; rw [if_neg (by omega)]; unfold mayO; rw [if_neg (by omega)]; rw [if_neg (by omega)]; rw [if_neg (by omega)]; rw [if_neg (by omega)]; rw [if_neg (fun h => by rcases h with h | h | h | h | h; (omega); (omega); (omega); (omega); (rw [g53] at h; cases h))]; rw [if_neg (by omega)]; rw [if_neg (by omega)]; rw [if_neg (by omega)]; rw [if_neg (by omega)]), hst.pure⟩
 · skip
   refine SQ ?_
   have hP1 : ptA (l.map InstP.L) (k - 1) = ptF (l.getD ((k : Int) - 1).toNat zeroI).L := by rw [ptA_map, show k - 1 = ((k : Int) - 1).toNat by omega]
   refine RG <| MI rfl <| CN <| Op1.gtr rfl rfl <| MB rfl <| RunL.splitD (d := 54) rfl (fun g64 => ?_) (fun g64 => ?_)
   · skip
     refine TK (t := 54) rfl (congrArg Value.bool (decide_eq_true g64)) <| Op1.move (v := .slice _ _ _) rfl <| TK (t := 54) rfl (congrArg Value.bool (decide_eq_true g64)) <| Op1.move (v := .int .i64 _) rfl <| TK (t := 54) rfl (congrArg Value.bool (decide_eq_true g64)) <| Op1.subN rfl rfl rfl (wrap_i64 (by omega) (by omega)) <| TK (t := 54) rfl (congrArg Value.bool (decide_eq_true g64)) <| Op1.indexRs ty23 ty39 (Res.rmod_insts (hst.hD _ (.head _))) rfl rfl (by omega) (by omega) <| TK (t := 54) rfl (congrArg Value.bool (decide_eq_true g64)) <| Op1.loadA (vs := [.int .u16 _, .int .u32 _, .int .u32 _, .slice _ _ _]) ty39 rfl rfl rfl (Res.rs2_cells (m := 4) (Res.rmod_insts (hst.hD _ (.head _))) _ (flat_seg (g := instC) (d := zeroI) instC_len _ _ (by omega))) <| TK (t := 54) rfl (congrArg Value.bool (decide_eq_true g64)) (Op1.call1 (v1 := .agg #[.int .u16 _, .int .u32 _, .int .u32 _, .slice _ _ _]) ent28 rfl rfl ((R5ref5_Part (l.getD ((k : Int) - 1).toNat zeroI) (hkn _ (getD_memD (by omega))) _ (Res.rmod_argsI (hst.hD _ (.head _)) (i := ((k : Int) - 1).toNat) (by omega)) (hla _ (getD_memD (by omega)))).mono fun v w hp => ?_))
     obtain ⟨rfl, hp⟩ := hp
     replace hst := hst.keepc hp
     clear hp
     refine TK (t := 54) rfl (congrArg Value.bool (decide_eq_true g64)) <| Op1.eql rfl rfl <| CN <| Op1.pickT (u := .bool _) (congrArg Value.bool (decide_eq_true g64)) rfl <| NL <| Run.forget [(0, .slice _ _ _), (1, .int .i64 _), (8, .int .u16 _), (9, .int .u16 _), (62, .bool _)] ⟨rfl, rfl, rfl, rfl, rfl, trivial⟩ fun f => run_cond_dec rfl (fun g65 => ?_) (fun g65 => ?_)
     · skip
       refine RG <| ML rfl <| MI rfl <| CN <| Op1.subN rfl rfl rfl (wrap_i64 (by omega) (by omega)) <| CN <| Op1.indexRs ty23 ty39 (Res.rmod_insts (hst.hD _ (.head _))) rfl rfl (by omega) (by omega) <| CN <| Op1.fieldAddr fld39_0 rfl <| CN <| Op1.load1 (v := .int .u16 _) ty33 rfl rfl (Res.rs2_cellF (Res.rmod_insts (hst.hD _ (.head _))) (flat_cell (g := instC) (d := zeroI) instC_len rfl (by omega))) <| AH rfl <| NL ?_
       exact cut38 (()) _ w (hst) (trivial) ⟨rfl, rfl, trivial⟩ ⟨(congrArg (Value.int .u16) hO.symm), (congrArg (Value.int .u16) (by unfold aheadF; rw [if_pos ⟨by omega, by omega⟩, opA_map, show ((k : Int) - 1).toNat = k - 1 by omega])), trivial⟩
     refine run_skip ?_
     exact cut38 (()) _ w (hst) (trivial) ⟨rfl, rfl, trivial⟩ ⟨(congrArg (Value.int .u16) hO.symm), (congrArg (Value.int .u16) (by unfold aheadF; rw [if_neg (by omega)])), trivial⟩
   refine OM (t := 54) rfl (congrArg Value.bool (decide_eq_false g64)) rfl <| OM (t := 54) rfl (congrArg Value.bool (decide_eq_false g64)) rfl <| OM (t := 54) rfl (congrArg Value.bool (decide_eq_false g64)) rfl <| OM (t := 54) rfl (congrArg Value.bool (decide_eq_false g64)) rfl <| OM (t := 54) rfl (congrArg Value.bool (decide_eq_false g64)) rfl <| OM (t := 54) rfl (congrArg Value.bool (decide_eq_false g64)) rfl <| OM (t := 54) rfl (congrArg Value.bool (decide_eq_false g64)) rfl <| CN <| Op1.pickF (u := .bool _) (congrArg Value.bool (decide_eq_false g64)) rfl <| NL <| Run.forget [(0, .slice _ _ _), (1, .int .i64 _), (8, .int .u16 _), (9, .int .u16 _), (62, .bool _)] ⟨rfl, rfl, rfl, rfl, rfl, trivial⟩ fun f => run_cond_false (congrArg Value.bool (rfl : false = _)) <| run_skip ?_
   exact cut38 (()) _ w (hst) (trivial) ⟨rfl, rfl, trivial⟩ ⟨(congrArg (Value.int .u16) hO.symm), (congrArg (Value.int .u16) (by unfold aheadF; rw [if_neg (by omega)])), trivial⟩
end Go.SK
namespace Go.SK
open Go Go.Proofs
theorem ent26 : Enters Try.prog 26 := ⟨Try.f26, _, Try.func26, by kernel_rfl, rfl⟩
theorem ent27 : Enters Try.prog 27 := ⟨Try.f27, _, Try.func27, by kernel_rfl, rfl⟩
end Go.SK
namespace Go.SK
open Go Go.Proofs
open Go.RowKit
theorem R5ref5_Check (ga ba : Int) (l : List InstP) (ao : Option Addr) (cp : Nat) (w : World) (hA : (Res.rmod ao l).holds w) (hs : Small l) : Ret Try.prog 11 #[.agg #[.int .u32 ga, .int .u32 ba, .slice ao l.length cp]] w (fun v w' => v = .agg #[.int .i64 (checkF ba (l.map InstP.L)).1, .int .i64 (checkF ba (l.map InstP.L)).2] ∧ St w NoM [] [] w') := by
 refine Ret.enter (args := [.agg #[.int .u32 ga, .int .u32 ba, .slice ao l.length cp]]) Try.func11 rfl rfl rfl ?_
 have hst : St w NoM [] [Res.rmod ao l] w := St.init_D hA
 clear hA
 obtain ⟨se, sa, hS⟩ : ∃ se sa, shapeF ba (l.map InstP.L) = (se, sa) := ⟨_, _, rfl⟩
 have hL : (l.map InstP.L).length = l.length := List.length_map _
 have hl := hs.len
 have hla := hs.la9
 refine SR <| CN <| Op1.box (v := .agg #[.int .u32 _, .int .u32 _, .slice _ _ _]) hst rfl rfl fun w b1 hst => CN <| Op1.alloc hst ty29 fun w b2 hst => NSR <| CN <| Op1.loadA (vs := [.int .u32 _, .int .u32 _, .slice _ _ _]) ty25 rfl rfl rfl (cells_of_obj (n := 3) (hst.objL (.tail _ (.head _))) _ rfl) <| CN <| Op1.call1 (v1 := .agg #[.int .u32 _, .int .u32 _, .slice _ _ _]) ent26 rfl rfl <| Ret.det (R5ref4_Shape2 ga ba l _ _ hS _ (hst.hD _ (.head _)) hs.len hs.op hs.sum hs.txt) hst fun w hst => CN <| Op1.alloc hst ty29 fun w b3 hst => CN (SO (v := .agg #[.int .i64 _, .int .i64 _]) hst ty29 rfl rfl (.here) fun w hst => ?_)
 refine NL <| SQ <| SR <| CN <| Op1.fieldAddr fld29_0 rfl <| CN <| Op1.load1 (v := .int .i64 _) ty27 rfl rfl (hst.cellL (.head _) rfl) <| CN <| Op1.neq rfl rfl <| NL <| run_cond_dec rfl (fun g1 => ?_) (fun g1 => ?_)
 · skip
   refine SR <| CN <| Op1.loadA (vs := [.int .i64 _, .int .i64 _]) ty29 rfl rfl rfl (cells_of_obj (n := 2) (hst.objL (.head _)) _ rfl) <| CN (SO (v := .agg #[.int .i64 _, .int .i64 _]) hst ty29 rfl rfl (.there (.here)) fun w hst => ?_)
   refine NL <| run_ret1 Try.func11 rfl (RV.cellA (vs := [.int .i64 _, .int .i64 _]) rfl ty29 rfl rfl (cells_of_obj (n := 2) (hst.objL (.tail _ (.head _))) _ rfl)) ?_
   have hC := check_shape (bd := ba) (l := (l.map InstP.L)) (by rw [hS]; exact g1)
   rw [hC, hS]
   exact ⟨rfl, hst.pure⟩
 have hS0 : (shapeF ba (l.map InstP.L)).1 = 0 := by rw [hS]; exact Classical.not_not.1 g1
 have hkn := shape_known hS0
 have hkm := known_map hkn
 refine run_skip <| SR <| CN <| Op1.fieldAddr fld25_2 rfl <| CN <| Op1.load1 (v := .slice _ _ _) ty23 rfl rfl (hst.cellL (.tail _ (.tail _ (.head _))) rfl) <| AL rfl <| NSR <| AI rfl <| NL <| SQ <| SR <| AI rfl ?_
 refine NL <| run_block <| run_loop <| Run.indW [(2, .pointer (some ⟨_, _, none⟩)), (4, .slice _ _ _)] ⟨rfl, rfl, trivial⟩ (fun (q : Nat × Nat) => [(5, .int .i64 (q.2 : Int)), (6, .int .i64 (q.1 : Int))]) (fun (q : Nat × Nat) => []) (fun (q : Nat × Nat) => q.1 ≤ l.length ∧ cnt1 (l.map InstP.L) q.1 = q.2 ∧ q.2 ≤ q.1 ∧ ∃ S, dfaF ((l.map InstP.L).take q.1) = some S) (fun (q : Nat × Nat) => l.length - q.1) ((0, 0)) hst ⟨Nat.zero_le _, rfl, Nat.le_refl _, _, by rw [List.take_zero]; rfl⟩ ⟨rfl, rfl, trivial⟩ ?_
 intro ⟨n, c⟩ f w hst hJ ih2
 replace hst : St _ _ ([] ++ [_, _, _]) _ _ := hst
 replace hJ : n ≤ l.length ∧ cnt1 (l.map InstP.L) n = c ∧ c ≤ n ∧ ∃ S, dfaF ((l.map InstP.L).take n) = some S := hJ
 refine Run.slots (sl := [(5, .int .i64 (c : Int)), (6, .int .i64 (n : Int))]) ⟨rfl, rfl, trivial⟩ <| SQ <| SR <| MI rfl <| ML rfl <| CN <| Op1.lenSl (rest := []) ty23 rfl <| CN <| Op1.lss rfl rfl <| NL <| run_cond_dec rfl (fun g3 => ?_) (fun g3 => ?_)
 · skip
   obtain ⟨S, hSd⟩ := hJ.2.2.2
   have hPn := ptA_map l n
   have hc1 := cnt1_step (l := (l.map InstP.L)) (k := n) (by omega)
   refine run_skip <| SQ <| run_block <| SQ <| SR <| ML rfl <| MI rfl <| CN <| Op1.call2 (v1 := .slice _ _ _) (v2 := .int .i64 _) ent27 rfl rfl rfl <| Ret.det (R5ref5_May l ao cp n hSd _ (by omega) (hst.hD _ (.head _)) hl hla hkn) hst fun w hst => CN <| Op1.not rfl <| NL <| run_cond_split rfl (fun g4 => ?_) (fun g4 => ?_)
   · skip
     refine SR <| MI rfl <| CN (Op1.buildStruct ty29 stf29 (.c (v := .int .i64 _) rfl (h := (.c (v := .int .i64 _) rfl (h := .nil)))) ?_)
     refine CN (SO (v := .agg #[.int .i64 _, .int .i64 _]) hst ty29 rfl rfl (.there (.here)) fun w hst => ?_)
     refine NL <| run_ret1 Try.func11 rfl (RV.cellA (vs := [.int .i64 _, .int .i64 _]) rfl ty29 rfl rfl (cells_of_obj (n := 2) (hst.objL (.tail _ (.head _))) _ rfl)) ?_
     have hC := check_order hS0
     rw [hC, may_no hkm (by omega) hSd (by simpa using g4)]
     exact ⟨rfl, hst.pure⟩
   refine run_skip <| SR <| ML rfl <| MI rfl <| CN <| Op1.indexRs ty23 ty39 (Res.rmod_insts (hst.hD _ (.head _))) rfl rfl (by omega) (by omega) <| CN <| Op1.loadA (vs := [.int .u16 _, .int .u32 _, .int .u32 _, .slice _ _ _]) ty39 rfl rfl rfl (Res.rs2_cells (m := 4) (Res.rmod_insts (hst.hD _ (.head _))) _ (flat_seg (g := instC) (d := zeroI) instC_len _ _ (by omega))) <| CN <| Op1.call1 (v1 := .agg #[.int .u16 _, .int .u32 _, .int .u32 _, .slice _ _ _]) ent28 rfl rfl <| Ret.det (R5ref5_Part (l.getD n zeroI) (hkn _ (getD_memD (by omega))) _ (Res.rmod_argsI (hst.hD _ (.head _)) (i := n) (by omega)) (hla _ (getD_memD (by omega)))) hst fun w hst => CN <| Op1.eql rfl rfl <| NL <| run_cond_dec rfl (fun g5 => ?_) (fun g5 => ?_)
   · skip
     refine RG <| MI rfl <| CN <| Op1.addN rfl rfl rfl (wrap_i64 (by omega) (by omega)) <| AI rfl <| NL <| run_inBlock <| RG <| MI rfl <| CN <| Op1.addN rfl rfl rfl (wrap_i64 (by omega) (by omega)) <| AI rfl <| NL <| run_inLoop ?_
     exact ih2 ((n + 1, c + 1)) _ w (by (try dsimp only); omega) hst (⟨by (try dsimp only); omega, by (try dsimp only); rw [hc1, hJ.2.1, if_pos (by omega)], by (try dsimp only); omega, may_yes hkm (by omega) hSd (by simpa using g4)⟩) ⟨rfl, rfl, trivial⟩ ⟨(congrArg (Value.int .i64) (by first | rfl | omega | (dsimp only; omega))), (congrArg (Value.int .i64) (by (try dsimp only); omega)), trivial⟩
   refine run_skip <| run_inBlock <| RG <| MI rfl <| CN <| Op1.addN rfl rfl rfl (wrap_i64 (by omega) (by omega)) <| AI rfl <| NL <| run_inLoop ?_
   exact ih2 ((n + 1, c)) _ w (by (try dsimp only); omega) hst (⟨by (try dsimp only); omega, by (try dsimp only); rw [hc1, hJ.2.1, if_neg (by omega)] <;> exact Nat.add_zero c, by (try dsimp only); omega, may_yes hkm (by omega) hSd (by simpa using g4)⟩) ⟨rfl, rfl, trivial⟩ ⟨(congrArg (Value.int .i64) (by first | rfl | omega | (dsimp only; omega))), (congrArg (Value.int .i64) (by (try dsimp only); omega)), trivial⟩
 obtain rfl : l.length = n := by omega
 obtain ⟨S, hSd⟩ := hJ.2.2.2
 have hend := order_end hkm (S := S) (by rw [hL]; exact hSd)
 rw [hL] at hend
 refine run_exit (id := 0) rfl <| SQ <| SQ ?_
 have hPl : ptA (l.map InstP.L) (l.length - 1) = ptF (l.getD ((l.length : Int) - 1).toNat zeroI).L := by rw [ptA_map, show l.length - 1 = ((l.length : Int) - 1).toNat by omega]
 have hOl : opA (l.map InstP.L) (l.length - 1) = (l.getD ((l.length : Int) - 1).toNat zeroI).op := by rw [opA_map, show l.length - 1 = ((l.length : Int) - 1).toNat by omega]
 refine RG <| MI rfl <| CN <| Op1.eql rfl rfl <| MB rfl <| RunL.splitD (d := 37) rfl (fun g6 => ?_) (fun g6 => ?_)
 · skip
   refine OM (t := 37) rfl (congrArg Value.bool (decide_eq_true g6)) rfl <| OM (t := 37) rfl (congrArg Value.bool (decide_eq_true g6)) rfl <| OM (t := 37) rfl (congrArg Value.bool (decide_eq_true g6)) rfl <| OM (t := 37) rfl (congrArg Value.bool (decide_eq_true g6)) rfl <| OM (t := 37) rfl (congrArg Value.bool (decide_eq_true g6)) rfl <| OM (t := 37) rfl (congrArg Value.bool (decide_eq_true g6)) rfl <| OM (t := 37) rfl (congrArg Value.bool (decide_eq_true g6)) rfl <| OM (t := 37) rfl (congrArg Value.bool (decide_eq_true g6)) rfl <| OM (t := 37) rfl (congrArg Value.bool (decide_eq_true g6)) rfl <| RunL.omitU (t := 46) rfl rfl <| RunL.omitU (t := 46) rfl rfl <| RunL.omitU (t := 46) rfl rfl <| RunL.omitU (t := 46) rfl rfl <| RunL.omitU (t := 46) rfl rfl <| RunL.omitU (t := 46) rfl rfl ?_
   refine RunL.omitU (t := 46) rfl rfl <| RunL.omitU (t := 46) rfl rfl <| OM (t := 37) rfl (congrArg Value.bool (decide_eq_true g6)) rfl <| CN <| Op1.pickT (u := .bool _) (congrArg Value.bool (decide_eq_true g6)) rfl <| NL <| run_cond_true (congrArg Value.bool (rfl : true = _)) <| SR <| ML rfl <| CN <| Op1.lenSl (rest := []) ty23 rfl <| CN (Op1.buildStruct ty29 stf29 (.c (v := .int .i64 _) rfl (h := (.c (v := .int .i64 _) rfl (h := .nil)))) ?_)
   refine CN (SO (v := .agg #[.int .i64 _, .int .i64 _]) hst ty29 rfl rfl (.there (.here)) fun w hst => ?_)
   refine NL <| run_ret1 Try.func11 rfl (RV.cellA (vs := [.int .i64 _, .int .i64 _]) rfl ty29 rfl rfl (cells_of_obj (n := 2) (hst.objL (.tail _ (.head _))) _ rfl)) ?_
   have hC := check_order hS0
   rw [hC, hend.1 (by omega)]
   exact ⟨rfl, hst.pure⟩
 refine TK (t := 37) rfl (congrArg Value.bool (decide_eq_false g6)) <| Op1.move (v := .slice _ _ _) rfl <| TK (t := 37) rfl (congrArg Value.bool (decide_eq_false g6)) <| Op1.move (v := .slice _ _ _) rfl <| TK (t := 37) rfl (congrArg Value.bool (decide_eq_false g6)) <| Op1.lenSl (rest := []) ty23 rfl <| TK (t := 37) rfl (congrArg Value.bool (decide_eq_false g6)) <| Op1.subN rfl rfl rfl (wrap_i64 (by omega) (by omega)) <| TK (t := 37) rfl (congrArg Value.bool (decide_eq_false g6)) <| Op1.indexRs ty23 ty39 (Res.rmod_insts (hst.hD _ (.head _))) rfl rfl (by omega) (by omega) <| TK (t := 37) rfl (congrArg Value.bool (decide_eq_false g6)) <| Op1.loadA (vs := [.int .u16 _, .int .u32 _, .int .u32 _, .slice _ _ _]) ty39 rfl rfl rfl (Res.rs2_cells (m := 4) (Res.rmod_insts (hst.hD _ (.head _))) _ (flat_seg (g := instC) (d := zeroI) instC_len _ _ (by omega))) <| TK (t := 37) rfl (congrArg Value.bool (decide_eq_false g6)) (Op1.call1 (v1 := .agg #[.int .u16 _, .int .u32 _, .int .u32 _, .slice _ _ _]) ent28 rfl rfl ((R5ref5_Part (l.getD ((l.length : Int) - 1).toNat zeroI) (hkn _ (getD_memD (by omega))) _ (Res.rmod_argsI (hst.hD _ (.head _)) (i := ((l.length : Int) - 1).toNat) (by omega)) (hla _ (getD_memD (by omega)))).mono fun v w hp => ?_))
 obtain ⟨rfl, hp⟩ := hp
 replace hst := hst.keepc hp
 clear hp
 refine TK (t := 37) rfl (congrArg Value.bool (decide_eq_false g6)) <| Op1.eql rfl rfl <| TK (t := 37) rfl (congrArg Value.bool (decide_eq_false g6)) <| Op1.move (v := .bool _) rfl <| RunL.splitD (d := 46) rfl (fun g7 => ?_) (fun g7 => ?_)
 · skip
   refine TK (t := 46) rfl (congrArg Value.bool (decide_eq_true g7)) <| Op1.move (v := .slice _ _ _) rfl <| TK (t := 46) rfl (congrArg Value.bool (decide_eq_true g7)) <| Op1.move (v := .slice _ _ _) rfl <| TK (t := 46) rfl (congrArg Value.bool (decide_eq_true g7)) <| Op1.lenSl (rest := []) ty23 rfl <| TK (t := 46) rfl (congrArg Value.bool (decide_eq_true g7)) <| Op1.subN rfl rfl rfl (wrap_i64 (by omega) (by omega)) <| TK (t := 46) rfl (congrArg Value.bool (decide_eq_true g7)) <| Op1.indexRs ty23 ty39 (Res.rmod_insts (hst.hD _ (.head _))) rfl rfl (by omega) (by omega) <| TK (t := 46) rfl (congrArg Value.bool (decide_eq_true g7)) <| Op1.fieldAddr fld39_0 rfl <| TK (t := 46) rfl (congrArg Value.bool (decide_eq_true g7)) <| Op1.load1 (v := .int .u16 _) ty33 rfl rfl (Res.rs2_cellF (Res.rmod_insts (hst.hD _ (.head _))) (flat_cell (g := instC) (d := zeroI) instC_len rfl (by omega))) <| TK (t := 46) rfl (congrArg Value.bool (decide_eq_true g7)) <| Op1.neq rfl rfl <| TK (t := 37) rfl (congrArg Value.bool (decide_eq_false g6)) <| Op1.pickT (u := .bool _) (congrArg Value.bool (decide_eq_true g7)) rfl <| CN <| Op1.pickF (u := .bool _) (congrArg Value.bool (decide_eq_false g6)) rfl <| NL <| Run.forget [(2, .pointer (some ⟨_, _, none⟩)), (4, .slice _ _ _), (56, .bool _)] ⟨rfl, rfl, rfl, trivial⟩ fun f => run_cond_dec rfl (fun g8 => ?_) (fun g8 => ?_)
   · skip
     refine SR <| ML rfl <| CN <| Op1.lenSl (rest := []) ty23 rfl <| CN (Op1.buildStruct ty29 stf29 (.c (v := .int .i64 _) rfl (h := (.c (v := .int .i64 _) rfl (h := .nil)))) ?_)
     refine CN (SO (v := .agg #[.int .i64 _, .int .i64 _]) hst ty29 rfl rfl (.there (.here)) fun w hst => ?_)
     refine NL <| run_ret1 Try.func11 rfl (RV.cellA (vs := [.int .i64 _, .int .i64 _]) rfl ty29 rfl rfl (cells_of_obj (n := 2) (hst.objL (.tail _ (.head _))) _ rfl)) ?_
     have hC := check_order hS0
     rw [hC, hend.1 (by omega)]
     exact ⟨rfl, hst.pure⟩
   refine run_skip <| SR <| CN (Op1.buildStruct ty29 stf29 .nil ?_)
   refine CN (SO (v := .agg #[.int .i64 _, .int .i64 _]) hst ty29 rfl rfl (.there (.here)) fun w hst => ?_)
   refine NL <| run_ret1 Try.func11 rfl (RV.cellA (vs := [.int .i64 _, .int .i64 _]) rfl ty29 rfl rfl (cells_of_obj (n := 2) (hst.objL (.tail _ (.head _))) _ rfl)) ?_
   have hC := check_order hS0
   rw [hC, hend.2 (by omega)]
   exact ⟨rfl, hst.pure⟩
 refine OM (t := 46) rfl (congrArg Value.bool (decide_eq_false g7)) rfl <| OM (t := 46) rfl (congrArg Value.bool (decide_eq_false g7)) rfl <| OM (t := 46) rfl (congrArg Value.bool (decide_eq_false g7)) rfl <| OM (t := 46) rfl (congrArg Value.bool (decide_eq_false g7)) rfl <| OM (t := 46) rfl (congrArg Value.bool (decide_eq_false g7)) rfl <| OM (t := 46) rfl (congrArg Value.bool (decide_eq_false g7)) rfl <| OM (t := 46) rfl (congrArg Value.bool (decide_eq_false g7)) rfl <| OM (t := 46) rfl (congrArg Value.bool (decide_eq_false g7)) rfl <| TK (t := 37) rfl (congrArg Value.bool (decide_eq_false g6)) <| Op1.pickF (u := .bool _) (congrArg Value.bool (decide_eq_false g7)) rfl <| CN <| Op1.pickF (u := .bool _) (congrArg Value.bool (decide_eq_false g6)) rfl <| NL <| run_cond_false (congrArg Value.bool (rfl : false = _)) <| run_skip <| SQ <| RG ?_
 refine CN (Op1.buildStruct ty29 stf29 .nil ?_)
 refine CN (SO (v := .agg #[.int .i64 _, .int .i64 _]) hst ty29 rfl rfl (.there (.here)) fun w hst => ?_)
 refine NL <| run_ret1 Try.func11 rfl (RV.cellA (vs := [.int .i64 _, .int .i64 _]) rfl ty29 rfl rfl (cells_of_obj (n := 2) (hst.objL (.tail _ (.head _))) _ rfl)) ?_
 have hC := check_order hS0
 rw [hC, hend.2 (by omega)]
 exact ⟨rfl, hst.pure⟩
end Go.SK
namespace Go.SK
open Go Go.Proofs
theorem ent11 : Enters Try.prog 11 := ⟨Try.f11, _, Try.func11, by kernel_rfl, rfl⟩
end Go.SK
namespace Go.SK
def cntL (l : List InstL) (p : Int) (k : Nat) : Nat := ((l.take k).filter fun i => decide (ptF i < p)).length
def cntE (l : List InstL) (p : Int) (k : Nat) : Nat := ((l.take k).filter fun i => decide (ptF i = p)).length
theorem cnt_step2 {l : List InstL} {q : InstL → Bool} {k : Nat} (h : k < l.length) : ((l.take (k + 1)).filter q).length = ((l.take k).filter q).length + (if q (l.getD k zeroIL) = true then 1 else 0) := by
  rw [take_getD2 (d := zeroIL) h, List.filter_append, List.length_append]
  congr 1
  cases e : q (l.getD k zeroIL)
  · rw [List.filter_cons_of_neg (by rw [e]; decide)]; rfl
  · rw [List.filter_cons_of_pos e]; rfl
theorem cntL_step {l : List InstL} {p : Int} {k : Nat} (h : k < l.length) : cntL l p (k + 1) = cntL l p k + (if ptA l k < p then 1 else 0) := by
  unfold cntL; rw [cnt_step2 h]
  congr 1
  by_cases e : ptA l k < p
  · rw [if_pos e, if_pos (decide_eq_true (show ptF (l.getD k zeroIL) < p from e))]
  · rw [if_neg e, if_neg (fun h => e (show ptF (l.getD k zeroIL) < p from of_decide_eq_true h))]
theorem cntE_step {l : List InstL} {p : Int} {k : Nat} (h : k < l.length) : cntE l p (k + 1) = cntE l p k + (if ptA l k = p then 1 else 0) := by
  unfold cntE; rw [cnt_step2 h]
  congr 1
  by_cases e : ptA l k = p
  · rw [if_pos e, if_pos (decide_eq_true (show ptF (l.getD k zeroIL) = p from e))]
  · rw [if_neg e, if_neg (fun h => e (show ptF (l.getD k zeroIL) = p from of_decide_eq_true h))]
theorem cntL_of {l : List InstL} {p : Int} {a : Nat} (ha : a ≤ l.length) (h1 : ∀ j, j < a → ptA l j < p) (h2 : ∀ j, a ≤ j → j < l.length → ¬ ptA l j < p) : cntL l p l.length = a := by
  have key : ∀ k, k ≤ l.length → cntL l p k = min k a := by
    intro k
    induction k with
    | zero => intro _; simp [cntL]
    | succ k ih =>
      intro hk
      rw [cntL_step (by omega), ih (by omega)]
      by_cases e : k < a
      · rw [if_pos (h1 k e)]; omega
      · rw [if_neg (h2 k (by omega) (by omega))]; omega
  rw [key _ (Nat.le_refl _)]; omega
theorem cntE_of {l : List InstL} {p : Int} {a b : Nat} (hab : a ≤ b) (hb : b ≤ l.length) (h1 : ∀ j, a ≤ j → j < b → ptA l j = p) (h2 : ∀ j, j < l.length → ¬ (a ≤ j ∧ j < b) → ptA l j ≠ p) : cntE l p l.length = b - a := by
  have key : ∀ k, k ≤ l.length → cntE l p k = min k b - min k a := by
    intro k
    induction k with
    | zero => intro _; simp [cntE]
    | succ k ih =>
      intro hk
      rw [cntE_step (by omega), ih (by omega)]
      by_cases e : a ≤ k ∧ k < b
      · rw [if_pos (h1 k e.1 e.2)]; omega
      · rw [if_neg (h2 k (by omega) e)]; omega
  rw [key _ (Nat.le_refl _)]; omega
theorem fun_all {l : List InstL} {k : Nat} {S : LS} (hd : dfaF (l.take k) = some S) (hS : ∀ p, S ≠ .top p) : ∀ j, k + j ≤ l.length → (∃ S', dfaF (l.take l.length) = some S') → (∃ S', dfaF (l.take (k + j)) = some S' ∧ ∀ p, S' ≠ .top p) ∧ ∀ i, k ≤ i → i < k + j → ptA l i = 8 := by
  intro j
  induction j with
  | zero => intro _ _; exact ⟨⟨S, hd, hS⟩, fun i h1 h2 => absurd h2 (by omega)⟩
  | succ j ih =>
    intro hj hex
    obtain ⟨⟨S1, hd1, hS1⟩, hall⟩ := ih (by omega) hex
    obtain ⟨SE, hE⟩ := hex
    obtain ⟨S2, hd2⟩ := dfa_prefix (Nat.le_refl _) hE hj
    have hst : stepO S1 (l.getD (k + j) zeroIL) = some S2 := by
      have := dfa_next (show k + j < l.length by omega) hd1
      rw [show k + (j + 1) = k + j + 1 by omega] at hd2
      rw [← this]; exact hd2
    have h8 : ptA l (k + j) = 8 ∧ ∀ p, S2 ≠ .top p := by
      have hP : ptA l (k + j) = ptF (l.getD (k + j) zeroIL) := rfl
      rw [hP]
      generalize l.getD (k + j) zeroIL = i at *
      have hk9 : kdF i ≠ 9 → ptF i = 8 := kd_in
      cases S1 with
      | top p => exact absurd rfl (hS1 p)
      | fn =>
        unfold stepO at hst; dsimp only at hst
        split at hst
        · cases hst; exact ⟨hk9 (by omega), fun p e => by cases e⟩
        · split at hst
          · cases hst; exact ⟨hk9 (by omega), fun p e => by cases e⟩
          · cases hst
      | blk f =>
        have hc : ∃ c : Int, (if f = true then (5 : Int) else 4) = c ∧ (c = 5 ∨ c = 4) := by cases f; (exact ⟨4, rfl, .inr rfl⟩); (exact ⟨5, rfl, .inl rfl⟩)
        obtain ⟨c, hc1, hc2⟩ := hc
        unfold stepO at hst; dsimp only at hst
        rw [hc1] at hst
        split at hst
        · cases hst; exact ⟨hk9 (by omega), fun p e => by cases e⟩
        · split at hst
          · cases hst; exact ⟨hk9 (by omega), fun p e => by cases e⟩
          · split at hst
            · cases hst; exact ⟨hk9 (by omega), fun p e => by cases e⟩
            · split at hst
              · cases hst; exact ⟨hk9 (by omega), fun p e => by cases e⟩
              · cases hst
      | pl =>
        unfold stepO at hst; dsimp only at hst
        split at hst
        · cases hst; exact ⟨hk9 (by omega), fun p e => by cases e⟩
        · split at hst
          · cases hst; exact ⟨hk9 (by omega), fun p e => by cases e⟩
          · split at hst
            · cases hst; exact ⟨hk9 (by omega), fun p e => by cases e⟩
            · cases hst
      | mg o =>
        unfold stepO at hst; dsimp only at hst
        split at hst
        · rename_i h; cases hst; have := h.1; exact ⟨hk9 (by omega), fun p e => by cases e⟩
        · cases hst
      | en =>
        unfold stepO at hst; dsimp only at hst
        split at hst
        · cases hst; exact ⟨hk9 (by omega), fun p e => by cases e⟩
        · split at hst
          · cases hst; exact ⟨hk9 (by omega), fun p e => by cases e⟩
          · cases hst
      | zz =>
        unfold stepO at hst; dsimp only at hst
        split at hst
        · cases hst; exact ⟨hk9 (by omega), fun p e => by cases e⟩
        · cases hst
    refine ⟨⟨S2, hd2, h8.2⟩, fun i h1 h2 => ?_⟩
    by_cases e : i = k + j
    · rw [e]; exact h8.1
    · exact hall i h1 (by omega)
theorem behind_top {l : List InstL} (hkn : ∀ i ∈ l, i.Known) (h : topA l 2 ≠ topA l 1) (ho : orderF l = (0, 0)) : ∀ j, topA l 8 ≤ j → j < l.length → ptA l j = 8 := by
  obtain ⟨q, q1, hd, hs⟩ := top_some hkn h
  intro j h1 h2
  have hlt : topA l 8 < l.length := by omega
  have hex := order_some (l := l) (by rw [ho]; decide)
  obtain ⟨SE, hE⟩ := hex
  obtain ⟨S2, hd2⟩ := dfa_prefix (Nat.le_refl _) hE (show topA l 8 + 1 ≤ l.length by omega)
  have hn := dfa_next hlt hd
  have hk1 : kdF (l.getD (topA l 8) zeroIL) = 1 := Classical.byContradiction fun e => by
    rw [hn, (hs hlt).1 e] at hd2; cases hd2
  have hS2 : S2 = .fn := by
    rw [hn, (hs hlt).2 hk1] at hd2; cases hd2; rfl
  subst hS2
  have := (fun_all hd2 (fun p e => by cases e) (l.length - (topA l 8 + 1)) (by omega) ⟨SE, hE⟩).2
  by_cases e : j = topA l 8
  · rw [e]; exact kd_in (by omega)
  · exact this j (by omega) (by omega)
theorem in_part {l : List InstL} {p j : Nat} (h1 : topA l p ≤ j) (h2 : j < topA l (p + 1)) : ptA l j = (p : Int) := by
  have := topN_all h1 h2
  rw [atP_iff] at this; exact this.2
theorem part_of {l : List InstL} : ∀ {p j : Nat}, j < topA l p → ∃ q, q < p ∧ topA l q ≤ j ∧ j < topA l (q + 1)
  | 0, j, h => absurd h (Nat.not_lt_zero _)
  | p + 1, j, h => by
    by_cases e : j < topA l p
    · obtain ⟨q, h1, h2, h3⟩ := part_of e
      exact ⟨q, by omega, h2, h3⟩
    · exact ⟨p, by omega, by omega, h⟩
theorem topA_up {l : List InstL} {p q : Nat} (h : p ≤ q) : topA l p ≤ topA l q := by
  induction q with
  | zero => rw [show p = 0 by omega]; exact Nat.le_refl _
  | succ q ih =>
    by_cases e : p = q + 1
    · rw [e]; exact Nat.le_refl _
    · exact Nat.le_trans (ih (by omega)) (topA_mono q)
theorem parts_at {l : List InstL} (hkn : ∀ i ∈ l, i.Known) (h : topA l 2 ≠ topA l 1) (ho : orderF l = (0, 0)) {p : Nat} (hp : p ≤ 8) : cntL l (p : Int) l.length = topA l p := by
  refine cntL_of (topA_le p) (fun j hj => ?_) (fun j h1 h2 => ?_)
  · obtain ⟨q, q1, q2, q3⟩ := part_of hj
    rw [in_part q2 q3]; omega
  · by_cases e : j < topA l 8
    · obtain ⟨q, q1, q2, q3⟩ := part_of e
      rw [in_part q2 q3]
      intro hc
      have hq : q < p := by omega
      have := topA_up (l := l) (show q + 1 ≤ p by omega)
      omega
    · rw [behind_top hkn h ho j (by omega) h2]; omega
theorem part_len {l : List InstL} (hkn : ∀ i ∈ l, i.Known) (h : topA l 2 ≠ topA l 1) (ho : orderF l = (0, 0)) {p : Nat} (hp : p < 8) : topA l p + cntE l (p : Int) l.length = topA l (p + 1) := by
  have hm := topA_mono (l := l) p
  rw [cntE_of hm (topA_le (p + 1)) (fun j h1 h2 => in_part h1 h2) (fun j h1 h2 => ?_)]
  · omega
  · by_cases e : j < topA l 8
    · obtain ⟨q, q1, q2, q3⟩ := part_of e
      rw [in_part q2 q3]
      intro hc
      have hq : q = p := by omega
      subst hq
      exact h2 ⟨q2, q3⟩
    · rw [behind_top hkn h ho j (by omega) h1]; omega
theorem part_8 {l : List InstL} (hkn : ∀ i ∈ l, i.Known) (h : topA l 2 ≠ topA l 1) (ho : orderF l = (0, 0)) : topA l 8 + cntE l 8 l.length = l.length := by
  rw [cntE_of (topA_le 8) (Nat.le_refl _) (fun j h1 h2 => behind_top hkn h ho j h1 h2) (fun j h1 h2 => ?_)]
  · have := topA_le (l := l) 8; omega
  · have e : j < topA l 8 := by omega
    obtain ⟨q, q1, q2, q3⟩ := part_of e
    rw [in_part q2 q3]; omega
theorem part_9 {l : List InstL} (hkn : ∀ i ∈ l, i.Known) : cntL l 9 l.length = l.length ∧ cntE l 9 l.length = 0 := by
  have hle : ∀ j, j < l.length → ptA l j ≤ 8 := fun j hj => (pt_le (hkn _ (getD_memD (d := zeroIL) hj))).2
  refine ⟨cntL_of (Nat.le_refl _) (fun j hj => by have := hle j hj; omega) (fun j h1 h2 => absurd h2 (by omega)), ?_⟩
  have := cntE_of (l := l) (p := 9) (a := 0) (b := 0) (Nat.le_refl _) (Nat.zero_le _) (fun j h1 h2 => absurd h2 (by omega)) (fun j h1 _ => by have := hle j h1; omega)
  simpa using this
end Go.SK
namespace Go.SK
open Go.RowKit Go.ChangeShapes Go.WideShapes Go.ChangeAt
theorem top_ne {l : List InstL} (hkn : ∀ i ∈ l, i.Known) (ho : orderF l = (0, 0)) : topA l 2 ≠ topA l 1 := fun e => by
  have h := (top_none hkn e).order
  rw [ho] at h
  injection h with h1 _
  split at h1 <;> cases h1
theorem check_good {bd : Int} {l : List InstL} (h : (checkF bd l).1 = 0) : (shapeF bd l).1 = 0 ∧ orderF l = checkF bd l := by
  have hs : (shapeF bd l).1 = 0 := Classical.byContradiction fun e => by rw [check_shape e] at h; exact e h
  exact ⟨hs, (check_order hs).symm⟩
theorem scan_zero {l : List InstL} : ∀ (n k : Nat) (S : LS), (scanF l n k S).1 = 0 → scanF l n k S = (0, 0)
  | 0, k, S, h => by
    rw [scanF] at h ⊢
    split at h
    · rename_i h1; rw [if_pos h1]
    · cases h
  | n + 1, k, S, h => by
    rw [scanF] at h ⊢
    cases hs : stepO S (l.getD k zeroIL) with
    | none => rw [hs] at h; cases h
    | some S2 => rw [hs] at h; exact scan_zero n (k + 1) S2 h
theorem order_zero {l : List InstL} (h : (orderF l).1 = 0) : orderF l = (0, 0) := scan_zero _ _ _ h
section
variable {P : Program} {ty : TypeId} {ρ : Operand → Value} {w : World} {C : Value → World → Prop} {T T2 : TypeId} {x y : Operand} {sz bytes : Nat} {zs : List Value} {e : TypeId}
theorem equal_nn (hT : TyF P T (.pointer e) sz bytes zs) : (Op.equal T (.pointer none) (.pointer none)).run P w = .ok true w := by
  show (Op.equalIn (9999 + 1) T (.pointer none) (.pointer none)).run P w = _
  rw [Op.equalIn]
  simp [Sem.run_bind, hT.run_und, Result.andThen]
theorem Op1.eqlNN (hT : TyF P T (.pointer e) sz bytes zs) (hx : ρ x = .pointer none) (hy : ρ y = .pointer none) (h : C (.bool true) w) : Op1 P (.binOp .eql T x y T2) ty ρ w C := by
  refine Op1.of (v := .bool true) (w' := w) ?_ h
  simp only [execOp, hx, hy, eqGuard]
  simp [binOp, equal_nn hT, Result.andThen]
end
end Go.SK
namespace Go.SK
open Go Go.Proofs
theorem ty62 : TyF Try.prog 62 (.pointer 69) 1 8 [.pointer none] := TyF.of (by kernel_rfl) (by kernel_rfl)
end Go.SK
