/-
  Steps of functions, plain law, and walks of functions: what the laws rest on.
-/
import Derived.Test.YtalnjboddfedjaaDoorSkG0b
import Derived.Test.YtalnjboddfedjaaDoorSkG1a
import Derived.Test.YtalnjboddfedjaaDoorSkG2a
import Derived.Test.YtalnjboddfedjaaDoorSkG3a
import Derived.Test.YtalnjboddfedjaaDoorSkG6a
import Derived.Test.YtalnjboddfedjaaDoorSkG7a
import Derived.Test.YtalnjboddfedjaaDoorSkG9a
import Derived.Test.YtalnjboddfedjaaDoorSkG11a
import Derived.Test.YtalnjboddfedjaaDoorSkG13a
import Derived.Test.YtalnjboddfedjaaDoorSkG14a
import Derived.Test.YtalnjboddfedjaaDoorSkG15a
import Derived.Test.YtalnjboddfedjaaDoorSkG16a
import Derived.Test.YtalnjboddfedjaaDoorSkG23a
import Derived.Test.YtalnjboddfedjaaDoorSkG25a
set_option linter.unusedVariables false
set_option linter.unusedSimpArgs false
set_option linter.unusedSectionVars false
namespace Go.SK
theorem hex_byte {a b : Nat} (ha : a ≤ 15) (hb : b ≤ 15) : ((UInt8.ofNat (16 * a + b)).toNat : Int) = 16 * (a : Int) + b := by
  rw [UInt8.toNat_ofNat']; omega
end Go.SK
namespace Go.SK
open Go Go.Proofs
open Go.RowKit
theorem R4lx_Blank (c : UInt8) (w : World) : Ret Tryd.prog 30 #[.int .u8 (c.toNat : Int)] w (fun v w' => v = .bool (blankB c) ∧ St w NoM [] [] w') := by
 refine Ret.enter (args := [.int .u8 (c.toNat : Int)]) Tryd.func30 rfl rfl rfl ?_
 have hst := St.init w
 refine SR <| AB rfl <| NSR <| MC rfl <| CN <| Op1.eql rfl rfl <| MB rfl <| RunL.splitD (d := 5) rfl (fun g1 => ?_) (fun g1 => ?_)
 · skip
   refine OM (t := 5) rfl (congrArg Value.bool (decide_eq_true g1)) rfl <| OM (t := 5) rfl (congrArg Value.bool (decide_eq_true g1)) rfl <| CN <| Op1.pickT (u := .bool _) (congrArg Value.bool (decide_eq_true g1)) rfl <| MB rfl <| OM (t := 9) rfl (congrArg Value.bool (rfl : true = _)) rfl <| OM (t := 9) rfl (congrArg Value.bool (rfl : true = _)) rfl <| CN <| Op1.pickT (u := .bool _) (congrArg Value.bool (rfl : true = _)) rfl <| AB rfl <| NL <| run_ret1 Tryd.func30 rfl (TP (v := .bool _) rfl) <| ⟨congrArg Value.bool ?_, hst.pure⟩
   unfold blankB
   first | (rw [decide_eq_decide]; omega) | exact (decide_eq_false (by omega)).symm | exact (decide_eq_true (by omega)).symm
 refine TK (t := 5) rfl (congrArg Value.bool (decide_eq_false g1)) <| Op1.move (v := .int .u8 _) rfl <| TK (t := 5) rfl (congrArg Value.bool (decide_eq_false g1)) <| Op1.eql rfl rfl <| CN <| Op1.pickF (u := .bool _) (congrArg Value.bool (decide_eq_false g1)) rfl <| MB rfl <| RunL.splitD (d := 9) rfl (fun g2 => ?_) (fun g2 => ?_)
 · skip
   refine OM (t := 9) rfl (congrArg Value.bool (decide_eq_true g2)) rfl <| OM (t := 9) rfl (congrArg Value.bool (decide_eq_true g2)) rfl <| CN <| Op1.pickT (u := .bool _) (congrArg Value.bool (decide_eq_true g2)) rfl <| AB rfl <| NL <| run_ret1 Tryd.func30 rfl (TP (v := .bool _) rfl) <| ⟨congrArg Value.bool ?_, hst.pure⟩
   unfold blankB
   first | (rw [decide_eq_decide]; omega) | exact (decide_eq_false (by omega)).symm | exact (decide_eq_true (by omega)).symm
 refine TK (t := 9) rfl (congrArg Value.bool (decide_eq_false g2)) <| Op1.move (v := .int .u8 _) rfl <| TK (t := 9) rfl (congrArg Value.bool (decide_eq_false g2)) <| Op1.eql rfl rfl <| CN <| Op1.pickF (u := .bool _) (congrArg Value.bool (decide_eq_false g2)) rfl <| AB rfl <| NL <| run_ret1 Tryd.func30 rfl (TP (v := .bool _) rfl) <| ⟨congrArg Value.bool ?_, hst.pure⟩
 unfold blankB
 first | (rw [decide_eq_decide]; omega) | exact (decide_eq_false (by omega)).symm | exact (decide_eq_true (by omega)).symm
end Go.SK
namespace Go.SK
open Go Go.Proofs
open Go.RowKit
theorem R4lx_Part (s : Tx) (x : Int) (a : Nat) (hx : x = a) (ha : a < s.length) (w : World) (hl : s.length ≤ 140737488355328) : Ret Tryd.prog 62 #[str s, .int .i64 x] w (fun v w' => v = partV (partF (s.drop a)) ∧ St w NoM [] [] w') := by
 refine Ret.enter (args := [str s, .int .i64 x]) Tryd.func62 rfl rfl rfl ?_
 have hst := St.init w
 subst hx
 have hidx1 : (s.getD (((a : Int) + 1).toNat) 0).toNat = (s.getD (a + 1) 0).toNat := rfl
 have hidx2 : (s.getD (((a : Int) + 2).toNat) 0).toNat = (s.getD (a + 2) 0).toNat := rfl
 have hidx3 : (s.getD (((a : Int) + 3).toNat) 0).toNat = (s.getD (a + 3) 0).toNat := rfl
 have hidx : (s.getD ((a : Int).toNat) 0).toNat = (s.getD a 0).toNat := rfl
 refine SR <| AC rfl <| AI rfl <| NSR <| MS rfl <| MI rfl <| CN <| Op1.indexS ty9 rfl rfl (by omega) (by omega) <| AC rfl <| NL <| SQ <| SQ <| RG ?_
 refine MC rfl <| CN <| Op1.lss rfl rfl <| MB rfl <| RunL.splitD (d := 12) rfl (fun g1 => ?_) (fun g1 => ?_)
 · skip
   refine OM (t := 12) rfl (congrArg Value.bool (decide_eq_true g1)) rfl <| OM (t := 12) rfl (congrArg Value.bool (decide_eq_true g1)) rfl <| CN <| Op1.pickT (u := .bool _) (congrArg Value.bool (decide_eq_true g1)) rfl <| MB rfl <| OM (t := 16) rfl (congrArg Value.bool (rfl : true = _)) rfl <| OM (t := 16) rfl (congrArg Value.bool (rfl : true = _)) rfl <| CN <| Op1.pickT (u := .bool _) (congrArg Value.bool (rfl : true = _)) rfl <| NL <| run_cond_true (congrArg Value.bool (rfl : true = _)) <| SR <| AC rfl <| AI rfl <| NL <| run_ret2 Tryd.func62 rfl (TP (v := .int .u8 _) rfl) (TP (v := .int .i64 _) rfl) ?_
   rw [part_no1 ha (by omega)]
   exact ⟨rfl, hst.pure⟩
 refine TK (t := 12) rfl (congrArg Value.bool (decide_eq_false g1)) <| Op1.move (v := .int .u8 _) rfl <| TK (t := 12) rfl (congrArg Value.bool (decide_eq_false g1)) <| Op1.gtr rfl rfl <| CN <| Op1.pickF (u := .bool _) (congrArg Value.bool (decide_eq_false g1)) rfl <| MB rfl <| RunL.splitD (d := 16) rfl (fun g2 => ?_) (fun g2 => ?_)
 · skip
   refine OM (t := 16) rfl (congrArg Value.bool (decide_eq_true g2)) rfl <| OM (t := 16) rfl (congrArg Value.bool (decide_eq_true g2)) rfl <| CN <| Op1.pickT (u := .bool _) (congrArg Value.bool (decide_eq_true g2)) rfl <| NL <| run_cond_true (congrArg Value.bool (rfl : true = _)) <| SR <| AC rfl <| AI rfl <| NL <| run_ret2 Tryd.func62 rfl (TP (v := .int .u8 _) rfl) (TP (v := .int .i64 _) rfl) ?_
   rw [part_no1 ha (by omega)]
   exact ⟨rfl, hst.pure⟩
 refine TK (t := 16) rfl (congrArg Value.bool (decide_eq_false g2)) <| Op1.move (v := .int .u8 _) rfl <| TK (t := 16) rfl (congrArg Value.bool (decide_eq_false g2)) <| Op1.eql rfl rfl <| CN <| Op1.pickF (u := .bool _) (congrArg Value.bool (decide_eq_false g2)) rfl <| NL <| run_cond_dec rfl (fun g3 => ?_) (fun g3 => ?_)
 · skip
   refine SR <| AC rfl <| AI rfl <| NL <| run_ret2 Tryd.func62 rfl (TP (v := .int .u8 _) rfl) (TP (v := .int .i64 _) rfl) ?_
   rw [part_no1 ha (by omega)]
   exact ⟨rfl, hst.pure⟩
 refine run_skip <| SQ <| SR <| MC rfl <| CN <| Op1.neq rfl rfl <| NL <| run_cond_dec rfl (fun g4 => ?_) (fun g4 => ?_)
 · skip
   refine SR <| MC rfl <| AC rfl <| AI rfl <| NL <| run_ret2 Tryd.func62 rfl (TP (v := .int .u8 _) rfl) (TP (v := .int .i64 _) rfl) ?_
   rw [part_one ha (by omega) (by omega)]
   exact ⟨rfl, hst.pure⟩
 refine run_skip <| SQ <| SR <| MI rfl <| CN <| Op1.addN rfl rfl rfl (wrap_i64 (by omega) (by omega)) <| MS rfl <| CN <| Op1.lenS (rest := []) ty9 rfl <| CN <| Op1.lss rfl rfl <| MB rfl <| RunL.splitD (d := 28) rfl (fun g5 => ?_) (fun g5 => ?_)
 · skip
   refine TK (t := 28) rfl (congrArg Value.bool (decide_eq_true g5)) <| Op1.move (v := str _) rfl <| TK (t := 28) rfl (congrArg Value.bool (decide_eq_true g5)) <| Op1.move (v := .int .i64 _) rfl <| TK (t := 28) rfl (congrArg Value.bool (decide_eq_true g5)) <| Op1.addN rfl rfl rfl (wrap_i64 (by omega) (by omega)) <| TK (t := 28) rfl (congrArg Value.bool (decide_eq_true g5)) <| Op1.indexS ty9 rfl rfl (by omega) (by omega) <| TK (t := 28) rfl (congrArg Value.bool (decide_eq_true g5)) <| Op1.eql rfl rfl <| TK (t := 28) rfl (congrArg Value.bool (decide_eq_true g5)) <| Op1.move (v := .bool _) rfl <| RunL.splitD (d := 34) rfl (fun g6 => ?_) (fun g6 => ?_)
   · skip
     refine OM (t := 34) rfl (congrArg Value.bool (decide_eq_true g6)) rfl <| OM (t := 34) rfl (congrArg Value.bool (decide_eq_true g6)) rfl <| OM (t := 34) rfl (congrArg Value.bool (decide_eq_true g6)) rfl <| OM (t := 34) rfl (congrArg Value.bool (decide_eq_true g6)) rfl <| OM (t := 34) rfl (congrArg Value.bool (decide_eq_true g6)) rfl <| TK (t := 28) rfl (congrArg Value.bool (decide_eq_true g5)) <| Op1.pickT (u := .bool _) (congrArg Value.bool (decide_eq_true g6)) rfl <| CN <| Op1.pickT (u := .bool _) (congrArg Value.bool (decide_eq_true g5)) rfl <| NL <| Run.forget [(0, str _), (1, .int .i64 _), (41, .bool _)] ⟨rfl, rfl, rfl, trivial⟩ fun f => run_cond_true (congrArg Value.bool (rfl : true = _)) <| SR <| MS rfl <| MI rfl <| CN (Op1.addN rfl rfl rfl (wrap_i64 (by omega) (by omega)) ?_)
     refine CN <| Op1.indexS ty9 rfl rfl (by omega) (by omega) <| AC rfl <| AI rfl <| NL <| run_ret2 Tryd.func62 rfl (TP (v := .int .u8 _) rfl) (TP (v := .int .i64 _) rfl) ?_
     rw [part_two ha (by omega) (by omega) (by omega)]
     exact ⟨rfl, hst.pure⟩
   refine TK (t := 34) rfl (congrArg Value.bool (decide_eq_false g6)) <| Op1.move (v := str _) rfl <| TK (t := 34) rfl (congrArg Value.bool (decide_eq_false g6)) <| Op1.move (v := .int .i64 _) rfl <| TK (t := 34) rfl (congrArg Value.bool (decide_eq_false g6)) <| Op1.addN rfl rfl rfl (wrap_i64 (by omega) (by omega)) <| TK (t := 34) rfl (congrArg Value.bool (decide_eq_false g6)) <| Op1.indexS ty9 rfl rfl (by omega) (by omega) <| TK (t := 34) rfl (congrArg Value.bool (decide_eq_false g6)) <| Op1.eql rfl rfl <| TK (t := 28) rfl (congrArg Value.bool (decide_eq_true g5)) <| Op1.pickF (u := .bool _) (congrArg Value.bool (decide_eq_false g6)) rfl <| CN <| Op1.pickT (u := .bool _) (congrArg Value.bool (decide_eq_true g5)) rfl <| NL <| Run.forget [(0, str _), (1, .int .i64 _), (41, .bool _)] ⟨rfl, rfl, rfl, trivial⟩ fun f => run_cond_dec rfl (fun g7 => ?_) (fun g7 => ?_)
   · skip
     refine SR <| MS rfl <| MI rfl <| CN <| Op1.addN rfl rfl rfl (wrap_i64 (by omega) (by omega)) <| CN <| Op1.indexS ty9 rfl rfl (by omega) (by omega) <| AC rfl <| AI rfl <| NL <| run_ret2 Tryd.func62 rfl (TP (v := .int .u8 _) rfl) (TP (v := .int .i64 _) rfl) ?_
     rw [part_two ha (by omega) (by omega) (by omega)]
     exact ⟨rfl, hst.pure⟩
   refine run_skip <| SQ <| SR <| MI rfl <| CN <| Op1.addN rfl rfl rfl (wrap_i64 (by omega) (by omega)) <| MS rfl <| CN <| Op1.lenS (rest := []) ty9 rfl <| CN <| Op1.lss rfl rfl <| MB rfl <| RunL.splitD (d := 51) rfl (fun g8 => ?_) (fun g8 => ?_)
   · skip
     refine TK (t := 51) rfl (congrArg Value.bool (decide_eq_true g8)) <| Op1.move (v := str _) rfl <| TK (t := 51) rfl (congrArg Value.bool (decide_eq_true g8)) <| Op1.move (v := .int .i64 _) rfl <| TK (t := 51) rfl (congrArg Value.bool (decide_eq_true g8)) <| Op1.addN rfl rfl rfl (wrap_i64 (by omega) (by omega)) <| TK (t := 51) rfl (congrArg Value.bool (decide_eq_true g8)) <| Op1.indexS ty9 rfl rfl (by omega) (by omega) <| TK (t := 51) rfl (congrArg Value.bool (decide_eq_true g8)) <| Op1.eql rfl rfl <| CN <| Op1.pickT (u := .bool _) (congrArg Value.bool (decide_eq_true g8)) rfl <| MB rfl <| RunL.splitD (d := 58) rfl (fun g9 => ?_) (fun g9 => ?_)
     · skip
       refine TK (t := 58) rfl (congrArg Value.bool (decide_eq_true g9)) <| Op1.move (v := str _) rfl <| TK (t := 58) rfl (congrArg Value.bool (decide_eq_true g9)) <| Op1.move (v := .int .i64 _) rfl <| TK (t := 58) rfl (congrArg Value.bool (decide_eq_true g9)) <| Op1.addN rfl rfl rfl (wrap_i64 (by omega) (by omega)) <| TK (t := 58) rfl (congrArg Value.bool (decide_eq_true g9)) <| Op1.indexS ty9 rfl rfl (by omega) (by omega) <| TK (t := 58) rfl (congrArg Value.bool (decide_eq_true g9)) (Op1.call1 (v1 := .int .u8 _) ent35 rfl rfl ((R4lx_Hex _ _).mono fun v w hp => ?_))
       obtain ⟨rfl, hp⟩ := hp
       replace hst := hst.keepc hp
       clear hp
       refine CN <| Op1.pickT (u := .bool _) (congrArg Value.bool (decide_eq_true g9)) rfl <| MB rfl <| RunL.split (d := 65) rfl (fun g10 => ?_) (fun g10 => ?_)
       · skip
         refine TK (t := 65) rfl (congrArg Value.bool g10) <| Op1.move (v := str _) rfl <| TK (t := 65) rfl (congrArg Value.bool g10) <| Op1.move (v := .int .i64 _) rfl <| TK (t := 65) rfl (congrArg Value.bool g10) <| Op1.addN rfl rfl rfl (wrap_i64 (by omega) (by omega)) <| TK (t := 65) rfl (congrArg Value.bool g10) <| Op1.indexS ty9 rfl rfl (by omega) (by omega) <| TK (t := 65) rfl (congrArg Value.bool g10) (Op1.call1 (v1 := .int .u8 _) ent35 rfl rfl ((R4lx_Hex _ _).mono fun v w hp => ?_))
         obtain ⟨rfl, hp⟩ := hp
         replace hst := hst.keepc hp
         clear hp
         refine CN <| Op1.pickT (u := .bool _) (congrArg Value.bool g10) rfl <| NL <| Run.forget [(0, str _), (1, .int .i64 _), (71, .bool _)] ⟨rfl, rfl, rfl, trivial⟩ fun f => run_cond_split rfl (fun g11 => ?_) (fun g11 => ?_)
         · skip
           have hw2 := (hex_bd g10).2
           have hw3 := (hex_bd g11).2
           refine SQ <| RunD.start [] hst (bs := [0, 0, 2, 7, 15, 31, 0, 0, 128, 448, 991, 2047, 4095, 8191, 16383]) (ds := [some 72, some 73, some 74, some 75, some 76, some 77, some 78, some 79, some 80, some 81, some 82, some 83, some 84, some 4, some 5]) ⟨by kernel_rfl, by kernel_rfl, by kernel_rfl⟩ (fun tab12 => ?_)
           refine RunD.op (det _) tab12 1 (fun f' L' w' hc => Op1.move (v := str _) (hc.old (v := str _) rfl rfl rfl) ⟨[], ⟨rfl, rfl⟩, hc.st⟩) <| RunD.op (det _) tab12 2 (fun f' L' w' hc => Op1.move (v := .int .i64 _) (hc.old (v := .int .i64 _) rfl rfl rfl) ⟨[], ⟨rfl, rfl⟩, hc.st⟩) <| RunD.op (det _) tab12 3 (fun f' L' w' hc => Op1.addN (hc.det (j := 1) rfl rfl rfl rfl) rfl rfl (wrap_i64 (by omega) (by omega)) ⟨[], ⟨rfl, rfl⟩, hc.st⟩) <| RunD.op (det _) tab12 4 (fun f' L' w' hc => Op1.indexS ty9 (hc.det (j := 0) rfl rfl rfl rfl) (hc.det (j := 2) rfl rfl rfl rfl) (by omega) (by omega) ⟨[], ⟨rfl, rfl⟩, hc.st⟩) <| RunD.op (det _) tab12 5 (fun f' L' w' hc => Op1.call1 (v1 := .int .u8 _) ent36 rfl (hc.det (j := 3) rfl rfl rfl rfl) ((R4lx_Worth _ g10 _).mono fun v w hp => ⟨[], ⟨hp.1, rfl⟩, hc.st.keepc hp.2⟩)) <| RunD.op (det _) tab12 6 (fun f' L' w' hc => Op1.mulN rfl (hc.det (j := 4) rfl rfl rfl rfl) rfl (wrap_u64 (by omega) (by omega)) ⟨[], ⟨rfl, rfl⟩, hc.st⟩) <| RunD.op (det _) tab12 7 (fun f' L' w' hc => Op1.move (v := str _) (hc.old (v := str _) rfl rfl rfl) ⟨[], ⟨rfl, rfl⟩, hc.st⟩) <| RunD.op (det _) tab12 8 (fun f' L' w' hc => Op1.move (v := .int .i64 _) (hc.old (v := .int .i64 _) rfl rfl rfl) ⟨[], ⟨rfl, rfl⟩, hc.st⟩) <| RunD.op (det _) tab12 9 (fun f' L' w' hc => Op1.addN (hc.det (j := 7) rfl rfl rfl rfl) rfl rfl (wrap_i64 (by omega) (by omega)) ⟨[], ⟨rfl, rfl⟩, hc.st⟩) <| RunD.op (det _) tab12 10 (fun f' L' w' hc => Op1.indexS ty9 (hc.det (j := 6) rfl rfl rfl rfl) (hc.det (j := 8) rfl rfl rfl rfl) (by omega) (by omega) ⟨[], ⟨rfl, rfl⟩, hc.st⟩) <| RunD.op (det _) tab12 11 (fun f' L' w' hc => Op1.call1 (v1 := .int .u8 _) ent36 rfl (hc.det (j := 9) rfl rfl rfl rfl) ((R4lx_Worth _ g11 _).mono fun v w hp => ⟨[], ⟨hp.1, rfl⟩, hc.st.keepc hp.2⟩)) <| RunD.fin followsMixed tab12 hst rfl (fun f13 w R16 hs14 hd15 hr17 hst => ?_)
           obtain ⟨h72_, r0⟩ := hd15 0 72 rfl rfl
           obtain ⟨h73_, r1⟩ := hd15 1 73 rfl rfl
           obtain ⟨h74_, r2⟩ := hd15 2 74 rfl rfl
           obtain ⟨h75_, r3⟩ := hd15 3 75 rfl rfl
           obtain ⟨h76_, r4⟩ := hd15 4 76 rfl rfl
           obtain ⟨h77_, r5⟩ := hd15 5 77 rfl rfl
           obtain ⟨h78_, r6⟩ := hd15 6 78 rfl rfl
           obtain ⟨h79_, r7⟩ := hd15 7 79 rfl rfl
           obtain ⟨h80_, r8⟩ := hd15 8 80 rfl rfl
           obtain ⟨h81_, r9⟩ := hd15 9 81 rfl rfl
           obtain ⟨h82_, r10⟩ := hd15 10 82 rfl rfl
           simp only [show List.range 11 = [0, 1, 2, 3, 4, 5, 6, 7, 8, 9, 10] from rfl, List.flatMap_cons, List.flatMap_nil, List.map_cons, List.map_nil, r0, r1, r2, r3, r4, r5, r6, r7, r8, r9, r10, List.nil_append, List.append_nil, List.cons_append] at hst
           refine RunL.slots (sl := [(77, .int .u64 _), (82, .int .u64 _)]) ⟨h77_, h82_, trivial⟩ ?_
           clear hs14 hd15 hr17 tab12
           refine CN (Op1.addN rfl rfl rfl (wrap_u64 (by omega) (by omega)) ?_)
           first | refine CN (Op1.convN ty57 ty5 rfl (wrap_u8 (by omega) (by omega)) ?_) | refine CN (Op1.conv ty57 ty5 rfl ?_)
           refine AC rfl <| AI rfl <| NL <| run_ret2 Tryd.func62 rfl (TP (v := .int .u8 _) rfl) (TP (v := .int .i64 _) rfl) ?_
           rw [part_four ha (by omega) (by omega) (by omega) g10 g11]
           unfold partV; dsimp only [Option.getD]
           have hb4 : ((UInt8.ofNat (16 * worF (s.getD (a + 2) 0) + worF (s.getD (a + 3) 0))).toNat : Int) = 16 * (worF (s.getD (a + 2) 0) : Int) + (worF (s.getD (a + 3) 0) : Int) := hex_byte hw2 hw3
           rw [hb4]
           exact ⟨rfl, hst.pure⟩
         refine run_skip <| SR <| AC rfl <| AI rfl <| NL <| run_ret2 Tryd.func62 rfl (TP (v := .int .u8 _) rfl) (TP (v := .int .i64 _) rfl) ?_
         have hq4 : ¬ (a + 3 < s.length ∧ (s.getD (a + 1) 0).toNat = 120 ∧ hexB (s.getD (a + 2) 0) = true ∧ hexB (s.getD (a + 3) 0) = true) := by intro ⟨q1, q2, q3, q4⟩; first | omega | exact absurd (q4.symm.trans g11) (by decide)
         rw [part_no2 ha (by omega) (by omega) hq4]
         exact ⟨rfl, hst.pure⟩
       refine OM (t := 65) rfl (congrArg Value.bool g10) rfl <| OM (t := 65) rfl (congrArg Value.bool g10) rfl <| OM (t := 65) rfl (congrArg Value.bool g10) rfl <| OM (t := 65) rfl (congrArg Value.bool g10) rfl <| OM (t := 65) rfl (congrArg Value.bool g10) rfl <| CN <| Op1.pickF (u := .bool _) (congrArg Value.bool g10) rfl <| NL <| Run.forget [(0, str _), (1, .int .i64 _), (71, .bool _)] ⟨rfl, rfl, rfl, trivial⟩ fun f => run_cond_false (congrArg Value.bool (rfl : false = _)) <| run_skip <| SR <| AC rfl <| AI rfl <| NL ?_
       refine run_ret2 Tryd.func62 rfl (TP (v := .int .u8 _) rfl) (TP (v := .int .i64 _) rfl) ?_
       have hq4 : ¬ (a + 3 < s.length ∧ (s.getD (a + 1) 0).toNat = 120 ∧ hexB (s.getD (a + 2) 0) = true ∧ hexB (s.getD (a + 3) 0) = true) := by intro ⟨q1, q2, q3, q4⟩; first | omega | exact absurd (q3.symm.trans g10) (by decide)
       rw [part_no2 ha (by omega) (by omega) hq4]
       exact ⟨rfl, hst.pure⟩
     refine OM (t := 58) rfl (congrArg Value.bool (decide_eq_false g9)) rfl <| OM (t := 58) rfl (congrArg Value.bool (decide_eq_false g9)) rfl <| OM (t := 58) rfl (congrArg Value.bool (decide_eq_false g9)) rfl <| OM (t := 58) rfl (congrArg Value.bool (decide_eq_false g9)) rfl <| OM (t := 58) rfl (congrArg Value.bool (decide_eq_false g9)) rfl <| CN <| Op1.pickF (u := .bool _) (congrArg Value.bool (decide_eq_false g9)) rfl <| MB rfl <| OM (t := 65) rfl (congrArg Value.bool (rfl : false = _)) rfl <| OM (t := 65) rfl (congrArg Value.bool (rfl : false = _)) rfl <| OM (t := 65) rfl (congrArg Value.bool (rfl : false = _)) rfl <| OM (t := 65) rfl (congrArg Value.bool (rfl : false = _)) rfl <| OM (t := 65) rfl (congrArg Value.bool (rfl : false = _)) rfl <| CN <| Op1.pickF (u := .bool _) (congrArg Value.bool (rfl : false = _)) rfl <| NL <| run_cond_false (congrArg Value.bool (rfl : false = _)) ?_
     refine run_skip <| SR <| AC rfl <| AI rfl <| NL <| run_ret2 Tryd.func62 rfl (TP (v := .int .u8 _) rfl) (TP (v := .int .i64 _) rfl) ?_
     have hq4 : ¬ (a + 3 < s.length ∧ (s.getD (a + 1) 0).toNat = 120 ∧ hexB (s.getD (a + 2) 0) = true ∧ hexB (s.getD (a + 3) 0) = true) := by intro ⟨q1, q2, q3, q4⟩; first | omega
     rw [part_no2 ha (by omega) (by omega) hq4]
     exact ⟨rfl, hst.pure⟩
   refine OM (t := 51) rfl (congrArg Value.bool (decide_eq_false g8)) rfl <| OM (t := 51) rfl (congrArg Value.bool (decide_eq_false g8)) rfl <| OM (t := 51) rfl (congrArg Value.bool (decide_eq_false g8)) rfl <| OM (t := 51) rfl (congrArg Value.bool (decide_eq_false g8)) rfl <| OM (t := 51) rfl (congrArg Value.bool (decide_eq_false g8)) rfl <| CN <| Op1.pickF (u := .bool _) (congrArg Value.bool (decide_eq_false g8)) rfl <| MB rfl <| OM (t := 58) rfl (congrArg Value.bool (rfl : false = _)) rfl <| OM (t := 58) rfl (congrArg Value.bool (rfl : false = _)) rfl <| OM (t := 58) rfl (congrArg Value.bool (rfl : false = _)) rfl <| OM (t := 58) rfl (congrArg Value.bool (rfl : false = _)) rfl <| OM (t := 58) rfl (congrArg Value.bool (rfl : false = _)) rfl <| CN <| Op1.pickF (u := .bool _) (congrArg Value.bool (rfl : false = _)) rfl <| MB rfl <| OM (t := 65) rfl (congrArg Value.bool (rfl : false = _)) rfl ?_
   refine OM (t := 65) rfl (congrArg Value.bool (rfl : false = _)) rfl <| OM (t := 65) rfl (congrArg Value.bool (rfl : false = _)) rfl <| OM (t := 65) rfl (congrArg Value.bool (rfl : false = _)) rfl <| OM (t := 65) rfl (congrArg Value.bool (rfl : false = _)) rfl <| CN <| Op1.pickF (u := .bool _) (congrArg Value.bool (rfl : false = _)) rfl <| NL <| run_cond_false (congrArg Value.bool (rfl : false = _)) <| run_skip <| SR <| AC rfl <| AI rfl <| NL <| run_ret2 Tryd.func62 rfl (TP (v := .int .u8 _) rfl) (TP (v := .int .i64 _) rfl) ?_
   have hq4 : ¬ (a + 3 < s.length ∧ (s.getD (a + 1) 0).toNat = 120 ∧ hexB (s.getD (a + 2) 0) = true ∧ hexB (s.getD (a + 3) 0) = true) := by intro ⟨q1, q2, q3, q4⟩; first | omega
   rw [part_no2 ha (by omega) (by omega) hq4]
   exact ⟨rfl, hst.pure⟩
 refine OM (t := 28) rfl (congrArg Value.bool (decide_eq_false g5)) rfl <| OM (t := 28) rfl (congrArg Value.bool (decide_eq_false g5)) rfl <| OM (t := 28) rfl (congrArg Value.bool (decide_eq_false g5)) rfl <| OM (t := 28) rfl (congrArg Value.bool (decide_eq_false g5)) rfl <| OM (t := 28) rfl (congrArg Value.bool (decide_eq_false g5)) rfl <| OM (t := 28) rfl (congrArg Value.bool (decide_eq_false g5)) rfl <| RunL.omitU (t := 34) rfl rfl <| RunL.omitU (t := 34) rfl rfl <| RunL.omitU (t := 34) rfl rfl <| RunL.omitU (t := 34) rfl rfl <| RunL.omitU (t := 34) rfl rfl <| OM (t := 28) rfl (congrArg Value.bool (decide_eq_false g5)) rfl <| CN <| Op1.pickF (u := .bool _) (congrArg Value.bool (decide_eq_false g5)) rfl <| NL <| Run.forget [(0, str _), (1, .int .i64 _), (41, .bool _)] ⟨rfl, rfl, rfl, trivial⟩ (fun f => ?_)
 refine run_cond_false (congrArg Value.bool (rfl : false = _)) <| run_skip <| SQ <| SR <| MI rfl <| CN <| Op1.addN rfl rfl rfl (wrap_i64 (by omega) (by omega)) <| MS rfl <| CN <| Op1.lenS (rest := []) ty9 rfl <| CN <| Op1.lss rfl rfl <| MB rfl <| RunL.splitD (d := 51) rfl (fun g18 => ?_) (fun g18 => ?_)
 · skip
   refine TK (t := 51) rfl (congrArg Value.bool (decide_eq_true g18)) <| Op1.move (v := str _) rfl <| TK (t := 51) rfl (congrArg Value.bool (decide_eq_true g18)) <| Op1.move (v := .int .i64 _) rfl <| TK (t := 51) rfl (congrArg Value.bool (decide_eq_true g18)) <| Op1.addN rfl rfl rfl (wrap_i64 (by omega) (by omega)) <| TK (t := 51) rfl (congrArg Value.bool (decide_eq_true g18)) <| Op1.indexS ty9 rfl rfl (by omega) (by omega) <| TK (t := 51) rfl (congrArg Value.bool (decide_eq_true g18)) <| Op1.eql rfl rfl <| CN <| Op1.pickT (u := .bool _) (congrArg Value.bool (decide_eq_true g18)) rfl <| MB rfl <| RunL.splitD (d := 58) rfl (fun g19 => ?_) (fun g19 => ?_)
   · skip
     refine TK (t := 58) rfl (congrArg Value.bool (decide_eq_true g19)) <| Op1.move (v := str _) rfl <| TK (t := 58) rfl (congrArg Value.bool (decide_eq_true g19)) <| Op1.move (v := .int .i64 _) rfl <| TK (t := 58) rfl (congrArg Value.bool (decide_eq_true g19)) <| Op1.addN rfl rfl rfl (wrap_i64 (by omega) (by omega)) <| TK (t := 58) rfl (congrArg Value.bool (decide_eq_true g19)) <| Op1.indexS ty9 rfl rfl (by omega) (by omega) <| TK (t := 58) rfl (congrArg Value.bool (decide_eq_true g19)) (Op1.call1 (v1 := .int .u8 _) ent35 rfl rfl ((R4lx_Hex _ _).mono fun v w hp => ?_))
     obtain ⟨rfl, hp⟩ := hp
     replace hst := hst.keepc hp
     clear hp
     refine CN <| Op1.pickT (u := .bool _) (congrArg Value.bool (decide_eq_true g19)) rfl <| MB rfl <| RunL.split (d := 65) rfl (fun g20 => ?_) (fun g20 => ?_)
     · skip
       refine TK (t := 65) rfl (congrArg Value.bool g20) <| Op1.move (v := str _) rfl <| TK (t := 65) rfl (congrArg Value.bool g20) <| Op1.move (v := .int .i64 _) rfl <| TK (t := 65) rfl (congrArg Value.bool g20) <| Op1.addN rfl rfl rfl (wrap_i64 (by omega) (by omega)) <| TK (t := 65) rfl (congrArg Value.bool g20) <| Op1.indexS ty9 rfl rfl (by omega) (by omega) <| TK (t := 65) rfl (congrArg Value.bool g20) (Op1.call1 (v1 := .int .u8 _) ent35 rfl rfl ((R4lx_Hex _ _).mono fun v w hp => ?_))
       obtain ⟨rfl, hp⟩ := hp
       replace hst := hst.keepc hp
       clear hp
       refine CN <| Op1.pickT (u := .bool _) (congrArg Value.bool g20) rfl <| NL <| Run.forget [(0, str _), (1, .int .i64 _), (71, .bool _)] ⟨rfl, rfl, rfl, trivial⟩ fun f => run_cond_split rfl (fun g21 => ?_) (fun g21 => ?_)
       · skip
         have hw2 := (hex_bd g20).2
         have hw3 := (hex_bd g21).2
         refine SQ <| RunD.start [] hst (bs := [0, 0, 2, 7, 15, 31, 0, 0, 128, 448, 991, 2047, 4095, 8191, 16383]) (ds := [some 72, some 73, some 74, some 75, some 76, some 77, some 78, some 79, some 80, some 81, some 82, some 83, some 84, some 4, some 5]) ⟨by kernel_rfl, by kernel_rfl, by kernel_rfl⟩ (fun tab22 => ?_)
         refine RunD.op (det _) tab22 1 (fun f' L' w' hc => Op1.move (v := str _) (hc.old (v := str _) rfl rfl rfl) ⟨[], ⟨rfl, rfl⟩, hc.st⟩) <| RunD.op (det _) tab22 2 (fun f' L' w' hc => Op1.move (v := .int .i64 _) (hc.old (v := .int .i64 _) rfl rfl rfl) ⟨[], ⟨rfl, rfl⟩, hc.st⟩) <| RunD.op (det _) tab22 3 (fun f' L' w' hc => Op1.addN (hc.det (j := 1) rfl rfl rfl rfl) rfl rfl (wrap_i64 (by omega) (by omega)) ⟨[], ⟨rfl, rfl⟩, hc.st⟩) <| RunD.op (det _) tab22 4 (fun f' L' w' hc => Op1.indexS ty9 (hc.det (j := 0) rfl rfl rfl rfl) (hc.det (j := 2) rfl rfl rfl rfl) (by omega) (by omega) ⟨[], ⟨rfl, rfl⟩, hc.st⟩) <| RunD.op (det _) tab22 5 (fun f' L' w' hc => Op1.call1 (v1 := .int .u8 _) ent36 rfl (hc.det (j := 3) rfl rfl rfl rfl) ((R4lx_Worth _ g20 _).mono fun v w hp => ⟨[], ⟨hp.1, rfl⟩, hc.st.keepc hp.2⟩)) <| RunD.op (det _) tab22 6 (fun f' L' w' hc => Op1.mulN rfl (hc.det (j := 4) rfl rfl rfl rfl) rfl (wrap_u64 (by omega) (by omega)) ⟨[], ⟨rfl, rfl⟩, hc.st⟩) <| RunD.op (det _) tab22 7 (fun f' L' w' hc => Op1.move (v := str _) (hc.old (v := str _) rfl rfl rfl) ⟨[], ⟨rfl, rfl⟩, hc.st⟩) <| RunD.op (det _) tab22 8 (fun f' L' w' hc => Op1.move (v := .int .i64 _) (hc.old (v := .int .i64 _) rfl rfl rfl) ⟨[], ⟨rfl, rfl⟩, hc.st⟩) <| RunD.op (det _) tab22 9 (fun f' L' w' hc => Op1.addN (hc.det (j := 7) rfl rfl rfl rfl) rfl rfl (wrap_i64 (by omega) (by omega)) ⟨[], ⟨rfl, rfl⟩, hc.st⟩) <| RunD.op (det _) tab22 10 (fun f' L' w' hc => Op1.indexS ty9 (hc.det (j := 6) rfl rfl rfl rfl) (hc.det (j := 8) rfl rfl rfl rfl) (by omega) (by omega) ⟨[], ⟨rfl, rfl⟩, hc.st⟩) <| RunD.op (det _) tab22 11 (fun f' L' w' hc => Op1.call1 (v1 := .int .u8 _) ent36 rfl (hc.det (j := 9) rfl rfl rfl rfl) ((R4lx_Worth _ g21 _).mono fun v w hp => ⟨[], ⟨hp.1, rfl⟩, hc.st.keepc hp.2⟩)) <| RunD.fin followsMixed tab22 hst rfl (fun f23 w R26 hs24 hd25 hr27 hst => ?_)
         obtain ⟨h72_, r0⟩ := hd25 0 72 rfl rfl
         obtain ⟨h73_, r1⟩ := hd25 1 73 rfl rfl
         obtain ⟨h74_, r2⟩ := hd25 2 74 rfl rfl
         obtain ⟨h75_, r3⟩ := hd25 3 75 rfl rfl
         obtain ⟨h76_, r4⟩ := hd25 4 76 rfl rfl
         obtain ⟨h77_, r5⟩ := hd25 5 77 rfl rfl
         obtain ⟨h78_, r6⟩ := hd25 6 78 rfl rfl
         obtain ⟨h79_, r7⟩ := hd25 7 79 rfl rfl
         obtain ⟨h80_, r8⟩ := hd25 8 80 rfl rfl
         obtain ⟨h81_, r9⟩ := hd25 9 81 rfl rfl
         obtain ⟨h82_, r10⟩ := hd25 10 82 rfl rfl
         simp only [show List.range 11 = [0, 1, 2, 3, 4, 5, 6, 7, 8, 9, 10] from rfl, List.flatMap_cons, List.flatMap_nil, List.map_cons, List.map_nil, r0, r1, r2, r3, r4, r5, r6, r7, r8, r9, r10, List.nil_append, List.append_nil, List.cons_append] at hst
         refine RunL.slots (sl := [(77, .int .u64 _), (82, .int .u64 _)]) ⟨h77_, h82_, trivial⟩ ?_
         clear hs24 hd25 hr27 tab22
         refine CN (Op1.addN rfl rfl rfl (wrap_u64 (by omega) (by omega)) ?_)
         first | refine CN (Op1.convN ty57 ty5 rfl (wrap_u8 (by omega) (by omega)) ?_) | refine CN (Op1.conv ty57 ty5 rfl ?_)
         refine AC rfl <| AI rfl <| NL <| run_ret2 Tryd.func62 rfl (TP (v := .int .u8 _) rfl) (TP (v := .int .i64 _) rfl) ?_
         rw [part_four ha (by omega) (by omega) (by omega) g20 g21]
         unfold partV; dsimp only [Option.getD]
         have hb4 : ((UInt8.ofNat (16 * worF (s.getD (a + 2) 0) + worF (s.getD (a + 3) 0))).toNat : Int) = 16 * (worF (s.getD (a + 2) 0) : Int) + (worF (s.getD (a + 3) 0) : Int) := hex_byte hw2 hw3
         rw [hb4]
         exact ⟨rfl, hst.pure⟩
       refine run_skip <| SR <| AC rfl <| AI rfl <| NL <| run_ret2 Tryd.func62 rfl (TP (v := .int .u8 _) rfl) (TP (v := .int .i64 _) rfl) ?_
       have hq4 : ¬ (a + 3 < s.length ∧ (s.getD (a + 1) 0).toNat = 120 ∧ hexB (s.getD (a + 2) 0) = true ∧ hexB (s.getD (a + 3) 0) = true) := by intro ⟨q1, q2, q3, q4⟩; first | omega | exact absurd (q4.symm.trans g21) (by decide)
       rw [part_no2 ha (by omega) (by omega) hq4]
       exact ⟨rfl, hst.pure⟩
     refine OM (t := 65) rfl (congrArg Value.bool g20) rfl <| OM (t := 65) rfl (congrArg Value.bool g20) rfl <| OM (t := 65) rfl (congrArg Value.bool g20) rfl <| OM (t := 65) rfl (congrArg Value.bool g20) rfl <| OM (t := 65) rfl (congrArg Value.bool g20) rfl <| CN <| Op1.pickF (u := .bool _) (congrArg Value.bool g20) rfl <| NL <| Run.forget [(0, str _), (1, .int .i64 _), (71, .bool _)] ⟨rfl, rfl, rfl, trivial⟩ fun f => run_cond_false (congrArg Value.bool (rfl : false = _)) <| run_skip <| SR <| AC rfl <| AI rfl <| NL ?_
     refine run_ret2 Tryd.func62 rfl (TP (v := .int .u8 _) rfl) (TP (v := .int .i64 _) rfl) ?_
     have hq4 : ¬ (a + 3 < s.length ∧ (s.getD (a + 1) 0).toNat = 120 ∧ hexB (s.getD (a + 2) 0) = true ∧ hexB (s.getD (a + 3) 0) = true) := by intro ⟨q1, q2, q3, q4⟩; first | omega | exact absurd (q3.symm.trans g20) (by decide)
     rw [part_no2 ha (by omega) (by omega) hq4]
     exact ⟨rfl, hst.pure⟩
   refine OM (t := 58) rfl (congrArg Value.bool (decide_eq_false g19)) rfl <| OM (t := 58) rfl (congrArg Value.bool (decide_eq_false g19)) rfl <| OM (t := 58) rfl (congrArg Value.bool (decide_eq_false g19)) rfl <| OM (t := 58) rfl (congrArg Value.bool (decide_eq_false g19)) rfl <| OM (t := 58) rfl (congrArg Value.bool (decide_eq_false g19)) rfl <| CN <| Op1.pickF (u := .bool _) (congrArg Value.bool (decide_eq_false g19)) rfl <| MB rfl <| OM (t := 65) rfl (congrArg Value.bool (rfl : false = _)) rfl <| OM (t := 65) rfl (congrArg Value.bool (rfl : false = _)) rfl <| OM (t := 65) rfl (congrArg Value.bool (rfl : false = _)) rfl <| OM (t := 65) rfl (congrArg Value.bool (rfl : false = _)) rfl <| OM (t := 65) rfl (congrArg Value.bool (rfl : false = _)) rfl <| CN <| Op1.pickF (u := .bool _) (congrArg Value.bool (rfl : false = _)) rfl <| NL <| run_cond_false (congrArg Value.bool (rfl : false = _)) ?_
   refine run_skip <| SR <| AC rfl <| AI rfl <| NL <| run_ret2 Tryd.func62 rfl (TP (v := .int .u8 _) rfl) (TP (v := .int .i64 _) rfl) ?_
   have hq4 : ¬ (a + 3 < s.length ∧ (s.getD (a + 1) 0).toNat = 120 ∧ hexB (s.getD (a + 2) 0) = true ∧ hexB (s.getD (a + 3) 0) = true) := by intro ⟨q1, q2, q3, q4⟩; first | omega
   rw [part_no2 ha (by omega) (by omega) hq4]
   exact ⟨rfl, hst.pure⟩
 refine OM (t := 51) rfl (congrArg Value.bool (decide_eq_false g18)) rfl <| OM (t := 51) rfl (congrArg Value.bool (decide_eq_false g18)) rfl <| OM (t := 51) rfl (congrArg Value.bool (decide_eq_false g18)) rfl <| OM (t := 51) rfl (congrArg Value.bool (decide_eq_false g18)) rfl <| OM (t := 51) rfl (congrArg Value.bool (decide_eq_false g18)) rfl <| CN <| Op1.pickF (u := .bool _) (congrArg Value.bool (decide_eq_false g18)) rfl <| MB rfl <| OM (t := 58) rfl (congrArg Value.bool (rfl : false = _)) rfl <| OM (t := 58) rfl (congrArg Value.bool (rfl : false = _)) rfl <| OM (t := 58) rfl (congrArg Value.bool (rfl : false = _)) rfl <| OM (t := 58) rfl (congrArg Value.bool (rfl : false = _)) rfl <| OM (t := 58) rfl (congrArg Value.bool (rfl : false = _)) rfl <| CN <| Op1.pickF (u := .bool _) (congrArg Value.bool (rfl : false = _)) rfl <| MB rfl <| OM (t := 65) rfl (congrArg Value.bool (rfl : false = _)) rfl ?_
 refine OM (t := 65) rfl (congrArg Value.bool (rfl : false = _)) rfl <| OM (t := 65) rfl (congrArg Value.bool (rfl : false = _)) rfl <| OM (t := 65) rfl (congrArg Value.bool (rfl : false = _)) rfl <| OM (t := 65) rfl (congrArg Value.bool (rfl : false = _)) rfl <| CN <| Op1.pickF (u := .bool _) (congrArg Value.bool (rfl : false = _)) rfl <| NL <| run_cond_false (congrArg Value.bool (rfl : false = _)) <| run_skip <| SR <| AC rfl <| AI rfl <| NL <| run_ret2 Tryd.func62 rfl (TP (v := .int .u8 _) rfl) (TP (v := .int .i64 _) rfl) ?_
 have hq4 : ¬ (a + 3 < s.length ∧ (s.getD (a + 1) 0).toNat = 120 ∧ hexB (s.getD (a + 2) 0) = true ∧ hexB (s.getD (a + 3) 0) = true) := by intro ⟨q1, q2, q3, q4⟩; first | omega
 rw [part_no2 ha (by omega) (by omega) hq4]
 exact ⟨rfl, hst.pure⟩
end Go.SK
namespace Go.SK
open Go Go.Proofs
theorem ent62 : Enters Tryd.prog 62 := ⟨Tryd.f62, _, Tryd.func62, by kernel_rfl, rfl⟩
end Go.SK
namespace Go.SK
open Go Go.Proofs
open Go.RowKit
theorem R4lx_Quoted (s : Tx) (x : Int) (a : Nat) (hx : x = a) (ha : a < s.length) (w : World) (hl : s.length ≤ 1099511627776) : Ret Tryd.prog 51 #[str s, .int .i64 x] w (fun v w' => v = .tuple #[str (quoP (quoA s (a + 1))).1, .int .i64 ((quoP (quoA s (a + 1))).2 : Int)] ∧ St w NoM [] [] w') := by
 refine Ret.enter (args := [str s, .int .i64 x]) Tryd.func51 rfl rfl rfl ?_
 have hst := St.init w
 subst hx
 refine SR <| AS rfl <| AI rfl <| NSR <| AL rfl <| NSR <| MI rfl <| CN <| Op1.addN rfl rfl rfl (wrap_i64 (by omega) (by omega)) <| AI rfl <| NL ?_
 refine SQ <| run_block <| run_loop ?_
 replace hst := hst.pushNil 5 1
 refine Run.indW [(0, str _), (1, .int .i64 _)] ⟨rfl, rfl, trivial⟩ (fun (qq : Nat × Tx × Option Addr × Nat) => [(6, .slice qq.2.2.1 qq.2.1.length qq.2.2.2), (7, .int .i64 (qq.1 : Int))]) (fun (qq : Nat × Tx × Option Addr × Nat) => [Res.sl qq.2.2.1 qq.2.1.length qq.2.2.2 5 1 (qq.2.1.flatMap byC)]) (fun (qq : Nat × Tx × Option Addr × Nat) => quoI s (a + 1) qq.1 qq.2.1) (fun (qq : Nat × Tx × Option Addr × Nat) => s.length - qq.1) ((a + 1, [], none, 0)) hst (quoI_start (by omega)) ⟨rfl, rfl, trivial⟩ ?_
 intro ⟨i, b, aq, cq⟩ f w hst hJ ih1
 replace hst : St _ _ ([Res.sl aq b.length cq 5 1 (b.flatMap byC)] ++ []) _ _ := hst
 replace hJ : quoI s (a + 1) i b := hJ
 refine Run.slots (sl := [(6, .slice aq b.length cq), (7, .int .i64 (i : Int))]) ⟨rfl, rfl, trivial⟩ ?_
 have hidx : (s.getD ((i : Int).toNat) 0).toNat = (s.getD i 0).toNat := rfl
 have hj2 := hJ.2.1
 have hj3 := hJ.2.2.1
 have hj1 := hJ.1
 refine SQ <| SR <| MI rfl <| MS rfl <| CN <| Op1.lenS (rest := []) ty9 rfl <| CN <| Op1.lss rfl rfl <| NL <| run_cond_dec rfl (fun g2 => ?_) (fun g2 => ?_)
 · skip
   refine run_skip <| run_block <| SQ <| SR <| MS rfl <| MI rfl <| CN <| Op1.indexS ty9 rfl rfl (by omega) (by omega) <| CN <| Op1.eql rfl rfl <| NL <| run_cond_dec rfl (fun g3 => ?_) (fun g3 => ?_)
   · skip
     refine SR <| ML rfl <| CN <| Op1.bytesStr2 (l := b) ty70 ty5 ty9 rfl rfl (Res.rs_of_sl (hst.hL _ (.head _))) rfl <| MI rfl <| CN <| Op1.addN rfl rfl rfl (wrap_i64 (by omega) (by omega)) <| MI rfl <| CN <| Op1.subN rfl rfl rfl (wrap_i64 (by omega) (by omega)) <| AS rfl <| AI rfl <| NL <| run_ret2 Tryd.func51 rfl (TP (v := str _) rfl) (TP (v := .int .i64 _) rfl) ?_
     rw [quoI_mark hJ (by omega) (by omega)]
     unfold quoP; dsimp only
     refine ⟨?_, hst.pure⟩
     congr 3; congr 1; have hj1 := hJ.1; congr 1; omega
   refine run_skip <| SR <| MS rfl <| MI rfl <| CN <| Op1.call2 (v1 := str _) (v2 := .int .i64 _) ent62 rfl rfl rfl <| Ret.det (R4lx_Part s _ i rfl (by omega) _ (by omega)) hst fun w hst => CN <| Op1.move (v := .tuple #[.int .u8 _, .int .i64 _]) rfl <| CN <| Op1.extract (v := .int .u8 _) rfl rfl <| CN <| Op1.extract (v := .int .i64 _) rfl rfl <| AC rfl <| AI rfl <| NL <| SQ <| SQ <| RG ?_
   refine MI rfl <| CN <| Op1.eql rfl rfl <| NL <| run_cond_dec rfl (fun g4 => ?_) (fun g4 => ?_)
   · skip
     have hpn : partF (s.drop i) = none := get_none (d := (0 : UInt8)) (fun c k h => (part_pos h).1) (Int.ofNat_eq_zero.1 g4)
     refine SR <| AS rfl <| AI rfl <| NL <| run_ret2 Tryd.func51 rfl (TP (v := str _) rfl) (TP (v := .int .i64 _) rfl) ?_
     rw [quoI_none hJ (quo_none (by omega) (by omega) hpn)]
     exact ⟨rfl, hst.pure⟩
   have hpt : partF (s.drop i) = some (((partF (s.drop i)).getD (0, 0)).1, ((partF (s.drop i)).getD (0, 0)).2) := get_some (d := (0 : UInt8)) (fun e => g4 (by rw [e]; rfl))
   have hpl := part_len (by omega) hpt
   refine run_skip <| SR <| ML rfl <| MC rfl <| CN (Op1.buildSl (z0 := [.int .u8 0]) hst ty70 ty5 rfl rfl (by kernel_rfl) (.c (v := .int .u8 _) rfl (h := .nil)) fun w b36 hst => ?_)
   refine CN (Op1.append (news := byC ((partF (s.drop i)).getD (0, 0)).1) hst ty70 ty5 rfl rfl (.there (.here)) rfl rfl rfl (cells_of_obj (n := 1) (hst.objL (.head _)) _ rfl) rfl rfl (by omega) fun w ao5 cp6 hst => ?_)
   replace hst := hst.drop (.there (.here))
   refine AL rfl <| NL <| Run.forget [(0, str _), (1, .int .i64 _), (6, .slice _ _ _), (7, .int .i64 _), (9, .int .i64 _)] ⟨rfl, rfl, rfl, rfl, rfl, trivial⟩ fun f => RG <| MI rfl <| MI rfl <| CN <| Op1.addN rfl rfl rfl (wrap_i64 (by omega) (by omega)) <| AI rfl <| NL <| run_inBlock <| run_inLoop ?_
   have hI := quoI_step hJ (by omega) (by omega) hpt
   exact ih1 ((i + ((partF (s.drop i)).getD (0, 0)).2, b ++ [((partF (s.drop i)).getD (0, 0)).1], ao5, cp6)) _ w (by (try dsimp only); have := (part_len (by omega) hpt).1; omega) (by rw [List.length_append, List.flatMap_append]; exact hst) (hI) ⟨rfl, rfl, trivial⟩ ⟨(by simp only [List.length_append]; rfl), (congrArg (Value.int .i64) (by (try dsimp only); omega)), trivial⟩
 refine run_exit (id := 0) rfl <| SR <| AS rfl <| AI rfl <| NL <| run_ret2 Tryd.func51 rfl (TP (v := str _) rfl) (TP (v := .int .i64 _) rfl) ?_
 rw [quoI_none hJ (quo_end (by omega))]
 exact ⟨rfl, hst.pure⟩
end Go.SK
namespace Go.SK
open Go Go.Proofs
theorem ent51 : Enters Tryd.prog 51 := ⟨Tryd.f51, _, Tryd.func51, by kernel_rfl, rfl⟩
theorem ent30 : Enters Tryd.prog 30 := ⟨Tryd.f30, _, Tryd.func30, by kernel_rfl, rfl⟩
theorem ent31 : Enters Tryd.prog 31 := ⟨Tryd.f31, _, Tryd.func31, by kernel_rfl, rfl⟩
end Go.SK
namespace Go.SK
open Go Go.Proofs
open Go.RowKit
theorem R4lx_rToken (s : Tx) (x : Int) (a : Nat) (hx : x = a) (ha : a < s.length) (w : World) (hl : s.length ≤ 1099511627776) : Ret Tryd.prog 31 #[str s, .int .i64 x] w (fun v w' => (∃ kd t m, tokF (s.drop a) = .ok (kd, t, m) ∧ v = .tuple #[.agg #[.int .u8 kd, str t, .int .i64 (a : Int)], .int .i64 ((m : Nat) : Int), .int .i64 0] ∧ St w NoM [] [] w') ∨ (∃ e kd t m, tokF (s.drop a) = .error e ∧ e ≠ 0 ∧ v = .tuple #[.agg #[.int .u8 kd, str t, .int .i64 0], .int .i64 m, .int .i64 e] ∧ St w NoM [] [] w')) := by
 refine Ret.enter (args := [str s, .int .i64 x]) Tryd.func31 rfl rfl rfl ?_
 have hst := St.init w
 subst hx
 have hidx : (s.getD ((a : Int).toNat) 0).toNat = (s.getD a 0).toNat := rfl
 have hru := runF_le (s.drop (a + 1))
 rw [List.length_drop] at hru
 refine SR <| CN <| Op1.alloc hst ty30 fun w b4 hst => AI rfl <| AI rfl <| NSR <| MS rfl <| MI rfl <| CN <| Op1.indexS ty9 rfl rfl (by omega) (by omega) <| AC rfl <| NL <| SQ <| SQ ?_
 refine RG <| MC rfl <| CN <| Op1.call1 (v1 := .int .u8 _) ent48 rfl rfl <| Ret.det (R4lx_Letter _ _) hst fun w hst => NL <| run_cond_split rfl (fun g1 => ?_) (fun g1 => ?_)
 · skip
   refine SR <| MS rfl <| MI rfl <| CN <| Op1.call2 (v1 := str _) (v2 := .int .i64 _) ent49 rfl rfl rfl <| Ret.det (R4lx_Run s _ a rfl (by omega) _ (by omega)) hst fun w hst => AS rfl <| NSR <| MS rfl <| MI rfl <| CN (Op1.buildStruct ty30 stf30 (.c (v := .int .u8 _) rfl (h := (.c (v := str _) rfl (h := (.c (v := .int .i64 _) rfl (h := .nil)))))) ?_)
   refine MS rfl <| CN <| Op1.lenS (rest := []) ty9 rfl <| CN (SO (v := .agg #[.int .u8 _, str _, .int .i64 _]) hst ty30 rfl rfl (.here) fun w hst => ?_)
   refine AI rfl <| AI rfl <| NL <| run_ret3 Tryd.func31 rfl (RV.cellA (vs := [.int .u8 _, str _, .int .i64 _]) rfl ty30 rfl rfl (cells_of_obj (n := 3) (hst.objL (.head _)) _ rfl)) (TP (v := .int .i64 _) rfl) (TP (v := .int .i64 _) rfl) ?_
   exact .inl ⟨_, _, _, tok_word g1, rfl, hst.pure⟩
 refine run_skip <| SQ <| SR <| MC rfl <| CN <| Op1.eql rfl rfl <| NL <| run_cond_dec rfl (fun g2 => ?_) (fun g2 => ?_)
 · skip
   refine SR <| MS rfl <| MI rfl <| CN <| Op1.addN rfl rfl rfl (wrap_i64 (by omega) (by omega)) <| CN <| Op1.call2 (v1 := str _) (v2 := .int .i64 _) ent49 rfl rfl rfl <| Ret.det (R4lx_Run s _ (a + 1) (by omega) (by omega) _ (by omega)) hst fun w hst => AS rfl <| NSR <| MS rfl <| CN <| Op1.call1 (v1 := str _) ent34 rfl rfl <| Ret.det (R4lx_Plain _ _ (by omega)) hst fun w hst => CN <| Op1.move (v := .tuple #[.int .u64 _, .bool _]) rfl <| CN <| Op1.extract (v := .int .u64 _) rfl rfl <| CN (Op1.extract (v := .bool _) rfl rfl ?_)
   refine CN <| Op1.assign (v := .int .u64 _) rfl <| AB rfl <| NL <| Run.forget [(1, .int .i64 _), (4, .pointer (some ⟨_, _, none⟩)), (9, str _), (11, .bool _)] ⟨rfl, rfl, rfl, rfl, trivial⟩ fun f => SQ <| SR <| MB rfl <| CN <| Op1.not rfl <| NL <| run_cond_split rfl (fun g3 => ?_) (fun g3 => ?_)
   · skip
     refine SR <| CN (Op1.buildStruct ty30 stf30 .nil ?_)
     refine CN (SO (v := .agg #[.int .u8 _, str _, .int .i64 _]) hst ty30 rfl rfl (.here) fun w hst => ?_)
     refine AI rfl <| AI rfl <| NL <| run_ret3 Tryd.func31 rfl (RV.cellA (vs := [.int .u8 _, str _, .int .i64 _]) rfl ty30 rfl rfl (cells_of_obj (n := 3) (hst.objL (.head _)) _ rfl)) (TP (v := .int .i64 _) rfl) (TP (v := .int .i64 _) rfl) ?_
     exact .inr ⟨_, _, _, _, tok_idNo (by omega) (not_t g3), by decide, rfl, hst.pure⟩
   refine run_skip <| SR <| MS rfl <| MI rfl <| CN (Op1.buildStruct ty30 stf30 (.c (v := .int .u8 _) rfl (h := (.c (v := str _) rfl (h := (.c (v := .int .i64 _) rfl (h := .nil)))))) ?_)
   refine MS rfl <| CN <| Op1.lenS (rest := []) ty9 rfl <| CN <| Op1.addN rfl rfl rfl (wrap_i64 (by omega) (by omega)) <| CN (SO (v := .agg #[.int .u8 _, str _, .int .i64 _]) hst ty30 rfl rfl (.here) fun w hst => ?_)
   refine AI rfl <| AI rfl <| NL <| run_ret3 Tryd.func31 rfl (RV.cellA (vs := [.int .u8 _, str _, .int .i64 _]) rfl ty30 rfl rfl (cells_of_obj (n := 3) (hst.objL (.head _)) _ rfl)) (TP (v := .int .i64 _) rfl) (TP (v := .int .i64 _) rfl) ?_
   exact .inl ⟨_, _, _, tok_idOk (by omega) (not_f g3), rfl, hst.pure⟩
 refine run_skip <| SQ <| SR <| MC rfl <| CN <| Op1.call1 (v1 := .int .u8 _) ent50 rfl rfl <| Ret.det (R4lx_Digit _ _) hst fun w hst => MB rfl <| RunL.split (d := 52) rfl (fun g4 => ?_) (fun g4 => ?_)
 · skip
   refine OM (t := 52) rfl (congrArg Value.bool g4) rfl <| OM (t := 52) rfl (congrArg Value.bool g4) rfl <| CN <| Op1.pickT (u := .bool _) (congrArg Value.bool g4) rfl <| NL <| run_cond_true (congrArg Value.bool (rfl : true = _)) <| SR <| MS rfl <| MI rfl <| MI rfl <| CN <| Op1.addN rfl rfl rfl (wrap_i64 (by omega) (by omega)) <| MS rfl <| MI rfl <| CN <| Op1.addN rfl rfl rfl (wrap_i64 (by omega) (by omega)) <| CN <| Op1.call2 (v1 := str _) (v2 := .int .i64 _) ent49 rfl rfl rfl <| Ret.det (R4lx_Run s _ (a + 1) (by omega) (by omega) _ (by omega)) hst fun w hst => ?_
   refine CN <| Op1.lenS (rest := []) ty9 rfl <| CN <| Op1.addN rfl rfl rfl (wrap_i64 (by omega) (by omega)) <| CN <| Op1.sliceMid ty9 rfl rfl rfl (by omega) (by omega) (by omega) <| AS rfl <| NL <| Run.forget [(1, .int .i64 _), (4, .pointer (some ⟨_, _, none⟩)), (12, str _)] ⟨rfl, rfl, rfl, trivial⟩ fun f => SR <| MS rfl <| CN <| Op1.call1 (v1 := str _) ent18 rfl rfl <| Ret.det (R4lx_Number _ _ (by first | omega | (simp only [List.length_drop, List.length_take, List.length_append, List.length_cons, List.length_nil]; omega))) hst fun w hst => CN <| Op1.move (v := .tuple #[.int .u32 _, .int .i64 _]) rfl <| CN <| Op1.extract (v := .int .u32 _) rfl rfl <| CN <| Op1.extract (v := .int .i64 _) rfl rfl <| AU rfl <| AI rfl ?_
   refine NL <| SQ <| SR <| MI rfl <| CN <| Op1.neq rfl rfl <| NL <| run_cond_dec rfl (fun g5 => ?_) (fun g5 => ?_)
   · skip
     have hta : (s.drop a).take (1 + (runF (s.drop (a + 1))).length) = (s.drop ((a : Int).toNat)).take (((a : Int) + 1 + ((runF (s.drop (a + 1))).length : Int)).toNat - (a : Int).toNat) := by congr 1; omega
     refine SR <| CN (Op1.buildStruct ty30 stf30 .nil ?_)
     refine CN (SO (v := .agg #[.int .u8 _, str _, .int .i64 _]) hst ty30 rfl rfl (.here) fun w hst => ?_)
     refine AI rfl <| AI rfl <| NL <| run_ret3 Tryd.func31 rfl (RV.cellA (vs := [.int .u8 _, str _, .int .i64 _]) rfl ty30 rfl rfl (cells_of_obj (n := 3) (hst.objL (.head _)) _ rfl)) (TP (v := .int .i64 _) rfl) (TP (v := .int .i64 _) rfl) ?_
     exact .inr ⟨_, _, _, _, tok_numNo (.inl g4) hta g5, by decide, rfl, hst.pure⟩
   have hta : (s.drop a).take (1 + (runF (s.drop (a + 1))).length) = (s.drop ((a : Int).toNat)).take (((a : Int) + 1 + ((runF (s.drop (a + 1))).length : Int)).toNat - (a : Int).toNat) := by congr 1; omega
   refine run_skip <| SR <| MS rfl <| MI rfl <| CN (Op1.buildStruct ty30 stf30 (.c (v := .int .u8 _) rfl (h := (.c (v := str _) rfl (h := (.c (v := .int .i64 _) rfl (h := .nil)))))) ?_)
   refine MS rfl <| CN <| Op1.lenS (rest := []) ty9 rfl <| CN (SO (v := .agg #[.int .u8 _, str _, .int .i64 _]) hst ty30 rfl rfl (.here) fun w hst => ?_)
   refine AI rfl <| AI rfl <| NL <| run_ret3 Tryd.func31 rfl (RV.cellA (vs := [.int .u8 _, str _, .int .i64 _]) rfl ty30 rfl rfl (cells_of_obj (n := 3) (hst.objL (.head _)) _ rfl)) (TP (v := .int .i64 _) rfl) (TP (v := .int .i64 _) rfl) ?_
   exact .inl ⟨_, _, _, tok_numOk (.inl g4) hta (by omega), rfl, hst.pure⟩
 refine TK (t := 52) rfl (congrArg Value.bool g4) <| Op1.move (v := .int .u8 _) rfl <| TK (t := 52) rfl (congrArg Value.bool g4) <| Op1.eql rfl rfl <| CN <| Op1.pickF (u := .bool _) (congrArg Value.bool g4) rfl <| NL <| run_cond_dec rfl (fun g6 => ?_) (fun g6 => ?_)
 · skip
   refine SR <| MS rfl <| MI rfl <| MI rfl <| CN <| Op1.addN rfl rfl rfl (wrap_i64 (by omega) (by omega)) <| MS rfl <| MI rfl <| CN <| Op1.addN rfl rfl rfl (wrap_i64 (by omega) (by omega)) <| CN <| Op1.call2 (v1 := str _) (v2 := .int .i64 _) ent49 rfl rfl rfl <| Ret.det (R4lx_Run s _ (a + 1) (by omega) (by omega) _ (by omega)) hst fun w hst => CN <| Op1.lenS (rest := []) ty9 rfl <| CN <| Op1.addN rfl rfl rfl (wrap_i64 (by omega) (by omega)) <| CN <| Op1.sliceMid ty9 rfl rfl rfl (by omega) (by omega) (by omega) <| AS rfl <| NL ?_
   refine Run.forget [(1, .int .i64 _), (4, .pointer (some ⟨_, _, none⟩)), (12, str _)] ⟨rfl, rfl, rfl, trivial⟩ fun f => SR <| MS rfl <| CN <| Op1.call1 (v1 := str _) ent18 rfl rfl <| Ret.det (R4lx_Number _ _ (by first | omega | (simp only [List.length_drop, List.length_take, List.length_append, List.length_cons, List.length_nil]; omega))) hst fun w hst => CN <| Op1.move (v := .tuple #[.int .u32 _, .int .i64 _]) rfl <| CN <| Op1.extract (v := .int .u32 _) rfl rfl <| CN <| Op1.extract (v := .int .i64 _) rfl rfl <| AU rfl <| AI rfl <| NL <| SQ <| SR <| MI rfl ?_
   refine CN <| Op1.neq rfl rfl <| NL <| run_cond_dec rfl (fun g7 => ?_) (fun g7 => ?_)
   · skip
     have hta : (s.drop a).take (1 + (runF (s.drop (a + 1))).length) = (s.drop ((a : Int).toNat)).take (((a : Int) + 1 + ((runF (s.drop (a + 1))).length : Int)).toNat - (a : Int).toNat) := by congr 1; omega
     refine SR <| CN (Op1.buildStruct ty30 stf30 .nil ?_)
     refine CN (SO (v := .agg #[.int .u8 _, str _, .int .i64 _]) hst ty30 rfl rfl (.here) fun w hst => ?_)
     refine AI rfl <| AI rfl <| NL <| run_ret3 Tryd.func31 rfl (RV.cellA (vs := [.int .u8 _, str _, .int .i64 _]) rfl ty30 rfl rfl (cells_of_obj (n := 3) (hst.objL (.head _)) _ rfl)) (TP (v := .int .i64 _) rfl) (TP (v := .int .i64 _) rfl) ?_
     exact .inr ⟨_, _, _, _, tok_numNo (.inr (by omega)) hta g7, by decide, rfl, hst.pure⟩
   have hta : (s.drop a).take (1 + (runF (s.drop (a + 1))).length) = (s.drop ((a : Int).toNat)).take (((a : Int) + 1 + ((runF (s.drop (a + 1))).length : Int)).toNat - (a : Int).toNat) := by congr 1; omega
   refine run_skip <| SR <| MS rfl <| MI rfl <| CN (Op1.buildStruct ty30 stf30 (.c (v := .int .u8 _) rfl (h := (.c (v := str _) rfl (h := (.c (v := .int .i64 _) rfl (h := .nil)))))) ?_)
   refine MS rfl <| CN <| Op1.lenS (rest := []) ty9 rfl <| CN (SO (v := .agg #[.int .u8 _, str _, .int .i64 _]) hst ty30 rfl rfl (.here) fun w hst => ?_)
   refine AI rfl <| AI rfl <| NL <| run_ret3 Tryd.func31 rfl (RV.cellA (vs := [.int .u8 _, str _, .int .i64 _]) rfl ty30 rfl rfl (cells_of_obj (n := 3) (hst.objL (.head _)) _ rfl)) (TP (v := .int .i64 _) rfl) (TP (v := .int .i64 _) rfl) ?_
   exact .inl ⟨_, _, _, tok_numOk (.inr (by omega)) hta (by omega), rfl, hst.pure⟩
 refine run_skip <| SQ <| SR <| MC rfl <| CN <| Op1.eql rfl rfl <| NL <| Run.forget [(0, str _), (1, .int .i64 _), (4, .pointer (some ⟨_, _, none⟩)), (7, .int .u8 _), (81, .bool _)] ⟨rfl, rfl, rfl, rfl, rfl, trivial⟩ fun f => run_cond_dec rfl (fun g8 => ?_) (fun g8 => ?_)
 · skip
   refine SR <| MS rfl <| MI rfl <| CN <| Op1.call2 (v1 := str _) (v2 := .int .i64 _) ent51 rfl rfl rfl <| Ret.det (R4lx_Quoted s _ a rfl (by omega) _ (by omega)) hst fun w hst => CN <| Op1.move (v := .tuple #[str _, .int .i64 _]) rfl <| CN <| Op1.extract (v := str _) rfl rfl <| CN <| Op1.extract (v := .int .i64 _) rfl rfl <| AS rfl <| AI rfl <| NL <| SQ <| SR <| MI rfl ?_
   refine CN <| Op1.eql rfl rfl <| NL <| run_cond_dec rfl (fun g9 => ?_) (fun g9 => ?_)
   · skip
     refine SR <| CN (Op1.buildStruct ty30 stf30 .nil ?_)
     refine CN (SO (v := .agg #[.int .u8 _, str _, .int .i64 _]) hst ty30 rfl rfl (.here) fun w hst => ?_)
     refine AI rfl <| AI rfl <| NL <| run_ret3 Tryd.func31 rfl (RV.cellA (vs := [.int .u8 _, str _, .int .i64 _]) rfl ty30 rfl rfl (cells_of_obj (n := 3) (hst.objL (.head _)) _ rfl)) (TP (v := .int .i64 _) rfl) (TP (v := .int .i64 _) rfl) ?_
     exact .inr ⟨_, _, _, _, tok_strNo (by omega) (by omega), by decide, rfl, hst.pure⟩
   refine run_skip <| SR <| MS rfl <| MI rfl <| CN (Op1.buildStruct ty30 stf30 (.c (v := .int .u8 _) rfl (h := (.c (v := str _) rfl (h := (.c (v := .int .i64 _) rfl (h := .nil)))))) ?_)
   refine MI rfl <| CN (SO (v := .agg #[.int .u8 _, str _, .int .i64 _]) hst ty30 rfl rfl (.here) fun w hst => ?_)
   refine AI rfl <| AI rfl <| NL <| run_ret3 Tryd.func31 rfl (RV.cellA (vs := [.int .u8 _, str _, .int .i64 _]) rfl ty30 rfl rfl (cells_of_obj (n := 3) (hst.objL (.head _)) _ rfl)) (TP (v := .int .i64 _) rfl) (TP (v := .int .i64 _) rfl) ?_
   exact .inl ⟨_, _, _, tok_strOk (by omega) (by omega), rfl, hst.pure⟩
 refine run_skip <| SQ <| SR <| MC rfl <| CN <| Op1.eql rfl rfl <| NL <| run_cond_dec rfl (fun g10 => ?_) (fun g10 => ?_)
 · skip
   refine SR <| MI rfl <| CN (Op1.buildStruct ty30 stf30 (.c (v := .int .u8 _) rfl (h := (.c (v := str _) rfl (h := (.c (v := .int .i64 _) rfl (h := .nil)))))) ?_)
   refine CN (SO (v := .agg #[.int .u8 _, str _, .int .i64 _]) hst ty30 rfl rfl (.here) fun w hst => ?_)
   refine AI rfl <| AI rfl <| NL <| run_ret3 Tryd.func31 rfl (RV.cellA (vs := [.int .u8 _, str _, .int .i64 _]) rfl ty30 rfl rfl (cells_of_obj (n := 3) (hst.objL (.head _)) _ rfl)) (TP (v := .int .i64 _) rfl) (TP (v := .int .i64 _) rfl) ?_
   exact .inl ⟨_, _, _, tok_eq (by omega), rfl, hst.pure⟩
 refine run_skip <| SR <| CN (Op1.buildStruct ty30 stf30 .nil ?_)
 refine CN (SO (v := .agg #[.int .u8 _, str _, .int .i64 _]) hst ty30 rfl rfl (.here) fun w hst => ?_)
 refine AI rfl <| AI rfl <| NL <| run_ret3 Tryd.func31 rfl (RV.cellA (vs := [.int .u8 _, str _, .int .i64 _]) rfl ty30 rfl rfl (cells_of_obj (n := 3) (hst.objL (.head _)) _ rfl)) (TP (v := .int .i64 _) rfl) (TP (v := .int .i64 _) rfl) ?_
 exact .inr ⟨_, _, _, _, tok_bad (f_no g1) (by omega) (f_no g4) (by omega) (by omega) (by omega), by decide, rfl, hst.pure⟩
theorem R4lx_rTokens (s : Tx) (w : World) (hl : s.length ≤ 1099511627776) : Ret Tryd.prog 14 #[str s] w (fun v w' => ∃ ao cp, v = .tuple #[.slice ao (toksF s).1.length cp, .agg #[.int .i64 (toksF s).2.1, .int .i64 (toksF s).2.2]] ∧ St w NoM [Res.sl ao (toksF s).1.length cp 30 3 ((toksF s).1.flatMap tokC)] [] w') := by
 refine Ret.enter (args := [str s]) Tryd.func14 rfl rfl rfl ?_
 have hst := St.init w
 refine SR <| AL rfl <| CN <| Op1.alloc hst ty25 fun w b3 hst => NSR <| AL rfl <| NSR <| AI rfl <| NL <| SQ <| run_block ?_
 refine run_loop ?_
 replace hst := hst.pushNil 30 3
 refine Run.indW [(0, str _), (3, .pointer (some ⟨_, _, none⟩))] ⟨rfl, rfl, trivial⟩ (fun (qq : Nat × List TokL × Option Addr × Nat) => [(4, .slice qq.2.2.1 qq.2.1.length qq.2.2.2), (5, .int .i64 (qq.1 : Int))]) (fun (qq : Nat × List TokL × Option Addr × Nat) => [Res.sl qq.2.2.1 qq.2.1.length qq.2.2.2 30 3 (qq.2.1.flatMap tokC)]) (fun (qq : Nat × List TokL × Option Addr × Nat) => toksI s qq.1 qq.2.1) (fun (qq : Nat × List TokL × Option Addr × Nat) => s.length - qq.1) ((0, [], none, 0)) hst (toksI_start s) ⟨rfl, rfl, trivial⟩ ?_
 intro ⟨i, l, aq, cq⟩ f w hst hJ ih1
 replace hst : St _ _ ([Res.sl aq l.length cq 30 3 (l.flatMap tokC)] ++ [_]) _ _ := hst
 replace hJ : toksI s i l := hJ
 refine Run.slots (sl := [(4, .slice aq l.length cq), (5, .int .i64 (i : Int))]) ⟨rfl, rfl, trivial⟩ ?_
 have hidx : (s.getD ((i : Int).toNat) 0).toNat = (s.getD i 0).toNat := rfl
 have hj2 := hJ.2.1
 have hj1 := hJ.1
 refine SQ <| SR <| MI rfl <| MS rfl <| CN <| Op1.lenS (rest := []) ty9 rfl <| CN <| Op1.lss rfl rfl <| MB rfl <| RunL.splitD (d := 13) rfl (fun g2 => ?_) (fun g2 => ?_)
 · skip
   refine TK (t := 13) rfl (congrArg Value.bool (decide_eq_true g2)) <| Op1.move (v := str _) rfl <| TK (t := 13) rfl (congrArg Value.bool (decide_eq_true g2)) <| Op1.move (v := .int .i64 _) rfl <| TK (t := 13) rfl (congrArg Value.bool (decide_eq_true g2)) <| Op1.indexS ty9 rfl rfl (by omega) (by omega) <| TK (t := 13) rfl (congrArg Value.bool (decide_eq_true g2)) <| Op1.neq rfl rfl <| CN <| Op1.pickT (u := .bool _) (congrArg Value.bool (decide_eq_true g2)) rfl <| NL <| run_cond_dec rfl (fun g3 => ?_) (fun g3 => ?_)
   · skip
     refine run_skip <| run_block <| SQ <| SR <| MS rfl <| MI rfl <| CN <| Op1.indexS ty9 rfl rfl (by omega) (by omega) <| CN <| Op1.call1 (v1 := .int .u8 _) ent30 rfl rfl <| Ret.det (R4lx_Blank _ _) hst fun w hst => NL <| run_cond_split rfl (fun g4 => ?_) (fun g4 => ?_)
     · skip
       refine SR <| MI rfl <| CN <| Op1.addN rfl rfl rfl (wrap_i64 (by omega) (by omega)) <| AI rfl <| NL <| run_exit (id := 1) rfl <| run_inLoop ?_
       have hI := toksI_blank hJ (by omega) (by omega) g4
       exact ih1 ((i + 1, l, aq, cq)) _ w ((by (try dsimp only); omega)) hst (hI) ⟨rfl, rfl, trivial⟩ ⟨rfl, (congrArg (Value.int .i64) (by (try dsimp only); omega)), trivial⟩
     refine run_skip <| SR <| MS rfl <| MI rfl <| CN (Op1.call2 (v1 := str _) (v2 := .int .i64 _) ent31 rfl rfl rfl ((R4lx_rToken s _ i rfl (by omega) _ hl).mono fun v w hp => ?_))
     rcases hp with ⟨kd, t, m, htk, rfl, hp⟩ | ⟨e, kd, t, m, htk, hne, rfl, hp⟩
     · skip
       replace hst := hst.keepc hp
       clear hp
       have hm := tokF_len (by rw [List.length_drop]; omega) htk
       rw [List.length_drop] at hm
       refine CN <| Op1.move (v := .tuple #[.agg #[.int .u8 _, str _, .int .i64 _], .int .i64 _, .int .i64 _]) rfl <| CN <| Op1.extract (v := .agg #[.int .u8 _, str _, .int .i64 _]) rfl rfl <| CN <| Op1.extract (v := .int .i64 _) rfl rfl <| CN <| Op1.extract (v := .int .i64 _) rfl rfl <| CN <| Op1.alloc hst ty30 fun w b6 hst => CN (SO (v := .agg #[.int .u8 _, str _, .int .i64 _]) hst ty30 rfl rfl (.here) fun w hst => ?_)
       refine AI rfl <| AI rfl <| NL <| Run.forget [(0, str _), (3, .pointer (some ⟨_, _, none⟩)), (4, .slice _ _ _), (5, .int .i64 _), (6, .pointer (some ⟨_, _, none⟩)), (7, .int .i64 _), (8, .int .i64 _)] ⟨rfl, rfl, rfl, rfl, rfl, rfl, rfl, trivial⟩ fun f => SQ <| SR <| MI rfl <| CN <| Op1.neq rfl rfl <| NL <| run_cond_dec rfl (fun g5 => ?_) (fun g5 => ?_)
       · skip
         exfalso
         exact g5 rfl
       refine run_skip <| SR <| ML rfl <| CN <| Op1.loadA (vs := [.int .u8 _, str _, .int .i64 _]) ty30 rfl rfl rfl (cells_of_obj (n := 3) (hst.objL (.head _)) _ rfl) <| CN (Op1.buildSl (z0 := [.int .u8 0, str [], .int .i64 0]) hst ty22 ty30 rfl rfl (by kernel_rfl) (.c (v := .agg #[.int .u8 _, str _, .int .i64 _]) rfl (h := .nil)) fun w b39 hst => ?_)
       refine CN (Op1.append (news := tokC ⟨kd, t, (i : Int)⟩) hst ty22 ty30 rfl rfl (.there (.there (.here))) rfl rfl rfl (cells_of_obj (n := 3) (hst.objL (.head _)) _ rfl) rfl rfl (by omega) fun w ao6 cp7 hst => ?_)
       replace hst := hst.drop (.there (.here))
       refine AL rfl <| NR <| MI rfl <| MI rfl <| CN <| Op1.addN rfl rfl rfl (wrap_i64 (by omega) (by omega)) <| AI rfl <| NL <| run_inBlock <| run_inLoop ?_
       have hI := toksI_ok hJ (by omega) (by omega) (f_no g4) htk
       replace hst := hst.pick (.cons (.here) (.cons (.there (.here)) .nil))
       exact ih1 ((i + m, l ++ [⟨kd, t, (i : Int)⟩], ao6, cp7)) _ w ((by (try dsimp only); omega)) (by rw [List.length_append, List.flatMap_append]; exact hst) (hI) ⟨rfl, rfl, trivial⟩ ⟨(by simp only [List.length_append]; rfl), (congrArg (Value.int .i64) (by (try dsimp only); omega)), trivial⟩
     · skip
       replace hst := hst.keepc hp
       clear hp
       refine CN <| Op1.move (v := .tuple #[.agg #[.int .u8 _, str _, .int .i64 _], .int .i64 _, .int .i64 _]) rfl <| CN <| Op1.extract (v := .agg #[.int .u8 _, str _, .int .i64 _]) rfl rfl <| CN <| Op1.extract (v := .int .i64 _) rfl rfl <| CN <| Op1.extract (v := .int .i64 _) rfl rfl <| CN <| Op1.alloc hst ty30 fun w b6 hst => CN (SO (v := .agg #[.int .u8 _, str _, .int .i64 _]) hst ty30 rfl rfl (.here) fun w hst => ?_)
       refine AI rfl <| AI rfl <| NL <| Run.forget [(0, str _), (3, .pointer (some ⟨_, _, none⟩)), (4, .slice _ _ _), (5, .int .i64 _), (6, .pointer (some ⟨_, _, none⟩)), (7, .int .i64 _), (8, .int .i64 _)] ⟨rfl, rfl, rfl, rfl, rfl, rfl, rfl, trivial⟩ fun f => SQ <| SR <| MI rfl <| CN <| Op1.neq rfl rfl <| NL <| run_cond_dec rfl (fun g8 => ?_) (fun g8 => ?_)
       · skip
         refine SR <| MI rfl <| MI rfl <| CN (Op1.buildStruct ty25 stf25 (.c (v := .int .i64 _) rfl (h := (.c (v := .int .i64 _) rfl (h := .nil)))) ?_)
         refine AL rfl <| CN (SO (v := .agg #[.int .i64 _, .int .i64 _]) hst ty25 rfl rfl (.there (.there (.here))) fun w hst => ?_)
         refine NL <| run_ret2 Tryd.func14 rfl (TP (v := .slice _ _ _) rfl) (RV.cellA (vs := [.int .i64 _, .int .i64 _]) rfl ty25 rfl rfl (cells_of_obj (n := 2) (hst.objL (.tail _ (.tail _ (.head _)))) _ rfl)) ?_
         rw [toksI_err hJ (by omega) (by omega) (f_no g4) htk]
         replace hst := hst.pushNil 30 3
         replace hst := hst.pick (.cons (.here) .nil)
         exact ⟨none, 0, rfl, hst.noD⟩
       exfalso
       exact g8 hne
   refine run_exit (id := 0) rfl <| SR <| ML rfl <| CN (Op1.buildStruct ty25 stf25 .nil ?_)
   refine AL rfl <| CN (SO (v := .agg #[.int .i64 _, .int .i64 _]) hst ty25 rfl rfl (.there (.here)) fun w hst => ?_)
   refine NL <| run_ret2 Tryd.func14 rfl (TP (v := .slice _ _ _) rfl) (RV.cellA (vs := [.int .i64 _, .int .i64 _]) rfl ty25 rfl rfl (cells_of_obj (n := 2) (hst.objL (.tail _ (.head _))) _ rfl)) ?_
   rw [toksI_end hJ (by omega)]
   replace hst := hst.pick (.cons (.here) .nil)
   exact ⟨aq, cq, rfl, hst.noD⟩
 refine OM (t := 13) rfl (congrArg Value.bool (decide_eq_false g2)) rfl <| OM (t := 13) rfl (congrArg Value.bool (decide_eq_false g2)) rfl <| OM (t := 13) rfl (congrArg Value.bool (decide_eq_false g2)) rfl <| OM (t := 13) rfl (congrArg Value.bool (decide_eq_false g2)) rfl <| CN <| Op1.pickF (u := .bool _) (congrArg Value.bool (decide_eq_false g2)) rfl <| NL <| run_cond_false (congrArg Value.bool (rfl : false = _)) <| run_exit (id := 0) rfl <| SR <| ML rfl <| CN (Op1.buildStruct ty25 stf25 .nil ?_)
 refine AL rfl <| CN (SO (v := .agg #[.int .i64 _, .int .i64 _]) hst ty25 rfl rfl (.there (.here)) fun w hst => ?_)
 refine NL <| run_ret2 Tryd.func14 rfl (TP (v := .slice _ _ _) rfl) (RV.cellA (vs := [.int .i64 _, .int .i64 _]) rfl ty25 rfl rfl (cells_of_obj (n := 2) (hst.objL (.tail _ (.head _))) _ rfl)) ?_
 rw [toksI_end hJ (by omega)]
 replace hst := hst.pick (.cons (.here) .nil)
 exact ⟨aq, cq, rfl, hst.noD⟩
end Go.SK
namespace Go.SK
def spT0 : TokL := ⟨9, [], 0⟩
def spT (l : List TokL) (i : Nat) : List TokL := List.replicate i spT0 ++ l.drop i
theorem spT_len {l : List TokL} {i : Nat} (h : i ≤ l.length) : (spT l i).length = l.length := by
  unfold spT; rw [List.length_append, List.length_replicate, List.length_drop]; omega
theorem spT_zero (l : List TokL) : spT l 0 = l := by unfold spT; simp
theorem spT_step {l : List TokL} {i : Nat} (h : i < l.length) : setSeg ((spT l i).flatMap tokC) (0 + (i : Int).toNat * 3) [.int .u8 9, str [], .int .i64 0] = (spT l (i + 1)).flatMap tokC := by
  rw [Nat.zero_add, Int.toNat_natCast]
  have := setSeg_flat tokC_len spT0 (spT l i) i (by rw [spT_len (by omega)]; exact h)
  refine Eq.trans this ?_
  congr 1
  unfold spT
  rw [drop_tok h, List.set_append_right _ _ (by simp), List.length_replicate, Nat.sub_self, List.set_cons_zero, List.replicate_succ', List.append_assoc]; rfl
end Go.SK
namespace Go.SK
open Go Go.Proofs
theorem ent14 : Enters Tryd.prog 14 := ⟨Tryd.f14, _, Tryd.func14, by kernel_rfl, rfl⟩
end Go.SK
namespace Go.SK
open Go Go.Proofs
open Go.RowKit
theorem R4law_LexTokens (s : Tx) (w : World) (hG : LxG.holds w) (hl : s.length ≤ 1099511627776) : Ret Tryd.prog 3 #[str s] w (fun v w' => v = .bool true ∧ St w NoM [] [] w') := by
 refine Ret.enter (args := [str s]) Tryd.func3 rfl rfl rfl ?_
 have hst : St w NoM [] [LxG] w := St.init_Ds (by simp only [List.forall_mem_cons]; exact ⟨hG, fun _ h => absurd h List.not_mem_nil⟩)
 have htl := toksF_len s
 refine SR <| AB rfl <| NSR <| MS rfl <| CN (Op1.call1 (v1 := str _) ent14 rfl rfl ((R4lx_rTokens s _ (by omega)).mono fun v w hp => ?_))
 obtain ⟨ao_x1, cp_x1, rfl, hp⟩ := hp
 replace hst := hst.call0 hp
 clear hp
 refine CN <| Op1.move (v := .tuple #[.slice _ _ _, .agg #[.int .i64 _, .int .i64 _]]) rfl <| CN <| Op1.extract (v := .slice _ _ _) rfl rfl <| CN <| Op1.extract (v := .agg #[.int .i64 _, .int .i64 _]) rfl rfl <| CN <| Op1.alloc hst ty25 fun w b4 hst => AL rfl <| CN (SO (v := .agg #[.int .i64 _, .int .i64 _]) hst ty25 rfl rfl (.here) fun w hst => ?_)
 refine NSR <| MS rfl <| CN (Op1.call1 (v1 := str _) ent15 rfl rfl ((R4lx_lTokens s _ (hst.hD _ (.head _)) (by omega)).mono fun v w hp => ?_))
 obtain ⟨ao_x2, cp_x2, rfl, hp⟩ := hp
 replace hst := hst.call0 hp
 clear hp
 refine CN <| Op1.move (v := .tuple #[.slice _ _ _, .agg #[.int .i64 _, .int .i64 _]]) rfl <| CN <| Op1.extract (v := .slice _ _ _) rfl rfl <| CN <| Op1.extract (v := .agg #[.int .i64 _, .int .i64 _]) rfl rfl <| CN <| Op1.alloc hst ty25 fun w b6 hst => AL rfl <| CN (SO (v := .agg #[.int .i64 _, .int .i64 _]) hst ty25 rfl rfl (.here) fun w hst => ?_)
 refine NL <| SQ <| SR <| CN <| Op1.loadA (vs := [.int .i64 _, .int .i64 _]) ty25 rfl rfl rfl (cells_of_obj (n := 2) (hst.objL (.head _)) _ rfl) <| CN <| Op1.loadA (vs := [.int .i64 _, .int .i64 _]) ty25 rfl rfl rfl (cells_of_obj (n := 2) (hst.objL (.tail _ (.tail _ (.head _)))) _ rfl) <| CN <| Op1.neqA (xs := [.int .i64 _, .int .i64 _]) (ys := [.int .i64 _, .int .i64 _]) rfl rfl (by kernel_rfl) (EqOk.struct Tryd.underlying25 (by kernel_rfl) (.cons (by decide) (PartOk.one ty23 rfl rfl) (PartOk.one ty23 rfl rfl) (EqOk.int ty23) (.cons (by decide) (PartOk.one ty3 rfl rfl) (PartOk.one ty3 rfl rfl) (EqOk.int ty3) .nil))) <| MB rfl <| RunL.split (d := 23) rfl (fun g1 => ?_) (fun g1 => ?_)
 · skip
   exfalso
   simp at g1
 refine TK (t := 23) rfl (congrArg Value.bool g1) <| Op1.move (v := .slice _ _ _) rfl <| TK (t := 23) rfl (congrArg Value.bool g1) <| Op1.move (v := .slice _ _ _) rfl <| TK (t := 23) rfl (congrArg Value.bool g1) (Op1.call2 (v1 := .slice _ _ _) (v2 := .slice _ _ _) ent16 rfl rfl rfl ((R4lx_tokens _ _ _ _ _ _ _ (Res.rs_of_sl (hst.hL _ (.tail _ (.head _)))) (Res.rs_of_sl (hst.hL _ (.tail _ (.tail _ (.tail _ (.head _)))))) (by omega)).mono fun v w hp => ?_))
 obtain ⟨rfl, hp⟩ := hp
 replace hst := hst.keepc hp
 clear hp
 refine TK (t := 23) rfl (congrArg Value.bool g1) <| Op1.notD rfl <| CN <| Op1.pickF (u := .bool _) (congrArg Value.bool g1) rfl <| NL <| Run.forget [(0, str _), (3, .slice _ _ _), (4, .pointer (some ⟨_, _, none⟩)), (5, .slice _ _ _), (28, .bool _)] ⟨rfl, rfl, rfl, rfl, rfl, trivial⟩ fun f => run_cond_dec rfl (fun g2 => ?_) (fun g2 => ?_)
 · skip
   exfalso
   exact g2 rfl
 refine run_skip <| SQ <| SR <| AI rfl <| NL <| run_block <| run_loop ?_
 replace hst := hst.pick (.cons (.there (.here)) (.cons (.here) (.cons (.here) (.cons (.here) .nil))))
 refine Run.indW [(0, str _), (3, .slice _ _ _), (4, .pointer (some ⟨_, _, none⟩)), (5, .slice _ _ _)] ⟨rfl, rfl, rfl, rfl, trivial⟩ (fun (qq : Nat) => [(7, .int .i64 (qq : Int))]) (fun (qq : Nat) => [Res.sl ao_x2 (toksF s).1.length cp_x2 30 3 ((spT (toksF s).1 qq).flatMap tokC)]) (fun (qq : Nat) => qq ≤ (toksF s).1.length) (fun (qq : Nat) => (toksF s).1.length - qq) (0) (by rw [spT_zero]; exact hst) (Nat.zero_le _) ⟨rfl, trivial⟩ ?_
 intro i f w hst hJ ih3
 replace hst : St _ _ ([Res.sl ao_x2 (toksF s).1.length cp_x2 30 3 ((spT (toksF s).1 i).flatMap tokC)] ++ [_, _, _]) _ _ := hst
 replace hJ : i ≤ (toksF s).1.length := hJ
 refine Run.slots (sl := [(7, .int .i64 (i : Int))]) ⟨rfl, trivial⟩ <| SQ <| SR <| MI rfl <| ML rfl <| CN <| Op1.lenSl (rest := []) ty22 rfl <| CN <| Op1.lss rfl rfl <| NL <| run_cond_dec rfl (fun g4 => ?_) (fun g4 => ?_)
 · skip
   refine run_skip <| SQ <| run_block <| RG <| ML rfl <| MI rfl <| CN (Op1.buildStruct ty30 stf30 (.c (v := .int .u8 _) rfl (h := .nil)) ?_)
   obtain ⟨bs5, rfl⟩ := Res.sl_some (hst.hL _ (.head _)) (by omega)
   refine CN <| Op1.indexSl ty22 ty30 rfl rfl (by omega) (by omega) <| CN <| Op1.storeSl (v := .agg #[.int .u8 _, str _, .int .i64 _]) hst ty30 rfl rfl rfl rfl rfl (.here) (by simp only [List.length_cons, List.length_nil]; omega) fun w hst => NL <| run_inBlock <| RG <| MI rfl <| CN <| Op1.addN rfl rfl rfl (wrap_i64 (by omega) (by omega)) <| AI rfl <| NL <| run_inLoop ?_
   rw [spT_step (by omega)] at hst
   exact ih3 (i + 1) _ w ((by omega)) hst ((by omega)) ⟨rfl, rfl, rfl, rfl, trivial⟩ ⟨(congrArg (Value.int .i64) (by omega)), trivial⟩
 refine run_exit (id := 0) rfl <| SR <| MS rfl <| CN (Op1.call1 (v1 := str _) ent15 rfl rfl ((R4lx_lTokens s _ (hst.hD _ (.head _)) (by omega)).mono fun v w hp => ?_))
 obtain ⟨ao_x3, cp_x3, rfl, hp⟩ := hp
 replace hst := hst.call0 hp
 clear hp
 refine CN <| Op1.move (v := .tuple #[.slice _ _ _, .agg #[.int .i64 _, .int .i64 _]]) rfl <| CN <| Op1.extract (v := .slice _ _ _) rfl rfl <| CN <| Op1.extract (v := .agg #[.int .i64 _, .int .i64 _]) rfl rfl <| CN <| Op1.alloc hst ty25 fun w b9 hst => AL rfl <| CN (SO (v := .agg #[.int .i64 _, .int .i64 _]) hst ty25 rfl rfl (.here) fun w hst => ?_)
 refine NSR <| CN <| Op1.loadA (vs := [.int .i64 _, .int .i64 _]) ty25 rfl rfl rfl (cells_of_obj (n := 2) (hst.objL (.head _)) _ rfl) <| CN <| Op1.loadA (vs := [.int .i64 _, .int .i64 _]) ty25 rfl rfl rfl (cells_of_obj (n := 2) (hst.objL (.tail _ (.tail _ (.tail _ (.tail _ (.head _)))))) _ rfl) <| CN <| Op1.eqlA (xs := [.int .i64 _, .int .i64 _]) (ys := [.int .i64 _, .int .i64 _]) rfl rfl (by kernel_rfl) (EqOk.struct Tryd.underlying25 (by kernel_rfl) (.cons (by decide) (PartOk.one ty23 rfl rfl) (PartOk.one ty23 rfl rfl) (EqOk.int ty23) (.cons (by decide) (PartOk.one ty3 rfl rfl) (PartOk.one ty3 rfl rfl) (EqOk.int ty3) .nil))) <| MB rfl <| RunL.split (d := 47) rfl (fun g6 => ?_) (fun g6 => ?_)
 · skip
   refine TK (t := 47) rfl (congrArg Value.bool g6) <| Op1.move (v := .slice _ _ _) rfl <| TK (t := 47) rfl (congrArg Value.bool g6) <| Op1.move (v := .slice _ _ _) rfl <| TK (t := 47) rfl (congrArg Value.bool g6) (Op1.call2 (v1 := .slice _ _ _) (v2 := .slice _ _ _) ent16 rfl rfl rfl ((R4lx_tokens _ _ _ _ _ _ _ (Res.rs_of_sl (hst.hL _ (.tail _ (.head _)))) (Res.rs_of_sl (hst.hL _ (.tail _ (.tail _ (.tail _ (.tail _ (.tail _ (.head _)))))))) (by omega)).mono fun v w hp => ?_))
   obtain ⟨rfl, hp⟩ := hp
   replace hst := hst.keepc hp
   clear hp
   refine CN <| Op1.pickT (u := .bool _) (congrArg Value.bool g6) rfl <| MB rfl <| RunL.splitD (d := 52) rfl (fun g7 => ?_) (fun g7 => ?_)
   · skip
     refine TK (t := 52) rfl (congrArg Value.bool (decide_eq_true g7)) (Op1.call0  ent17 rfl  ((R4lx_awake _ (hst.hD _ (.head _))).mono fun v w hp => ?_))
     obtain ⟨rfl, hp⟩ := hp
     replace hst := hst.keepc hp
     clear hp
     refine CN <| Op1.pickT (u := .bool _) (congrArg Value.bool (decide_eq_true g7)) rfl <| AB rfl <| NL <| run_ret1 Tryd.func3 rfl (TP (v := .bool _) rfl) ?_
     exact ⟨rfl, hst.pure⟩
   exfalso
   exact g7 rfl
 exfalso
 simp at g6
end Go.SK
