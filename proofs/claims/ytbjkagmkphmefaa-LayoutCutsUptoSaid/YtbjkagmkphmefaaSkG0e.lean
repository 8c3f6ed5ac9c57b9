/-
  Steps of functions, plain law, and walks of functions: what the laws rest on.
-/
import Derived.Test.YtbjkagmkphmefaaSkG0d
set_option linter.unusedVariables false
set_option linter.unusedSimpArgs false
set_option linter.unusedSectionVars false
namespace Go.SK
open Go Go.Proofs
open Go.RowKit
theorem R5ref5_first (l : List InstP) (ao : Option Addr) (cp : Nat) (k : Nat) (ka : Int) (hka : ka = (k : Int)) (hex : ∃ j, 1 ≤ j ∧ j ≤ k ∧ opA (l.map InstP.L) j = 248) (w : World) (hA : (Res.rmod ao l).holds w) (hk : k < l.length) (hl : l.length ≤ 9000000000000000000) : Ret Try.prog 37 #[.slice ao l.length cp, .int .i64 ka] w (fun v w' => v = .bool (firstF (l.map InstP.L) k) ∧ St w NoM [] [] w') := by
 refine Ret.enter (args := [.slice ao l.length cp, .int .i64 ka]) Try.func37 rfl rfl rfl ?_
 have hst : St w NoM [] [Res.rmod ao l] w := St.init_D hA
 clear hA
 subst hka
 refine SR <| AB rfl <| NSR <| MI rfl <| AI rfl <| NL <| SQ <| run_block <| run_loop <| Run.indW [(0, .slice _ _ _)] ⟨rfl, trivial⟩ (fun (i : Nat) => [(5, .int .i64 (i : Int))]) (fun (i : Nat) => []) (fun (i : Nat) => i ≤ k ∧ firstF (l.map InstP.L) i = firstF (l.map InstP.L) k ∧ ∃ j, 1 ≤ j ∧ j ≤ i ∧ opA (l.map InstP.L) j = 248) (fun (i : Nat) => i) (k) hst ⟨Nat.le_refl _, rfl, hex⟩ ⟨rfl, trivial⟩ ?_
 intro i f w hst hJ ih1
 refine SQ <| SR <| ML rfl <| MI rfl <| CN <| Op1.indexRs ty23 ty39 (Res.rmod_insts (hst.hD _ (.head _))) rfl rfl (by omega) (by omega) <| CN <| Op1.fieldAddr fld39_0 rfl <| CN <| Op1.load1 (v := .int .u16 _) ty33 rfl rfl (Res.rs2_cellF (Res.rmod_insts (hst.hD _ (.head _))) (flat_cell (g := instC) (d := zeroI) instC_len rfl (by omega))) <| CN <| Op1.neq rfl rfl <| NL <| run_cond_dec rfl (fun g2 => ?_) (fun g2 => ?_)
 · skip
   obtain ⟨j, hj1, hj2, hj3⟩ := hJ.2.2
   have ho : opA (l.map InstP.L) i = (l.getD (i : Int).toNat zeroI).op := opA_map _ _
   have ho2 : opA (l.map InstP.L) (i - 1) = (l.getD ((i : Int) - 1).toNat zeroI).op := by rw [opA_map, show ((i : Int) - 1).toNat = i - 1 by omega]
   refine run_skip <| run_block <| RG <| MI rfl <| CN <| Op1.subN rfl rfl rfl (wrap_i64 (by omega) (by omega)) <| AI rfl <| NL <| run_inBlock <| run_inLoop ?_
   exact ih1 (i - 1) _ w (by omega) hst (⟨by omega, by rw [← hJ.2.1]; exact (first_back (by omega) (by rw [ho]; exact g2)).symm, j, hj1, (by have : j ≠ i := (fun e => by subst e; exact g2 (ho.symm.trans hj3)); omega), hj3⟩) ⟨rfl, trivial⟩ ⟨(congrArg (Value.int .i64) (by omega)), trivial⟩
 obtain ⟨j, hj1, hj2, hj3⟩ := hJ.2.2
 have ho : opA (l.map InstP.L) i = (l.getD (i : Int).toNat zeroI).op := opA_map _ _
 have ho2 : opA (l.map InstP.L) (i - 1) = (l.getD ((i : Int) - 1).toNat zeroI).op := by rw [opA_map, show ((i : Int) - 1).toNat = i - 1 by omega]
 refine run_exit (id := 0) rfl <| SR <| ML rfl <| MI rfl <| CN <| Op1.subN rfl rfl rfl (wrap_i64 (by omega) (by omega)) <| CN <| Op1.indexRs ty23 ty39 (Res.rmod_insts (hst.hD _ (.head _))) rfl rfl (by omega) (by omega) <| CN <| Op1.fieldAddr fld39_0 rfl <| CN <| Op1.load1 (v := .int .u16 _) ty33 rfl rfl (Res.rs2_cellF (Res.rmod_insts (hst.hD _ (.head _))) (flat_cell (g := instC) (d := zeroI) instC_len rfl (by omega))) <| CN <| Op1.eql rfl rfl <| MB rfl <| RunL.splitD (d := 22) rfl (fun g3 => ?_) (fun g3 => ?_)
 · skip
   refine OM (t := 22) rfl (congrArg Value.bool (decide_eq_true g3)) rfl <| OM (t := 22) rfl (congrArg Value.bool (decide_eq_true g3)) rfl <| OM (t := 22) rfl (congrArg Value.bool (decide_eq_true g3)) rfl <| OM (t := 22) rfl (congrArg Value.bool (decide_eq_true g3)) rfl <| OM (t := 22) rfl (congrArg Value.bool (decide_eq_true g3)) rfl <| OM (t := 22) rfl (congrArg Value.bool (decide_eq_true g3)) rfl <| OM (t := 22) rfl (congrArg Value.bool (decide_eq_true g3)) rfl <| CN <| Op1.pickT (u := .bool _) (congrArg Value.bool (decide_eq_true g3)) rfl <| AB rfl <| NL <| run_ret1 Try.func37 rfl (TP (v := .bool _) rfl) ?_
   exact ⟨congrArg Value.bool (by rw [← hJ.2.1, first_at (by omega) (by rw [ho]; exact (Classical.not_not.1 g2)), ho2]; exact (decide_eq_true (.inl g3)).symm), hst.pure⟩
 refine TK (t := 22) rfl (congrArg Value.bool (decide_eq_false g3)) <| Op1.move (v := .slice _ _ _) rfl <| TK (t := 22) rfl (congrArg Value.bool (decide_eq_false g3)) <| Op1.move (v := .int .i64 _) rfl <| TK (t := 22) rfl (congrArg Value.bool (decide_eq_false g3)) <| Op1.subN rfl rfl rfl (wrap_i64 (by omega) (by omega)) <| TK (t := 22) rfl (congrArg Value.bool (decide_eq_false g3)) <| Op1.indexRs ty23 ty39 (Res.rmod_insts (hst.hD _ (.head _))) rfl rfl (by omega) (by omega) <| TK (t := 22) rfl (congrArg Value.bool (decide_eq_false g3)) <| Op1.fieldAddr fld39_0 rfl <| TK (t := 22) rfl (congrArg Value.bool (decide_eq_false g3)) <| Op1.load1 (v := .int .u16 _) ty33 rfl rfl (Res.rs2_cellF (Res.rmod_insts (hst.hD _ (.head _))) (flat_cell (g := instC) (d := zeroI) instC_len rfl (by omega))) <| TK (t := 22) rfl (congrArg Value.bool (decide_eq_false g3)) <| Op1.eql rfl rfl <| CN <| Op1.pickF (u := .bool _) (congrArg Value.bool (decide_eq_false g3)) rfl <| AB rfl <| NL <| run_ret1 Try.func37 rfl (TP (v := .bool _) rfl) ?_
 exact ⟨congrArg Value.bool (by rw [← hJ.2.1, first_at (by omega) (by rw [ho]; exact (Classical.not_not.1 g2)), ho2]; rw [decide_eq_decide]; exact ⟨fun h => .inr h, fun h => h.elim (fun e => absurd e g3) id⟩), hst.pure⟩
theorem R5ref5_May (l : List InstP) (ao : Option Addr) (cp : Nat) (k : Nat) {S : LS} (hS : dfaF ((l.map InstP.L).take k) = some S) (w : World) (hk : k < l.length) (hA : (Res.rmod ao l).holds w) (hl : l.length ≤ 3000000000000) (hla : ∀ i ∈ l, i.args.length ≤ 9000000000000000000) (hkn : ∀ i ∈ l, i.L.Known) : Ret Try.prog 27 #[.slice ao l.length cp, .int .i64 (k : Int)] w (fun v w' => v = .bool (mayB (l.map InstP.L) k) ∧ St w NoM [] [] w') := by
 refine Ret.enter (args := [.slice ao l.length cp, .int .i64 (k : Int)]) Try.func27 rfl rfl rfl ?_
 have hst : St w NoM [] [Res.rmod ao l] w := St.init_D hA
 clear hA
 have hkm := known_map hkn
 have hL : (l.map InstP.L).length = l.length := List.length_map _
 have hP := ptA_map l k
 have hO : opA (l.map InstP.L) k = (l.getD (k : Int).toNat zeroI).op := opA_map _ _
 have hS2 := ahead_of hkm (by omega) hS
 refine SR <| AB rfl <| NSR <| ML rfl <| MI rfl <| CN <| Op1.indexRs ty23 ty39 (Res.rmod_insts (hst.hD _ (.head _))) rfl rfl (by omega) (by omega) <| CN <| Op1.loadA (vs := [.int .u16 _, .int .u32 _, .int .u32 _, .slice _ _ _]) ty39 rfl rfl rfl (Res.rs2_cells (m := 4) (Res.rmod_insts (hst.hD _ (.head _))) _ (flat_seg (g := instC) (d := zeroI) instC_len _ _ (by omega))) <| CN <| Op1.call1 (v1 := .agg #[.int .u16 _, .int .u32 _, .int .u32 _, .slice _ _ _]) ent28 rfl rfl <| Ret.det (R5ref5_Part (l.getD k zeroI) (hkn _ (getD_memD (by omega))) _ (Res.rmod_argsI (hst.hD _ (.head _)) (i := k) (by omega)) (hla _ (getD_memD (by omega)))) hst fun w hst => AI rfl <| NL <| SQ <| RG ?_
 refine AI rfl <| NL <| SQ <| SR <| AI rfl <| NL <| run_block <| run_loop <| Run.indW [(0, .slice _ _ _), (1, .int .i64 _), (5, .int .i64 _)] ⟨rfl, rfl, rfl, trivial⟩ (fun (q : Nat × Nat) => [(6, .int .i64 (q.2 : Int)), (7, .int .i64 (q.1 : Int))]) (fun (q : Nat × Nat) => []) (fun (q : Nat × Nat) => q.1 ≤ k ∧ cnt1 (l.map InstP.L) q.1 = q.2 ∧ overB (l.map InstP.L) q.1 (ptA (l.map InstP.L) k) = false ∧ q.2 ≤ q.1) (fun (q : Nat × Nat) => k - q.1) ((0, 0)) hst ⟨Nat.zero_le _, rfl, rfl, Nat.le_refl _⟩ ⟨rfl, rfl, trivial⟩ ?_
 intro ⟨n, c⟩ f w hst hJ ih1
 replace hst : St _ _ ([] ++ []) _ _ := hst
 replace hJ : n ≤ k ∧ cnt1 (l.map InstP.L) n = c ∧ overB (l.map InstP.L) n (ptA (l.map InstP.L) k) = false ∧ c ≤ n := hJ
 refine Run.slots (sl := [(6, .int .i64 (c : Int)), (7, .int .i64 (n : Int))]) ⟨rfl, rfl, trivial⟩ <| SQ <| SR <| MI rfl <| MI rfl <| CN <| Op1.lss rfl rfl <| NL <| run_cond_dec rfl (fun g2 => ?_) (fun g2 => ?_)
 · skip
   have hPn := ptA_map l n
   have hc1 := cnt1_step (l := (l.map InstP.L)) (k := n) (by omega)
   have ho1 := overB_step (l := (l.map InstP.L)) (k := n) (p := ptA (l.map InstP.L) k) (by omega)
   refine run_skip <| SQ <| run_block <| SQ <| SR <| ML rfl <| MI rfl <| CN <| Op1.indexRs ty23 ty39 (Res.rmod_insts (hst.hD _ (.head _))) rfl rfl (by omega) (by omega) <| CN <| Op1.loadA (vs := [.int .u16 _, .int .u32 _, .int .u32 _, .slice _ _ _]) ty39 rfl rfl rfl (Res.rs2_cells (m := 4) (Res.rmod_insts (hst.hD _ (.head _))) _ (flat_seg (g := instC) (d := zeroI) instC_len _ _ (by omega))) <| CN <| Op1.call1 (v1 := .agg #[.int .u16 _, .int .u32 _, .int .u32 _, .slice _ _ _]) ent28 rfl rfl <| Ret.det (R5ref5_Part (l.getD n zeroI) (hkn _ (getD_memD (by omega))) _ (Res.rmod_argsI (hst.hD _ (.head _)) (i := n) (by omega)) (hla _ (getD_memD (by omega)))) hst fun w hst => MI rfl <| CN <| Op1.gtr rfl rfl <| NL <| run_cond_dec rfl (fun g3 => ?_) (fun g3 => ?_)
   · skip
     refine SR <| AB rfl <| NL <| run_ret1 Try.func27 rfl (TP (v := .bool _) rfl) ?_
     exact ⟨congrArg Value.bool (by unfold mayB; rw [if_pos ((overB_iff (by omega)).2 ⟨n, by omega, by omega⟩)]), hst.pure⟩
   refine run_skip <| SR <| ML rfl <| MI rfl <| CN <| Op1.indexRs ty23 ty39 (Res.rmod_insts (hst.hD _ (.head _))) rfl rfl (by omega) (by omega) <| CN <| Op1.loadA (vs := [.int .u16 _, .int .u32 _, .int .u32 _, .slice _ _ _]) ty39 rfl rfl rfl (Res.rs2_cells (m := 4) (Res.rmod_insts (hst.hD _ (.head _))) _ (flat_seg (g := instC) (d := zeroI) instC_len _ _ (by omega))) <| CN <| Op1.call1 (v1 := .agg #[.int .u16 _, .int .u32 _, .int .u32 _, .slice _ _ _]) ent28 rfl rfl <| Ret.det (R5ref5_Part (l.getD n zeroI) (hkn _ (getD_memD (by omega))) _ (Res.rmod_argsI (hst.hD _ (.head _)) (i := n) (by omega)) (hla _ (getD_memD (by omega)))) hst fun w hst => CN <| Op1.eql rfl rfl <| NL <| run_cond_dec rfl (fun g4 => ?_) (fun g4 => ?_)
   · skip
     refine RG <| MI rfl <| CN <| Op1.addN rfl rfl rfl (wrap_i64 (by omega) (by omega)) <| AI rfl <| NL <| run_inBlock <| Run.forget [(0, .slice _ _ _), (1, .int .i64 _), (5, .int .i64 _), (6, .int .i64 _), (7, .int .i64 _)] ⟨rfl, rfl, rfl, rfl, rfl, trivial⟩ fun f => RG <| MI rfl <| CN <| Op1.addN rfl rfl rfl (wrap_i64 (by omega) (by omega)) <| AI rfl <| NL <| run_inLoop ?_
     exact ih1 ((n + 1, c + 1)) _ w (by (try dsimp only); omega) hst (⟨by (try dsimp only); omega, by (try dsimp only); rw [hc1, hJ.2.1, if_pos (by omega)], by (try dsimp only); rw [ho1, hJ.2.2.1, decide_eq_false (by omega)] <;> decide, by (try dsimp only); omega⟩) ⟨rfl, rfl, rfl, trivial⟩ ⟨(congrArg (Value.int .i64) (by first | rfl | omega | (dsimp only; omega))), (congrArg (Value.int .i64) (by (try dsimp only); omega)), trivial⟩
   refine run_skip <| run_inBlock <| RG <| MI rfl <| CN <| Op1.addN rfl rfl rfl (wrap_i64 (by omega) (by omega)) <| AI rfl <| NL <| run_inLoop ?_
   exact ih1 ((n + 1, c)) _ w (by (try dsimp only); omega) hst (⟨by (try dsimp only); omega, by (try dsimp only); rw [hc1, hJ.2.1, if_neg (by omega)] <;> exact Nat.add_zero c, by (try dsimp only); rw [ho1, hJ.2.2.1, decide_eq_false (by omega)] <;> decide, by (try dsimp only); omega⟩) ⟨rfl, rfl, rfl, trivial⟩ ⟨(congrArg (Value.int .i64) (by first | rfl | omega | (dsimp only; omega))), (congrArg (Value.int .i64) (by (try dsimp only); omega)), trivial⟩
 obtain rfl : k = n := by omega
 refine run_exit (id := 0) rfl <| SQ <| SR <| MI rfl <| CN <| Op1.eql rfl rfl <| NL <| run_cond_dec rfl (fun g5 => ?_) (fun g5 => ?_)
 · skip
   refine SR <| MI rfl <| CN <| Op1.eql rfl rfl <| AB rfl <| NL <| run_ret1 Try.func27 rfl (TP (v := .bool _) rfl) ?_
   exact ⟨congrArg Value.bool (by unfold mayB; rw [if_neg (by rw [hJ.2.2.1]; decide)]; rw [if_pos (by omega)]; first | exact (decide_eq_true (by omega)).symm | (rw [decide_eq_decide]; omega) | exact (decide_eq_false (by omega)).symm), hst.pure⟩
 refine run_skip <| SQ <| SR <| MI rfl <| CN <| Op1.gtr rfl rfl <| MB rfl <| RunL.splitD (d := 41) rfl (fun g6 => ?_) (fun g6 => ?_)
 · skip
   refine TK (t := 41) rfl (congrArg Value.bool (decide_eq_true g6)) <| Op1.move (v := .int .i64 _) rfl <| TK (t := 41) rfl (congrArg Value.bool (decide_eq_true g6)) <| Op1.eql rfl rfl <| CN <| Op1.pickT (u := .bool _) (congrArg Value.bool (decide_eq_true g6)) rfl <| NL <| run_cond_dec rfl (fun g7 => ?_) (fun g7 => ?_)
   · skip
     refine SR <| AB rfl <| NL <| run_ret1 Try.func27 rfl (TP (v := .bool _) rfl) ?_
     exact ⟨congrArg Value.bool (by unfold mayB; rw [if_neg (by rw [hJ.2.2.1]; decide)]; rw [if_neg (by omega)]; rw [if_pos (by omega)]), hst.pure⟩
   refine run_skip <| SQ <| SR <| MI rfl <| CN <| Op1.lss rfl rfl <| NL <| run_cond_dec rfl (fun g8 => ?_) (fun g8 => ?_)
   · skip
     refine SR <| AB rfl <| NL <| run_ret1 Try.func27 rfl (TP (v := .bool _) rfl) ?_
     exact ⟨congrArg Value.bool (by unfold mayB; rw [if_neg (by rw [hJ.2.2.1]; decide)]; rw [if_neg (by omega)]; rw [if_neg (by omega)]; rw [if_pos (by omega)]), hst.pure⟩
   refine run_skip <| SR <| ML rfl <| MI rfl <| CN <| Op1.indexRs ty23 ty39 (Res.rmod_insts (hst.hD _ (.head _))) rfl rfl (by omega) (by omega) <| CN <| Op1.fieldAddr fld39_0 rfl <| CN <| Op1.load1 (v := .int .u16 _) ty33 rfl rfl (Res.rs2_cellF (Res.rmod_insts (hst.hD _ (.head _))) (flat_cell (g := instC) (d := zeroI) instC_len rfl (by omega))) <| AH rfl <| NL <| Run.forget [(0, .slice _ _ _), (1, .int .i64 _), (8, .int .u16 _)] ⟨rfl, rfl, rfl, trivial⟩ fun f => SR <| AH rfl <| NL ?_
   refine SQ <| Run.cutW (L1 := []) [(0, .slice _ _ _), (1, .int .i64 _)] hst ⟨rfl, rfl, trivial⟩ (fun (_u : Unit) => [(8, .int .u16 (opA (l.map InstP.L) k)), (9, .int .u16 (aheadF (l.map InstP.L) k))]) (fun (_u : Unit) => []) (fun (_u : Unit) => True) (fun _u f w hst hJ10 => ?_) (fun cut9 => ?_)
   · skip
     refine SQ <| SR <| MH rfl <| CN <| Op1.eql rfl rfl <| NL <| run_cond_dec rfl (fun g12 => ?_) (fun g12 => ?_)
     · skip
       refine SR <| MH rfl <| CN <| Op1.eql rfl rfl <| MB rfl <| RunL.splitD (d := 73) rfl (fun g13 => ?_) (fun g13 => ?_)
       · skip
         refine OM (t := 73) rfl (congrArg Value.bool (decide_eq_true g13)) rfl <| OM (t := 73) rfl (congrArg Value.bool (decide_eq_true g13)) rfl <| CN <| Op1.pickT (u := .bool _) (congrArg Value.bool (decide_eq_true g13)) rfl <| AB rfl <| NL <| run_ret1 Try.func27 rfl (TP (v := .bool _) rfl) ?_
         exact ⟨congrArg Value.bool (by unfold mayB; rw [if_neg (by rw [hJ.2.2.1]; decide)]; rw [if_neg (by omega)]; rw [if_neg (by omega)]; rw [if_neg (by omega)]; unfold mayO; rw [if_pos (by omega)]; first | exact (decide_eq_true (by omega)).symm | (rw [decide_eq_decide]; omega) | exact (decide_eq_false (by omega)).symm), hst.pure⟩
       refine TK (t := 73) rfl (congrArg Value.bool (decide_eq_false g13)) <| Op1.move (v := .int .u16 _) rfl <| TK (t := 73) rfl (congrArg Value.bool (decide_eq_false g13)) <| Op1.eql rfl rfl <| CN <| Op1.pickF (u := .bool _) (congrArg Value.bool (decide_eq_false g13)) rfl <| AB rfl <| NL <| run_ret1 Try.func27 rfl (TP (v := .bool _) rfl) ?_
       exact ⟨congrArg Value.bool (by unfold mayB; rw [if_neg (by rw [hJ.2.2.1]; decide)]; rw [if_neg (by omega)]; rw [if_neg (by omega)]; rw [if_neg (by omega)]; unfold mayO; rw [if_pos (by omega)]; first | exact (decide_eq_true (by omega)).symm | (rw [decide_eq_decide]; omega) | exact (decide_eq_false (by omega)).symm), hst.pure⟩
     refine run_skip <| SQ <| SR <| MH rfl <| CN <| Op1.eql rfl rfl <| NL <| run_cond_dec rfl (fun g14 => ?_) (fun g14 => ?_)
     · skip
       refine SR <| MH rfl <| CN <| Op1.eql rfl rfl <| MB rfl <| RunL.splitD (d := 81) rfl (fun g15 => ?_) (fun g15 => ?_)
       · skip
         refine OM (t := 81) rfl (congrArg Value.bool (decide_eq_true g15)) rfl <| OM (t := 81) rfl (congrArg Value.bool (decide_eq_true g15)) rfl <| CN <| Op1.pickT (u := .bool _) (congrArg Value.bool (decide_eq_true g15)) rfl <| AB rfl <| NL <| run_ret1 Try.func27 rfl (TP (v := .bool _) rfl) ?_
         exact ⟨congrArg Value.bool (by unfold mayB; rw [if_neg (by rw [hJ.2.2.1]; decide)]; rw [if_neg (by omega)]; rw [if_neg (by omega)]; rw [if_neg (by omega)]; unfold mayO; rw [if_neg (by omega)]; rw [if_pos (by omega)]; first | exact (decide_eq_true (by omega)).symm | (rw [decide_eq_decide]; omega) | exact (decide_eq_false (by omega)).symm), hst.pure⟩
       refine TK (t := 81) rfl (congrArg Value.bool (decide_eq_false g15)) <| Op1.move (v := .int .u16 _) rfl <| TK (t := 81) rfl (congrArg Value.bool (decide_eq_false g15)) <| Op1.eql rfl rfl <| CN <| Op1.pickF (u := .bool _) (congrArg Value.bool (decide_eq_false g15)) rfl <| AB rfl <| NL <| run_ret1 Try.func27 rfl (TP (v := .bool _) rfl) ?_
       exact ⟨congrArg Value.bool (by unfold mayB; rw [if_neg (by rw [hJ.2.2.1]; decide)]; rw [if_neg (by omega)]; rw [if_neg (by omega)]; rw [if_neg (by omega)]; unfold mayO; rw [if_neg (by omega)]; rw [if_pos (by omega)]; first | exact (decide_eq_true (by omega)).symm | (rw [decide_eq_decide]; omega) | exact (decide_eq_false (by omega)).symm), hst.pure⟩
     refine run_skip <| SQ <| SR <| MH rfl <| CN <| Op1.eql rfl rfl <| NL <| run_cond_dec rfl (fun g16 => ?_) (fun g16 => ?_)
     · skip
       refine SR <| MH rfl <| CN <| Op1.eql rfl rfl <| MB rfl <| RunL.splitD (d := 89) rfl (fun g17 => ?_) (fun g17 => ?_)
       · skip
         refine OM (t := 89) rfl (congrArg Value.bool (decide_eq_true g17)) rfl <| OM (t := 89) rfl (congrArg Value.bool (decide_eq_true g17)) rfl <| CN <| Op1.pickT (u := .bool _) (congrArg Value.bool (decide_eq_true g17)) rfl <| MB rfl <| OM (t := 93) rfl (congrArg Value.bool (rfl : true = _)) rfl <| OM (t := 93) rfl (congrArg Value.bool (rfl : true = _)) rfl <| CN <| Op1.pickT (u := .bool _) (congrArg Value.bool (rfl : true = _)) rfl <| AB rfl <| NL <| run_ret1 Try.func27 rfl (TP (v := .bool _) rfl) ?_
         exact ⟨congrArg Value.bool (by unfold mayB; rw [if_neg (by rw [hJ.2.2.1]; decide)]; rw [if_neg (by omega)]; rw [if_neg (by omega)]; rw [if_neg (by omega)]; unfold mayO; rw [if_neg (by omega)]; rw [if_neg (by omega)]; rw [if_pos (by omega)]; first | exact (decide_eq_true (by omega)).symm | exact may_248 (by omega) (by omega)), hst.pure⟩
       refine TK (t := 89) rfl (congrArg Value.bool (decide_eq_false g17)) <| Op1.move (v := .int .u16 _) rfl <| TK (t := 89) rfl (congrArg Value.bool (decide_eq_false g17)) <| Op1.eql rfl rfl <| CN <| Op1.pickF (u := .bool _) (congrArg Value.bool (decide_eq_false g17)) rfl <| MB rfl <| RunL.splitD (d := 93) rfl (fun g18 => ?_) (fun g18 => ?_)
       · skip
         refine OM (t := 93) rfl (congrArg Value.bool (decide_eq_true g18)) rfl <| OM (t := 93) rfl (congrArg Value.bool (decide_eq_true g18)) rfl <| CN <| Op1.pickT (u := .bool _) (congrArg Value.bool (decide_eq_true g18)) rfl <| AB rfl <| NL <| run_ret1 Try.func27 rfl (TP (v := .bool _) rfl) ?_
         exact ⟨congrArg Value.bool (by unfold mayB; rw [if_neg (by rw [hJ.2.2.1]; decide)]; rw [if_neg (by omega)]; rw [if_neg (by omega)]; rw [if_neg (by omega)]; unfold mayO; rw [if_neg (by omega)]; rw [if_neg (by omega)]; rw [if_pos (by omega)]; first | exact (decide_eq_true (by omega)).symm | exact may_248 (by omega) (by omega)), hst.pure⟩
       refine TK (t := 93) rfl (congrArg Value.bool (decide_eq_false g18)) <| Op1.move (v := .int .u16 _) rfl <| TK (t := 93) rfl (congrArg Value.bool (decide_eq_false g18)) (Op1.call1 (v1 := .int .u16 _) ent30 rfl rfl ((R5ref5_Ends (aheadF (l.map InstP.L) k) _).mono fun v w hp => ?_))
       obtain ⟨rfl, hp⟩ := hp
       replace hst := hst.keepc hp
       clear hp
       refine CN <| Op1.pickF (u := .bool _) (congrArg Value.bool (decide_eq_false g18)) rfl <| AB rfl <| NL <| run_ret1 Try.func27 rfl (TP (v := .bool _) rfl) ?_
       exact ⟨congrArg Value.bool (by unfold mayB; rw [if_neg (by rw [hJ.2.2.1]; decide)]; rw [if_neg (by omega)]; rw [if_neg (by omega)]; rw [if_neg (by omega)]; unfold mayO; rw [if_neg (by omega)]; rw [if_neg (by omega)]; rw [if_pos (by omega)]; first | exact (decide_eq_true (by omega)).symm | exact may_248 (by omega) (by omega)), hst.pure⟩
     refine run_skip <| SQ <| SR <| MH rfl <| CN <| Op1.eql rfl rfl <| NL <| run_cond_dec rfl (fun g19 => ?_) (fun g19 => ?_)
     · skip
       refine SR <| MH rfl <| CN <| Op1.call1 (v1 := .int .u16 _) ent30 rfl rfl <| Ret.det (R5ref5_Ends (aheadF (l.map InstP.L) k) _) hst fun w hst => AB rfl <| NL <| run_ret1 Try.func27 rfl (TP (v := .bool _) rfl) ?_
       exact ⟨congrArg Value.bool (by unfold mayB; rw [if_neg (by rw [hJ.2.2.1]; decide)]; rw [if_neg (by omega)]; rw [if_neg (by omega)]; rw [if_neg (by omega)]; unfold mayO; rw [if_neg (by omega)]; rw [if_neg (by omega)]; rw [if_neg (by omega)]; rw [if_pos (by omega)]), hst.pure⟩
     refine run_skip <| SQ <| SR <| MH rfl <| CN <| Op1.eql rfl rfl <| MB rfl <| RunL.splitD (d := 103) rfl (fun g20 => ?_) (fun g20 => ?_)
     · skip
       refine OM (t := 103) rfl (congrArg Value.bool (decide_eq_true g20)) rfl <| OM (t := 103) rfl (congrArg Value.bool (decide_eq_true g20)) rfl <| CN <| Op1.pickT (u := .bool _) (congrArg Value.bool (decide_eq_true g20)) rfl <| MB rfl <| OM (t := 107) rfl (congrArg Value.bool (rfl : true = _)) rfl <| OM (t := 107) rfl (congrArg Value.bool (rfl : true = _)) rfl <| CN <| Op1.pickT (u := .bool _) (congrArg Value.bool (rfl : true = _)) rfl <| MB rfl <| OM (t := 111) rfl (congrArg Value.bool (rfl : true = _)) rfl <| OM (t := 111) rfl (congrArg Value.bool (rfl : true = _)) rfl <| CN <| Op1.pickT (u := .bool _) (congrArg Value.bool (rfl : true = _)) rfl <| MB rfl <| OM (t := 115) rfl (congrArg Value.bool (rfl : true = _)) rfl <| OM (t := 115) rfl (congrArg Value.bool (rfl : true = _)) rfl <| CN (Op1.pickT (u := .bool _) (congrArg Value.bool (rfl : true = _)) rfl ?_)
       refine NL <| run_cond_true (congrArg Value.bool (rfl : true = _)) <| SR <| AB rfl <| NL <| run_ret1 Try.func27 rfl (TP (v := .bool _) rfl) ?_
       exact ⟨congrArg Value.bool (by unfold mayB; rw [if_neg (by rw [hJ.2.2.1]; decide)]; rw [if_neg (by omega)]; rw [if_neg (by omega)]; rw [if_neg (by omega)]; unfold mayO; rw [if_neg (by omega)]; rw [if_neg (by omega)]; rw [if_neg (by omega)]; rw [if_neg (by omega)]; rw [if_pos (by first | omega | exact .inr (.inr (.inr (.inr rfl))))]), hst.pure⟩
     refine TK (t := 103) rfl (congrArg Value.bool (decide_eq_false g20)) <| Op1.move (v := .int .u16 _) rfl <| TK (t := 103) rfl (congrArg Value.bool (decide_eq_false g20)) <| Op1.eql rfl rfl <| CN <| Op1.pickF (u := .bool _) (congrArg Value.bool (decide_eq_false g20)) rfl <| MB rfl <| RunL.splitD (d := 107) rfl (fun g21 => ?_) (fun g21 => ?_)
     · skip
       refine OM (t := 107) rfl (congrArg Value.bool (decide_eq_true g21)) rfl <| OM (t := 107) rfl (congrArg Value.bool (decide_eq_true g21)) rfl <| CN <| Op1.pickT (u := .bool _) (congrArg Value.bool (decide_eq_true g21)) rfl <| MB rfl <| OM (t := 111) rfl (congrArg Value.bool (rfl : true = _)) rfl <| OM (t := 111) rfl (congrArg Value.bool (rfl : true = _)) rfl <| CN <| Op1.pickT (u := .bool _) (congrArg Value.bool (rfl : true = _)) rfl <| MB rfl <| OM (t := 115) rfl (congrArg Value.bool (rfl : true = _)) rfl <| OM (t := 115) rfl (congrArg Value.bool (rfl : true = _)) rfl <| CN <| Op1.pickT (u := .bool _) (congrArg Value.bool (rfl : true = _)) rfl <| NL <| Run.forget [(0, .slice _ _ _), (1, .int .i64 _), (8, .int .u16 _), (9, .int .u16 _), (118, .bool _)] ⟨rfl, rfl, rfl, rfl, rfl, trivial⟩ fun f => run_cond_true (congrArg Value.bool (rfl : true = _)) <| SQ ?_
       refine RG <| AB rfl <| NL <| run_ret1 Try.func27 rfl (TP (v := .bool _) rfl) ?_
       exact ⟨congrArg Value.bool (by unfold mayB; rw [if_neg (by rw [hJ.2.2.1]; decide)]; rw [if_neg (by omega)]; rw [if_neg (by omega)]; rw [if_neg (by omega)]; unfold mayO; rw [if_neg (by omega)]; rw [if_neg (by omega)]; rw [if_neg (by omega)]; rw [if_neg (by omega)]; rw [if_pos (by first | omega | exact .inr (.inr (.inr (.inr rfl))))]), hst.pure⟩
     refine TK (t := 107) rfl (congrArg Value.bool (decide_eq_false g21)) <| Op1.move (v := .int .u16 _) rfl <| TK (t := 107) rfl (congrArg Value.bool (decide_eq_false g21)) <| Op1.eql rfl rfl <| CN <| Op1.pickF (u := .bool _) (congrArg Value.bool (decide_eq_false g21)) rfl <| MB rfl <| RunL.splitD (d := 111) rfl (fun g22 => ?_) (fun g22 => ?_)
     · skip
       refine OM (t := 111) rfl (congrArg Value.bool (decide_eq_true g22)) rfl <| OM (t := 111) rfl (congrArg Value.bool (decide_eq_true g22)) rfl <| CN <| Op1.pickT (u := .bool _) (congrArg Value.bool (decide_eq_true g22)) rfl <| MB rfl <| OM (t := 115) rfl (congrArg Value.bool (rfl : true = _)) rfl <| OM (t := 115) rfl (congrArg Value.bool (rfl : true = _)) rfl <| CN <| Op1.pickT (u := .bool _) (congrArg Value.bool (rfl : true = _)) rfl <| NL <| Run.forget [(0, .slice _ _ _), (1, .int .i64 _), (8, .int .u16 _), (9, .int .u16 _), (118, .bool _)] ⟨rfl, rfl, rfl, rfl, rfl, trivial⟩ fun f => run_cond_true (congrArg Value.bool (rfl : true = _)) <| SR <| AB rfl <| NL <| run_ret1 Try.func27 rfl (TP (v := .bool _) rfl) ?_
       exact ⟨congrArg Value.bool (by unfold mayB; rw [if_neg (by rw [hJ.2.2.1]; decide)]; rw [if_neg (by omega)]; rw [if_neg (by omega)]; rw [if_neg (by omega)]; unfold mayO; rw [if_neg (by omega)]; rw [if_neg (by omega)]; rw [if_neg (by omega)]; rw [if_neg (by omega)]; rw [if_pos (by first | omega | exact .inr (.inr (.inr (.inr rfl))))]), hst.pure⟩
     refine TK (t := 111) rfl (congrArg Value.bool (decide_eq_false g22)) <| Op1.move (v := .int .u16 _) rfl <| TK (t := 111) rfl (congrArg Value.bool (decide_eq_false g22)) <| Op1.eql rfl rfl <| CN <| Op1.pickF (u := .bool _) (congrArg Value.bool (decide_eq_false g22)) rfl <| MB rfl <| RunL.splitD (d := 115) rfl (fun g23 => ?_) (fun g23 => ?_)
     · skip
       refine OM (t := 115) rfl (congrArg Value.bool (decide_eq_true g23)) rfl <| OM (t := 115) rfl (congrArg Value.bool (decide_eq_true g23)) rfl <| CN <| Op1.pickT (u := .bool _) (congrArg Value.bool (decide_eq_true g23)) rfl <| NL <| Run.forget [(0, .slice _ _ _), (1, .int .i64 _), (8, .int .u16 _), (9, .int .u16 _), (118, .bool _)] ⟨rfl, rfl, rfl, rfl, rfl, trivial⟩ fun f => run_cond_true (congrArg Value.bool (rfl : true = _)) <| SR <| AB rfl <| NL <| run_ret1 Try.func27 rfl (TP (v := .bool _) rfl) ?_
       exact ⟨congrArg Value.bool (by unfold mayB; rw [if_neg (by rw [hJ.2.2.1]; decide)]; rw [if_neg (by omega)]; rw [if_neg (by omega)]; rw [if_neg (by omega)]; unfold mayO; rw [if_neg (by omega)]; rw [if_neg (by omega)]; rw [if_neg (by omega)]; rw [if_neg (by omega)]; rw [if_pos (by first | omega | exact .inr (.inr (.inr (.inr rfl))))]), hst.pure⟩
     refine TK (t := 115) rfl (congrArg Value.bool (decide_eq_false g23)) <| Op1.move (v := .int .u16 _) rfl <| TK (t := 115) rfl (congrArg Value.bool (decide_eq_false g23)) (Op1.call1 (v1 := .int .u16 _) ent30 rfl rfl ((R5ref5_Ends (aheadF (l.map InstP.L) k) _).mono fun v w hp => ?_))
     obtain ⟨rfl, hp⟩ := hp
     replace hst := hst.keepc hp
     clear hp
     refine CN <| Op1.pickF (u := .bool _) (congrArg Value.bool (decide_eq_false g23)) rfl <| NL <| Run.forget [(0, .slice _ _ _), (1, .int .i64 _), (8, .int .u16 _), (9, .int .u16 _), (118, .bool _)] ⟨rfl, rfl, rfl, rfl, rfl, trivial⟩ fun f => run_cond_split rfl (fun g24 => ?_) (fun g24 => ?_)
     · skip
       refine SR <| AB rfl <| NL <| run_ret1 Try.func27 rfl (TP (v := .bool _) rfl) ?_
       exact ⟨congrArg Value.bool (by unfold mayB; rw [if_neg (by rw [hJ.2.2.1]; decide)]; rw [if_neg (by omega)]; rw [if_neg (by omega)]; rw [if_neg (by omega)]; unfold mayO; rw [if_neg (by omega)]; rw [if_neg (by omega)]; rw [if_neg (by omega)]; rw [if_neg (by omega)]; rw [if_pos (by first | omega | exact .inr (.inr (.inr (.inr g24))))]), hst.pure⟩
     refine run_skip <| SQ <| SR <| MH rfl <| CN <| Op1.eql rfl rfl <| NL <| run_cond_dec rfl (fun g25 => ?_) (fun g25 => ?_)
     · skip
       refine SR <| MH rfl <| CN <| Op1.eql rfl rfl <| MB rfl <| RunL.splitD (d := 123) rfl (fun g26 => ?_) (fun g26 => ?_)
       · skip
         refine OM (t := 123) rfl (congrArg Value.bool (decide_eq_true g26)) rfl <| OM (t := 123) rfl (congrArg Value.bool (decide_eq_true g26)) rfl <| CN <| Op1.pickT (u := .bool _) (congrArg Value.bool (decide_eq_true g26)) rfl <| MB rfl <| TK (t := 127) rfl (congrArg Value.bool (rfl : true = _)) <| Op1.move (v := .slice _ _ _) rfl <| TK (t := 127) rfl (congrArg Value.bool (rfl : true = _)) <| Op1.move (v := .int .i64 _) rfl <| TK (t := 127) rfl (congrArg Value.bool (rfl : true = _)) <| Op1.subN rfl rfl rfl (wrap_i64 (by omega) (by omega)) <| TK (t := 127) rfl (congrArg Value.bool (rfl : true = _)) (Op1.call2 (v1 := .slice _ _ _) (v2 := .int .i64 _) ent37 rfl rfl rfl ((R5ref5_first l ao cp (k - 1) _ (by have := (label_of hkm (by omega) hS2 (by omega)).1; omega) (label_of hkm (by omega) hS2 (by omega)).2 _ (hst.hD _ (.head _)) (by omega) (by omega)).mono fun v w hp => ?_))
         obtain ⟨rfl, hp⟩ := hp
         replace hst := hst.keepc hp
         clear hp
         refine TK (t := 127) rfl (congrArg Value.bool (rfl : true = _)) <| Op1.not rfl <| CN <| Op1.pickT (u := .bool _) (congrArg Value.bool (rfl : true = _)) rfl <| AB rfl <| NL <| run_ret1 Try.func27 rfl (TP (v := .bool _) rfl) ?_
         exact ⟨congrArg Value.bool (by unfold mayB; rw [if_neg (by rw [hJ.2.2.1]; decide)]; rw [if_neg (by omega)]; rw [if_neg (by omega)]; rw [if_neg (by omega)]; unfold mayO; rw [if_neg (by omega)]; rw [if_neg (by omega)]; rw [if_neg (by omega)]; rw [if_neg (by omega)]; rw [if_neg (fun h => by rcases h with h | h | h | h | h; (omega); (omega); (omega); (omega); (rw [g24] at h; cases h))]; rw [if_pos (by omega)]; first | exact may_245 (by omega) | exact (decide_eq_false (fun h => by omega)).symm), hst.pure⟩
       refine TK (t := 123) rfl (congrArg Value.bool (decide_eq_false g26)) <| Op1.move (v := .int .u16 _) rfl <| TK (t := 123) rfl (congrArg Value.bool (decide_eq_false g26)) <| Op1.eql rfl rfl <| CN <| Op1.pickF (u := .bool _) (congrArg Value.bool (decide_eq_false g26)) rfl <| MB rfl <| RunL.splitD (d := 127) rfl (fun g27 => ?_) (fun g27 => ?_)
       · skip
         refine TK (t := 127) rfl (congrArg Value.bool (decide_eq_true g27)) <| Op1.move (v := .slice _ _ _) rfl <| TK (t := 127) rfl (congrArg Value.bool (decide_eq_true g27)) <| Op1.move (v := .int .i64 _) rfl <| TK (t := 127) rfl (congrArg Value.bool (decide_eq_true g27)) <| Op1.subN rfl rfl rfl (wrap_i64 (by omega) (by omega)) <| TK (t := 127) rfl (congrArg Value.bool (decide_eq_true g27)) (Op1.call2 (v1 := .slice _ _ _) (v2 := .int .i64 _) ent37 rfl rfl rfl ((R5ref5_first l ao cp (k - 1) _ (by have := (label_of hkm (by omega) hS2 (by omega)).1; omega) (label_of hkm (by omega) hS2 (by omega)).2 _ (hst.hD _ (.head _)) (by omega) (by omega)).mono fun v w hp => ?_))
         obtain ⟨rfl, hp⟩ := hp
         replace hst := hst.keepc hp
         clear hp
         refine TK (t := 127) rfl (congrArg Value.bool (decide_eq_true g27)) <| Op1.not rfl <| CN <| Op1.pickT (u := .bool _) (congrArg Value.bool (decide_eq_true g27)) rfl <| AB rfl <| NL <| run_ret1 Try.func27 rfl (TP (v := .bool _) rfl) ?_
         exact ⟨congrArg Value.bool (by unfold mayB; rw [if_neg (by rw [hJ.2.2.1]; decide)]; rw [if_neg (by omega)]; rw [if_neg (by omega)]; rw [if_neg (by omega)]; unfold mayO; rw [if_neg (by omega)]; rw [if_neg (by omega)]; rw [if_neg (by omega)]; rw [if_neg (by omega)]; rw [if_neg (fun h => by rcases h with h | h | h | h | h; (omega); (omega); (omega); (omega); (rw [g24] at h; cases h))]; rw [if_pos (by omega)]; first | exact may_245 (by omega) | exact (decide_eq_false (fun h => by omega)).symm), hst.pure⟩
       refine OM (t := 127) rfl (congrArg Value.bool (decide_eq_false g27)) rfl <| OM (t := 127) rfl (congrArg Value.bool (decide_eq_false g27)) rfl <| OM (t := 127) rfl (congrArg Value.bool (decide_eq_false g27)) rfl <| OM (t := 127) rfl (congrArg Value.bool (decide_eq_false g27)) rfl <| OM (t := 127) rfl (congrArg Value.bool (decide_eq_false g27)) rfl <| CN <| Op1.pickF (u := .bool _) (congrArg Value.bool (decide_eq_false g27)) rfl <| AB rfl <| NL <| run_ret1 Try.func27 rfl (TP (v := .bool _) rfl) ?_
       exact ⟨congrArg Value.bool (by unfold mayB; rw [if_neg (by rw [hJ.2.2.1]; decide)]; rw [if_neg (by omega)]; rw [if_neg (by omega)]; rw [if_neg (by omega)]; unfold mayO; rw [if_neg (by omega)]; rw [if_neg (by omega)]; rw [if_neg (by omega)]; rw [if_neg (by omega)]; rw [if_neg (fun h => by rcases h with h | h | h | h | h; (omega); (omega); (omega); (omega); (rw [g24] at h; cases h))]; rw [if_pos (by omega)]; first | exact may_245 (by omega) | exact (decide_eq_false (fun h => by omega)).symm), hst.pure⟩
     refine run_skip <| SQ <| SR <| MH rfl <| CN <| Op1.eql rfl rfl <| NL <| run_cond_dec rfl (fun g28 => ?_) (fun g28 => ?_)
     · skip
       refine SR <| MH rfl <| CN <| Op1.eql rfl rfl <| MB rfl <| RunL.splitD (d := 138) rfl (fun g29 => ?_) (fun g29 => ?_)
       · skip
         refine OM (t := 138) rfl (congrArg Value.bool (decide_eq_true g29)) rfl <| OM (t := 138) rfl (congrArg Value.bool (decide_eq_true g29)) rfl <| CN <| Op1.pickT (u := .bool _) (congrArg Value.bool (decide_eq_true g29)) rfl <| MB rfl <| TK (t := 142) rfl (congrArg Value.bool (rfl : true = _)) <| Op1.move (v := .slice _ _ _) rfl <| TK (t := 142) rfl (congrArg Value.bool (rfl : true = _)) <| Op1.move (v := .int .i64 _) rfl <| TK (t := 142) rfl (congrArg Value.bool (rfl : true = _)) <| Op1.subN rfl rfl rfl (wrap_i64 (by omega) (by omega)) <| TK (t := 142) rfl (congrArg Value.bool (rfl : true = _)) (Op1.call2 (v1 := .slice _ _ _) (v2 := .int .i64 _) ent37 rfl rfl rfl ((R5ref5_first l ao cp (k - 1) _ (by have := (label_of hkm (by omega) hS2 (by omega)).1; omega) (label_of hkm (by omega) hS2 (by omega)).2 _ (hst.hD _ (.head _)) (by omega) (by omega)).mono fun v w hp => ?_))
         obtain ⟨rfl, hp⟩ := hp
         replace hst := hst.keepc hp
         clear hp
         refine CN <| Op1.pickT (u := .bool _) (congrArg Value.bool (rfl : true = _)) rfl <| AB rfl <| NL <| run_ret1 Try.func27 rfl (TP (v := .bool _) rfl) ?_
         exact ⟨congrArg Value.bool (by unfold mayB; rw [if_neg (by rw [hJ.2.2.1]; decide)]; rw [if_neg (by omega)]; rw [if_neg (by omega)]; rw [if_neg (by omega)]; unfold mayO; rw [if_neg (by omega)]; rw [if_neg (by omega)]; rw [if_neg (by omega)]; rw [if_neg (by omega)]; rw [if_neg (fun h => by rcases h with h | h | h | h | h; (omega); (omega); (omega); (omega); (rw [g24] at h; cases h))]; rw [if_neg (by omega)]; rw [if_pos (by omega)]; first | exact may_59 (by omega) | exact (decide_eq_false (fun h => by omega)).symm), hst.pure⟩
       refine TK (t := 138) rfl (congrArg Value.bool (decide_eq_false g29)) <| Op1.move (v := .int .u16 _) rfl <| TK (t := 138) rfl (congrArg Value.bool (decide_eq_false g29)) <| Op1.eql rfl rfl <| CN <| Op1.pickF (u := .bool _) (congrArg Value.bool (decide_eq_false g29)) rfl <| MB rfl <| RunL.splitD (d := 142) rfl (fun g30 => ?_) (fun g30 => ?_)
       · skip
         refine TK (t := 142) rfl (congrArg Value.bool (decide_eq_true g30)) <| Op1.move (v := .slice _ _ _) rfl <| TK (t := 142) rfl (congrArg Value.bool (decide_eq_true g30)) <| Op1.move (v := .int .i64 _) rfl <| TK (t := 142) rfl (congrArg Value.bool (decide_eq_true g30)) <| Op1.subN rfl rfl rfl (wrap_i64 (by omega) (by omega)) <| TK (t := 142) rfl (congrArg Value.bool (decide_eq_true g30)) (Op1.call2 (v1 := .slice _ _ _) (v2 := .int .i64 _) ent37 rfl rfl rfl ((R5ref5_first l ao cp (k - 1) _ (by have := (label_of hkm (by omega) hS2 (by omega)).1; omega) (label_of hkm (by omega) hS2 (by omega)).2 _ (hst.hD _ (.head _)) (by omega) (by omega)).mono fun v w hp => ?_))
         obtain ⟨rfl, hp⟩ := hp
         replace hst := hst.keepc hp
         clear hp
         refine CN <| Op1.pickT (u := .bool _) (congrArg Value.bool (decide_eq_true g30)) rfl <| AB rfl <| NL <| run_ret1 Try.func27 rfl (TP (v := .bool _) rfl) ?_
         exact ⟨congrArg Value.bool (by unfold mayB; rw [if_neg (by rw [hJ.2.2.1]; decide)]; rw [if_neg (by omega)]; rw [if_neg (by omega)]; rw [if_neg (by omega)]; unfold mayO; rw [if_neg (by omega)]; rw [if_neg (by omega)]; rw [if_neg (by omega)]; rw [if_neg (by omega)]; rw [if_neg (fun h => by rcases h with h | h | h | h | h; (omega); (omega); (omega); (omega); (rw [g24] at h; cases h))]; rw [if_neg (by omega)]; rw [if_pos (by omega)]; first | exact may_59 (by omega) | exact (decide_eq_false (fun h => by omega)).symm), hst.pure⟩
       refine OM (t := 142) rfl (congrArg Value.bool (decide_eq_false g30)) rfl <| OM (t := 142) rfl (congrArg Value.bool (decide_eq_false g30)) rfl <| OM (t := 142) rfl (congrArg Value.bool (decide_eq_false g30)) rfl <| OM (t := 142) rfl (congrArg Value.bool (decide_eq_false g30)) rfl <| CN <| Op1.pickF (u := .bool _) (congrArg Value.bool (decide_eq_false g30)) rfl <| AB rfl <| NL <| run_ret1 Try.func27 rfl (TP (v := .bool _) rfl) ?_
       exact ⟨congrArg Value.bool (by unfold mayB; rw [if_neg (by rw [hJ.2.2.1]; decide)]; rw [if_neg (by omega)]; rw [if_neg (by omega)]; rw [if_neg (by omega)]; unfold mayO; rw [if_neg (by omega)]; rw [if_neg (by omega)]; rw [if_neg (by omega)]; rw [if_neg (by omega)]; rw [if_neg (fun h => by rcases h with h | h | h | h | h; (omega); (omega); (omega); (omega); (rw [g24] at h; cases h))]; rw [if_neg (by omega)]; rw [if_pos (by omega)]; first | exact may_59 (by omega) | exact (decide_eq_false (fun h => by omega)).symm), hst.pure⟩
     refine run_skip <| SQ <| SR <| MH rfl <| CN <| Op1.eql rfl rfl <| NL <| run_cond_dec rfl (fun g31 => ?_) (fun g31 => ?_)
     · skip
       refine SR <| MH rfl <| CN <| Op1.eql rfl rfl <| MB rfl <| RunL.splitD (d := 152) rfl (fun g32 => ?_) (fun g32 => ?_)
       · skip
         refine OM (t := 152) rfl (congrArg Value.bool (decide_eq_true g32)) rfl <| OM (t := 152) rfl (congrArg Value.bool (decide_eq_true g32)) rfl <| CN <| Op1.pickT (u := .bool _) (congrArg Value.bool (decide_eq_true g32)) rfl <| AB rfl <| NL <| run_ret1 Try.func27 rfl (TP (v := .bool _) rfl) ?_
         exact ⟨congrArg Value.bool (by unfold mayB; rw [if_neg (by rw [hJ.2.2.1]; decide)]; rw [if_neg (by omega)]; rw [if_neg (by omega)]; rw [if_neg (by omega)]; unfold mayO; rw [if_neg (by omega)]; rw [if_neg (by omega)]; rw [if_neg (by omega)]; rw [if_neg (by omega)]; rw [if_neg (fun h => by rcases h with h | h | h | h | h; (omega); (omega); (omega); (omega); (rw [g24] at h; cases h))]; rw [if_neg (by omega)]; rw [if_neg (by omega)]; rw [if_pos (by omega)]; first | exact (decide_eq_true (by omega)).symm | (rw [decide_eq_decide]; omega) | exact (decide_eq_false (by omega)).symm), hst.pure⟩
       refine TK (t := 152) rfl (congrArg Value.bool (decide_eq_false g32)) <| Op1.move (v := .int .u16 _) rfl <| TK (t := 152) rfl (congrArg Value.bool (decide_eq_false g32)) <| Op1.eql rfl rfl <| CN <| Op1.pickF (u := .bool _) (congrArg Value.bool (decide_eq_false g32)) rfl <| AB rfl <| NL <| run_ret1 Try.func27 rfl (TP (v := .bool _) rfl) ?_
       exact ⟨congrArg Value.bool (by unfold mayB; rw [if_neg (by rw [hJ.2.2.1]; decide)]; rw [if_neg (by omega)]; rw [if_neg (by omega)]; rw [if_neg (by omega)]; unfold mayO; rw [if_neg (by omega)]; rw [if_neg (by omega)]; rw [if_neg (by omega)]; rw [if_neg (by omega)]; rw [if_neg (fun h => by rcases h with h | h | h | h | h; (omega); (omega); (omega); (omega); (rw [g24] at h; cases h))]; rw [if_neg (by omega)]; rw [if_neg (by omega)]; rw [if_pos (by omega)]; first | exact (decide_eq_true (by omega)).symm | (rw [decide_eq_decide]; omega) | exact (decide_eq_false (by omega)).symm), hst.pure⟩
     refine run_skip <| SQ <| SR <| MH rfl <| CN <| Op1.eql rfl rfl <| NL <| run_cond_dec rfl (fun g33 => ?_) (fun g33 => ?_)
     · skip
       refine SR <| MH rfl <| CN <| Op1.eql rfl rfl <| MB rfl <| RunL.splitD (d := 160) rfl (fun g34 => ?_) (fun g34 => ?_)
       · skip
         refine OM (t := 160) rfl (congrArg Value.bool (decide_eq_true g34)) rfl <| OM (t := 160) rfl (congrArg Value.bool (decide_eq_true g34)) rfl <| CN <| Op1.pickT (u := .bool _) (congrArg Value.bool (decide_eq_true g34)) rfl <| AB rfl <| NL <| run_ret1 Try.func27 rfl (TP (v := .bool _) rfl) ?_
         exact ⟨congrArg Value.bool (by unfold mayB; rw [if_neg (by rw [hJ.2.2.1]; decide)]; rw [if_neg (by omega)]; rw [if_neg (by omega)]; rw [if_neg (by omega)]; unfold mayO; rw [if_neg (by omega)]; rw [if_neg (by omega)]; rw [if_neg (by omega)]; rw [if_neg (by omega)]; rw [if_neg (fun h => by rcases h with h | h | h | h | h; (omega); (omega); (omega); (omega); (rw [g24] at h; cases h))]; rw [if_neg (by omega)]; rw [if_neg (by omega)]; rw [if_neg (by omega)]; rw [if_pos (by omega)]; first | exact (decide_eq_true (by omega)).symm | (rw [decide_eq_decide]; omega) | exact (decide_eq_false (by omega)).symm), hst.pure⟩
       refine TK (t := 160) rfl (congrArg Value.bool (decide_eq_false g34)) <| Op1.move (v := .int .u16 _) rfl <| TK (t := 160) rfl (congrArg Value.bool (decide_eq_false g34)) <| Op1.eql rfl rfl <| CN <| Op1.pickF (u := .bool _) (congrArg Value.bool (decide_eq_false g34)) rfl <| AB rfl <| NL <| run_ret1 Try.func27 rfl (TP (v := .bool _) rfl) ?_
       exact ⟨congrArg Value.bool (by unfold mayB; rw [if_neg (by rw [hJ.2.2.1]; decide)]; rw [if_neg (by omega)]; rw [if_neg (by omega)]; rw [if_neg (by omega)]; unfold mayO; rw [if_neg (by omega)]; rw [if_neg (by omega)]; rw [if_neg (by omega)]; rw [if_neg (by omega)]; rw [if_neg (fun h => by rcases h with h | h | h | h | h; (omega); (omega); (omega); (omega); (rw [g24] at h; cases h))]; rw [if_neg (by omega)]; rw [if_neg (by omega)]; rw [if_neg (by omega)]; rw [if_pos (by omega)]; first | exact (decide_eq_true (by omega)).symm | (rw [decide_eq_decide]; omega) | exact (decide_eq_false (by omega)).symm), hst.pure⟩
     refine run_skip <| SR <| AB rfl <| NL <| run_ret1 Try.func27 rfl (TP (v := .bool _) rfl) ?_
     exact ⟨congrArg Value.bool (by unfold mayB; rw [if_neg (by rw [hJ.2.2.1]; decide)]; rw [if_neg (by omega)]; rw [if_neg (by omega)]; rw [if_neg (by omega)]; unfold mayO; rw [if_neg (by omega)]; rw [if_neg (by omega)]; rw [if_neg (by omega)]; rw [if_neg (by omega)]; rw [if_neg (fun h => by rcases h with h | h | h | h | h; (omega); (omega); (omega); (omega); (rw [g24] at h; cases h))]; rw [if_neg (by omega)]; rw [if_neg (by omega)]; rw [if_neg (by omega)]; rw [if_neg (by omega)]), hst.pure⟩
   · skip
     refine SQ ?_
     have hP1 : ptA (l.map InstP.L) (k - 1) = ptF (l.getD ((k : Int) - 1).toNat zeroI).L := by rw [ptA_map, show k - 1 = ((k : Int) - 1).toNat by omega]
     refine RG <| MI rfl <| CN <| Op1.gtr rfl rfl <| MB rfl <| RunL.splitD (d := 54) rfl (fun g35 => ?_) (fun g35 => ?_)
     · skip
       refine TK (t := 54) rfl (congrArg Value.bool (decide_eq_true g35)) <| Op1.move (v := .slice _ _ _) rfl <| TK (t := 54) rfl (congrArg Value.bool (decide_eq_true g35)) <| Op1.move (v := .int .i64 _) rfl <| TK (t := 54) rfl (congrArg Value.bool (decide_eq_true g35)) <| Op1.subN rfl rfl rfl (wrap_i64 (by omega) (by omega)) <| TK (t := 54) rfl (congrArg Value.bool (decide_eq_true g35)) <| Op1.indexRs ty23 ty39 (Res.rmod_insts (hst.hD _ (.head _))) rfl rfl (by omega) (by omega) <| TK (t := 54) rfl (congrArg Value.bool (decide_eq_true g35)) <| Op1.loadA (vs := [.int .u16 _, .int .u32 _, .int .u32 _, .slice _ _ _]) ty39 rfl rfl rfl (Res.rs2_cells (m := 4) (Res.rmod_insts (hst.hD _ (.head _))) _ (flat_seg (g := instC) (d := zeroI) instC_len _ _ (by omega))) <| TK (t := 54) rfl (congrArg Value.bool (decide_eq_true g35)) (Op1.call1 (v1 := .agg #[.int .u16 _, .int .u32 _, .int .u32 _, .slice _ _ _]) ent28 rfl rfl ((R5ref5_Part (l.getD ((k : Int) - 1).toNat zeroI) (hkn _ (getD_memD (by omega))) _ (Res.rmod_argsI (hst.hD _ (.head _)) (i := ((k : Int) - 1).toNat) (by omega)) (hla _ (getD_memD (by omega)))).mono fun v w hp => ?_))
       obtain ⟨rfl, hp⟩ := hp
       replace hst := hst.keepc hp
       clear hp
       refine TK (t := 54) rfl (congrArg Value.bool (decide_eq_true g35)) <| Op1.eql rfl rfl <| CN <| Op1.pickT (u := .bool _) (congrArg Value.bool (decide_eq_true g35)) rfl <| NL <| run_cond_dec rfl (fun g36 => ?_) (fun g36 => ?_)
       · skip
         refine RG <| ML rfl <| MI rfl <| CN <| Op1.subN rfl rfl rfl (wrap_i64 (by omega) (by omega)) <| CN <| Op1.indexRs ty23 ty39 (Res.rmod_insts (hst.hD _ (.head _))) rfl rfl (by omega) (by omega) <| CN <| Op1.fieldAddr fld39_0 rfl <| CN <| Op1.load1 (v := .int .u16 _) ty33 rfl rfl (Res.rs2_cellF (Res.rmod_insts (hst.hD _ (.head _))) (flat_cell (g := instC) (d := zeroI) instC_len rfl (by omega))) <| AH rfl <| NL ?_
         exact cut9 (()) _ w (hst) (trivial) ⟨rfl, rfl, trivial⟩ ⟨(congrArg (Value.int .u16) hO.symm), (congrArg (Value.int .u16) (by unfold aheadF; rw [if_pos ⟨by omega, by omega⟩, opA_map, show ((k : Int) - 1).toNat = k - 1 by omega])), trivial⟩
       refine run_skip ?_
       exact cut9 (()) _ w (hst) (trivial) ⟨rfl, rfl, trivial⟩ ⟨(congrArg (Value.int .u16) hO.symm), (congrArg (Value.int .u16) (by unfold aheadF; rw [if_neg (by omega)])), trivial⟩
     refine OM (t := 54) rfl (congrArg Value.bool (decide_eq_false g35)) rfl <| OM (t := 54) rfl (congrArg Value.bool (decide_eq_false g35)) rfl <| OM (t := 54) rfl (congrArg Value.bool (decide_eq_false g35)) rfl <| OM (t := 54) rfl (congrArg Value.bool (decide_eq_false g35)) rfl <| OM (t := 54) rfl (congrArg Value.bool (decide_eq_false g35)) rfl <| OM (t := 54) rfl (congrArg Value.bool (decide_eq_false g35)) rfl <| OM (t := 54) rfl (congrArg Value.bool (decide_eq_false g35)) rfl <| CN <| Op1.pickF (u := .bool _) (congrArg Value.bool (decide_eq_false g35)) rfl <| NL <| run_cond_false (congrArg Value.bool (rfl : false = _)) <| run_skip ?_
     exact cut9 (()) _ w (hst) (trivial) ⟨rfl, rfl, trivial⟩ ⟨(congrArg (Value.int .u16) hO.symm), (congrArg (Value.int .u16) (by unfold aheadF; rw [if_neg (by omega)])), trivial⟩
 refine OM (t := 41) rfl (congrArg Value.bool (decide_eq_false g6)) rfl <| OM (t := 41) rfl (congrArg Value.bool (decide_eq_false g6)) rfl <| CN <| Op1.pickF (u := .bool _) (congrArg Value.bool (decide_eq_false g6)) rfl <| NL <| run_cond_false (congrArg Value.bool (rfl : false = _)) <| run_skip <| SQ <| SR <| MI rfl <| CN <| Op1.lss rfl rfl <| NL <| run_cond_dec rfl (fun g37 => ?_) (fun g37 => ?_)
 · skip
   refine SR <| AB rfl <| NL <| run_ret1 Try.func27 rfl (TP (v := .bool _) rfl) ?_
   exact ⟨congrArg Value.bool (by unfold mayB; rw [if_neg (by rw [hJ.2.2.1]; decide)]; rw [if_neg (by omega)]; rw [if_neg (by omega)]; rw [if_pos (by omega)]), hst.pure⟩
 refine run_skip <| SR <| ML rfl <| MI rfl <| CN <| Op1.indexRs ty23 ty39 (Res.rmod_insts (hst.hD _ (.head _))) rfl rfl (by omega) (by omega) <| CN <| Op1.fieldAddr fld39_0 rfl <| CN <| Op1.load1 (v := .int .u16 _) ty33 rfl rfl (Res.rs2_cellF (Res.rmod_insts (hst.hD _ (.head _))) (flat_cell (g := instC) (d := zeroI) instC_len rfl (by omega))) <| AH rfl <| NSR <| AH rfl <| NL <| SQ ?_
 refine Run.cutW (L1 := []) [(0, .slice _ _ _), (1, .int .i64 _)] hst ⟨rfl, rfl, trivial⟩ (fun (_u : Unit) => [(8, .int .u16 (opA (l.map InstP.L) k)), (9, .int .u16 (aheadF (l.map InstP.L) k))]) (fun (_u : Unit) => []) (fun (_u : Unit) => True) (fun _u f w hst hJ39 => ?_) (fun cut38 => ?_)
 · skip
   refine SQ <| SR <| MH rfl <| CN <| Op1.eql rfl rfl <| NL <| run_cond_dec rfl (fun g41 => ?_) (fun g41 => ?_)
   · skip
     refine SR <| MH rfl <| CN <| Op1.eql rfl rfl <| MB rfl <| RunL.splitD (d := 73) rfl (fun g42 => ?_) (fun g42 => ?_)
     · skip
       refine OM (t := 73) rfl (congrArg Value.bool (decide_eq_true g42)) rfl <| OM (t := 73) rfl (congrArg Value.bool (decide_eq_true g42)) rfl <| CN <| Op1.pickT (u := .bool _) (congrArg Value.bool (decide_eq_true g42)) rfl <| AB rfl <| NL <| run_ret1 Try.func27 rfl (TP (v := .bool _) rfl) ?_
       exact ⟨congrArg Value.bool (by unfold mayB; rw [if_neg (by rw [hJ.2.2.1]; decide)]; rw [if_neg (by omega)]; rw [if_neg (by omega)]; rw [if_neg (by omega)]; unfold mayO; rw [if_pos (by omega)]; first | exact (decide_eq_true (by omega)).symm | (rw [decide_eq_decide]; omega) | exact (decide_eq_false (by omega)).symm), hst.pure⟩
     refine TK (t := 73) rfl (congrArg Value.bool (decide_eq_false g42)) <| Op1.move (v := .int .u16 _) rfl <| TK (t := 73) rfl (congrArg Value.bool (decide_eq_false g42)) <| Op1.eql rfl rfl <| CN <| Op1.pickF (u := .bool _) (congrArg Value.bool (decide_eq_false g42)) rfl <| AB rfl <| NL <| run_ret1 Try.func27 rfl (TP (v := .bool _) rfl) ?_
     exact ⟨congrArg Value.bool (by unfold mayB; rw [if_neg (by rw [hJ.2.2.1]; decide)]; rw [if_neg (by omega)]; rw [if_neg (by omega)]; rw [if_neg (by omega)]; unfold mayO; rw [if_pos (by omega)]; first | exact (decide_eq_true (by omega)).symm | (rw [decide_eq_decide]; omega) | exact (decide_eq_false (by omega)).symm), hst.pure⟩
   refine run_skip <| SQ <| SR <| MH rfl <| CN <| Op1.eql rfl rfl <| NL <| run_cond_dec rfl (fun g43 => ?_) (fun g43 => ?_)
   · skip
     refine SR <| MH rfl <| CN <| Op1.eql rfl rfl <| MB rfl <| RunL.splitD (d := 81) rfl (fun g44 => ?_) (fun g44 => ?_)
     · skip
       refine OM (t := 81) rfl (congrArg Value.bool (decide_eq_true g44)) rfl <| OM (t := 81) rfl (congrArg Value.bool (decide_eq_true g44)) rfl <| CN <| Op1.pickT (u := .bool _) (congrArg Value.bool (decide_eq_true g44)) rfl <| AB rfl <| NL <| run_ret1 Try.func27 rfl (TP (v := .bool _) rfl) ?_
       exact ⟨congrArg Value.bool (by unfold mayB; rw [if_neg (by rw [hJ.2.2.1]; decide)]; rw [if_neg (by omega)]; rw [if_neg (by omega)]; rw [if_neg (by omega)]; unfold mayO; rw [if_neg (by omega)]; rw [if_pos (by omega)]; first | exact (decide_eq_true (by omega)).symm | (rw [decide_eq_decide]; omega) | exact (decide_eq_false (by omega)).symm), hst.pure⟩
     refine TK (t := 81) rfl (congrArg Value.bool (decide_eq_false g44)) <| Op1.move (v := .int .u16 _) rfl <| TK (t := 81) rfl (congrArg Value.bool (decide_eq_false g44)) <| Op1.eql rfl rfl <| CN <| Op1.pickF (u := .bool _) (congrArg Value.bool (decide_eq_false g44)) rfl <| AB rfl <| NL <| run_ret1 Try.func27 rfl (TP (v := .bool _) rfl) ?_
     exact ⟨congrArg Value.bool (by unfold mayB; rw [if_neg (by rw [hJ.2.2.1]; decide)]; rw [if_neg (by omega)]; rw [if_neg (by omega)]; rw [if_neg (by omega)]; unfold mayO; rw [if_neg (by omega)]; rw [if_pos (by omega)]; first | exact (decide_eq_true (by omega)).symm | (rw [decide_eq_decide]; omega) | exact (decide_eq_false (by omega)).symm), hst.pure⟩
   refine run_skip <| SQ <| SR <| MH rfl <| CN <| Op1.eql rfl rfl <| NL <| run_cond_dec rfl (fun g45 => ?_) (fun g45 => ?_)
   · skip
     refine SR <| MH rfl <| CN <| Op1.eql rfl rfl <| MB rfl <| RunL.splitD (d := 89) rfl (fun g46 => ?_) (fun g46 => ?_)
     · skip
       refine OM (t := 89) rfl (congrArg Value.bool (decide_eq_true g46)) rfl <| OM (t := 89) rfl (congrArg Value.bool (decide_eq_true g46)) rfl <| CN <| Op1.pickT (u := .bool _) (congrArg Value.bool (decide_eq_true g46)) rfl <| MB rfl <| OM (t := 93) rfl (congrArg Value.bool (rfl : true = _)) rfl <| OM (t := 93) rfl (congrArg Value.bool (rfl : true = _)) rfl <| CN <| Op1.pickT (u := .bool _) (congrArg Value.bool (rfl : true = _)) rfl <| AB rfl <| NL <| run_ret1 Try.func27 rfl (TP (v := .bool _) rfl) ?_
       exact ⟨congrArg Value.bool (by unfold mayB; rw [if_neg (by rw [hJ.2.2.1]; decide)]; rw [if_neg (by omega)]; rw [if_neg (by omega)]; rw [if_neg (by omega)]; unfold mayO; rw [if_neg (by omega)]; rw [if_neg (by omega)]; rw [if_pos (by omega)]; first | exact (decide_eq_true (by omega)).symm | exact may_248 (by omega) (by omega)), hst.pure⟩
     refine TK (t := 89) rfl (congrArg Value.bool (decide_eq_false g46)) <| Op1.move (v := .int .u16 _) rfl <| TK (t := 89) rfl (congrArg Value.bool (decide_eq_false g46)) <| Op1.eql rfl rfl <| CN <| Op1.pickF (u := .bool _) (congrArg Value.bool (decide_eq_false g46)) rfl <| MB rfl <| RunL.splitD (d := 93) rfl (fun g47 => ?_) (fun g47 => ?_)
     · skip
       refine OM (t := 93) rfl (congrArg Value.bool (decide_eq_true g47)) rfl <| OM (t := 93) rfl (congrArg Value.bool (decide_eq_true g47)) rfl <| CN <| Op1.pickT (u := .bool _) (congrArg Value.bool (decide_eq_true g47)) rfl <| AB rfl <| NL <| run_ret1 Try.func27 rfl (TP (v := .bool _) rfl) ?_
       exact ⟨congrArg Value.bool (by unfold mayB; rw [if_neg (by rw [hJ.2.2.1]; decide)]; rw [if_neg (by omega)]; rw [if_neg (by omega)]; rw [if_neg (by omega)]; unfold mayO; rw [if_neg (by omega)]; rw [if_neg (by omega)]; rw [if_pos (by omega)]; first | exact (decide_eq_true (by omega)).symm | exact may_248 (by omega) (by omega)), hst.pure⟩
     refine TK (t := 93) rfl (congrArg Value.bool (decide_eq_false g47)) <| Op1.move (v := .int .u16 _) rfl <| TK (t := 93) rfl (congrArg Value.bool (decide_eq_false g47)) (Op1.call1 (v1 := .int .u16 _) ent30 rfl rfl ((R5ref5_Ends (aheadF (l.map InstP.L) k) _).mono fun v w hp => ?_))
     obtain ⟨rfl, hp⟩ := hp
     replace hst := hst.keepc hp
     clear hp
     refine CN <| Op1.pickF (u := .bool _) (congrArg Value.bool (decide_eq_false g47)) rfl <| AB rfl <| NL <| run_ret1 Try.func27 rfl (TP (v := .bool _) rfl) ?_
     exact ⟨congrArg Value.bool (by unfold mayB; rw [if_neg (by rw [hJ.2.2.1]; decide)]; rw [if_neg (by omega)]; rw [if_neg (by omega)]; rw [if_neg (by omega)]; unfold mayO; rw [if_neg (by omega)]; rw [if_neg (by omega)]; rw [if_pos (by omega)]; first | exact (decide_eq_true (by omega)).symm | exact may_248 (by omega) (by omega)), hst.pure⟩
   refine run_skip <| SQ <| SR <| MH rfl <| CN <| Op1.eql rfl rfl <| NL <| run_cond_dec rfl (fun g48 => ?_) (fun g48 => ?_)
   · skip
     refine SR <| MH rfl <| CN <| Op1.call1 (v1 := .int .u16 _) ent30 rfl rfl <| Ret.det (R5ref5_Ends (aheadF (l.map InstP.L) k) _) hst fun w hst => AB rfl <| NL <| run_ret1 Try.func27 rfl (TP (v := .bool _) rfl) ?_
     exact ⟨congrArg Value.bool (by unfold mayB; rw [if_neg (by rw [hJ.2.2.1]; decide)]; rw [if_neg (by omega)]; rw [if_neg (by omega)]; rw [if_neg (by omega)]; unfold mayO; rw [if_neg (by omega)]; rw [if_neg (by omega)]; rw [if_neg (by omega)]; rw [if_pos (by omega)]), hst.pure⟩
   refine run_skip <| SQ <| SR <| MH rfl <| CN <| Op1.eql rfl rfl <| MB rfl <| RunL.splitD (d := 103) rfl (fun g49 => ?_) (fun g49 => ?_)
   · skip
     refine OM (t := 103) rfl (congrArg Value.bool (decide_eq_true g49)) rfl <| OM (t := 103) rfl (congrArg Value.bool (decide_eq_true g49)) rfl <| CN <| Op1.pickT (u := .bool _) (congrArg Value.bool (decide_eq_true g49)) rfl <| MB rfl <| OM (t := 107) rfl (congrArg Value.bool (rfl : true = _)) rfl <| OM (t := 107) rfl (congrArg Value.bool (rfl : true = _)) rfl <| CN <| Op1.pickT (u := .bool _) (congrArg Value.bool (rfl : true = _)) rfl <| MB rfl <| OM (t := 111) rfl (congrArg Value.bool (rfl : true = _)) rfl <| OM (t := 111) rfl (congrArg Value.bool (rfl : true = _)) rfl <| CN <| Op1.pickT (u := .bool _) (congrArg Value.bool (rfl : true = _)) rfl <| MB rfl <| OM (t := 115) rfl (congrArg Value.bool (rfl : true = _)) rfl <| OM (t := 115) rfl (congrArg Value.bool (rfl : true = _)) rfl <| CN (Op1.pickT (u := .bool _) (congrArg Value.bool (rfl : true = _)) rfl ?_)
     refine NL <| run_cond_true (congrArg Value.bool (rfl : true = _)) <| SR <| AB rfl <| NL <| run_ret1 Try.func27 rfl (TP (v := .bool _) rfl) ?_
     exact ⟨congrArg Value.bool (by unfold mayB; rw [if_neg (by rw [hJ.2.2.1]; decide)]; rw [if_neg (by omega)]; rw [if_neg (by omega)]; rw [if_neg (by omega)]; unfold mayO; rw [if_neg (by omega)]; rw [if_neg (by omega)]; rw [if_neg (by omega)]; rw [if_neg (by omega)]; rw [if_pos (by first | omega | exact .inr (.inr (.inr (.inr rfl))))]), hst.pure⟩
   refine TK (t := 103) rfl (congrArg Value.bool (decide_eq_false g49)) <| Op1.move (v := .int .u16 _) rfl <| TK (t := 103) rfl (congrArg Value.bool (decide_eq_false g49)) <| Op1.eql rfl rfl <| CN <| Op1.pickF (u := .bool _) (congrArg Value.bool (decide_eq_false g49)) rfl <| MB rfl <| RunL.splitD (d := 107) rfl (fun g50 => ?_) (fun g50 => ?_)
   · skip
     refine OM (t := 107) rfl (congrArg Value.bool (decide_eq_true g50)) rfl <| OM (t := 107) rfl (congrArg Value.bool (decide_eq_true g50)) rfl <| CN <| Op1.pickT (u := .bool _) (congrArg Value.bool (decide_eq_true g50)) rfl <| MB rfl <| OM (t := 111) rfl (congrArg Value.bool (rfl : true = _)) rfl <| OM (t := 111) rfl (congrArg Value.bool (rfl : true = _)) rfl <| CN <| Op1.pickT (u := .bool _) (congrArg Value.bool (rfl : true = _)) rfl <| MB rfl <| OM (t := 115) rfl (congrArg Value.bool (rfl : true = _)) rfl <| OM (t := 115) rfl (congrArg Value.bool (rfl : true = _)) rfl <| CN <| Op1.pickT (u := .bool _) (congrArg Value.bool (rfl : true = _)) rfl <| NL <| Run.forget [(0, .slice _ _ _), (1, .int .i64 _), (8, .int .u16 _), (9, .int .u16 _), (118, .bool _)] ⟨rfl, rfl, rfl, rfl, rfl, trivial⟩ fun f => run_cond_true (congrArg Value.bool (rfl : true = _)) <| SQ ?_
     refine RG <| AB rfl <| NL <| run_ret1 Try.func27 rfl (TP (v := .bool _) rfl) ?_
     exact ⟨congrArg Value.bool (by unfold mayB; rw [if_neg (by rw [hJ.2.2.1]; decide)]; rw [if_neg (by omega)]; rw [if_neg (by omega)]; rw [if_neg (by omega)]; unfold mayO; rw [if_neg (by omega)]; rw [if_neg (by omega)]; rw [if_neg (by omega)]; rw [if_neg (by omega)]; rw [if_pos (by first | omega | exact .inr (.inr (.inr (.inr rfl))))]), hst.pure⟩
   refine TK (t := 107) rfl (congrArg Value.bool (decide_eq_false g50)) <| Op1.move (v := .int .u16 _) rfl <| TK (t := 107) rfl (congrArg Value.bool (decide_eq_false g50)) <| Op1.eql rfl rfl <| CN <| Op1.pickF (u := .bool _) (congrArg Value.bool (decide_eq_false g50)) rfl <| MB rfl <| RunL.splitD (d := 111) rfl (fun g51 => ?_) (fun g51 => ?_)
   · skip
     refine OM (t := 111) rfl (congrArg Value.bool (decide_eq_true g51)) rfl <| OM (t := 111) rfl (congrArg Value.bool (decide_eq_true g51)) rfl <| CN <| Op1.pickT (u := .bool _) (congrArg Value.bool (decide_eq_true g51)) rfl <| MB rfl <| OM (t := 115) rfl (congrArg Value.bool (rfl : true = _)) rfl <| OM (t := 115) rfl (congrArg Value.bool (rfl : true = _)) rfl <| CN <| Op1.pickT (u := .bool _) (congrArg Value.bool (rfl : true = _)) rfl <| NL <| Run.forget [(0, .slice _ _ _), (1, .int .i64 _), (8, .int .u16 _), (9, .int .u16 _), (118, .bool _)] ⟨rfl, rfl, rfl, rfl, rfl, trivial⟩ fun f => run_cond_true (congrArg Value.bool (rfl : true = _)) <| SR <| AB rfl <| NL <| run_ret1 Try.func27 rfl (TP (v := .bool _) rfl) ?_
     exact ⟨congrArg Value.bool (by unfold mayB; rw [if_neg (by rw [hJ.2.2.1]; decide)]; rw [if_neg (by omega)]; rw [if_neg (by omega)]; rw [if_neg (by omega)]; unfold mayO; rw [if_neg (by omega)]; rw [if_neg (by omega)]; rw [if_neg (by omega)]; rw [if_neg (by omega)]; rw [if_pos (by first | omega | exact .inr (.inr (.inr (.inr rfl))))]), hst.pure⟩
   refine TK (t := 111) rfl (congrArg Value.bool (decide_eq_false g51)) <| Op1.move (v := .int .u16 _) rfl <| TK (t := 111) rfl (congrArg Value.bool (decide_eq_false g51)) <| Op1.eql rfl rfl <| CN <| Op1.pickF (u := .bool _) (congrArg Value.bool (decide_eq_false g51)) rfl <| MB rfl <| RunL.splitD (d := 115) rfl (fun g52 => ?_) (fun g52 => ?_)
   · skip
     refine OM (t := 115) rfl (congrArg Value.bool (decide_eq_true g52)) rfl <| OM (t := 115) rfl (congrArg Value.bool (decide_eq_true g52)) rfl <| CN <| Op1.pickT (u := .bool _) (congrArg Value.bool (decide_eq_true g52)) rfl <| NL <| Run.forget [(0, .slice _ _ _), (1, .int .i64 _), (8, .int .u16 _), (9, .int .u16 _), (118, .bool _)] ⟨rfl, rfl, rfl, rfl, rfl, trivial⟩ fun f => run_cond_true (congrArg Value.bool (rfl : true = _)) <| SR <| AB rfl <| NL <| run_ret1 Try.func27 rfl (TP (v := .bool _) rfl) ?_
     exact ⟨congrArg Value.bool (by unfold mayB; rw [if_neg (by rw [hJ.2.2.1]; decide)]; rw [if_neg (by omega)]; rw [if_neg (by omega)]; rw [if_neg (by omega)]; unfold mayO; rw [if_neg (by omega)]; rw [if_neg (by omega)]; rw [if_neg (by omega)]; rw [if_neg (by omega)]; rw [if_pos (by first | omega | exact .inr (.inr (.inr (.inr rfl))))]), hst.pure⟩
   refine TK (t := 115) rfl (congrArg Value.bool (decide_eq_false g52)) <| Op1.move (v := .int .u16 _) rfl <| TK (t := 115) rfl (congrArg Value.bool (decide_eq_false g52)) (Op1.call1 (v1 := .int .u16 _) ent30 rfl rfl ((R5ref5_Ends (aheadF (l.map InstP.L) k) _).mono fun v w hp => ?_))
   obtain ⟨rfl, hp⟩ := hp
   replace hst := hst.keepc hp
   clear hp
   refine CN <| Op1.pickF (u := .bool _) (congrArg Value.bool (decide_eq_false g52)) rfl <| NL <| Run.forget [(0, .slice _ _ _), (1, .int .i64 _), (8, .int .u16 _), (9, .int .u16 _), (118, .bool _)] ⟨rfl, rfl, rfl, rfl, rfl, trivial⟩ fun f => run_cond_split rfl (fun g53 => ?_) (fun g53 => ?_)
   · skip
     refine SR <| AB rfl <| NL <| run_ret1 Try.func27 rfl (TP (v := .bool _) rfl) ?_
     exact ⟨congrArg Value.bool (by unfold mayB; rw [if_neg (by rw [hJ.2.2.1]; decide)]; rw [if_neg (by omega)]; rw [if_neg (by omega)]; rw [if_neg (by omega)]; unfold mayO; rw [if_neg (by omega)]; rw [if_neg (by omega)]; rw [if_neg (by omega)]; rw [if_neg (by omega)]; rw [if_pos (by first | omega | exact .inr (.inr (.inr (.inr g53))))]), hst.pure⟩
   refine run_skip <| SQ <| SR <| MH rfl <| CN <| Op1.eql rfl rfl <| NL <| run_cond_dec rfl (fun g54 => ?_) (fun g54 => ?_)
   · skip
     refine SR <| MH rfl <| CN <| Op1.eql rfl rfl <| MB rfl <| RunL.splitD (d := 123) rfl (fun g55 => ?_) (fun g55 => ?_)
     · skip
       refine OM (t := 123) rfl (congrArg Value.bool (decide_eq_true g55)) rfl <| OM (t := 123) rfl (congrArg Value.bool (decide_eq_true g55)) rfl <| CN <| Op1.pickT (u := .bool _) (congrArg Value.bool (decide_eq_true g55)) rfl <| MB rfl <| TK (t := 127) rfl (congrArg Value.bool (rfl : true = _)) <| Op1.move (v := .slice _ _ _) rfl <| TK (t := 127) rfl (congrArg Value.bool (rfl : true = _)) <| Op1.move (v := .int .i64 _) rfl <| TK (t := 127) rfl (congrArg Value.bool (rfl : true = _)) <| Op1.subN rfl rfl rfl (wrap_i64 (by omega) (by omega)) <| TK (t := 127) rfl (congrArg Value.bool (rfl : true = _)) (Op1.call2 (v1 := .slice _ _ _) (v2 := .int .i64 _) ent37 rfl rfl rfl ((R5ref5_first l ao cp (k - 1) _ (by have := (label_of hkm (by omega) hS2 (by omega)).1; omega) (label_of hkm (by omega) hS2 (by omega)).2 _ (hst.hD _ (.head _)) (by omega) (by omega)).mono fun v w hp => ?_))
       obtain ⟨rfl, hp⟩ := hp
       replace hst := hst.keepc hp
       clear hp
       refine TK (t := 127) rfl (congrArg Value.bool (rfl : true = _)) <| Op1.not rfl <| CN <| Op1.pickT (u := .bool _) (congrArg Value.bool (rfl : true = _)) rfl <| AB rfl <| NL <| run_ret1 Try.func27 rfl (TP (v := .bool _) rfl) ?_
       exact ⟨congrArg Value.bool (by unfold mayB; rw [if_neg (by rw [hJ.2.2.1]; decide)]; rw [if_neg (by omega)]; rw [if_neg (by omega)]; rw [if_neg (by omega)]; unfold mayO; rw [if_neg (by omega)]; rw [if_neg (by omega)]; rw [if_neg (by omega)]; rw [if_neg (by omega)]; rw [if_neg (fun h => by rcases h with h | h | h | h | h; (omega); (omega); (omega); (omega); (rw [g53] at h; cases h))]; rw [if_pos (by omega)]; first | exact may_245 (by omega) | exact (decide_eq_false (fun h => by omega)).symm), hst.pure⟩
     refine TK (t := 123) rfl (congrArg Value.bool (decide_eq_false g55)) <| Op1.move (v := .int .u16 _) rfl <| TK (t := 123) rfl (congrArg Value.bool (decide_eq_false g55)) <| Op1.eql rfl rfl <| CN <| Op1.pickF (u := .bool _) (congrArg Value.bool (decide_eq_false g55)) rfl <| MB rfl <| RunL.splitD (d := 127) rfl (fun g56 => ?_) (fun g56 => ?_)
     · skip
       refine TK (t := 127) rfl (congrArg Value.bool (decide_eq_true g56)) <| Op1.move (v := .slice _ _ _) rfl <| TK (t := 127) rfl (congrArg Value.bool (decide_eq_true g56)) <| Op1.move (v := .int .i64 _) rfl <| TK (t := 127) rfl (congrArg Value.bool (decide_eq_true g56)) <| Op1.subN rfl rfl rfl (wrap_i64 (by omega) (by omega)) <| TK (t := 127) rfl (congrArg Value.bool (decide_eq_true g56)) (Op1.call2 (v1 := .slice _ _ _) (v2 := .int .i64 _) ent37 rfl rfl rfl ((R5ref5_first l ao cp (k - 1) _ (by have := (label_of hkm (by omega) hS2 (by omega)).1; omega) (label_of hkm (by omega) hS2 (by omega)).2 _ (hst.hD _ (.head _)) (by omega) (by omega)).mono fun v w hp => ?_))
       obtain ⟨rfl, hp⟩ := hp
       replace hst := hst.keepc hp
       clear hp
       refine TK (t := 127) rfl (congrArg Value.bool (decide_eq_true g56)) <| Op1.not rfl <| CN <| Op1.pickT (u := .bool _) (congrArg Value.bool (decide_eq_true g56)) rfl <| AB rfl <| NL <| run_ret1 Try.func27 rfl (TP (v := .bool _) rfl) ?_
       exact ⟨congrArg Value.bool (by unfold mayB; rw [if_neg (by rw [hJ.2.2.1]; decide)]; rw [if_neg (by omega)]; rw [if_neg (by omega)]; rw [if_neg (by omega)]; unfold mayO; rw [if_neg (by omega)]; rw [if_neg (by omega)]; rw [if_neg (by omega)]; rw [if_neg (by omega)]; rw [if_neg (fun h => by rcases h with h | h | h | h | h; (omega); (omega); (omega); (omega); (rw [g53] at h; cases h))]; rw [if_pos (by omega)]; first | exact may_245 (by omega) | exact (decide_eq_false (fun h => by omega)).symm), hst.pure⟩
     refine OM (t := 127) rfl (congrArg Value.bool (decide_eq_false g56)) rfl <| OM (t := 127) rfl (congrArg Value.bool (decide_eq_false g56)) rfl <| OM (t := 127) rfl (congrArg Value.bool (decide_eq_false g56)) rfl <| OM (t := 127) rfl (congrArg Value.bool (decide_eq_false g56)) rfl <| OM (t := 127) rfl (congrArg Value.bool (decide_eq_false g56)) rfl <| CN <| Op1.pickF (u := .bool _) (congrArg Value.bool (decide_eq_false g56)) rfl <| AB rfl <| NL <| run_ret1 Try.func27 rfl (TP (v := .bool _) rfl) ?_
     exact ⟨congrArg Value.bool (by unfold mayB; rw [if_neg (by rw [hJ.2.2.1]; decide)]; rw [if_neg (by omega)]; rw [if_neg (by omega)]; rw [if_neg (by omega)]; unfold mayO; rw [if_neg (by omega)]; rw [if_neg (by omega)]; rw [if_neg (by omega)]; rw [if_neg (by omega)]; rw [if_neg (fun h => by rcases h with h | h | h | h | h; (omega); (omega); (omega); (omega); (rw [g53] at h; cases h))]; rw [if_pos (by omega)]; first | exact may_245 (by omega) | exact (decide_eq_false (fun h => by omega)).symm), hst.pure⟩
   refine run_skip <| SQ <| SR <| MH rfl <| CN <| Op1.eql rfl rfl <| NL <| run_cond_dec rfl (fun g57 => ?_) (fun g57 => ?_)
   · skip
     refine SR <| MH rfl <| CN <| Op1.eql rfl rfl <| MB rfl <| RunL.splitD (d := 138) rfl (fun g58 => ?_) (fun g58 => ?_)
     · skip
       refine OM (t := 138) rfl (congrArg Value.bool (decide_eq_true g58)) rfl <| OM (t := 138) rfl (congrArg Value.bool (decide_eq_true g58)) rfl <| CN <| Op1.pickT (u := .bool _) (congrArg Value.bool (decide_eq_true g58)) rfl <| MB rfl <| TK (t := 142) rfl (congrArg Value.bool (rfl : true = _)) <| Op1.move (v := .slice _ _ _) rfl <| TK (t := 142) rfl (congrArg Value.bool (rfl : true = _)) <| Op1.move (v := .int .i64 _) rfl <| TK (t := 142) rfl (congrArg Value.bool (rfl : true = _)) <| Op1.subN rfl rfl rfl (wrap_i64 (by omega) (by omega)) <| TK (t := 142) rfl (congrArg Value.bool (rfl : true = _)) (Op1.call2 (v1 := .slice _ _ _) (v2 := .int .i64 _) ent37 rfl rfl rfl ((R5ref5_first l ao cp (k - 1) _ (by have := (label_of hkm (by omega) hS2 (by omega)).1; omega) (label_of hkm (by omega) hS2 (by omega)).2 _ (hst.hD _ (.head _)) (by omega) (by omega)).mono fun v w hp => ?_))
       obtain ⟨rfl, hp⟩ := hp
       replace hst := hst.keepc hp
       clear hp
       refine CN <| Op1.pickT (u := .bool _) (congrArg Value.bool (rfl : true = _)) rfl <| AB rfl <| NL <| run_ret1 Try.func27 rfl (TP (v := .bool _) rfl) ?_
       exact ⟨congrArg Value.bool (by unfold mayB; rw [if_neg (by rw [hJ.2.2.1]; decide)]; rw [if_neg (by omega)]; rw [if_neg (by omega)]; rw [if_neg (by omega)]; unfold mayO; rw [if_neg (by omega)]; rw [if_neg (by omega)]; rw [if_neg (by omega)]; rw [if_neg (by omega)]; rw [if_neg (fun h => by rcases h with h | h | h | h | h; (omega); (omega); (omega); (omega); (rw [g53] at h; cases h))]; rw [if_neg (by omega)]; rw [if_pos (by omega)]; first | exact may_59 (by omega) | exact (decide_eq_false (fun h => by omega)).symm), hst.pure⟩
     refine TK (t := 138) rfl (congrArg Value.bool (decide_eq_false g58)) <| Op1.move (v := .int .u16 _) rfl <| TK (t := 138) rfl (congrArg Value.bool (decide_eq_false g58)) <| Op1.eql rfl rfl <| CN <| Op1.pickF (u := .bool _) (congrArg Value.bool (decide_eq_false g58)) rfl <| MB rfl <| RunL.splitD (d := 142) rfl (fun g59 => ?_) (fun g59 => ?_)
     · skip
       refine TK (t := 142) rfl (congrArg Value.bool (decide_eq_true g59)) <| Op1.move (v := .slice _ _ _) rfl <| TK (t := 142) rfl (congrArg Value.bool (decide_eq_true g59)) <| Op1.move (v := .int .i64 _) rfl <| TK (t := 142) rfl (congrArg Value.bool (decide_eq_true g59)) <| Op1.subN rfl rfl rfl (wrap_i64 (by omega) (by omega)) <| TK (t := 142) rfl (congrArg Value.bool (decide_eq_true g59)) (Op1.call2 (v1 := .slice _ _ _) (v2 := .int .i64 _) ent37 rfl rfl rfl ((R5ref5_first l ao cp (k - 1) _ (by have := (label_of hkm (by omega) hS2 (by omega)).1; omega) (label_of hkm (by omega) hS2 (by omega)).2 _ (hst.hD _ (.head _)) (by omega) (by omega)).mono fun v w hp => ?_))
       obtain ⟨rfl, hp⟩ := hp
       replace hst := hst.keepc hp
       clear hp
       refine CN <| Op1.pickT (u := .bool _) (congrArg Value.bool (decide_eq_true g59)) rfl <| AB rfl <| NL <| run_ret1 Try.func27 rfl (TP (v := .bool _) rfl) ?_
       exact ⟨congrArg Value.bool (by unfold mayB; rw [if_neg (by rw [hJ.2.2.1]; decide)]; rw [if_neg (by omega)]; rw [if_neg (by omega)]; rw [if_neg (by omega)]; unfold mayO; rw [if_neg (by omega)]; rw [if_neg (by omega)]; rw [if_neg (by omega)]; rw [if_neg (by omega)]; rw [if_neg (fun h => by rcases h with h | h | h | h | h; (omega); (omega); (omega); (omega); (rw [g53] at h; cases h))]; rw [if_neg (by omega)]; rw [if_pos (by omega)]; first | exact may_59 (by omega) | exact (decide_eq_false (fun h => by omega)).symm), hst.pure⟩
     refine OM (t := 142) rfl (congrArg Value.bool (decide_eq_false g59)) rfl <| OM (t := 142) rfl (congrArg Value.bool (decide_eq_false g59)) rfl <| OM (t := 142) rfl (congrArg Value.bool (decide_eq_false g59)) rfl <| OM (t := 142) rfl (congrArg Value.bool (decide_eq_false g59)) rfl <| CN <| Op1.pickF (u := .bool _) (congrArg Value.bool (decide_eq_false g59)) rfl <| AB rfl <| NL <| run_ret1 Try.func27 rfl (TP (v := .bool _) rfl) ?_
     exact ⟨congrArg Value.bool (by unfold mayB; rw [if_neg (by rw [hJ.2.2.1]; decide)]; rw [if_neg (by omega)]; rw [if_neg (by omega)]; rw [if_neg (by omega)]; unfold mayO; rw [if_neg (by omega)]; rw [if_neg (by omega)]; rw [if_neg (by omega)]; rw [if_neg (by omega)]; rw [if_neg (fun h => by rcases h with h | h | h | h | h; (omega); (omega); (omega); (omega); (rw [g53] at h; cases h))]; rw [if_neg (by omega)]; rw [if_pos (by omega)]; first | exact may_59 (by omega) | exact (decide_eq_false (fun h => by omega)).symm), hst.pure⟩
   refine run_skip <| SQ <| SR <| MH rfl <| CN <| Op1.eql rfl rfl <| NL <| run_cond_dec rfl (fun g60 => ?_) (fun g60 => ?_)
   · skip
     refine SR <| MH rfl <| CN <| Op1.eql rfl rfl <| MB rfl <| RunL.splitD (d := 152) rfl (fun g61 => ?_) (fun g61 => ?_)
     · skip
       refine OM (t := 152) rfl (congrArg Value.bool (decide_eq_true g61)) rfl <| OM (t := 152) rfl (congrArg Value.bool (decide_eq_true g61)) rfl <| CN <| Op1.pickT (u := .bool _) (congrArg Value.bool (decide_eq_true g61)) rfl <| AB rfl <| NL <| run_ret1 Try.func27 rfl (TP (v := .bool _) rfl) ?_
       exact ⟨congrArg Value.bool (by unfold mayB; rw [if_neg (by rw [hJ.2.2.1]; decide)]; rw [if_neg (by omega)]; rw [if_neg (by omega)]; rw [if_neg (by omega)]; unfold mayO; rw [if_neg (by omega)]; rw [if_neg (by omega)]; rw [if_neg (by omega)]; rw [if_neg (by omega)]; rw [if_neg (fun h => by rcases h with h | h | h | h | h; (omega); (omega); (omega); (omega); (rw [g53] at h; cases h))]; rw [if_neg (by omega)]; rw [if_neg (by omega)]; rw [if_pos (by omega)]; first | exact (decide_eq_true (by omega)).symm | (rw [decide_eq_decide]; omega) | exact (decide_eq_false (by omega)).symm), hst.pure⟩
     refine TK (t := 152) rfl (congrArg Value.bool (decide_eq_false g61)) <| Op1.move (v := .int .u16 _) rfl <| TK (t := 152) rfl (congrArg Value.bool (decide_eq_false g61)) <| Op1.eql rfl rfl <| CN <| Op1.pickF (u := .bool _) (congrArg Value.bool (decide_eq_false g61)) rfl <| AB rfl <| NL <| run_ret1 Try.func27 rfl (TP (v := .bool _) rfl) ?_
     exact ⟨congrArg Value.bool (by unfold mayB; rw [if_neg (by rw [hJ.2.2.1]; decide)]; rw [if_neg (by omega)]; rw [if_neg (by omega)]; rw [if_neg (by omega)]; unfold mayO; rw [if_neg (by omega)]; rw [if_neg (by omega)]; rw [if_neg (by omega)]; rw [if_neg (by omega)]; rw [if_neg (fun h => by rcases h with h | h | h | h | h; (omega); (omega); (omega); (omega); (rw [g53] at h; cases h))]; rw [if_neg (by omega)]; rw [if_neg (by omega)]; rw [if_pos (by omega)]; first | exact (decide_eq_true (by omega)).symm | (rw [decide_eq_decide]; omega) | exact (decide_eq_false (by omega)).symm), hst.pure⟩
   refine run_skip <| SQ <| SR <| MH rfl <| CN <| Op1.eql rfl rfl <| NL <| run_cond_dec rfl (fun g62 => ?_) (fun g62 => ?_)
   · skip
     refine SR <| MH rfl <| CN <| Op1.eql rfl rfl <| MB rfl <| RunL.splitD (d := 160) rfl (fun g63 => ?_) (fun g63 => ?_)
     · skip
       refine OM (t := 160) rfl (congrArg Value.bool (decide_eq_true g63)) rfl <| OM (t := 160) rfl (congrArg Value.bool (decide_eq_true g63)) rfl <| CN <| Op1.pickT (u := .bool _) (congrArg Value.bool (decide_eq_true g63)) rfl <| AB rfl <| NL <| run_ret1 Try.func27 rfl (TP (v := .bool _) rfl) ?_
       exact ⟨congrArg Value.bool (by unfold mayB; rw [if_neg (by rw [hJ.2.2.1]; decide)]; rw [if_neg (by omega)]; rw [if_neg (by omega)]; rw [if_neg (by omega)]; unfold mayO; rw [if_neg (by omega)]; rw [if_neg (by omega)]; rw [if_neg (by omega)]; rw [if_neg (by omega)]; rw [if_neg (fun h => by rcases h with h | h | h | h | h; (omega); (omega); (omega); (omega); (rw [g53] at h; cases h))]; rw [if_neg (by omega)]; rw [if_neg (by omega)]; rw [if_neg (by omega)]; rw [if_pos (by omega)]; first | exact (decide_eq_true (by omega)).symm | (rw [decide_eq_decide]; omega) | exact (decide_eq_false (by omega)).symm), hst.pure⟩
     refine TK (t := 160) rfl (congrArg Value.bool (decide_eq_false g63)) <| Op1.move (v := .int .u16 _) rfl <| TK (t := 160) rfl (congrArg Value.bool (decide_eq_false g63)) <| Op1.eql rfl rfl <| CN <| Op1.pickF (u := .bool _) (congrArg Value.bool (decide_eq_false g63)) rfl <| AB rfl <| NL <| run_ret1 Try.func27 rfl (TP (v := .bool _) rfl) ?_
     exact ⟨congrArg Value.bool (by unfold mayB; rw [if_neg (by rw [hJ.2.2.1]; decide)]; rw [if_neg (by omega)]; rw [if_neg (by omega)]; rw [if_neg (by omega)]; unfold mayO; rw [if_neg (by omega)]; rw [if_neg (by omega)]; rw [if_neg (by omega)]; rw [if_neg (by omega)]; rw [if_neg (fun h => by rcases h with h | h | h | h | h; (omega); (omega); (omega); (omega); (rw [g53] at h; cases h))]; rw [if_neg (by omega)]; rw [if_neg (by omega)]; rw [if_neg (by omega)]; rw [if_pos (by omega)]; first | exact (decide_eq_true (by omega)).symm | (rw [decide_eq_decide]; omega) | exact (decide_eq_false (by omega)).symm), hst.pure⟩
   refine run_skip <| SR <| AB rfl <| NL <| run_ret1 Try.func27 rfl (TP (v := .bool _) rfl) ?_
   exact ⟨congrArg Value.bool (by unfold mayB; rw [if_neg (by rw [hJ.2.2.1]; decide)]; rw [if_neg (by omega)]; rw [if_neg (by omega)]; rw [if_neg (by omega)]; unfold mayO; rw [if_neg (by omega)]; rw [if_neg (by omega)]; rw [if_neg (by omega)]; rw [if_neg (by omega)]; rw [if_neg (fun h => by rcases h with h | h | h | h | h; (omega); (omega); (omega); (omega); (rw [g53] at h; cases h))]; rw [if_neg (by omega)]; rw [if_neg (by omega)]; rw [if_neg (by omega)]; rw [if_neg (by omega)]), hst.pure⟩
 · skip
   refine SQ ?_
   have hP1 : ptA (l.map InstP.L) (k - 1) = ptF (l.getD ((k : Int) - 1).toNat zeroI).L := by rw [ptA_map, show k - 1 = ((k : Int) - 1).toNat by omega]
   refine RG <| MI rfl <| CN <| Op1.gtr rfl rfl <| MB rfl <| RunL.splitD (d := 54) rfl (fun g64 => ?_) (fun g64 => ?_)
   · skip
     refine TK (t := 54) rfl (congrArg Value.bool (decide_eq_true g64)) <| Op1.move (v := .slice _ _ _) rfl <| TK (t := 54) rfl (congrArg Value.bool (decide_eq_true g64)) <| Op1.move (v := .int .i64 _) rfl <| TK (t := 54) rfl (congrArg Value.bool (decide_eq_true g64)) <| Op1.subN rfl rfl rfl (wrap_i64 (by omega) (by omega)) <| TK (t := 54) rfl (congrArg Value.bool (decide_eq_true g64)) <| Op1.indexRs ty23 ty39 (Res.rmod_insts (hst.hD _ (.head _))) rfl rfl (by omega) (by omega) <| TK (t := 54) rfl (congrArg Value.bool (decide_eq_true g64)) <| Op1.loadA (vs := [.int .u16 _, .int .u32 _, .int .u32 _, .slice _ _ _]) ty39 rfl rfl rfl (Res.rs2_cells (m := 4) (Res.rmod_insts (hst.hD _ (.head _))) _ (flat_seg (g := instC) (d := zeroI) instC_len _ _ (by omega))) <| TK (t := 54) rfl (congrArg Value.bool (decide_eq_true g64)) (Op1.call1 (v1 := .agg #[.int .u16 _, .int .u32 _, .int .u32 _, .slice _ _ _]) ent28 rfl rfl ((R5ref5_Part (l.getD ((k : Int) - 1).toNat zeroI) (hkn _ (getD_memD (by omega))) _ (Res.rmod_argsI (hst.hD _ (.head _)) (i := ((k : Int) - 1).toNat) (by omega)) (hla _ (getD_memD (by omega)))).mono fun v w hp => ?_))
     obtain ⟨rfl, hp⟩ := hp
     replace hst := hst.keepc hp
     clear hp
     refine TK (t := 54) rfl (congrArg Value.bool (decide_eq_true g64)) <| Op1.eql rfl rfl <| CN <| Op1.pickT (u := .bool _) (congrArg Value.bool (decide_eq_true g64)) rfl <| NL <| Run.forget [(0, .slice _ _ _), (1, .int .i64 _), (8, .int .u16 _), (9, .int .u16 _), (62, .bool _)] ⟨rfl, rfl, rfl, rfl, rfl, trivial⟩ fun f => run_cond_dec rfl (fun g65 => ?_) (fun g65 => ?_)
     · skip
       refine RG <| ML rfl <| MI rfl <| CN <| Op1.subN rfl rfl rfl (wrap_i64 (by omega) (by omega)) <| CN <| Op1.indexRs ty23 ty39 (Res.rmod_insts (hst.hD _ (.head _))) rfl rfl (by omega) (by omega) <| CN <| Op1.fieldAddr fld39_0 rfl <| CN <| Op1.load1 (v := .int .u16 _) ty33 rfl rfl (Res.rs2_cellF (Res.rmod_insts (hst.hD _ (.head _))) (flat_cell (g := instC) (d := zeroI) instC_len rfl (by omega))) <| AH rfl <| NL ?_
       exact cut38 (()) _ w (hst) (trivial) ⟨rfl, rfl, trivial⟩ ⟨(congrArg (Value.int .u16) hO.symm), (congrArg (Value.int .u16) (by unfold aheadF; rw [if_pos ⟨by omega, by omega⟩, opA_map, show ((k : Int) - 1).toNat = k - 1 by omega])), trivial⟩
     refine run_skip ?_
     exact cut38 (()) _ w (hst) (trivial) ⟨rfl, rfl, trivial⟩ ⟨(congrArg (Value.int .u16) hO.symm), (congrArg (Value.int .u16) (by unfold aheadF; rw [if_neg (by omega)])), trivial⟩
   refine OM (t := 54) rfl (congrArg Value.bool (decide_eq_false g64)) rfl <| OM (t := 54) rfl (congrArg Value.bool (decide_eq_false g64)) rfl <| OM (t := 54) rfl (congrArg Value.bool (decide_eq_false g64)) rfl <| OM (t := 54) rfl (congrArg Value.bool (decide_eq_false g64)) rfl <| OM (t := 54) rfl (congrArg Value.bool (decide_eq_false g64)) rfl <| OM (t := 54) rfl (congrArg Value.bool (decide_eq_false g64)) rfl <| OM (t := 54) rfl (congrArg Value.bool (decide_eq_false g64)) rfl <| CN <| Op1.pickF (u := .bool _) (congrArg Value.bool (decide_eq_false g64)) rfl <| NL <| Run.forget [(0, .slice _ _ _), (1, .int .i64 _), (8, .int .u16 _), (9, .int .u16 _), (62, .bool _)] ⟨rfl, rfl, rfl, rfl, rfl, trivial⟩ fun f => run_cond_false (congrArg Value.bool (rfl : false = _)) <| run_skip ?_
   exact cut38 (()) _ w (hst) (trivial) ⟨rfl, rfl, trivial⟩ ⟨(congrArg (Value.int .u16) hO.symm), (congrArg (Value.int .u16) (by unfold aheadF; rw [if_neg (by omega)])), trivial⟩
end Go.SK
namespace Go.SK
open Go Go.Proofs
theorem ent26 : Enters Try.prog 26 := ⟨Try.f26, _, Try.func26, by kernel_rfl, rfl⟩
theorem ent27 : Enters Try.prog 27 := ⟨Try.f27, _, Try.func27, by kernel_rfl, rfl⟩
end Go.SK
namespace Go.SK
open Go Go.Proofs
open Go.RowKit
theorem R5ref5_Check (ga ba : Int) (l : List InstP) (ao : Option Addr) (cp : Nat) (w : World) (hA : (Res.rmod ao l).holds w) (hs : Small l) : Ret Try.prog 11 #[.agg #[.int .u32 ga, .int .u32 ba, .slice ao l.length cp]] w (fun v w' => v = .agg #[.int .i64 (checkF ba (l.map InstP.L)).1, .int .i64 (checkF ba (l.map InstP.L)).2] ∧ St w NoM [] [] w') := by
 refine Ret.enter (args := [.agg #[.int .u32 ga, .int .u32 ba, .slice ao l.length cp]]) Try.func11 rfl rfl rfl ?_
 have hst : St w NoM [] [Res.rmod ao l] w := St.init_D hA
 clear hA
 obtain ⟨se, sa, hS⟩ : ∃ se sa, shapeF ba (l.map InstP.L) = (se, sa) := ⟨_, _, rfl⟩
 have hL : (l.map InstP.L).length = l.length := List.length_map _
 have hl := hs.len
 have hla := hs.la9
 refine SR <| CN <| Op1.box (v := .agg #[.int .u32 _, .int .u32 _, .slice _ _ _]) hst rfl rfl fun w b1 hst => CN <| Op1.alloc hst ty29 fun w b2 hst => NSR <| CN <| Op1.loadA (vs := [.int .u32 _, .int .u32 _, .slice _ _ _]) ty25 rfl rfl rfl (cells_of_obj (n := 3) (hst.objL (.tail _ (.head _))) _ rfl) <| CN <| Op1.call1 (v1 := .agg #[.int .u32 _, .int .u32 _, .slice _ _ _]) ent26 rfl rfl <| Ret.det (R5ref4_Shape2 ga ba l _ _ hS _ (hst.hD _ (.head _)) hs.len hs.op hs.sum hs.txt) hst fun w hst => CN <| Op1.alloc hst ty29 fun w b3 hst => CN (SO (v := .agg #[.int .i64 _, .int .i64 _]) hst ty29 rfl rfl (.here) fun w hst => ?_)
 refine NL <| SQ <| SR <| CN <| Op1.fieldAddr fld29_0 rfl <| CN <| Op1.load1 (v := .int .i64 _) ty27 rfl rfl (hst.cellL (.head _) rfl) <| CN <| Op1.neq rfl rfl <| NL <| run_cond_dec rfl (fun g1 => ?_) (fun g1 => ?_)
 · skip
   refine SR <| CN <| Op1.loadA (vs := [.int .i64 _, .int .i64 _]) ty29 rfl rfl rfl (cells_of_obj (n := 2) (hst.objL (.head _)) _ rfl) <| CN (SO (v := .agg #[.int .i64 _, .int .i64 _]) hst ty29 rfl rfl (.there (.here)) fun w hst => ?_)
   refine NL <| run_ret1 Try.func11 rfl (RV.cellA (vs := [.int .i64 _, .int .i64 _]) rfl ty29 rfl rfl (cells_of_obj (n := 2) (hst.objL (.tail _ (.head _))) _ rfl)) ?_
   have hC := check_shape (bd := ba) (l := (l.map InstP.L)) (by rw [hS]; exact g1)
   rw [hC, hS]
   exact ⟨rfl, hst.pure⟩
 have hS0 : (shapeF ba (l.map InstP.L)).1 = 0 := by rw [hS]; exact Classical.not_not.1 g1
 have hkn := shape_known hS0
 have hkm := known_map hkn
 refine run_skip <| SR <| CN <| Op1.fieldAddr fld25_2 rfl <| CN <| Op1.load1 (v := .slice _ _ _) ty23 rfl rfl (hst.cellL (.tail _ (.tail _ (.head _))) rfl) <| AL rfl <| NSR <| AI rfl <| NL <| SQ <| SR <| AI rfl ?_
 refine NL <| run_block <| run_loop <| Run.indW [(2, .pointer (some ⟨_, _, none⟩)), (4, .slice _ _ _)] ⟨rfl, rfl, trivial⟩ (fun (q : Nat × Nat) => [(5, .int .i64 (q.2 : Int)), (6, .int .i64 (q.1 : Int))]) (fun (q : Nat × Nat) => []) (fun (q : Nat × Nat) => q.1 ≤ l.length ∧ cnt1 (l.map InstP.L) q.1 = q.2 ∧ q.2 ≤ q.1 ∧ ∃ S, dfaF ((l.map InstP.L).take q.1) = some S) (fun (q : Nat × Nat) => l.length - q.1) ((0, 0)) hst ⟨Nat.zero_le _, rfl, Nat.le_refl _, _, by rw [List.take_zero]; rfl⟩ ⟨rfl, rfl, trivial⟩ ?_
 intro ⟨n, c⟩ f w hst hJ ih2
 replace hst : St _ _ ([] ++ [_, _, _]) _ _ := hst
 replace hJ : n ≤ l.length ∧ cnt1 (l.map InstP.L) n = c ∧ c ≤ n ∧ ∃ S, dfaF ((l.map InstP.L).take n) = some S := hJ
 refine Run.slots (sl := [(5, .int .i64 (c : Int)), (6, .int .i64 (n : Int))]) ⟨rfl, rfl, trivial⟩ <| SQ <| SR <| MI rfl <| ML rfl <| CN <| Op1.lenSl (rest := []) ty23 rfl <| CN <| Op1.lss rfl rfl <| NL <| run_cond_dec rfl (fun g3 => ?_) (fun g3 => ?_)
 · skip
   obtain ⟨S, hSd⟩ := hJ.2.2.2
   have hPn := ptA_map l n
   have hc1 := cnt1_step (l := (l.map InstP.L)) (k := n) (by omega)
   refine run_skip <| SQ <| run_block <| SQ <| SR <| ML rfl <| MI rfl <| CN <| Op1.call2 (v1 := .slice _ _ _) (v2 := .int .i64 _) ent27 rfl rfl rfl <| Ret.det (R5ref5_May l ao cp n hSd _ (by omega) (hst.hD _ (.head _)) hl hla hkn) hst fun w hst => CN <| Op1.not rfl <| NL <| run_cond_split rfl (fun g4 => ?_) (fun g4 => ?_)
   · skip
     refine SR <| MI rfl <| CN (Op1.buildStruct ty29 stf29 (.c (v := .int .i64 _) rfl (h := (.c (v := .int .i64 _) rfl (h := .nil)))) ?_)
     refine CN (SO (v := .agg #[.int .i64 _, .int .i64 _]) hst ty29 rfl rfl (.there (.here)) fun w hst => ?_)
     refine NL <| run_ret1 Try.func11 rfl (RV.cellA (vs := [.int .i64 _, .int .i64 _]) rfl ty29 rfl rfl (cells_of_obj (n := 2) (hst.objL (.tail _ (.head _))) _ rfl)) ?_
     have hC := check_order hS0
     rw [hC, may_no hkm (by omega) hSd (by simpa using g4)]
     exact ⟨rfl, hst.pure⟩
   refine run_skip <| SR <| ML rfl <| MI rfl <| CN <| Op1.indexRs ty23 ty39 (Res.rmod_insts (hst.hD _ (.head _))) rfl rfl (by omega) (by omega) <| CN <| Op1.loadA (vs := [.int .u16 _, .int .u32 _, .int .u32 _, .slice _ _ _]) ty39 rfl rfl rfl (Res.rs2_cells (m := 4) (Res.rmod_insts (hst.hD _ (.head _))) _ (flat_seg (g := instC) (d := zeroI) instC_len _ _ (by omega))) <| CN <| Op1.call1 (v1 := .agg #[.int .u16 _, .int .u32 _, .int .u32 _, .slice _ _ _]) ent28 rfl rfl <| Ret.det (R5ref5_Part (l.getD n zeroI) (hkn _ (getD_memD (by omega))) _ (Res.rmod_argsI (hst.hD _ (.head _)) (i := n) (by omega)) (hla _ (getD_memD (by omega)))) hst fun w hst => CN <| Op1.eql rfl rfl <| NL <| run_cond_dec rfl (fun g5 => ?_) (fun g5 => ?_)
   · skip
     refine RG <| MI rfl <| CN <| Op1.addN rfl rfl rfl (wrap_i64 (by omega) (by omega)) <| AI rfl <| NL <| run_inBlock <| RG <| MI rfl <| CN <| Op1.addN rfl rfl rfl (wrap_i64 (by omega) (by omega)) <| AI rfl <| NL <| run_inLoop ?_
     exact ih2 ((n + 1, c + 1)) _ w (by (try dsimp only); omega) hst (⟨by (try dsimp only); omega, by (try dsimp only); rw [hc1, hJ.2.1, if_pos (by omega)], by (try dsimp only); omega, may_yes hkm (by omega) hSd (by simpa using g4)⟩) ⟨rfl, rfl, trivial⟩ ⟨(congrArg (Value.int .i64) (by first | rfl | omega | (dsimp only; omega))), (congrArg (Value.int .i64) (by (try dsimp only); omega)), trivial⟩
   refine run_skip <| run_inBlock <| RG <| MI rfl <| CN <| Op1.addN rfl rfl rfl (wrap_i64 (by omega) (by omega)) <| AI rfl <| NL <| run_inLoop ?_
   exact ih2 ((n + 1, c)) _ w (by (try dsimp only); omega) hst (⟨by (try dsimp only); omega, by (try dsimp only); rw [hc1, hJ.2.1, if_neg (by omega)] <;> exact Nat.add_zero c, by (try dsimp only); omega, may_yes hkm (by omega) hSd (by simpa using g4)⟩) ⟨rfl, rfl, trivial⟩ ⟨(congrArg (Value.int .i64) (by first | rfl | omega | (dsimp only; omega))), (congrArg (Value.int .i64) (by (try dsimp only); omega)), trivial⟩
 obtain rfl : l.length = n := by omega
 obtain ⟨S, hSd⟩ := hJ.2.2.2
 have hend := order_end hkm (S := S) (by rw [hL]; exact hSd)
 rw [hL] at hend
 refine run_exit (id := 0) rfl <| SQ <| SQ ?_
 have hPl : ptA (l.map InstP.L) (l.length - 1) = ptF (l.getD ((l.length : Int) - 1).toNat zeroI).L := by rw [ptA_map, show l.length - 1 = ((l.length : Int) - 1).toNat by omega]
 have hOl : opA (l.map InstP.L) (l.length - 1) = (l.getD ((l.length : Int) - 1).toNat zeroI).op := by rw [opA_map, show l.length - 1 = ((l.length : Int) - 1).toNat by omega]
 refine RG <| MI rfl <| CN <| Op1.eql rfl rfl <| MB rfl <| RunL.splitD (d := 37) rfl (fun g6 => ?_) (fun g6 => ?_)
 · skip
   refine OM (t := 37) rfl (congrArg Value.bool (decide_eq_true g6)) rfl <| OM (t := 37) rfl (congrArg Value.bool (decide_eq_true g6)) rfl <| OM (t := 37) rfl (congrArg Value.bool (decide_eq_true g6)) rfl <| OM (t := 37) rfl (congrArg Value.bool (decide_eq_true g6)) rfl <| OM (t := 37) rfl (congrArg Value.bool (decide_eq_true g6)) rfl <| OM (t := 37) rfl (congrArg Value.bool (decide_eq_true g6)) rfl <| OM (t := 37) rfl (congrArg Value.bool (decide_eq_true g6)) rfl <| OM (t := 37) rfl (congrArg Value.bool (decide_eq_true g6)) rfl <| OM (t := 37) rfl (congrArg Value.bool (decide_eq_true g6)) rfl <| RunL.omitU (t := 46) rfl rfl <| RunL.omitU (t := 46) rfl rfl <| RunL.omitU (t := 46) rfl rfl <| RunL.omitU (t := 46) rfl rfl <| RunL.omitU (t := 46) rfl rfl <| RunL.omitU (t := 46) rfl rfl ?_
   refine RunL.omitU (t := 46) rfl rfl <| RunL.omitU (t := 46) rfl rfl <| OM (t := 37) rfl (congrArg Value.bool (decide_eq_true g6)) rfl <| CN <| Op1.pickT (u := .bool _) (congrArg Value.bool (decide_eq_true g6)) rfl <| NL <| run_cond_true (congrArg Value.bool (rfl : true = _)) <| SR <| ML rfl <| CN <| Op1.lenSl (rest := []) ty23 rfl <| CN (Op1.buildStruct ty29 stf29 (.c (v := .int .i64 _) rfl (h := (.c (v := .int .i64 _) rfl (h := .nil)))) ?_)
   refine CN (SO (v := .agg #[.int .i64 _, .int .i64 _]) hst ty29 rfl rfl (.there (.here)) fun w hst => ?_)
   refine NL <| run_ret1 Try.func11 rfl (RV.cellA (vs := [.int .i64 _, .int .i64 _]) rfl ty29 rfl rfl (cells_of_obj (n := 2) (hst.objL (.tail _ (.head _))) _ rfl)) ?_
   have hC := check_order hS0
   rw [hC, hend.1 (by omega)]
   exact ⟨rfl, hst.pure⟩
 refine TK (t := 37) rfl (congrArg Value.bool (decide_eq_false g6)) <| Op1.move (v := .slice _ _ _) rfl <| TK (t := 37) rfl (congrArg Value.bool (decide_eq_false g6)) <| Op1.move (v := .slice _ _ _) rfl <| TK (t := 37) rfl (congrArg Value.bool (decide_eq_false g6)) <| Op1.lenSl (rest := []) ty23 rfl <| TK (t := 37) rfl (congrArg Value.bool (decide_eq_false g6)) <| Op1.subN rfl rfl rfl (wrap_i64 (by omega) (by omega)) <| TK (t := 37) rfl (congrArg Value.bool (decide_eq_false g6)) <| Op1.indexRs ty23 ty39 (Res.rmod_insts (hst.hD _ (.head _))) rfl rfl (by omega) (by omega) <| TK (t := 37) rfl (congrArg Value.bool (decide_eq_false g6)) <| Op1.loadA (vs := [.int .u16 _, .int .u32 _, .int .u32 _, .slice _ _ _]) ty39 rfl rfl rfl (Res.rs2_cells (m := 4) (Res.rmod_insts (hst.hD _ (.head _))) _ (flat_seg (g := instC) (d := zeroI) instC_len _ _ (by omega))) <| TK (t := 37) rfl (congrArg Value.bool (decide_eq_false g6)) (Op1.call1 (v1 := .agg #[.int .u16 _, .int .u32 _, .int .u32 _, .slice _ _ _]) ent28 rfl rfl ((R5ref5_Part (l.getD ((l.length : Int) - 1).toNat zeroI) (hkn _ (getD_memD (by omega))) _ (Res.rmod_argsI (hst.hD _ (.head _)) (i := ((l.length : Int) - 1).toNat) (by omega)) (hla _ (getD_memD (by omega)))).mono fun v w hp => ?_))
 obtain ⟨rfl, hp⟩ := hp
 replace hst := hst.keepc hp
 clear hp
 refine TK (t := 37) rfl (congrArg Value.bool (decide_eq_false g6)) <| Op1.eql rfl rfl <| TK (t := 37) rfl (congrArg Value.bool (decide_eq_false g6)) <| Op1.move (v := .bool _) rfl <| RunL.splitD (d := 46) rfl (fun g7 => ?_) (fun g7 => ?_)
 · skip
   refine TK (t := 46) rfl (congrArg Value.bool (decide_eq_true g7)) <| Op1.move (v := .slice _ _ _) rfl <| TK (t := 46) rfl (congrArg Value.bool (decide_eq_true g7)) <| Op1.move (v := .slice _ _ _) rfl <| TK (t := 46) rfl (congrArg Value.bool (decide_eq_true g7)) <| Op1.lenSl (rest := []) ty23 rfl <| TK (t := 46) rfl (congrArg Value.bool (decide_eq_true g7)) <| Op1.subN rfl rfl rfl (wrap_i64 (by omega) (by omega)) <| TK (t := 46) rfl (congrArg Value.bool (decide_eq_true g7)) <| Op1.indexRs ty23 ty39 (Res.rmod_insts (hst.hD _ (.head _))) rfl rfl (by omega) (by omega) <| TK (t := 46) rfl (congrArg Value.bool (decide_eq_true g7)) <| Op1.fieldAddr fld39_0 rfl <| TK (t := 46) rfl (congrArg Value.bool (decide_eq_true g7)) <| Op1.load1 (v := .int .u16 _) ty33 rfl rfl (Res.rs2_cellF (Res.rmod_insts (hst.hD _ (.head _))) (flat_cell (g := instC) (d := zeroI) instC_len rfl (by omega))) <| TK (t := 46) rfl (congrArg Value.bool (decide_eq_true g7)) <| Op1.neq rfl rfl <| TK (t := 37) rfl (congrArg Value.bool (decide_eq_false g6)) <| Op1.pickT (u := .bool _) (congrArg Value.bool (decide_eq_true g7)) rfl <| CN <| Op1.pickF (u := .bool _) (congrArg Value.bool (decide_eq_false g6)) rfl <| NL <| Run.forget [(2, .pointer (some ⟨_, _, none⟩)), (4, .slice _ _ _), (56, .bool _)] ⟨rfl, rfl, rfl, trivial⟩ fun f => run_cond_dec rfl (fun g8 => ?_) (fun g8 => ?_)
   · skip
     refine SR <| ML rfl <| CN <| Op1.lenSl (rest := []) ty23 rfl <| CN (Op1.buildStruct ty29 stf29 (.c (v := .int .i64 _) rfl (h := (.c (v := .int .i64 _) rfl (h := .nil)))) ?_)
     refine CN (SO (v := .agg #[.int .i64 _, .int .i64 _]) hst ty29 rfl rfl (.there (.here)) fun w hst => ?_)
     refine NL <| run_ret1 Try.func11 rfl (RV.cellA (vs := [.int .i64 _, .int .i64 _]) rfl ty29 rfl rfl (cells_of_obj (n := 2) (hst.objL (.tail _ (.head _))) _ rfl)) ?_
     have hC := check_order hS0
     rw [hC, hend.1 (by omega)]
     exact ⟨rfl, hst.pure⟩
   refine run_skip <| SR <| CN (Op1.buildStruct ty29 stf29 .nil ?_)
   refine CN (SO (v := .agg #[.int .i64 _, .int .i64 _]) hst ty29 rfl rfl (.there (.here)) fun w hst => ?_)
   refine NL <| run_ret1 Try.func11 rfl (RV.cellA (vs := [.int .i64 _, .int .i64 _]) rfl ty29 rfl rfl (cells_of_obj (n := 2) (hst.objL (.tail _ (.head _))) _ rfl)) ?_
   have hC := check_order hS0
   rw [hC, hend.2 (by omega)]
   exact ⟨rfl, hst.pure⟩
 refine OM (t := 46) rfl (congrArg Value.bool (decide_eq_false g7)) rfl <| OM (t := 46) rfl (congrArg Value.bool (decide_eq_false g7)) rfl <| OM (t := 46) rfl (congrArg Value.bool (decide_eq_false g7)) rfl <| OM (t := 46) rfl (congrArg Value.bool (decide_eq_false g7)) rfl <| OM (t := 46) rfl (congrArg Value.bool (decide_eq_false g7)) rfl <| OM (t := 46) rfl (congrArg Value.bool (decide_eq_false g7)) rfl <| OM (t := 46) rfl (congrArg Value.bool (decide_eq_false g7)) rfl <| OM (t := 46) rfl (congrArg Value.bool (decide_eq_false g7)) rfl <| TK (t := 37) rfl (congrArg Value.bool (decide_eq_false g6)) <| Op1.pickF (u := .bool _) (congrArg Value.bool (decide_eq_false g7)) rfl <| CN <| Op1.pickF (u := .bool _) (congrArg Value.bool (decide_eq_false g6)) rfl <| NL <| run_cond_false (congrArg Value.bool (rfl : false = _)) <| run_skip <| SQ <| RG ?_
 refine CN (Op1.buildStruct ty29 stf29 .nil ?_)
 refine CN (SO (v := .agg #[.int .i64 _, .int .i64 _]) hst ty29 rfl rfl (.there (.here)) fun w hst => ?_)
 refine NL <| run_ret1 Try.func11 rfl (RV.cellA (vs := [.int .i64 _, .int .i64 _]) rfl ty29 rfl rfl (cells_of_obj (n := 2) (hst.objL (.tail _ (.head _))) _ rfl)) ?_
 have hC := check_order hS0
 rw [hC, hend.2 (by omega)]
 exact ⟨rfl, hst.pure⟩
end Go.SK
namespace Go.SK
open Go Go.Proofs
theorem fld69_1 : FldF Try.prog 69 1 1 := FldF.of (n := 0) (by kernel_rfl)
theorem fld69_0 : FldF Try.prog 69 0 0 := FldF.of (n := 0) (by kernel_rfl)
theorem ent52 : Enters Try.prog 52 := ⟨Try.f52, _, Try.func52, by kernel_rfl, rfl⟩
theorem ent40 : Enters Try.prog 40 := ⟨Try.f40, _, Try.func40, by kernel_rfl, rfl⟩
theorem ty51 : TyF Try.prog 51 (.slice 3) 1 24 [.slice none 0 0] := TyF.of (by kernel_rfl) (by kernel_rfl)
end Go.SK
namespace Go.SK
open Go Go.Proofs
open Go.RowKit
theorem R5ly_next (bq : Nat) (l : List InstP) (ao : Option Addr) (cp : Nat) (k : Nat) (tail : List Value) (w : World) (hA : (CutR 69 bq ao l.length cp k tail).holds w) (hB : (Res.rmod ao l).holds w) (hk : k ≤ l.length) (hl : l.length ≤ 3000000000000) (hla : ∀ i ∈ l, i.args.length ≤ 9000000000000000000) (hop : ∀ i ∈ l, 0 ≤ i.op) : Ret Try.prog 40 #[.pointer (some ⟨bq, 0, none⟩)] w (fun v w' => v = .int .i64 (nxF (l.map InstP.L) k) ∧ St w NoM [] [] w') := by
 refine Ret.enter (args := [.pointer (some ⟨bq, 0, none⟩)]) Try.func40 rfl rfl rfl ?_
 have hst : St w NoM [] [CutR 69 bq ao l.length cp k tail, Res.rmod ao l] w := St.init_Ds (fun d hd => by cases hd with | head => exact hA | tail _ hd => cases hd with | head => exact hB | tail _ h => cases h)
 clear hA hB
 refine SR <| AI rfl <| NL <| SQ <| SQ <| RunD.start [] hst (bs := [0, 1, 3, 7, 0, 16, 48, 112, 240, 511]) (ds := [some 3, some 4, some 5, some 6, some 7, some 8, some 9, some 10, some 11, some 12]) ⟨by kernel_rfl, by kernel_rfl, by kernel_rfl⟩ (fun tab1 => ?_)
 refine RunD.op (det _) tab1 1 (fun f' L' w' hc => Op1.move (v := .pointer (some ⟨_, _, none⟩)) (hc.old (v := .pointer (some ⟨_, _, none⟩)) rfl rfl rfl) ⟨[], ⟨rfl, rfl⟩, hc.st⟩) <| RunD.op (det _) tab1 2 (fun f' L' w' hc => Op1.nilCheckP (hc.det (j := 0) rfl rfl rfl rfl) ⟨[], ⟨rfl, rfl⟩, hc.st⟩) <| RunD.op (det _) tab1 3 (fun f' L' w' hc => Op1.fieldAddr fld69_1 (hc.det (j := 1) rfl rfl rfl rfl) ⟨[], ⟨rfl, rfl⟩, hc.st⟩) <| RunD.op (det _) tab1 4 (fun f' L' w' hc => Op1.load1 (v := .int .i64 _) ty3 rfl (hc.det (j := 2) rfl rfl rfl rfl) (hc.st.cellD (.head _) rfl) ⟨[], ⟨rfl, rfl⟩, hc.st⟩) <| RunD.op (det _) tab1 5 (fun f' L' w' hc => Op1.move (v := .pointer (some ⟨_, _, none⟩)) (hc.old (v := .pointer (some ⟨_, _, none⟩)) rfl rfl rfl) ⟨[], ⟨rfl, rfl⟩, hc.st⟩) <| RunD.op (det _) tab1 6 (fun f' L' w' hc => Op1.nilCheckP (hc.det (j := 4) rfl rfl rfl rfl) ⟨[], ⟨rfl, rfl⟩, hc.st⟩) <| RunD.op (det _) tab1 7 (fun f' L' w' hc => Op1.fieldAddr fld69_0 (hc.det (j := 5) rfl rfl rfl rfl) ⟨[], ⟨rfl, rfl⟩, hc.st⟩) <| RunD.op (det _) tab1 8 (fun f' L' w' hc => Op1.load1 (v := .slice _ _ _) ty23 rfl (hc.det (j := 6) rfl rfl rfl rfl) (hc.st.cellD (.head _) rfl) ⟨[], ⟨rfl, rfl⟩, hc.st⟩) <| RunD.op (det _) tab1 9 (fun f' L' w' hc => Op1.lenSl (rest := []) ty23 (hc.det (j := 7) rfl rfl rfl rfl) ⟨[], ⟨rfl, rfl⟩, hc.st⟩) <| RunD.fin followsMixed tab1 hst rfl (fun f2 w R5 hs3 hd4 hr6 hst => ?_)
 obtain ⟨h3_, r0⟩ := hd4 0 3 rfl rfl
 obtain ⟨h4_, r1⟩ := hd4 1 4 rfl rfl
 obtain ⟨h5_, r2⟩ := hd4 2 5 rfl rfl
 obtain ⟨h6_, r3⟩ := hd4 3 6 rfl rfl
 obtain ⟨h7_, r4⟩ := hd4 4 7 rfl rfl
 obtain ⟨h8_, r5⟩ := hd4 5 8 rfl rfl
 obtain ⟨h9_, r6⟩ := hd4 6 9 rfl rfl
 obtain ⟨h10_, r7⟩ := hd4 7 10 rfl rfl
 obtain ⟨h11_, r8⟩ := hd4 8 11 rfl rfl
 simp only [show List.range 9 = [0, 1, 2, 3, 4, 5, 6, 7, 8] from rfl, List.flatMap_cons, List.flatMap_nil, List.map_cons, List.map_nil, r0, r1, r2, r3, r4, r5, r6, r7, r8, List.nil_append, List.append_nil, List.cons_append] at hst
 refine RunL.slots (sl := [(0, .pointer (some ⟨_, _, none⟩)), (6, .int .i64 _), (11, .int .i64 _)]) ⟨(hs3 0 rfl).trans rfl, h6_, h11_, trivial⟩ ?_
 clear hs3 hd4 hr6 tab1
 refine CN <| Op1.eql rfl rfl <| NL <| run_cond_dec rfl (fun g7 => ?_) (fun g7 => ?_)
 · skip
   refine SR <| AI rfl <| NL <| run_ret1 Try.func40 rfl (TP (v := .int .i64 _) rfl) ?_
   exact ⟨congrArg (Value.int .i64) (nx_out (by omega)).symm, hst.pure⟩
 refine run_skip <| SQ <| RunD.start [] hst (bs := [0, 1, 3, 7, 0, 16, 48, 112, 255, 511, 1023, 2047]) (ds := [some 13, some 14, some 15, some 16, some 17, some 18, some 19, some 20, some 21, some 22, some 23, some 2]) ⟨by kernel_rfl, by kernel_rfl, by kernel_rfl⟩ (fun tab8 => ?_)
 refine RunD.op (det _) tab8 1 (fun f' L' w' hc => Op1.move (v := .pointer (some ⟨_, _, none⟩)) (hc.old (v := .pointer (some ⟨_, _, none⟩)) rfl rfl rfl) ⟨[], ⟨rfl, rfl⟩, hc.st⟩) <| RunD.op (det _) tab8 2 (fun f' L' w' hc => Op1.nilCheckP (hc.det (j := 0) rfl rfl rfl rfl) ⟨[], ⟨rfl, rfl⟩, hc.st⟩) <| RunD.op (det _) tab8 3 (fun f' L' w' hc => Op1.fieldAddr fld69_0 (hc.det (j := 1) rfl rfl rfl rfl) ⟨[], ⟨rfl, rfl⟩, hc.st⟩) <| RunD.op (det _) tab8 4 (fun f' L' w' hc => Op1.load1 (v := .slice _ _ _) ty23 rfl (hc.det (j := 2) rfl rfl rfl rfl) (hc.st.cellD (.head _) rfl) ⟨[], ⟨rfl, rfl⟩, hc.st⟩) <| RunD.op (det _) tab8 5 (fun f' L' w' hc => Op1.move (v := .pointer (some ⟨_, _, none⟩)) (hc.old (v := .pointer (some ⟨_, _, none⟩)) rfl rfl rfl) ⟨[], ⟨rfl, rfl⟩, hc.st⟩) <| RunD.op (det _) tab8 6 (fun f' L' w' hc => Op1.nilCheckP (hc.det (j := 4) rfl rfl rfl rfl) ⟨[], ⟨rfl, rfl⟩, hc.st⟩) <| RunD.op (det _) tab8 7 (fun f' L' w' hc => Op1.fieldAddr fld69_1 (hc.det (j := 5) rfl rfl rfl rfl) ⟨[], ⟨rfl, rfl⟩, hc.st⟩) <| RunD.op (det _) tab8 8 (fun f' L' w' hc => Op1.load1 (v := .int .i64 _) ty3 rfl (hc.det (j := 6) rfl rfl rfl rfl) (hc.st.cellD (.head _) rfl) ⟨[], ⟨rfl, rfl⟩, hc.st⟩) <| RunD.fin followsMixed tab8 hst rfl (fun f9 w R12 hs10 hd11 hr13 hst => ?_)
 obtain ⟨h13_, r0⟩ := hd11 0 13 rfl rfl
 obtain ⟨h14_, r1⟩ := hd11 1 14 rfl rfl
 obtain ⟨h15_, r2⟩ := hd11 2 15 rfl rfl
 obtain ⟨h16_, r3⟩ := hd11 3 16 rfl rfl
 obtain ⟨h17_, r4⟩ := hd11 4 17 rfl rfl
 obtain ⟨h18_, r5⟩ := hd11 5 18 rfl rfl
 obtain ⟨h19_, r6⟩ := hd11 6 19 rfl rfl
 obtain ⟨h20_, r7⟩ := hd11 7 20 rfl rfl
 simp only [show List.range 8 = [0, 1, 2, 3, 4, 5, 6, 7] from rfl, List.flatMap_cons, List.flatMap_nil, List.map_cons, List.map_nil, r0, r1, r2, r3, r4, r5, r6, r7, List.nil_append, List.append_nil, List.cons_append] at hst
 refine RunL.slots (sl := [(16, .slice _ _ _), (20, .int .i64 _)]) ⟨h16_, h20_, trivial⟩ ?_
 clear hs10 hd11 hr13 tab8
 refine CN <| Op1.indexRs ty23 ty39 (Res.rmod_insts (hst.hD _ (.tail _ (.head _)))) rfl rfl (by omega) (by omega) <| CN <| Op1.loadA (vs := [.int .u16 _, .int .u32 _, .int .u32 _, .slice _ _ _]) ty39 rfl rfl rfl (Res.rs2_cells (m := 4) (Res.rmod_insts (hst.hD _ (.tail _ (.head _)))) _ (flat_seg (g := instC) (d := zeroI) instC_len _ _ (by omega))) <| CN <| Op1.call1 (v1 := .agg #[.int .u16 _, .int .u32 _, .int .u32 _, .slice _ _ _]) ent52 rfl rfl <| Ret.det (R5ly_kind (l.getD k zeroI) (hop _ (getD_memD (by omega))) _ (Res.rmod_argsI (hst.hD _ (.tail _ (.head _))) (i := k) (by omega)) (hla _ (getD_memD (by omega)))) hst fun w hst => AI rfl <| NL <| run_ret1 Try.func40 rfl (TP (v := .int .i64 _) rfl) ?_
 exact ⟨congrArg (Value.int .i64) (nx_map (by omega)).symm, hst.pure⟩
theorem R5ly_row (bq : Nat) (l : List InstP) (ao : Option Addr) (cp : Nat) (k : Nat) (tail : List Value) (kd : Int) (hkd : kd ≠ -1) (w : World) (hR : (CutR 69 bq ao l.length cp k tail).holds w) (hA : (Res.rmod ao l).holds w) (hap : Apart (CutR 69 bq ao l.length cp k tail) (Res.rmod ao l)) (hk : k ≤ l.length) (hl : l.length ≤ 3000000000000) (hla : ∀ i ∈ l, i.args.length ≤ 9000000000000000000) (hop : ∀ i ∈ l, 0 ≤ i.op) : Ret Try.prog 41 #[.pointer (some ⟨bq, 0, none⟩), .int .i64 kd] w (fun v w' => ∃ ro rc, v = .slice ro (places k (runN (l.map InstP.L) kd k)).length rc ∧ St w (CutR 69 bq ao l.length cp k tail).foot [CutR 69 bq ao l.length cp (k + runN (l.map InstP.L) kd k) tail, Res.sl ro (places k (runN (l.map InstP.L) kd k)).length rc 3 1 ((places k (runN (l.map InstP.L) kd k)).flatMap intC)] [] w') := by
 refine Ret.enter (args := [.pointer (some ⟨bq, 0, none⟩), .int .i64 kd]) Try.func41 rfl rfl rfl ?_
 have hst : St w (CutR 69 bq ao l.length cp k tail).foot [CutR 69 bq ao l.length cp k tail] [Res.rmod ao l] w := St.enter1 hR (fun d hd => by cases hd with | head => exact hA | tail _ h => cases h) (fun d hd => by cases hd with | head => exact hap | tail _ h => cases h)
 have hL : (l.map InstP.L).length = l.length := List.length_map _
 have hrl := run_le (l := (l.map InstP.L)) (kd := kd) (k := k) (by omega)
 refine SR <| AL rfl <| NSR <| AL rfl <| NL <| SQ <| run_block <| run_loop ?_
 replace hst := hst.pushNil 3 1
 refine Run.indW [(0, .pointer (some ⟨_, _, none⟩)), (1, .int .i64 _)] ⟨rfl, rfl, trivial⟩ (fun (q : Nat × Option Addr × Nat) => [(5, .slice q.2.1 (places k q.1).length q.2.2)]) (fun (q : Nat × Option Addr × Nat) => [Res.sl q.2.1 (places k q.1).length q.2.2 3 1 ((places k q.1).flatMap intC), CutR 69 bq ao l.length cp (k + q.1) tail]) (fun (q : Nat × Option Addr × Nat) => q.1 ≤ runN (l.map InstP.L) kd k) (fun (q : Nat × Option Addr × Nat) => runN (l.map InstP.L) kd k - q.1) ((0, none, 0)) hst (Nat.zero_le _) ⟨rfl, trivial⟩ ?_
 intro ⟨n, aq, cq⟩ f w hst hJ ih1
 replace hst : St _ _ ([Res.sl aq (places k n).length cq 3 1 ((places k n).flatMap intC), CutR 69 bq ao l.length cp (k + n) tail] ++ []) _ _ := hst
 replace hJ : n ≤ runN (l.map InstP.L) kd k := hJ
 refine Run.slots (sl := [(5, .slice aq (places k n).length cq)]) ⟨rfl, trivial⟩ <| SQ <| SR <| MP rfl <| CN <| Op1.call1 (v1 := .pointer (some ⟨_, _, none⟩)) ent40 rfl rfl <| Ret.det (R5ly_next bq l ao cp (k + n) tail _ (hst.hL _ (.tail _ (.head _))) (hst.hD _ (.head _)) (by omega) hl hla hop) hst fun w hst => MI rfl <| CN <| Op1.eql rfl rfl <| NL <| run_cond_dec rfl (fun g2 => ?_) (fun g2 => ?_)
 · skip
   have hlt := (run_next hkd (by omega) hJ).1 g2
   have hpl := places_len k n
   refine run_skip <| run_block <| SR <| ML rfl <| MP rfl <| CN <| Op1.nilCheckP rfl <| CN <| Op1.fieldAddr fld69_1 rfl <| CN <| Op1.load1 (v := .int .i64 _) ty3 rfl rfl (hst.cellL (.tail _ (.head _)) rfl) <| CN (Op1.buildSl (z0 := [.int .i64 0]) hst ty51 ty3 rfl rfl (by kernel_rfl) (.c (v := .int .i64 _) rfl (h := .nil)) fun w b15 hst => ?_)
   refine CN (Op1.append (news := [.int .i64 _]) hst ty51 ty3 rfl rfl (.there (.here)) rfl rfl rfl (cells_of_obj (n := 1) (hst.objL (.head _)) _ rfl) rfl rfl (by omega) fun w ao3 cp4 hst => ?_)
   replace hst := hst.drop (.there (.here))
   refine AL rfl <| NR <| MP rfl <| CN <| Op1.nilCheckP rfl <| CN <| Op1.fieldAddr fld69_1 rfl <| CN <| Op1.load1 (v := .int .i64 _) ty3 rfl rfl (hst.cellL (.tail _ (.head _)) rfl) <| CN <| Op1.addN rfl rfl rfl (wrap_i64 (by omega) (by omega)) <| CN <| Op1.nilCheckP rfl <| CN <| Op1.fieldAddr fld69_1 rfl <| CN (SO (v := .int .i64 _) hst ty3 rfl rfl (.there (.here)) fun w hst => ?_)
   refine NL <| run_inBlock <| run_inLoop ?_
   exact ih1 ((n + 1, ao3, cp4)) _ w (by (try dsimp only); omega) (by (try dsimp only); rw [places_snoc, List.length_append, List.flatMap_append]; exact hst) (by (try dsimp only); omega) ⟨rfl, rfl, trivial⟩ ⟨(congrArg (fun n => Value.slice _ n _) (by (try dsimp only); rw [places_snoc, List.length_append]; rfl)), trivial⟩
 obtain rfl : runN (l.map InstP.L) kd k = n := by have h := (not_congr (run_next hkd (by omega) hJ)).1 g2; omega
 refine run_exit (id := 0) rfl <| SR <| ML rfl <| AL rfl <| NL <| run_ret1 Try.func41 rfl (TP (v := .slice _ _ _) rfl) ?_
 replace hst := hst.pick (.cons (.there (.here)) (.cons (.here) .nil))
 exact ⟨_, _, rfl, hst.noD⟩
end Go.SK
namespace Go.SK
open Go Go.Proofs
theorem ty41 : TyF Try.prog 41 (.struct (fieldsOf Try.prog 41)) 2 16 [.int .i64 0, .int .i64 0] := TyF.of (by kernel_rfl) (by kernel_rfl)
theorem stf41 : StructF Try.prog 41 [(0, 1), (1, 1)] := ⟨fieldsOf Try.prog 41, by kernel_rfl, fun w => by kernel_rfl⟩
theorem fld69_2 : FldF Try.prog 69 2 2 := FldF.of (n := 19) (by kernel_rfl)
theorem ty42 : TyF Try.prog 42 (.array 10 41) 20 160 [.int .i64 0, .int .i64 0, .int .i64 0, .int .i64 0, .int .i64 0, .int .i64 0, .int .i64 0, .int .i64 0, .int .i64 0, .int .i64 0, .int .i64 0, .int .i64 0, .int .i64 0, .int .i64 0, .int .i64 0, .int .i64 0, .int .i64 0, .int .i64 0, .int .i64 0, .int .i64 0] := TyF.of (by kernel_rfl) (by kernel_rfl)
end Go.SK
namespace Go.SK
open Go Go.Proofs
open Go.RowKit
set_option maxHeartbeats 4000000 in
theorem R5ly_top (bq : Nat) (l : List InstP) (ao : Option Addr) (cp : Nat) (w : World) (hR : (CutR 69 bq ao l.length cp 0 [.int .i64 0, .int .i64 0, .int .i64 0, .int .i64 0, .int .i64 0, .int .i64 0, .int .i64 0, .int .i64 0, .int .i64 0, .int .i64 0, .int .i64 0, .int .i64 0, .int .i64 0, .int .i64 0, .int .i64 0, .int .i64 0, .int .i64 0, .int .i64 0, .int .i64 0, .int .i64 0, .slice none 0 0]).holds w) (hA : (Res.rmod ao l).holds w) (hap : Apart (CutR 69 bq ao l.length cp 0 [.int .i64 0, .int .i64 0, .int .i64 0, .int .i64 0, .int .i64 0, .int .i64 0, .int .i64 0, .int .i64 0, .int .i64 0, .int .i64 0, .int .i64 0, .int .i64 0, .int .i64 0, .int .i64 0, .int .i64 0, .int .i64 0, .int .i64 0, .int .i64 0, .int .i64 0, .int .i64 0, .slice none 0 0]) (Res.rmod ao l)) (hl : l.length ≤ 3000000000000) (hla : ∀ i ∈ l, i.args.length ≤ 9000000000000000000) (hop : ∀ i ∈ l, 0 ≤ i.op) : Ret Try.prog 39 #[.pointer (some ⟨bq, 0, none⟩)] w (fun v w' => (topA (l.map InstP.L) 2 ≠ topA (l.map InstP.L) 1 ∧ v = .bool true ∧ St w (CutR 69 bq ao l.length cp 0 [.int .i64 0, .int .i64 0, .int .i64 0, .int .i64 0, .int .i64 0, .int .i64 0, .int .i64 0, .int .i64 0, .int .i64 0, .int .i64 0, .int .i64 0, .int .i64 0, .int .i64 0, .int .i64 0, .int .i64 0, .int .i64 0, .int .i64 0, .int .i64 0, .int .i64 0, .int .i64 0, .slice none 0 0]).foot [CutR 69 bq ao l.length cp (topA (l.map InstP.L) 8) [.int .i64 ((topA (l.map InstP.L) 0) : Int), .int .i64 ((topA (l.map InstP.L) 1) : Int), .int .i64 ((topA (l.map InstP.L) 1) : Int), .int .i64 ((topA (l.map InstP.L) 2) : Int), .int .i64 ((topA (l.map InstP.L) 2) : Int), .int .i64 ((topA (l.map InstP.L) 3) : Int), .int .i64 ((topA (l.map InstP.L) 3) : Int), .int .i64 ((topA (l.map InstP.L) 4) : Int), .int .i64 ((topA (l.map InstP.L) 4) : Int), .int .i64 ((topA (l.map InstP.L) 5) : Int), .int .i64 ((topA (l.map InstP.L) 5) : Int), .int .i64 ((topA (l.map InstP.L) 6) : Int), .int .i64 ((topA (l.map InstP.L) 6) : Int), .int .i64 ((topA (l.map InstP.L) 7) : Int), .int .i64 ((topA (l.map InstP.L) 7) : Int), .int .i64 ((topA (l.map InstP.L) 8) : Int), .int .i64 0, .int .i64 0, .int .i64 0, .int .i64 0, .slice none 0 0]] [] w') ∨ (topA (l.map InstP.L) 2 = topA (l.map InstP.L) 1 ∧ v = .bool false ∧ ∃ tail, St w (CutR 69 bq ao l.length cp 0 [.int .i64 0, .int .i64 0, .int .i64 0, .int .i64 0, .int .i64 0, .int .i64 0, .int .i64 0, .int .i64 0, .int .i64 0, .int .i64 0, .int .i64 0, .int .i64 0, .int .i64 0, .int .i64 0, .int .i64 0, .int .i64 0, .int .i64 0, .int .i64 0, .int .i64 0, .int .i64 0, .slice none 0 0]).foot [CutR 69 bq ao l.length cp (topA (l.map InstP.L) 2) tail] [] w')) := by
 refine Ret.enter (args := [.pointer (some ⟨bq, 0, none⟩)]) Try.func39 rfl rfl rfl ?_
 have hst : St w (CutR 69 bq ao l.length cp 0 [.int .i64 0, .int .i64 0, .int .i64 0, .int .i64 0, .int .i64 0, .int .i64 0, .int .i64 0, .int .i64 0, .int .i64 0, .int .i64 0, .int .i64 0, .int .i64 0, .int .i64 0, .int .i64 0, .int .i64 0, .int .i64 0, .int .i64 0, .int .i64 0, .int .i64 0, .int .i64 0, .slice none 0 0]).foot [CutR 69 bq ao l.length cp 0 [.int .i64 0, .int .i64 0, .int .i64 0, .int .i64 0, .int .i64 0, .int .i64 0, .int .i64 0, .int .i64 0, .int .i64 0, .int .i64 0, .int .i64 0, .int .i64 0, .int .i64 0, .int .i64 0, .int .i64 0, .int .i64 0, .int .i64 0, .int .i64 0, .int .i64 0, .int .i64 0, .slice none 0 0]] [Res.rmod ao l] w := St.enter1 hR (fun d hd => by cases hd with | head => exact hA | tail _ h => cases h) (fun d hd => by cases hd with | head => exact hap | tail _ h => cases h)
 obtain ⟨a1, ha1⟩ : ∃ a, topA (l.map InstP.L) 1 = a := ⟨_, rfl⟩
 obtain ⟨a2, ha2⟩ : ∃ a, topA (l.map InstP.L) 2 = a := ⟨_, rfl⟩
 obtain ⟨a3, ha3⟩ : ∃ a, topA (l.map InstP.L) 3 = a := ⟨_, rfl⟩
 obtain ⟨a4, ha4⟩ : ∃ a, topA (l.map InstP.L) 4 = a := ⟨_, rfl⟩
 obtain ⟨a5, ha5⟩ : ∃ a, topA (l.map InstP.L) 5 = a := ⟨_, rfl⟩
 obtain ⟨a6, ha6⟩ : ∃ a, topA (l.map InstP.L) 6 = a := ⟨_, rfl⟩
 obtain ⟨a7, ha7⟩ : ∃ a, topA (l.map InstP.L) 7 = a := ⟨_, rfl⟩
 obtain ⟨a8, ha8⟩ : ∃ a, topA (l.map InstP.L) 8 = a := ⟨_, rfl⟩
 have hb1 : a1 = (0 : Nat) + topN (l.map InstP.L) 0 (0 : Nat) := by rw [← ha1]; rfl
 have hc1 : a1 ≤ (l.map InstP.L).length := by rw [← ha1]; exact topA_le 1
 have hb2 : a2 = a1 + topN (l.map InstP.L) 1 a1 := by rw [← ha2, ← ha1]; rfl
 have hc2 : a2 ≤ (l.map InstP.L).length := by rw [← ha2]; exact topA_le 2
 have hb3 : a3 = a2 + topN (l.map InstP.L) 2 a2 := by rw [← ha3, ← ha2]; rfl
 have hc3 : a3 ≤ (l.map InstP.L).length := by rw [← ha3]; exact topA_le 3
 have hb4 : a4 = a3 + topN (l.map InstP.L) 3 a3 := by rw [← ha4, ← ha3]; rfl
 have hc4 : a4 ≤ (l.map InstP.L).length := by rw [← ha4]; exact topA_le 4
 have hb5 : a5 = a4 + topN (l.map InstP.L) 4 a4 := by rw [← ha5, ← ha4]; rfl
 have hc5 : a5 ≤ (l.map InstP.L).length := by rw [← ha5]; exact topA_le 5
 have hb6 : a6 = a5 + topN (l.map InstP.L) 5 a5 := by rw [← ha6, ← ha5]; rfl
 have hc6 : a6 ≤ (l.map InstP.L).length := by rw [← ha6]; exact topA_le 6
 have hb7 : a7 = a6 + topN (l.map InstP.L) 6 a6 := by rw [← ha7, ← ha6]; rfl
 have hc7 : a7 ≤ (l.map InstP.L).length := by rw [← ha7]; exact topA_le 7
 have hb8 : a8 = a7 + topN (l.map InstP.L) 7 a7 := by rw [← ha8, ← ha7]; rfl
 have hc8 : a8 ≤ (l.map InstP.L).length := by rw [← ha8]; exact topA_le 8
 have hL : (l.map InstP.L).length = l.length := List.length_map _
 refine SR <| AB rfl <| NL <| SQ <| SR <| MC rfl <| NL <| run_block <| run_loop <| SR <| CN <| Op1.lss rfl rfl <| NL ?_
 refine SQ <| Run.slots (sl := [(5, .int .u8 0)]) ⟨rfl, trivial⟩ <| run_cond_true (congrArg Value.bool (decide_eq_true (by decide))) <| run_skip <| SQ <| run_block <| SR <| MC rfl <| AC rfl <| NSR <| MP rfl <| CN (Op1.nilCheckP rfl ?_)
 refine CN <| Op1.fieldAddr fld69_1 rfl <| CN <| Op1.load1 (v := .int .i64 _) ty3 rfl rfl (hst.cellL (.head _) rfl) <| AI rfl <| NL <| SQ <| Run.cutW (L1 := [_]) [(0, .pointer (some ⟨_, _, none⟩)), (3, .int .u8 _), (4, .int .i64 _), (5, .int .u8 _)] hst ⟨rfl, rfl, rfl, rfl, trivial⟩ (fun (_u : Unit) => []) (fun (_u : Unit) => [CutR 69 bq ao l.length cp a1 [.int .i64 0, .int .i64 0, .int .i64 0, .int .i64 0, .int .i64 0, .int .i64 0, .int .i64 0, .int .i64 0, .int .i64 0, .int .i64 0, .int .i64 0, .int .i64 0, .int .i64 0, .int .i64 0, .int .i64 0, .int .i64 0, .int .i64 0, .int .i64 0, .int .i64 0, .int .i64 0, .slice none 0 0]]) (fun (_u : Unit) => True) (fun _u f w hst hJ2 => ?_) (fun cut1 => ?_)
 · skip
   refine SQ <| RunD.start [] hst (bs := [0, 0, 0, 0, 8, 24, 56, 124, 1, 257, 1023, 2047]) (ds := [some 39, some 40, some 41, some 42, some 43, some 44, some 45, some 46, some 47, some 48, some 49, none]) ⟨by kernel_rfl, by kernel_rfl, by kernel_rfl⟩ (fun tab4 => ?_)
   refine RunD.op (det _) tab4 1 (fun f' L' w' hc => Op1.move (v := .pointer (some ⟨_, _, none⟩)) (hc.old (v := .pointer (some ⟨_, _, none⟩)) rfl rfl rfl) ⟨[], ⟨rfl, rfl⟩, hc.st⟩) <| RunD.op (det _) tab4 2 (fun f' L' w' hc => Op1.move (v := .int .u8 _) (hc.old (v := .int .u8 _) rfl rfl rfl) ⟨[], ⟨rfl, rfl⟩, hc.st⟩) <| RunD.op (det _) tab4 3 (fun f' L' w' hc => Op1.move (v := .int .i64 _) (hc.old (v := .int .i64 _) rfl rfl rfl) ⟨[], ⟨rfl, rfl⟩, hc.st⟩) <| RunD.op (det _) tab4 4 (fun f' L' w' hc => Op1.move (v := .pointer (some ⟨_, _, none⟩)) (hc.old (v := .pointer (some ⟨_, _, none⟩)) rfl rfl rfl) ⟨[], ⟨rfl, rfl⟩, hc.st⟩) <| RunD.op (det _) tab4 5 (fun f' L' w' hc => Op1.nilCheckP (hc.det (j := 3) rfl rfl rfl rfl) ⟨[], ⟨rfl, rfl⟩, hc.st⟩) <| RunD.op (det _) tab4 6 (fun f' L' w' hc => Op1.fieldAddr fld69_1 (hc.det (j := 4) rfl rfl rfl rfl) ⟨[], ⟨rfl, rfl⟩, hc.st⟩) <| RunD.op (det _) tab4 7 (fun f' L' w' hc => Op1.load1 (v := .int .i64 _) ty3 rfl (hc.det (j := 5) rfl rfl rfl rfl) (hc.st.cellL (List.mem_append_right _ (.head _)) rfl) ⟨[], ⟨rfl, rfl⟩, hc.st⟩) <| RunD.op (det _) tab4 8 (fun f' L' w' hc => Op1.buildStruct ty41 stf41 (.c (v := .int .i64 _) (hc.det (j := 2) rfl rfl rfl rfl) (h := (.c (v := .int .i64 _) (hc.det (j := 6) rfl rfl rfl rfl) (h := .nil)))) ⟨[], ⟨rfl, rfl⟩, hc.st⟩) ?_
   refine RunD.op (det _) tab4 9 (fun f' L' w' hc => Op1.nilCheckP (hc.det (j := 0) rfl rfl rfl rfl) ⟨[], ⟨rfl, rfl⟩, hc.st⟩) <| RunD.op (det _) tab4 10 (fun f' L' w' hc => Op1.fieldAddr fld69_2 (hc.det (j := 8) rfl rfl rfl rfl) ⟨[], ⟨rfl, rfl⟩, hc.st⟩) <| RunD.fin followsMixed tab4 hst rfl (fun f5 w R8 hs6 hd7 hr9 hst => ?_)
   obtain ⟨h39_, r0⟩ := hd7 0 39 rfl rfl
   obtain ⟨h40_, r1⟩ := hd7 1 40 rfl rfl
   obtain ⟨h41_, r2⟩ := hd7 2 41 rfl rfl
   obtain ⟨h42_, r3⟩ := hd7 3 42 rfl rfl
   obtain ⟨h43_, r4⟩ := hd7 4 43 rfl rfl
   obtain ⟨h44_, r5⟩ := hd7 5 44 rfl rfl
   obtain ⟨h45_, r6⟩ := hd7 6 45 rfl rfl
   obtain ⟨h46_, r7⟩ := hd7 7 46 rfl rfl
   obtain ⟨h47_, r8⟩ := hd7 8 47 rfl rfl
   obtain ⟨h48_, r9⟩ := hd7 9 48 rfl rfl
   simp only [show List.range 10 = [0, 1, 2, 3, 4, 5, 6, 7, 8, 9] from rfl, List.flatMap_cons, List.flatMap_nil, List.map_cons, List.map_nil, r0, r1, r2, r3, r4, r5, r6, r7, r8, r9, List.nil_append, List.append_nil, List.cons_append] at hst
   refine RunL.slots (sl := [(0, .pointer (some ⟨_, _, none⟩)), (3, .int .u8 _), (4, .int .i64 _), (5, .int .u8 _), (40, .int .u8 _), (46, .agg #[.int .i64 _, .int .i64 _]), (48, .pointer (some ⟨_, _, none⟩))]) ⟨(hs6 0 rfl).trans rfl, (hs6 3 rfl).trans rfl, (hs6 4 rfl).trans rfl, (hs6 5 rfl).trans rfl, h40_, h46_, h48_, trivial⟩ ?_
   clear hs6 hd7 hr9 tab4
   refine CN <| Op1.indexArr ty42 ty41 rfl rfl (by decide) (by decide) <| RunL.slots (sl := [(49, .pointer (some ⟨bq, 2, none⟩)), (46, .agg #[.int .i64 _, .int .i64 _])]) ⟨rfl, rfl, trivial⟩ <| CN (SO (v := .agg #[.int .i64 _, .int .i64 _]) hst ty41 rfl rfl (.here) fun w hst => ?_)
   refine NSR <| MC rfl <| CN <| Op1.eql rfl rfl <| MB rfl <| RunL.splitD (d := 52) rfl (fun g10 => ?_) (fun g10 => ?_)
   · skip
     exfalso
     exact absurd g10 (by decide)
   refine OM (t := 52) rfl (congrArg Value.bool (decide_eq_false g10)) rfl <| OM (t := 52) rfl (congrArg Value.bool (decide_eq_false g10)) rfl <| OM (t := 52) rfl (congrArg Value.bool (decide_eq_false g10)) rfl <| OM (t := 52) rfl (congrArg Value.bool (decide_eq_false g10)) rfl <| OM (t := 52) rfl (congrArg Value.bool (decide_eq_false g10)) rfl <| OM (t := 52) rfl (congrArg Value.bool (decide_eq_false g10)) rfl <| CN <| Op1.pickF (u := .bool _) (congrArg Value.bool (decide_eq_false g10)) rfl <| NL <| run_cond_false (congrArg Value.bool (rfl : false = _)) <| run_skip <| run_inBlock <| RG <| CN <| Op1.addN rfl rfl rfl (wrap_u8 (by omega) (by omega)) <| MC rfl <| NL ?_
   refine run_inLoop <| SR <| CN <| Op1.lss rfl rfl <| NL <| SQ <| Run.slots (sl := [(5, .int .u8 1)]) ⟨rfl, trivial⟩ <| run_cond_true (congrArg Value.bool (decide_eq_true (by decide))) <| run_skip <| SQ <| run_block <| SR <| MC rfl <| AC rfl ?_
   refine NL <| Run.forget [(0, .pointer (some ⟨_, _, none⟩)), (3, .int .u8 _), (5, .int .u8 _)] ⟨rfl, rfl, rfl, trivial⟩ fun f => SR <| MP rfl <| CN <| Op1.nilCheckP rfl <| CN <| Op1.fieldAddr fld69_1 rfl <| CN <| Op1.load1 (v := .int .i64 _) ty3 rfl rfl (hst.cellL (.head _) rfl) <| AI rfl <| NL <| SQ <| Run.cutW (L1 := [_]) [(0, .pointer (some ⟨_, _, none⟩)), (3, .int .u8 _), (4, .int .i64 _), (5, .int .u8 _)] hst ⟨rfl, rfl, rfl, rfl, trivial⟩ (fun (_u : Unit) => []) (fun (_u : Unit) => [CutR 69 bq ao l.length cp a2 [.int .i64 ((0 : Nat) : Int), .int .i64 (a1 : Int), .int .i64 0, .int .i64 0, .int .i64 0, .int .i64 0, .int .i64 0, .int .i64 0, .int .i64 0, .int .i64 0, .int .i64 0, .int .i64 0, .int .i64 0, .int .i64 0, .int .i64 0, .int .i64 0, .int .i64 0, .int .i64 0, .int .i64 0, .int .i64 0, .slice none 0 0]]) (fun (_u : Unit) => True) (fun _u f w hst hJ12 => ?_) (fun cut11 => ?_)
   · skip
     refine SQ <| RunD.start [] hst (bs := [0, 0, 0, 0, 8, 24, 56, 124, 1, 257, 1023, 2047]) (ds := [some 39, some 40, some 41, some 42, some 43, some 44, some 45, some 46, some 47, some 48, some 49, none]) ⟨by kernel_rfl, by kernel_rfl, by kernel_rfl⟩ (fun tab14 => ?_)
     refine RunD.op (det _) tab14 1 (fun f' L' w' hc => Op1.move (v := .pointer (some ⟨_, _, none⟩)) (hc.old (v := .pointer (some ⟨_, _, none⟩)) rfl rfl rfl) ⟨[], ⟨rfl, rfl⟩, hc.st⟩) <| RunD.op (det _) tab14 2 (fun f' L' w' hc => Op1.move (v := .int .u8 _) (hc.old (v := .int .u8 _) rfl rfl rfl) ⟨[], ⟨rfl, rfl⟩, hc.st⟩) <| RunD.op (det _) tab14 3 (fun f' L' w' hc => Op1.move (v := .int .i64 _) (hc.old (v := .int .i64 _) rfl rfl rfl) ⟨[], ⟨rfl, rfl⟩, hc.st⟩) <| RunD.op (det _) tab14 4 (fun f' L' w' hc => Op1.move (v := .pointer (some ⟨_, _, none⟩)) (hc.old (v := .pointer (some ⟨_, _, none⟩)) rfl rfl rfl) ⟨[], ⟨rfl, rfl⟩, hc.st⟩) <| RunD.op (det _) tab14 5 (fun f' L' w' hc => Op1.nilCheckP (hc.det (j := 3) rfl rfl rfl rfl) ⟨[], ⟨rfl, rfl⟩, hc.st⟩) <| RunD.op (det _) tab14 6 (fun f' L' w' hc => Op1.fieldAddr fld69_1 (hc.det (j := 4) rfl rfl rfl rfl) ⟨[], ⟨rfl, rfl⟩, hc.st⟩) <| RunD.op (det _) tab14 7 (fun f' L' w' hc => Op1.load1 (v := .int .i64 _) ty3 rfl (hc.det (j := 5) rfl rfl rfl rfl) (hc.st.cellL (List.mem_append_right _ (.head _)) rfl) ⟨[], ⟨rfl, rfl⟩, hc.st⟩) <| RunD.op (det _) tab14 8 (fun f' L' w' hc => Op1.buildStruct ty41 stf41 (.c (v := .int .i64 _) (hc.det (j := 2) rfl rfl rfl rfl) (h := (.c (v := .int .i64 _) (hc.det (j := 6) rfl rfl rfl rfl) (h := .nil)))) ⟨[], ⟨rfl, rfl⟩, hc.st⟩) ?_
     refine RunD.op (det _) tab14 9 (fun f' L' w' hc => Op1.nilCheckP (hc.det (j := 0) rfl rfl rfl rfl) ⟨[], ⟨rfl, rfl⟩, hc.st⟩) <| RunD.op (det _) tab14 10 (fun f' L' w' hc => Op1.fieldAddr fld69_2 (hc.det (j := 8) rfl rfl rfl rfl) ⟨[], ⟨rfl, rfl⟩, hc.st⟩) <| RunD.fin followsMixed tab14 hst rfl (fun f15 w R18 hs16 hd17 hr19 hst => ?_)
     obtain ⟨h39_, r0⟩ := hd17 0 39 rfl rfl
     obtain ⟨h40_, r1⟩ := hd17 1 40 rfl rfl
     obtain ⟨h41_, r2⟩ := hd17 2 41 rfl rfl
     obtain ⟨h42_, r3⟩ := hd17 3 42 rfl rfl
     obtain ⟨h43_, r4⟩ := hd17 4 43 rfl rfl
     obtain ⟨h44_, r5⟩ := hd17 5 44 rfl rfl
     obtain ⟨h45_, r6⟩ := hd17 6 45 rfl rfl
     obtain ⟨h46_, r7⟩ := hd17 7 46 rfl rfl
     obtain ⟨h47_, r8⟩ := hd17 8 47 rfl rfl
     obtain ⟨h48_, r9⟩ := hd17 9 48 rfl rfl
     simp only [show List.range 10 = [0, 1, 2, 3, 4, 5, 6, 7, 8, 9] from rfl, List.flatMap_cons, List.flatMap_nil, List.map_cons, List.map_nil, r0, r1, r2, r3, r4, r5, r6, r7, r8, r9, List.nil_append, List.append_nil, List.cons_append] at hst
     refine RunL.slots (sl := [(0, .pointer (some ⟨_, _, none⟩)), (3, .int .u8 _), (4, .int .i64 _), (5, .int .u8 _), (40, .int .u8 _), (46, .agg #[.int .i64 _, .int .i64 _]), (48, .pointer (some ⟨_, _, none⟩))]) ⟨(hs16 0 rfl).trans rfl, (hs16 3 rfl).trans rfl, (hs16 4 rfl).trans rfl, (hs16 5 rfl).trans rfl, h40_, h46_, h48_, trivial⟩ ?_
     clear hs16 hd17 hr19 tab14
     refine CN <| Op1.indexArr ty42 ty41 rfl rfl (by decide) (by decide) <| RunL.slots (sl := [(49, .pointer (some ⟨bq, 4, none⟩)), (46, .agg #[.int .i64 _, .int .i64 _])]) ⟨rfl, rfl, trivial⟩ <| CN (SO (v := .agg #[.int .i64 _, .int .i64 _]) hst ty41 rfl rfl (.here) fun w hst => ?_)
     refine NSR <| MC rfl <| CN <| Op1.eql rfl rfl <| MB rfl <| RunL.splitD (d := 52) rfl (fun g20 => ?_) (fun g20 => ?_)
     · skip
       refine TK (t := 52) rfl (congrArg Value.bool (decide_eq_true g20)) <| Op1.move (v := .pointer (some ⟨_, _, none⟩)) rfl <| TK (t := 52) rfl (congrArg Value.bool (decide_eq_true g20)) <| Op1.nilCheckP rfl <| TK (t := 52) rfl (congrArg Value.bool (decide_eq_true g20)) <| Op1.fieldAddr fld69_1 rfl <| TK (t := 52) rfl (congrArg Value.bool (decide_eq_true g20)) <| Op1.load1 (v := .int .i64 _) ty3 rfl rfl (hst.cellL (.head _) rfl) <| TK (t := 52) rfl (congrArg Value.bool (decide_eq_true g20)) <| Op1.move (v := .int .i64 _) rfl <| TK (t := 52) rfl (congrArg Value.bool (decide_eq_true g20)) <| Op1.eql rfl rfl <| CN <| Op1.pickT (u := .bool _) (congrArg Value.bool (decide_eq_true g20)) rfl <| NL <| Run.forget [(0, .pointer (some ⟨_, _, none⟩)), (5, .int .u8 _), (59, .bool _)] ⟨rfl, rfl, rfl, trivial⟩ fun f => run_cond_dec rfl (fun g21 => ?_) (fun g21 => ?_)
       · skip
         refine SR <| AB rfl <| NL <| run_ret1 Try.func39 rfl (TP (v := .bool _) rfl) ?_
         replace hst := hst.pick (.cons (.here) .nil)
         have ht2 : a2 = a1 := by omega
         subst ha1 ha2
         exact .inr ⟨ht2, rfl, _, hst.noD⟩
       refine run_skip <| run_inBlock <| RG <| CN <| Op1.addN rfl rfl rfl (wrap_u8 (by omega) (by omega)) <| MC rfl <| NL <| run_inLoop <| SR <| CN <| Op1.lss rfl rfl <| NL <| SQ <| Run.slots (sl := [(5, .int .u8 2)]) ⟨rfl, trivial⟩ <| run_cond_true (congrArg Value.bool (decide_eq_true (by decide))) <| run_skip ?_
       refine SQ <| run_block <| SR <| MC rfl <| AC rfl <| NSR <| MP rfl <| CN <| Op1.nilCheckP rfl <| CN <| Op1.fieldAddr fld69_1 rfl <| CN <| Op1.load1 (v := .int .i64 _) ty3 rfl rfl (hst.cellL (.head _) rfl) <| AI rfl <| NL ?_
       refine SQ <| Run.cutW (L1 := [_]) [(0, .pointer (some ⟨_, _, none⟩)), (3, .int .u8 _), (4, .int .i64 _), (5, .int .u8 _)] hst ⟨rfl, rfl, rfl, rfl, trivial⟩ (fun (_u : Unit) => []) (fun (_u : Unit) => [CutR 69 bq ao l.length cp a3 [.int .i64 ((0 : Nat) : Int), .int .i64 (a1 : Int), .int .i64 (a1 : Int), .int .i64 (a2 : Int), .int .i64 0, .int .i64 0, .int .i64 0, .int .i64 0, .int .i64 0, .int .i64 0, .int .i64 0, .int .i64 0, .int .i64 0, .int .i64 0, .int .i64 0, .int .i64 0, .int .i64 0, .int .i64 0, .int .i64 0, .int .i64 0, .slice none 0 0]]) (fun (_u : Unit) => True) (fun _u f w hst hJ23 => ?_) (fun cut22 => ?_)
       · skip
         refine SQ <| RunD.start [] hst (bs := [0, 0, 0, 0, 8, 24, 56, 124, 1, 257, 1023, 2047]) (ds := [some 39, some 40, some 41, some 42, some 43, some 44, some 45, some 46, some 47, some 48, some 49, none]) ⟨by kernel_rfl, by kernel_rfl, by kernel_rfl⟩ (fun tab25 => ?_)
         refine RunD.op (det _) tab25 1 (fun f' L' w' hc => Op1.move (v := .pointer (some ⟨_, _, none⟩)) (hc.old (v := .pointer (some ⟨_, _, none⟩)) rfl rfl rfl) ⟨[], ⟨rfl, rfl⟩, hc.st⟩) <| RunD.op (det _) tab25 2 (fun f' L' w' hc => Op1.move (v := .int .u8 _) (hc.old (v := .int .u8 _) rfl rfl rfl) ⟨[], ⟨rfl, rfl⟩, hc.st⟩) <| RunD.op (det _) tab25 3 (fun f' L' w' hc => Op1.move (v := .int .i64 _) (hc.old (v := .int .i64 _) rfl rfl rfl) ⟨[], ⟨rfl, rfl⟩, hc.st⟩) <| RunD.op (det _) tab25 4 (fun f' L' w' hc => Op1.move (v := .pointer (some ⟨_, _, none⟩)) (hc.old (v := .pointer (some ⟨_, _, none⟩)) rfl rfl rfl) ⟨[], ⟨rfl, rfl⟩, hc.st⟩) <| RunD.op (det _) tab25 5 (fun f' L' w' hc => Op1.nilCheckP (hc.det (j := 3) rfl rfl rfl rfl) ⟨[], ⟨rfl, rfl⟩, hc.st⟩) <| RunD.op (det _) tab25 6 (fun f' L' w' hc => Op1.fieldAddr fld69_1 (hc.det (j := 4) rfl rfl rfl rfl) ⟨[], ⟨rfl, rfl⟩, hc.st⟩) <| RunD.op (det _) tab25 7 (fun f' L' w' hc => Op1.load1 (v := .int .i64 _) ty3 rfl (hc.det (j := 5) rfl rfl rfl rfl) (hc.st.cellL (List.mem_append_right _ (.head _)) rfl) ⟨[], ⟨rfl, rfl⟩, hc.st⟩) <| RunD.op (det _) tab25 8 (fun f' L' w' hc => Op1.buildStruct ty41 stf41 (.c (v := .int .i64 _) (hc.det (j := 2) rfl rfl rfl rfl) (h := (.c (v := .int .i64 _) (hc.det (j := 6) rfl rfl rfl rfl) (h := .nil)))) ⟨[], ⟨rfl, rfl⟩, hc.st⟩) ?_
         refine RunD.op (det _) tab25 9 (fun f' L' w' hc => Op1.nilCheckP (hc.det (j := 0) rfl rfl rfl rfl) ⟨[], ⟨rfl, rfl⟩, hc.st⟩) <| RunD.op (det _) tab25 10 (fun f' L' w' hc => Op1.fieldAddr fld69_2 (hc.det (j := 8) rfl rfl rfl rfl) ⟨[], ⟨rfl, rfl⟩, hc.st⟩) <| RunD.fin followsMixed tab25 hst rfl (fun f26 w R29 hs27 hd28 hr30 hst => ?_)
         obtain ⟨h39_, r0⟩ := hd28 0 39 rfl rfl
         obtain ⟨h40_, r1⟩ := hd28 1 40 rfl rfl
         obtain ⟨h41_, r2⟩ := hd28 2 41 rfl rfl
         obtain ⟨h42_, r3⟩ := hd28 3 42 rfl rfl
         obtain ⟨h43_, r4⟩ := hd28 4 43 rfl rfl
         obtain ⟨h44_, r5⟩ := hd28 5 44 rfl rfl
         obtain ⟨h45_, r6⟩ := hd28 6 45 rfl rfl
         obtain ⟨h46_, r7⟩ := hd28 7 46 rfl rfl
         obtain ⟨h47_, r8⟩ := hd28 8 47 rfl rfl
         obtain ⟨h48_, r9⟩ := hd28 9 48 rfl rfl
         simp only [show List.range 10 = [0, 1, 2, 3, 4, 5, 6, 7, 8, 9] from rfl, List.flatMap_cons, List.flatMap_nil, List.map_cons, List.map_nil, r0, r1, r2, r3, r4, r5, r6, r7, r8, r9, List.nil_append, List.append_nil, List.cons_append] at hst
         refine RunL.slots (sl := [(0, .pointer (some ⟨_, _, none⟩)), (3, .int .u8 _), (4, .int .i64 _), (5, .int .u8 _), (40, .int .u8 _), (46, .agg #[.int .i64 _, .int .i64 _]), (48, .pointer (some ⟨_, _, none⟩))]) ⟨(hs27 0 rfl).trans rfl, (hs27 3 rfl).trans rfl, (hs27 4 rfl).trans rfl, (hs27 5 rfl).trans rfl, h40_, h46_, h48_, trivial⟩ ?_
         clear hs27 hd28 hr30 tab25
         refine CN <| Op1.indexArr ty42 ty41 rfl rfl (by decide) (by decide) <| RunL.slots (sl := [(49, .pointer (some ⟨bq, 6, none⟩)), (46, .agg #[.int .i64 _, .int .i64 _])]) ⟨rfl, rfl, trivial⟩ <| CN (SO (v := .agg #[.int .i64 _, .int .i64 _]) hst ty41 rfl rfl (.here) fun w hst => ?_)
         refine NSR <| MC rfl <| CN <| Op1.eql rfl rfl <| MB rfl <| RunL.splitD (d := 52) rfl (fun g31 => ?_) (fun g31 => ?_)
         · skip
           exfalso
           exact absurd g31 (by decide)
         refine OM (t := 52) rfl (congrArg Value.bool (decide_eq_false g31)) rfl <| OM (t := 52) rfl (congrArg Value.bool (decide_eq_false g31)) rfl <| OM (t := 52) rfl (congrArg Value.bool (decide_eq_false g31)) rfl <| OM (t := 52) rfl (congrArg Value.bool (decide_eq_false g31)) rfl <| OM (t := 52) rfl (congrArg Value.bool (decide_eq_false g31)) rfl <| OM (t := 52) rfl (congrArg Value.bool (decide_eq_false g31)) rfl <| CN <| Op1.pickF (u := .bool _) (congrArg Value.bool (decide_eq_false g31)) rfl <| NL <| run_cond_false (congrArg Value.bool (rfl : false = _)) <| run_skip <| run_inBlock <| RG <| CN <| Op1.addN rfl rfl rfl (wrap_u8 (by omega) (by omega)) <| MC rfl <| NL ?_
         refine run_inLoop <| SR <| CN <| Op1.lss rfl rfl <| NL <| SQ <| Run.slots (sl := [(5, .int .u8 3)]) ⟨rfl, trivial⟩ <| run_cond_true (congrArg Value.bool (decide_eq_true (by decide))) <| run_skip <| SQ <| run_block <| SR <| MC rfl <| AC rfl ?_
         refine NL <| Run.forget [(0, .pointer (some ⟨_, _, none⟩)), (3, .int .u8 _), (5, .int .u8 _)] ⟨rfl, rfl, rfl, trivial⟩ fun f => SR <| MP rfl <| CN <| Op1.nilCheckP rfl <| CN <| Op1.fieldAddr fld69_1 rfl <| CN <| Op1.load1 (v := .int .i64 _) ty3 rfl rfl (hst.cellL (.head _) rfl) <| AI rfl <| NL <| SQ <| Run.cutW (L1 := [_]) [(0, .pointer (some ⟨_, _, none⟩)), (3, .int .u8 _), (4, .int .i64 _), (5, .int .u8 _)] hst ⟨rfl, rfl, rfl, rfl, trivial⟩ (fun (_u : Unit) => []) (fun (_u : Unit) => [CutR 69 bq ao l.length cp a4 [.int .i64 ((0 : Nat) : Int), .int .i64 (a1 : Int), .int .i64 (a1 : Int), .int .i64 (a2 : Int), .int .i64 (a2 : Int), .int .i64 (a3 : Int), .int .i64 0, .int .i64 0, .int .i64 0, .int .i64 0, .int .i64 0, .int .i64 0, .int .i64 0, .int .i64 0, .int .i64 0, .int .i64 0, .int .i64 0, .int .i64 0, .int .i64 0, .int .i64 0, .slice none 0 0]]) (fun (_u : Unit) => True) (fun _u f w hst hJ33 => ?_) (fun cut32 => ?_)
         · skip
           refine SQ <| RunD.start [] hst (bs := [0, 0, 0, 0, 8, 24, 56, 124, 1, 257, 1023, 2047]) (ds := [some 39, some 40, some 41, some 42, some 43, some 44, some 45, some 46, some 47, some 48, some 49, none]) ⟨by kernel_rfl, by kernel_rfl, by kernel_rfl⟩ (fun tab35 => ?_)
           refine RunD.op (det _) tab35 1 (fun f' L' w' hc => Op1.move (v := .pointer (some ⟨_, _, none⟩)) (hc.old (v := .pointer (some ⟨_, _, none⟩)) rfl rfl rfl) ⟨[], ⟨rfl, rfl⟩, hc.st⟩) <| RunD.op (det _) tab35 2 (fun f' L' w' hc => Op1.move (v := .int .u8 _) (hc.old (v := .int .u8 _) rfl rfl rfl) ⟨[], ⟨rfl, rfl⟩, hc.st⟩) <| RunD.op (det _) tab35 3 (fun f' L' w' hc => Op1.move (v := .int .i64 _) (hc.old (v := .int .i64 _) rfl rfl rfl) ⟨[], ⟨rfl, rfl⟩, hc.st⟩) <| RunD.op (det _) tab35 4 (fun f' L' w' hc => Op1.move (v := .pointer (some ⟨_, _, none⟩)) (hc.old (v := .pointer (some ⟨_, _, none⟩)) rfl rfl rfl) ⟨[], ⟨rfl, rfl⟩, hc.st⟩) <| RunD.op (det _) tab35 5 (fun f' L' w' hc => Op1.nilCheckP (hc.det (j := 3) rfl rfl rfl rfl) ⟨[], ⟨rfl, rfl⟩, hc.st⟩) <| RunD.op (det _) tab35 6 (fun f' L' w' hc => Op1.fieldAddr fld69_1 (hc.det (j := 4) rfl rfl rfl rfl) ⟨[], ⟨rfl, rfl⟩, hc.st⟩) <| RunD.op (det _) tab35 7 (fun f' L' w' hc => Op1.load1 (v := .int .i64 _) ty3 rfl (hc.det (j := 5) rfl rfl rfl rfl) (hc.st.cellL (List.mem_append_right _ (.head _)) rfl) ⟨[], ⟨rfl, rfl⟩, hc.st⟩) <| RunD.op (det _) tab35 8 (fun f' L' w' hc => Op1.buildStruct ty41 stf41 (.c (v := .int .i64 _) (hc.det (j := 2) rfl rfl rfl rfl) (h := (.c (v := .int .i64 _) (hc.det (j := 6) rfl rfl rfl rfl) (h := .nil)))) ⟨[], ⟨rfl, rfl⟩, hc.st⟩) ?_
           refine RunD.op (det _) tab35 9 (fun f' L' w' hc => Op1.nilCheckP (hc.det (j := 0) rfl rfl rfl rfl) ⟨[], ⟨rfl, rfl⟩, hc.st⟩) <| RunD.op (det _) tab35 10 (fun f' L' w' hc => Op1.fieldAddr fld69_2 (hc.det (j := 8) rfl rfl rfl rfl) ⟨[], ⟨rfl, rfl⟩, hc.st⟩) <| RunD.fin followsMixed tab35 hst rfl (fun f36 w R39 hs37 hd38 hr40 hst => ?_)
           obtain ⟨h39_, r0⟩ := hd38 0 39 rfl rfl
           obtain ⟨h40_, r1⟩ := hd38 1 40 rfl rfl
           obtain ⟨h41_, r2⟩ := hd38 2 41 rfl rfl
           obtain ⟨h42_, r3⟩ := hd38 3 42 rfl rfl
           obtain ⟨h43_, r4⟩ := hd38 4 43 rfl rfl
           obtain ⟨h44_, r5⟩ := hd38 5 44 rfl rfl
           obtain ⟨h45_, r6⟩ := hd38 6 45 rfl rfl
           obtain ⟨h46_, r7⟩ := hd38 7 46 rfl rfl
           obtain ⟨h47_, r8⟩ := hd38 8 47 rfl rfl
           obtain ⟨h48_, r9⟩ := hd38 9 48 rfl rfl
           simp only [show List.range 10 = [0, 1, 2, 3, 4, 5, 6, 7, 8, 9] from rfl, List.flatMap_cons, List.flatMap_nil, List.map_cons, List.map_nil, r0, r1, r2, r3, r4, r5, r6, r7, r8, r9, List.nil_append, List.append_nil, List.cons_append] at hst
           refine RunL.slots (sl := [(0, .pointer (some ⟨_, _, none⟩)), (3, .int .u8 _), (4, .int .i64 _), (5, .int .u8 _), (40, .int .u8 _), (46, .agg #[.int .i64 _, .int .i64 _]), (48, .pointer (some ⟨_, _, none⟩))]) ⟨(hs37 0 rfl).trans rfl, (hs37 3 rfl).trans rfl, (hs37 4 rfl).trans rfl, (hs37 5 rfl).trans rfl, h40_, h46_, h48_, trivial⟩ ?_
           clear hs37 hd38 hr40 tab35
           refine CN <| Op1.indexArr ty42 ty41 rfl rfl (by decide) (by decide) <| RunL.slots (sl := [(49, .pointer (some ⟨bq, 8, none⟩)), (46, .agg #[.int .i64 _, .int .i64 _])]) ⟨rfl, rfl, trivial⟩ <| CN (SO (v := .agg #[.int .i64 _, .int .i64 _]) hst ty41 rfl rfl (.here) fun w hst => ?_)
           refine NSR <| MC rfl <| CN <| Op1.eql rfl rfl <| MB rfl <| RunL.splitD (d := 52) rfl (fun g41 => ?_) (fun g41 => ?_)
           · skip
             exfalso
             exact absurd g41 (by decide)
           refine OM (t := 52) rfl (congrArg Value.bool (decide_eq_false g41)) rfl <| OM (t := 52) rfl (congrArg Value.bool (decide_eq_false g41)) rfl <| OM (t := 52) rfl (congrArg Value.bool (decide_eq_false g41)) rfl <| OM (t := 52) rfl (congrArg Value.bool (decide_eq_false g41)) rfl <| OM (t := 52) rfl (congrArg Value.bool (decide_eq_false g41)) rfl <| OM (t := 52) rfl (congrArg Value.bool (decide_eq_false g41)) rfl <| CN <| Op1.pickF (u := .bool _) (congrArg Value.bool (decide_eq_false g41)) rfl <| NL <| run_cond_false (congrArg Value.bool (rfl : false = _)) <| run_skip <| run_inBlock <| RG <| CN <| Op1.addN rfl rfl rfl (wrap_u8 (by omega) (by omega)) <| MC rfl <| NL ?_
           refine run_inLoop <| SR <| CN <| Op1.lss rfl rfl <| NL <| SQ <| Run.slots (sl := [(5, .int .u8 4)]) ⟨rfl, trivial⟩ <| run_cond_true (congrArg Value.bool (decide_eq_true (by decide))) <| run_skip <| SQ <| run_block <| SR <| MC rfl <| AC rfl ?_
           refine NL <| Run.forget [(0, .pointer (some ⟨_, _, none⟩)), (3, .int .u8 _), (5, .int .u8 _)] ⟨rfl, rfl, rfl, trivial⟩ fun f => SR <| MP rfl <| CN <| Op1.nilCheckP rfl <| CN <| Op1.fieldAddr fld69_1 rfl <| CN <| Op1.load1 (v := .int .i64 _) ty3 rfl rfl (hst.cellL (.head _) rfl) <| AI rfl <| NL <| SQ <| Run.cutW (L1 := [_]) [(0, .pointer (some ⟨_, _, none⟩)), (3, .int .u8 _), (4, .int .i64 _), (5, .int .u8 _)] hst ⟨rfl, rfl, rfl, rfl, trivial⟩ (fun (_u : Unit) => []) (fun (_u : Unit) => [CutR 69 bq ao l.length cp a5 [.int .i64 ((0 : Nat) : Int), .int .i64 (a1 : Int), .int .i64 (a1 : Int), .int .i64 (a2 : Int), .int .i64 (a2 : Int), .int .i64 (a3 : Int), .int .i64 (a3 : Int), .int .i64 (a4 : Int), .int .i64 0, .int .i64 0, .int .i64 0, .int .i64 0, .int .i64 0, .int .i64 0, .int .i64 0, .int .i64 0, .int .i64 0, .int .i64 0, .int .i64 0, .int .i64 0, .slice none 0 0]]) (fun (_u : Unit) => True) (fun _u f w hst hJ43 => ?_) (fun cut42 => ?_)
           · skip
             refine SQ <| RunD.start [] hst (bs := [0, 0, 0, 0, 8, 24, 56, 124, 1, 257, 1023, 2047]) (ds := [some 39, some 40, some 41, some 42, some 43, some 44, some 45, some 46, some 47, some 48, some 49, none]) ⟨by kernel_rfl, by kernel_rfl, by kernel_rfl⟩ (fun tab45 => ?_)
             refine RunD.op (det _) tab45 1 (fun f' L' w' hc => Op1.move (v := .pointer (some ⟨_, _, none⟩)) (hc.old (v := .pointer (some ⟨_, _, none⟩)) rfl rfl rfl) ⟨[], ⟨rfl, rfl⟩, hc.st⟩) <| RunD.op (det _) tab45 2 (fun f' L' w' hc => Op1.move (v := .int .u8 _) (hc.old (v := .int .u8 _) rfl rfl rfl) ⟨[], ⟨rfl, rfl⟩, hc.st⟩) <| RunD.op (det _) tab45 3 (fun f' L' w' hc => Op1.move (v := .int .i64 _) (hc.old (v := .int .i64 _) rfl rfl rfl) ⟨[], ⟨rfl, rfl⟩, hc.st⟩) <| RunD.op (det _) tab45 4 (fun f' L' w' hc => Op1.move (v := .pointer (some ⟨_, _, none⟩)) (hc.old (v := .pointer (some ⟨_, _, none⟩)) rfl rfl rfl) ⟨[], ⟨rfl, rfl⟩, hc.st⟩) <| RunD.op (det _) tab45 5 (fun f' L' w' hc => Op1.nilCheckP (hc.det (j := 3) rfl rfl rfl rfl) ⟨[], ⟨rfl, rfl⟩, hc.st⟩) <| RunD.op (det _) tab45 6 (fun f' L' w' hc => Op1.fieldAddr fld69_1 (hc.det (j := 4) rfl rfl rfl rfl) ⟨[], ⟨rfl, rfl⟩, hc.st⟩) <| RunD.op (det _) tab45 7 (fun f' L' w' hc => Op1.load1 (v := .int .i64 _) ty3 rfl (hc.det (j := 5) rfl rfl rfl rfl) (hc.st.cellL (List.mem_append_right _ (.head _)) rfl) ⟨[], ⟨rfl, rfl⟩, hc.st⟩) <| RunD.op (det _) tab45 8 (fun f' L' w' hc => Op1.buildStruct ty41 stf41 (.c (v := .int .i64 _) (hc.det (j := 2) rfl rfl rfl rfl) (h := (.c (v := .int .i64 _) (hc.det (j := 6) rfl rfl rfl rfl) (h := .nil)))) ⟨[], ⟨rfl, rfl⟩, hc.st⟩) ?_
             refine RunD.op (det _) tab45 9 (fun f' L' w' hc => Op1.nilCheckP (hc.det (j := 0) rfl rfl rfl rfl) ⟨[], ⟨rfl, rfl⟩, hc.st⟩) <| RunD.op (det _) tab45 10 (fun f' L' w' hc => Op1.fieldAddr fld69_2 (hc.det (j := 8) rfl rfl rfl rfl) ⟨[], ⟨rfl, rfl⟩, hc.st⟩) <| RunD.fin followsMixed tab45 hst rfl (fun f46 w R49 hs47 hd48 hr50 hst => ?_)
             obtain ⟨h39_, r0⟩ := hd48 0 39 rfl rfl
             obtain ⟨h40_, r1⟩ := hd48 1 40 rfl rfl
             obtain ⟨h41_, r2⟩ := hd48 2 41 rfl rfl
             obtain ⟨h42_, r3⟩ := hd48 3 42 rfl rfl
             obtain ⟨h43_, r4⟩ := hd48 4 43 rfl rfl
             obtain ⟨h44_, r5⟩ := hd48 5 44 rfl rfl
             obtain ⟨h45_, r6⟩ := hd48 6 45 rfl rfl
             obtain ⟨h46_, r7⟩ := hd48 7 46 rfl rfl
             obtain ⟨h47_, r8⟩ := hd48 8 47 rfl rfl
             obtain ⟨h48_, r9⟩ := hd48 9 48 rfl rfl
             simp only [show List.range 10 = [0, 1, 2, 3, 4, 5, 6, 7, 8, 9] from rfl, List.flatMap_cons, List.flatMap_nil, List.map_cons, List.map_nil, r0, r1, r2, r3, r4, r5, r6, r7, r8, r9, List.nil_append, List.append_nil, List.cons_append] at hst
             refine RunL.slots (sl := [(0, .pointer (some ⟨_, _, none⟩)), (3, .int .u8 _), (4, .int .i64 _), (5, .int .u8 _), (40, .int .u8 _), (46, .agg #[.int .i64 _, .int .i64 _]), (48, .pointer (some ⟨_, _, none⟩))]) ⟨(hs47 0 rfl).trans rfl, (hs47 3 rfl).trans rfl, (hs47 4 rfl).trans rfl, (hs47 5 rfl).trans rfl, h40_, h46_, h48_, trivial⟩ ?_
             clear hs47 hd48 hr50 tab45
             refine CN <| Op1.indexArr ty42 ty41 rfl rfl (by decide) (by decide) <| RunL.slots (sl := [(49, .pointer (some ⟨bq, 10, none⟩)), (46, .agg #[.int .i64 _, .int .i64 _])]) ⟨rfl, rfl, trivial⟩ <| CN (SO (v := .agg #[.int .i64 _, .int .i64 _]) hst ty41 rfl rfl (.here) fun w hst => ?_)
             refine NSR <| MC rfl <| CN <| Op1.eql rfl rfl <| MB rfl <| RunL.splitD (d := 52) rfl (fun g51 => ?_) (fun g51 => ?_)
             · skip
               exfalso
               exact absurd g51 (by decide)
             refine OM (t := 52) rfl (congrArg Value.bool (decide_eq_false g51)) rfl <| OM (t := 52) rfl (congrArg Value.bool (decide_eq_false g51)) rfl <| OM (t := 52) rfl (congrArg Value.bool (decide_eq_false g51)) rfl <| OM (t := 52) rfl (congrArg Value.bool (decide_eq_false g51)) rfl <| OM (t := 52) rfl (congrArg Value.bool (decide_eq_false g51)) rfl <| OM (t := 52) rfl (congrArg Value.bool (decide_eq_false g51)) rfl <| CN <| Op1.pickF (u := .bool _) (congrArg Value.bool (decide_eq_false g51)) rfl <| NL <| run_cond_false (congrArg Value.bool (rfl : false = _)) <| run_skip <| run_inBlock <| RG <| CN <| Op1.addN rfl rfl rfl (wrap_u8 (by omega) (by omega)) <| MC rfl <| NL ?_
             refine run_inLoop <| SR <| CN <| Op1.lss rfl rfl <| NL <| SQ <| Run.slots (sl := [(5, .int .u8 5)]) ⟨rfl, trivial⟩ <| run_cond_true (congrArg Value.bool (decide_eq_true (by decide))) <| run_skip <| SQ <| run_block <| SR <| MC rfl <| AC rfl ?_
             refine NL <| Run.forget [(0, .pointer (some ⟨_, _, none⟩)), (3, .int .u8 _), (5, .int .u8 _)] ⟨rfl, rfl, rfl, trivial⟩ fun f => SR <| MP rfl <| CN <| Op1.nilCheckP rfl <| CN <| Op1.fieldAddr fld69_1 rfl <| CN <| Op1.load1 (v := .int .i64 _) ty3 rfl rfl (hst.cellL (.head _) rfl) <| AI rfl <| NL <| SQ <| Run.cutW (L1 := [_]) [(0, .pointer (some ⟨_, _, none⟩)), (3, .int .u8 _), (4, .int .i64 _), (5, .int .u8 _)] hst ⟨rfl, rfl, rfl, rfl, trivial⟩ (fun (_u : Unit) => []) (fun (_u : Unit) => [CutR 69 bq ao l.length cp a6 [.int .i64 ((0 : Nat) : Int), .int .i64 (a1 : Int), .int .i64 (a1 : Int), .int .i64 (a2 : Int), .int .i64 (a2 : Int), .int .i64 (a3 : Int), .int .i64 (a3 : Int), .int .i64 (a4 : Int), .int .i64 (a4 : Int), .int .i64 (a5 : Int), .int .i64 0, .int .i64 0, .int .i64 0, .int .i64 0, .int .i64 0, .int .i64 0, .int .i64 0, .int .i64 0, .int .i64 0, .int .i64 0, .slice none 0 0]]) (fun (_u : Unit) => True) (fun _u f w hst hJ53 => ?_) (fun cut52 => ?_)
             · skip
               refine SQ <| RunD.start [] hst (bs := [0, 0, 0, 0, 8, 24, 56, 124, 1, 257, 1023, 2047]) (ds := [some 39, some 40, some 41, some 42, some 43, some 44, some 45, some 46, some 47, some 48, some 49, none]) ⟨by kernel_rfl, by kernel_rfl, by kernel_rfl⟩ (fun tab55 => ?_)
               refine RunD.op (det _) tab55 1 (fun f' L' w' hc => Op1.move (v := .pointer (some ⟨_, _, none⟩)) (hc.old (v := .pointer (some ⟨_, _, none⟩)) rfl rfl rfl) ⟨[], ⟨rfl, rfl⟩, hc.st⟩) <| RunD.op (det _) tab55 2 (fun f' L' w' hc => Op1.move (v := .int .u8 _) (hc.old (v := .int .u8 _) rfl rfl rfl) ⟨[], ⟨rfl, rfl⟩, hc.st⟩) <| RunD.op (det _) tab55 3 (fun f' L' w' hc => Op1.move (v := .int .i64 _) (hc.old (v := .int .i64 _) rfl rfl rfl) ⟨[], ⟨rfl, rfl⟩, hc.st⟩) <| RunD.op (det _) tab55 4 (fun f' L' w' hc => Op1.move (v := .pointer (some ⟨_, _, none⟩)) (hc.old (v := .pointer (some ⟨_, _, none⟩)) rfl rfl rfl) ⟨[], ⟨rfl, rfl⟩, hc.st⟩) <| RunD.op (det _) tab55 5 (fun f' L' w' hc => Op1.nilCheckP (hc.det (j := 3) rfl rfl rfl rfl) ⟨[], ⟨rfl, rfl⟩, hc.st⟩) <| RunD.op (det _) tab55 6 (fun f' L' w' hc => Op1.fieldAddr fld69_1 (hc.det (j := 4) rfl rfl rfl rfl) ⟨[], ⟨rfl, rfl⟩, hc.st⟩) <| RunD.op (det _) tab55 7 (fun f' L' w' hc => Op1.load1 (v := .int .i64 _) ty3 rfl (hc.det (j := 5) rfl rfl rfl rfl) (hc.st.cellL (List.mem_append_right _ (.head _)) rfl) ⟨[], ⟨rfl, rfl⟩, hc.st⟩) <| RunD.op (det _) tab55 8 (fun f' L' w' hc => Op1.buildStruct ty41 stf41 (.c (v := .int .i64 _) (hc.det (j := 2) rfl rfl rfl rfl) (h := (.c (v := .int .i64 _) (hc.det (j := 6) rfl rfl rfl rfl) (h := .nil)))) ⟨[], ⟨rfl, rfl⟩, hc.st⟩) ?_
               refine RunD.op (det _) tab55 9 (fun f' L' w' hc => Op1.nilCheckP (hc.det (j := 0) rfl rfl rfl rfl) ⟨[], ⟨rfl, rfl⟩, hc.st⟩) <| RunD.op (det _) tab55 10 (fun f' L' w' hc => Op1.fieldAddr fld69_2 (hc.det (j := 8) rfl rfl rfl rfl) ⟨[], ⟨rfl, rfl⟩, hc.st⟩) <| RunD.fin followsMixed tab55 hst rfl (fun f56 w R59 hs57 hd58 hr60 hst => ?_)
               obtain ⟨h39_, r0⟩ := hd58 0 39 rfl rfl
               obtain ⟨h40_, r1⟩ := hd58 1 40 rfl rfl
               obtain ⟨h41_, r2⟩ := hd58 2 41 rfl rfl
               obtain ⟨h42_, r3⟩ := hd58 3 42 rfl rfl
               obtain ⟨h43_, r4⟩ := hd58 4 43 rfl rfl
               obtain ⟨h44_, r5⟩ := hd58 5 44 rfl rfl
               obtain ⟨h45_, r6⟩ := hd58 6 45 rfl rfl
               obtain ⟨h46_, r7⟩ := hd58 7 46 rfl rfl
               obtain ⟨h47_, r8⟩ := hd58 8 47 rfl rfl
               obtain ⟨h48_, r9⟩ := hd58 9 48 rfl rfl
               simp only [show List.range 10 = [0, 1, 2, 3, 4, 5, 6, 7, 8, 9] from rfl, List.flatMap_cons, List.flatMap_nil, List.map_cons, List.map_nil, r0, r1, r2, r3, r4, r5, r6, r7, r8, r9, List.nil_append, List.append_nil, List.cons_append] at hst
               refine RunL.slots (sl := [(0, .pointer (some ⟨_, _, none⟩)), (3, .int .u8 _), (4, .int .i64 _), (5, .int .u8 _), (40, .int .u8 _), (46, .agg #[.int .i64 _, .int .i64 _]), (48, .pointer (some ⟨_, _, none⟩))]) ⟨(hs57 0 rfl).trans rfl, (hs57 3 rfl).trans rfl, (hs57 4 rfl).trans rfl, (hs57 5 rfl).trans rfl, h40_, h46_, h48_, trivial⟩ ?_
               clear hs57 hd58 hr60 tab55
               refine CN <| Op1.indexArr ty42 ty41 rfl rfl (by decide) (by decide) <| RunL.slots (sl := [(49, .pointer (some ⟨bq, 12, none⟩)), (46, .agg #[.int .i64 _, .int .i64 _])]) ⟨rfl, rfl, trivial⟩ <| CN (SO (v := .agg #[.int .i64 _, .int .i64 _]) hst ty41 rfl rfl (.here) fun w hst => ?_)
               refine NSR <| MC rfl <| CN <| Op1.eql rfl rfl <| MB rfl <| RunL.splitD (d := 52) rfl (fun g61 => ?_) (fun g61 => ?_)
               · skip
                 exfalso
                 exact absurd g61 (by decide)
               refine OM (t := 52) rfl (congrArg Value.bool (decide_eq_false g61)) rfl <| OM (t := 52) rfl (congrArg Value.bool (decide_eq_false g61)) rfl <| OM (t := 52) rfl (congrArg Value.bool (decide_eq_false g61)) rfl <| OM (t := 52) rfl (congrArg Value.bool (decide_eq_false g61)) rfl <| OM (t := 52) rfl (congrArg Value.bool (decide_eq_false g61)) rfl <| OM (t := 52) rfl (congrArg Value.bool (decide_eq_false g61)) rfl <| CN <| Op1.pickF (u := .bool _) (congrArg Value.bool (decide_eq_false g61)) rfl <| NL <| run_cond_false (congrArg Value.bool (rfl : false = _)) <| run_skip <| run_inBlock <| RG <| CN <| Op1.addN rfl rfl rfl (wrap_u8 (by omega) (by omega)) <| MC rfl <| NL ?_
               refine run_inLoop <| SR <| CN <| Op1.lss rfl rfl <| NL <| SQ <| Run.slots (sl := [(5, .int .u8 6)]) ⟨rfl, trivial⟩ <| run_cond_true (congrArg Value.bool (decide_eq_true (by decide))) <| run_skip <| SQ <| run_block <| SR <| MC rfl <| AC rfl ?_
               refine NL <| Run.forget [(0, .pointer (some ⟨_, _, none⟩)), (3, .int .u8 _), (5, .int .u8 _)] ⟨rfl, rfl, rfl, trivial⟩ fun f => SR <| MP rfl <| CN <| Op1.nilCheckP rfl <| CN <| Op1.fieldAddr fld69_1 rfl <| CN <| Op1.load1 (v := .int .i64 _) ty3 rfl rfl (hst.cellL (.head _) rfl) <| AI rfl <| NL <| SQ <| Run.cutW (L1 := [_]) [(0, .pointer (some ⟨_, _, none⟩)), (3, .int .u8 _), (4, .int .i64 _), (5, .int .u8 _)] hst ⟨rfl, rfl, rfl, rfl, trivial⟩ (fun (_u : Unit) => []) (fun (_u : Unit) => [CutR 69 bq ao l.length cp a7 [.int .i64 ((0 : Nat) : Int), .int .i64 (a1 : Int), .int .i64 (a1 : Int), .int .i64 (a2 : Int), .int .i64 (a2 : Int), .int .i64 (a3 : Int), .int .i64 (a3 : Int), .int .i64 (a4 : Int), .int .i64 (a4 : Int), .int .i64 (a5 : Int), .int .i64 (a5 : Int), .int .i64 (a6 : Int), .int .i64 0, .int .i64 0, .int .i64 0, .int .i64 0, .int .i64 0, .int .i64 0, .int .i64 0, .int .i64 0, .slice none 0 0]]) (fun (_u : Unit) => True) (fun _u f w hst hJ63 => ?_) (fun cut62 => ?_)
               · skip
                 refine SQ <| RunD.start [] hst (bs := [0, 0, 0, 0, 8, 24, 56, 124, 1, 257, 1023, 2047]) (ds := [some 39, some 40, some 41, some 42, some 43, some 44, some 45, some 46, some 47, some 48, some 49, none]) ⟨by kernel_rfl, by kernel_rfl, by kernel_rfl⟩ (fun tab65 => ?_)
                 refine RunD.op (det _) tab65 1 (fun f' L' w' hc => Op1.move (v := .pointer (some ⟨_, _, none⟩)) (hc.old (v := .pointer (some ⟨_, _, none⟩)) rfl rfl rfl) ⟨[], ⟨rfl, rfl⟩, hc.st⟩) <| RunD.op (det _) tab65 2 (fun f' L' w' hc => Op1.move (v := .int .u8 _) (hc.old (v := .int .u8 _) rfl rfl rfl) ⟨[], ⟨rfl, rfl⟩, hc.st⟩) <| RunD.op (det _) tab65 3 (fun f' L' w' hc => Op1.move (v := .int .i64 _) (hc.old (v := .int .i64 _) rfl rfl rfl) ⟨[], ⟨rfl, rfl⟩, hc.st⟩) <| RunD.op (det _) tab65 4 (fun f' L' w' hc => Op1.move (v := .pointer (some ⟨_, _, none⟩)) (hc.old (v := .pointer (some ⟨_, _, none⟩)) rfl rfl rfl) ⟨[], ⟨rfl, rfl⟩, hc.st⟩) <| RunD.op (det _) tab65 5 (fun f' L' w' hc => Op1.nilCheckP (hc.det (j := 3) rfl rfl rfl rfl) ⟨[], ⟨rfl, rfl⟩, hc.st⟩) <| RunD.op (det _) tab65 6 (fun f' L' w' hc => Op1.fieldAddr fld69_1 (hc.det (j := 4) rfl rfl rfl rfl) ⟨[], ⟨rfl, rfl⟩, hc.st⟩) <| RunD.op (det _) tab65 7 (fun f' L' w' hc => Op1.load1 (v := .int .i64 _) ty3 rfl (hc.det (j := 5) rfl rfl rfl rfl) (hc.st.cellL (List.mem_append_right _ (.head _)) rfl) ⟨[], ⟨rfl, rfl⟩, hc.st⟩) <| RunD.op (det _) tab65 8 (fun f' L' w' hc => Op1.buildStruct ty41 stf41 (.c (v := .int .i64 _) (hc.det (j := 2) rfl rfl rfl rfl) (h := (.c (v := .int .i64 _) (hc.det (j := 6) rfl rfl rfl rfl) (h := .nil)))) ⟨[], ⟨rfl, rfl⟩, hc.st⟩) ?_
                 refine RunD.op (det _) tab65 9 (fun f' L' w' hc => Op1.nilCheckP (hc.det (j := 0) rfl rfl rfl rfl) ⟨[], ⟨rfl, rfl⟩, hc.st⟩) <| RunD.op (det _) tab65 10 (fun f' L' w' hc => Op1.fieldAddr fld69_2 (hc.det (j := 8) rfl rfl rfl rfl) ⟨[], ⟨rfl, rfl⟩, hc.st⟩) <| RunD.fin followsMixed tab65 hst rfl (fun f66 w R69 hs67 hd68 hr70 hst => ?_)
                 obtain ⟨h39_, r0⟩ := hd68 0 39 rfl rfl
                 obtain ⟨h40_, r1⟩ := hd68 1 40 rfl rfl
                 obtain ⟨h41_, r2⟩ := hd68 2 41 rfl rfl
                 obtain ⟨h42_, r3⟩ := hd68 3 42 rfl rfl
                 obtain ⟨h43_, r4⟩ := hd68 4 43 rfl rfl
                 obtain ⟨h44_, r5⟩ := hd68 5 44 rfl rfl
                 obtain ⟨h45_, r6⟩ := hd68 6 45 rfl rfl
                 obtain ⟨h46_, r7⟩ := hd68 7 46 rfl rfl
                 obtain ⟨h47_, r8⟩ := hd68 8 47 rfl rfl
                 obtain ⟨h48_, r9⟩ := hd68 9 48 rfl rfl
                 simp only [show List.range 10 = [0, 1, 2, 3, 4, 5, 6, 7, 8, 9] from rfl, List.flatMap_cons, List.flatMap_nil, List.map_cons, List.map_nil, r0, r1, r2, r3, r4, r5, r6, r7, r8, r9, List.nil_append, List.append_nil, List.cons_append] at hst
                 refine RunL.slots (sl := [(0, .pointer (some ⟨_, _, none⟩)), (3, .int .u8 _), (4, .int .i64 _), (5, .int .u8 _), (40, .int .u8 _), (46, .agg #[.int .i64 _, .int .i64 _]), (48, .pointer (some ⟨_, _, none⟩))]) ⟨(hs67 0 rfl).trans rfl, (hs67 3 rfl).trans rfl, (hs67 4 rfl).trans rfl, (hs67 5 rfl).trans rfl, h40_, h46_, h48_, trivial⟩ ?_
                 clear hs67 hd68 hr70 tab65
                 refine CN <| Op1.indexArr ty42 ty41 rfl rfl (by decide) (by decide) <| RunL.slots (sl := [(49, .pointer (some ⟨bq, 14, none⟩)), (46, .agg #[.int .i64 _, .int .i64 _])]) ⟨rfl, rfl, trivial⟩ <| CN (SO (v := .agg #[.int .i64 _, .int .i64 _]) hst ty41 rfl rfl (.here) fun w hst => ?_)
                 refine NSR <| MC rfl <| CN <| Op1.eql rfl rfl <| MB rfl <| RunL.splitD (d := 52) rfl (fun g71 => ?_) (fun g71 => ?_)
                 · skip
                   exfalso
                   exact absurd g71 (by decide)
                 refine OM (t := 52) rfl (congrArg Value.bool (decide_eq_false g71)) rfl <| OM (t := 52) rfl (congrArg Value.bool (decide_eq_false g71)) rfl <| OM (t := 52) rfl (congrArg Value.bool (decide_eq_false g71)) rfl <| OM (t := 52) rfl (congrArg Value.bool (decide_eq_false g71)) rfl <| OM (t := 52) rfl (congrArg Value.bool (decide_eq_false g71)) rfl <| OM (t := 52) rfl (congrArg Value.bool (decide_eq_false g71)) rfl <| CN <| Op1.pickF (u := .bool _) (congrArg Value.bool (decide_eq_false g71)) rfl <| NL <| run_cond_false (congrArg Value.bool (rfl : false = _)) <| run_skip <| run_inBlock <| RG <| CN <| Op1.addN rfl rfl rfl (wrap_u8 (by omega) (by omega)) <| MC rfl <| NL ?_
                 refine run_inLoop <| SR <| CN <| Op1.lss rfl rfl <| NL <| SQ <| Run.slots (sl := [(5, .int .u8 7)]) ⟨rfl, trivial⟩ <| run_cond_true (congrArg Value.bool (decide_eq_true (by decide))) <| run_skip <| SQ <| run_block <| SR <| MC rfl <| AC rfl ?_
                 refine NL <| Run.forget [(0, .pointer (some ⟨_, _, none⟩)), (3, .int .u8 _), (5, .int .u8 _)] ⟨rfl, rfl, rfl, trivial⟩ fun f => SR <| MP rfl <| CN <| Op1.nilCheckP rfl <| CN <| Op1.fieldAddr fld69_1 rfl <| CN <| Op1.load1 (v := .int .i64 _) ty3 rfl rfl (hst.cellL (.head _) rfl) <| AI rfl <| NL <| SQ <| Run.cutW (L1 := [_]) [(0, .pointer (some ⟨_, _, none⟩)), (3, .int .u8 _), (4, .int .i64 _), (5, .int .u8 _)] hst ⟨rfl, rfl, rfl, rfl, trivial⟩ (fun (_u : Unit) => []) (fun (_u : Unit) => [CutR 69 bq ao l.length cp a8 [.int .i64 ((0 : Nat) : Int), .int .i64 (a1 : Int), .int .i64 (a1 : Int), .int .i64 (a2 : Int), .int .i64 (a2 : Int), .int .i64 (a3 : Int), .int .i64 (a3 : Int), .int .i64 (a4 : Int), .int .i64 (a4 : Int), .int .i64 (a5 : Int), .int .i64 (a5 : Int), .int .i64 (a6 : Int), .int .i64 (a6 : Int), .int .i64 (a7 : Int), .int .i64 0, .int .i64 0, .int .i64 0, .int .i64 0, .int .i64 0, .int .i64 0, .slice none 0 0]]) (fun (_u : Unit) => True) (fun _u f w hst hJ73 => ?_) (fun cut72 => ?_)
                 · skip
                   refine SQ <| RunD.start [] hst (bs := [0, 0, 0, 0, 8, 24, 56, 124, 1, 257, 1023, 2047]) (ds := [some 39, some 40, some 41, some 42, some 43, some 44, some 45, some 46, some 47, some 48, some 49, none]) ⟨by kernel_rfl, by kernel_rfl, by kernel_rfl⟩ (fun tab75 => ?_)
                   refine RunD.op (det _) tab75 1 (fun f' L' w' hc => Op1.move (v := .pointer (some ⟨_, _, none⟩)) (hc.old (v := .pointer (some ⟨_, _, none⟩)) rfl rfl rfl) ⟨[], ⟨rfl, rfl⟩, hc.st⟩) <| RunD.op (det _) tab75 2 (fun f' L' w' hc => Op1.move (v := .int .u8 _) (hc.old (v := .int .u8 _) rfl rfl rfl) ⟨[], ⟨rfl, rfl⟩, hc.st⟩) <| RunD.op (det _) tab75 3 (fun f' L' w' hc => Op1.move (v := .int .i64 _) (hc.old (v := .int .i64 _) rfl rfl rfl) ⟨[], ⟨rfl, rfl⟩, hc.st⟩) <| RunD.op (det _) tab75 4 (fun f' L' w' hc => Op1.move (v := .pointer (some ⟨_, _, none⟩)) (hc.old (v := .pointer (some ⟨_, _, none⟩)) rfl rfl rfl) ⟨[], ⟨rfl, rfl⟩, hc.st⟩) <| RunD.op (det _) tab75 5 (fun f' L' w' hc => Op1.nilCheckP (hc.det (j := 3) rfl rfl rfl rfl) ⟨[], ⟨rfl, rfl⟩, hc.st⟩) <| RunD.op (det _) tab75 6 (fun f' L' w' hc => Op1.fieldAddr fld69_1 (hc.det (j := 4) rfl rfl rfl rfl) ⟨[], ⟨rfl, rfl⟩, hc.st⟩) <| RunD.op (det _) tab75 7 (fun f' L' w' hc => Op1.load1 (v := .int .i64 _) ty3 rfl (hc.det (j := 5) rfl rfl rfl rfl) (hc.st.cellL (List.mem_append_right _ (.head _)) rfl) ⟨[], ⟨rfl, rfl⟩, hc.st⟩) <| RunD.op (det _) tab75 8 (fun f' L' w' hc => Op1.buildStruct ty41 stf41 (.c (v := .int .i64 _) (hc.det (j := 2) rfl rfl rfl rfl) (h := (.c (v := .int .i64 _) (hc.det (j := 6) rfl rfl rfl rfl) (h := .nil)))) ⟨[], ⟨rfl, rfl⟩, hc.st⟩) ?_
                   refine RunD.op (det _) tab75 9 (fun f' L' w' hc => Op1.nilCheckP (hc.det (j := 0) rfl rfl rfl rfl) ⟨[], ⟨rfl, rfl⟩, hc.st⟩) <| RunD.op (det _) tab75 10 (fun f' L' w' hc => Op1.fieldAddr fld69_2 (hc.det (j := 8) rfl rfl rfl rfl) ⟨[], ⟨rfl, rfl⟩, hc.st⟩) <| RunD.fin followsMixed tab75 hst rfl (fun f76 w R79 hs77 hd78 hr80 hst => ?_)
                   obtain ⟨h39_, r0⟩ := hd78 0 39 rfl rfl
                   obtain ⟨h40_, r1⟩ := hd78 1 40 rfl rfl
                   obtain ⟨h41_, r2⟩ := hd78 2 41 rfl rfl
                   obtain ⟨h42_, r3⟩ := hd78 3 42 rfl rfl
                   obtain ⟨h43_, r4⟩ := hd78 4 43 rfl rfl
                   obtain ⟨h44_, r5⟩ := hd78 5 44 rfl rfl
                   obtain ⟨h45_, r6⟩ := hd78 6 45 rfl rfl
                   obtain ⟨h46_, r7⟩ := hd78 7 46 rfl rfl
                   obtain ⟨h47_, r8⟩ := hd78 8 47 rfl rfl
                   obtain ⟨h48_, r9⟩ := hd78 9 48 rfl rfl
                   simp only [show List.range 10 = [0, 1, 2, 3, 4, 5, 6, 7, 8, 9] from rfl, List.flatMap_cons, List.flatMap_nil, List.map_cons, List.map_nil, r0, r1, r2, r3, r4, r5, r6, r7, r8, r9, List.nil_append, List.append_nil, List.cons_append] at hst
                   refine RunL.slots (sl := [(0, .pointer (some ⟨_, _, none⟩)), (3, .int .u8 _), (4, .int .i64 _), (5, .int .u8 _), (40, .int .u8 _), (46, .agg #[.int .i64 _, .int .i64 _]), (48, .pointer (some ⟨_, _, none⟩))]) ⟨(hs77 0 rfl).trans rfl, (hs77 3 rfl).trans rfl, (hs77 4 rfl).trans rfl, (hs77 5 rfl).trans rfl, h40_, h46_, h48_, trivial⟩ ?_
                   clear hs77 hd78 hr80 tab75
                   refine CN <| Op1.indexArr ty42 ty41 rfl rfl (by decide) (by decide) <| RunL.slots (sl := [(49, .pointer (some ⟨bq, 16, none⟩)), (46, .agg #[.int .i64 _, .int .i64 _])]) ⟨rfl, rfl, trivial⟩ <| CN (SO (v := .agg #[.int .i64 _, .int .i64 _]) hst ty41 rfl rfl (.here) fun w hst => ?_)
                   refine NSR <| MC rfl <| CN <| Op1.eql rfl rfl <| MB rfl <| RunL.splitD (d := 52) rfl (fun g81 => ?_) (fun g81 => ?_)
                   · skip
                     exfalso
                     exact absurd g81 (by decide)
                   refine OM (t := 52) rfl (congrArg Value.bool (decide_eq_false g81)) rfl <| OM (t := 52) rfl (congrArg Value.bool (decide_eq_false g81)) rfl <| OM (t := 52) rfl (congrArg Value.bool (decide_eq_false g81)) rfl <| OM (t := 52) rfl (congrArg Value.bool (decide_eq_false g81)) rfl <| OM (t := 52) rfl (congrArg Value.bool (decide_eq_false g81)) rfl <| OM (t := 52) rfl (congrArg Value.bool (decide_eq_false g81)) rfl <| CN <| Op1.pickF (u := .bool _) (congrArg Value.bool (decide_eq_false g81)) rfl <| NL <| run_cond_false (congrArg Value.bool (rfl : false = _)) <| run_skip <| run_inBlock <| RG <| CN <| Op1.addN rfl rfl rfl (wrap_u8 (by omega) (by omega)) <| MC rfl <| NL ?_
                   refine run_inLoop <| SR <| CN <| Op1.lss rfl rfl <| NL <| SQ <| run_cond_false (congrArg Value.bool (decide_eq_false (by decide))) <| run_exit (id := 0) rfl <| SR <| AB rfl <| NL <| run_ret1 Try.func39 rfl (TP (v := .bool _) rfl) ?_
                   replace hst := hst.pick (.cons (.here) .nil)
                   have ht2 : a2 ≠ a1 := by omega
                   subst ha1 ha2 ha3 ha4 ha5 ha6 ha7 ha8
                   exact .inl ⟨ht2, rfl, hst.noD⟩
                 · skip
                   refine run_block <| run_loop <| Run.indW [(0, .pointer (some ⟨_, _, none⟩)), (3, .int .u8 _), (4, .int .i64 _), (5, .int .u8 _)] ⟨rfl, rfl, rfl, rfl, trivial⟩ (fun (i : Nat) => []) (fun (i : Nat) => [CutR 69 bq ao l.length cp (a7 + i) [.int .i64 ((0 : Nat) : Int), .int .i64 (a1 : Int), .int .i64 (a1 : Int), .int .i64 (a2 : Int), .int .i64 (a2 : Int), .int .i64 (a3 : Int), .int .i64 (a3 : Int), .int .i64 (a4 : Int), .int .i64 (a4 : Int), .int .i64 (a5 : Int), .int .i64 (a5 : Int), .int .i64 (a6 : Int), .int .i64 (a6 : Int), .int .i64 (a7 : Int), .int .i64 0, .int .i64 0, .int .i64 0, .int .i64 0, .int .i64 0, .int .i64 0, .slice none 0 0]]) (fun (i : Nat) => i ≤ topR (l.map InstP.L) 7 a7) (fun (i : Nat) => topR (l.map InstP.L) 7 a7 - i) (0) hst (Nat.zero_le _) trivial ?_
                   intro i f w hst hJ ih82
                   have hti := topR_le (l := (l.map InstP.L)) (p := 7) (k := a7) (by omega)
                   refine SQ <| SQ <| RunD.start [] hst (bs := [0, 1, 3, 7, 15, 31, 63, 127, 15, 271, 783, 1807, 4095, 8191, 16383, 15, 65535, 131071]) (ds := [some 12, some 13, some 14, some 15, some 16, some 17, some 18, some 19, some 20, some 21, some 22, some 23, some 24, some 25, some 26, some 27, some 28, some 29]) ⟨by kernel_rfl, by kernel_rfl, by kernel_rfl⟩ (fun tab83 => ?_)
                   refine RunD.op (det _) tab83 1 (fun f' L' w' hc => Op1.move (v := .pointer (some ⟨_, _, none⟩)) (hc.old (v := .pointer (some ⟨_, _, none⟩)) rfl rfl rfl) ⟨[], ⟨rfl, rfl⟩, hc.st⟩) <| RunD.op (det _) tab83 2 (fun f' L' w' hc => Op1.call1 (v1 := .pointer (some ⟨_, _, none⟩)) ent40 rfl (hc.det (j := 0) rfl rfl rfl rfl) ((R5ly_next bq l ao cp (a7 + i) [.int .i64 ((0 : Nat) : Int), .int .i64 (a1 : Int), .int .i64 (a1 : Int), .int .i64 (a2 : Int), .int .i64 (a2 : Int), .int .i64 (a3 : Int), .int .i64 (a3 : Int), .int .i64 (a4 : Int), .int .i64 (a4 : Int), .int .i64 (a5 : Int), .int .i64 (a5 : Int), .int .i64 (a6 : Int), .int .i64 (a6 : Int), .int .i64 (a7 : Int), .int .i64 0, .int .i64 0, .int .i64 0, .int .i64 0, .int .i64 0, .int .i64 0, .slice none 0 0] _ (hc.st.hL _ (List.mem_append_right _ (.head _))) (hc.st.hD _ (.head _)) (by omega) hl hla hop).mono fun v w hp => ⟨[], ⟨hp.1, rfl⟩, hc.st.keepc hp.2⟩)) <| RunD.op (det _) tab83 3 (fun f' L' w' hc => Op1.eql (hc.det (j := 1) rfl rfl rfl rfl) rfl ⟨[], ⟨rfl, rfl⟩, hc.st⟩) <| RunD.op (det _) tab83 4 (fun f' L' w' hc => Op1.move (v := .bool _) (hc.det (j := 2) rfl rfl rfl rfl) ⟨[], ⟨rfl, rfl⟩, hc.st⟩) <| RunD.splitD (j := 3) rfl (fun g84 => ?_) (fun g84 => ?_)
                   · skip
                     have hin := nx_in g84
                     refine RunD.take (det _) tab83 5 rfl (fun f' L' w' hc => (hc.det (j := 3) rfl rfl rfl rfl).trans (congrArg Value.bool (decide_eq_true g84))) (fun f' L' w' hc => Op1.move (v := .pointer (some ⟨_, _, none⟩)) (hc.old (v := .pointer (some ⟨_, _, none⟩)) rfl rfl rfl) ⟨[], ⟨rfl, rfl⟩, hc.st⟩) <| RunD.take (det _) tab83 6 rfl (fun f' L' w' hc => (hc.det (j := 3) rfl rfl rfl rfl).trans (congrArg Value.bool (decide_eq_true g84))) (fun f' L' w' hc => Op1.nilCheckP (hc.det (j := 4) rfl rfl rfl rfl) ⟨[], ⟨rfl, rfl⟩, hc.st⟩) <| RunD.take (det _) tab83 7 rfl (fun f' L' w' hc => (hc.det (j := 3) rfl rfl rfl rfl).trans (congrArg Value.bool (decide_eq_true g84))) (fun f' L' w' hc => Op1.fieldAddr fld69_0 (hc.det (j := 5) rfl rfl rfl rfl) ⟨[], ⟨rfl, rfl⟩, hc.st⟩) <| RunD.take (det _) tab83 8 rfl (fun f' L' w' hc => (hc.det (j := 3) rfl rfl rfl rfl).trans (congrArg Value.bool (decide_eq_true g84))) (fun f' L' w' hc => Op1.load1 (v := .slice _ _ _) ty23 rfl (hc.det (j := 6) rfl rfl rfl rfl) (hc.st.cellL (List.mem_append_right _ (.head _)) rfl) ⟨[], ⟨rfl, rfl⟩, hc.st⟩) <| RunD.take (det _) tab83 9 rfl (fun f' L' w' hc => (hc.det (j := 3) rfl rfl rfl rfl).trans (congrArg Value.bool (decide_eq_true g84))) (fun f' L' w' hc => Op1.move (v := .pointer (some ⟨_, _, none⟩)) (hc.old (v := .pointer (some ⟨_, _, none⟩)) rfl rfl rfl) ⟨[], ⟨rfl, rfl⟩, hc.st⟩) <| RunD.take (det _) tab83 10 rfl (fun f' L' w' hc => (hc.det (j := 3) rfl rfl rfl rfl).trans (congrArg Value.bool (decide_eq_true g84))) (fun f' L' w' hc => Op1.nilCheckP (hc.det (j := 8) rfl rfl rfl rfl) ⟨[], ⟨rfl, rfl⟩, hc.st⟩) <| RunD.take (det _) tab83 11 rfl (fun f' L' w' hc => (hc.det (j := 3) rfl rfl rfl rfl).trans (congrArg Value.bool (decide_eq_true g84))) (fun f' L' w' hc => Op1.fieldAddr fld69_1 (hc.det (j := 9) rfl rfl rfl rfl) ⟨[], ⟨rfl, rfl⟩, hc.st⟩) <| RunD.take (det _) tab83 12 rfl (fun f' L' w' hc => (hc.det (j := 3) rfl rfl rfl rfl).trans (congrArg Value.bool (decide_eq_true g84))) (fun f' L' w' hc => Op1.load1 (v := .int .i64 _) ty3 rfl (hc.det (j := 10) rfl rfl rfl rfl) (hc.st.cellL (List.mem_append_right _ (.head _)) rfl) ⟨[], ⟨rfl, rfl⟩, hc.st⟩) <| RunD.take (det _) tab83 13 rfl (fun f' L' w' hc => (hc.det (j := 3) rfl rfl rfl rfl).trans (congrArg Value.bool (decide_eq_true g84))) (fun f' L' w' hc => Op1.indexRs ty23 ty39 (Res.rmod_insts (hc.st.hD _ (.head _))) (hc.det (j := 7) rfl rfl rfl rfl) (hc.det (j := 11) rfl rfl rfl rfl) (by omega) (by omega) ⟨[], ⟨rfl, rfl⟩, hc.st⟩) <| RunD.take (det _) tab83 14 rfl (fun f' L' w' hc => (hc.det (j := 3) rfl rfl rfl rfl).trans (congrArg Value.bool (decide_eq_true g84))) (fun f' L' w' hc => Op1.loadA (vs := [.int .u16 _, .int .u32 _, .int .u32 _, .slice _ _ _]) ty39 rfl (hc.det (j := 12) rfl rfl rfl rfl) rfl (Res.rs2_cells (m := 4) (Res.rmod_insts (hc.st.hD _ (.head _))) _ (flat_seg (g := instC) (d := zeroI) instC_len _ _ (by omega))) ⟨[], ⟨rfl, rfl⟩, hc.st⟩) <| RunD.take (det _) tab83 15 rfl (fun f' L' w' hc => (hc.det (j := 3) rfl rfl rfl rfl).trans (congrArg Value.bool (decide_eq_true g84))) (fun f' L' w' hc => Op1.call1 (v1 := .agg #[.int .u16 _, .int .u32 _, .int .u32 _, .slice _ _ _]) ent51 rfl (hc.det (j := 13) rfl rfl rfl rfl) ((R5ly_part (l.getD (a7 + i) zeroI) (hop _ (getD_memD (by omega))) _ (Res.rmod_argsI (hc.st.hD _ (.head _)) (i := a7 + i) (by omega)) (hla _ (getD_memD (by omega)))).mono fun v w hp => ⟨[], ⟨hp.1, rfl⟩, hc.st.keepc hp.2⟩)) <| RunD.take (det _) tab83 16 rfl (fun f' L' w' hc => (hc.det (j := 3) rfl rfl rfl rfl).trans (congrArg Value.bool (decide_eq_true g84))) (fun f' L' w' hc => Op1.move (v := .int .u8 _) (hc.old (v := .int .u8 _) rfl rfl rfl) ⟨[], ⟨rfl, rfl⟩, hc.st⟩) <| RunD.fin followsMixed tab83 hst rfl (fun f85 w R88 hs86 hd87 hr89 hst => ?_)
                     obtain ⟨h12_, r0⟩ := hd87 0 12 rfl rfl
                     obtain ⟨h13_, r1⟩ := hd87 1 13 rfl rfl
                     obtain ⟨h14_, r2⟩ := hd87 2 14 rfl rfl
                     obtain ⟨h15_, r3⟩ := hd87 3 15 rfl rfl
                     obtain ⟨h16_, r4⟩ := hd87 4 16 rfl rfl
                     obtain ⟨h17_, r5⟩ := hd87 5 17 rfl rfl
                     obtain ⟨h18_, r6⟩ := hd87 6 18 rfl rfl
                     obtain ⟨h19_, r7⟩ := hd87 7 19 rfl rfl
                     obtain ⟨h20_, r8⟩ := hd87 8 20 rfl rfl
                     obtain ⟨h21_, r9⟩ := hd87 9 21 rfl rfl
                     obtain ⟨h22_, r10⟩ := hd87 10 22 rfl rfl
                     obtain ⟨h23_, r11⟩ := hd87 11 23 rfl rfl
                     obtain ⟨h24_, r12⟩ := hd87 12 24 rfl rfl
                     obtain ⟨h25_, r13⟩ := hd87 13 25 rfl rfl
                     obtain ⟨h26_, r14⟩ := hd87 14 26 rfl rfl
                     obtain ⟨h27_, r15⟩ := hd87 15 27 rfl rfl
                     simp only [show List.range 16 = [0, 1, 2, 3, 4, 5, 6, 7, 8, 9, 10, 11, 12, 13, 14, 15] from rfl, List.flatMap_cons, List.flatMap_nil, List.map_cons, List.map_nil, r0, r1, r2, r3, r4, r5, r6, r7, r8, r9, r10, r11, r12, r13, r14, r15, List.nil_append, List.append_nil, List.cons_append] at hst
                     refine RunL.slots (sl := [(0, .pointer (some ⟨_, _, none⟩)), (3, .int .u8 _), (4, .int .i64 _), (5, .int .u8 _), (15, .bool _), (26, .int .u8 _), (27, .int .u8 _)]) ⟨(hs86 0 rfl).trans rfl, (hs86 3 rfl).trans rfl, (hs86 4 rfl).trans rfl, (hs86 5 rfl).trans rfl, h15_, h26_, h27_, trivial⟩ ?_
                     clear hs86 hd87 hr89 tab83
                     refine TK (t := 15) rfl (congrArg Value.bool (decide_eq_true g84)) <| Op1.eql rfl rfl <| CN <| Op1.pickT (u := .bool _) (congrArg Value.bool (decide_eq_true g84)) rfl <| NL <| run_cond_dec rfl (fun g90 => ?_) (fun g90 => ?_)
                     · skip
                       have hpm := ptA_map l (a7 + i)
                       have hlt := (top_nx (l := (l.map InstP.L)) (p := 7) (a := a7) (i := i) (by omega) (by omega)).1 ⟨g84, by rw [hpm]; exact g90⟩
                       refine run_skip <| run_block <| SR <| MP rfl <| CN <| Op1.nilCheckP rfl <| CN <| Op1.fieldAddr fld69_1 rfl <| CN <| Op1.load1 (v := .int .i64 _) ty3 rfl rfl (hst.cellL (.head _) rfl) <| CN <| Op1.addN rfl rfl rfl (wrap_i64 (by omega) (by omega)) <| CN <| Op1.nilCheckP rfl <| CN <| Op1.fieldAddr fld69_1 rfl <| CN (SO (v := .int .i64 _) hst ty3 rfl rfl (.here) fun w hst => ?_)
                       refine NL <| Run.forget [(0, .pointer (some ⟨_, _, none⟩)), (3, .int .u8 _), (4, .int .i64 _), (5, .int .u8 _)] ⟨rfl, rfl, rfl, rfl, trivial⟩ fun f => SR <| MC rfl <| CN <| Op1.eql rfl rfl <| NL <| run_cond_dec rfl (fun g91 => ?_) (fun g91 => ?_)
                       · skip
                         exfalso
                         exact absurd g91 (by decide)
                       refine run_skip <| run_inBlock <| run_inLoop ?_
                       exact ih82 (i + 1) _ w (by omega) hst (by omega) ⟨rfl, rfl, rfl, rfl, trivial⟩ trivial
                     have hpm := ptA_map l (a7 + i)
                     have hge := (not_congr (top_nx (l := (l.map InstP.L)) (p := 7) (a := a7) (i := i) (by omega) (by omega))).1 (fun h => g90 (by rw [← hpm]; exact h.2))
                     have htn : topN (l.map InstP.L) 7 a7 = topR (l.map InstP.L) 7 a7 := if_neg (by decide)
                     have he : a7 + i = a8 := by omega
                     rw [he] at hst
                     refine run_exit (id := 2) rfl ?_
                     exact cut72 (()) _ w (hst) (trivial) ⟨rfl, rfl, rfl, rfl, trivial⟩ trivial
                   refine RunD.omit tab83 5 rfl rfl (fun f' L' w' hc => (hc.det (j := 3) rfl rfl rfl rfl).trans (congrArg Value.bool (decide_eq_false g84))) <| RunD.omit tab83 6 rfl rfl (fun f' L' w' hc => (hc.det (j := 3) rfl rfl rfl rfl).trans (congrArg Value.bool (decide_eq_false g84))) <| RunD.omit tab83 7 rfl rfl (fun f' L' w' hc => (hc.det (j := 3) rfl rfl rfl rfl).trans (congrArg Value.bool (decide_eq_false g84))) <| RunD.omit tab83 8 rfl rfl (fun f' L' w' hc => (hc.det (j := 3) rfl rfl rfl rfl).trans (congrArg Value.bool (decide_eq_false g84))) <| RunD.omit tab83 9 rfl rfl (fun f' L' w' hc => (hc.det (j := 3) rfl rfl rfl rfl).trans (congrArg Value.bool (decide_eq_false g84))) <| RunD.omit tab83 10 rfl rfl (fun f' L' w' hc => (hc.det (j := 3) rfl rfl rfl rfl).trans (congrArg Value.bool (decide_eq_false g84))) <| RunD.omit tab83 11 rfl rfl (fun f' L' w' hc => (hc.det (j := 3) rfl rfl rfl rfl).trans (congrArg Value.bool (decide_eq_false g84))) <| RunD.omit tab83 12 rfl rfl (fun f' L' w' hc => (hc.det (j := 3) rfl rfl rfl rfl).trans (congrArg Value.bool (decide_eq_false g84))) <| RunD.omit tab83 13 rfl rfl (fun f' L' w' hc => (hc.det (j := 3) rfl rfl rfl rfl).trans (congrArg Value.bool (decide_eq_false g84))) <| RunD.omit tab83 14 rfl rfl (fun f' L' w' hc => (hc.det (j := 3) rfl rfl rfl rfl).trans (congrArg Value.bool (decide_eq_false g84))) <| RunD.omit tab83 15 rfl rfl (fun f' L' w' hc => (hc.det (j := 3) rfl rfl rfl rfl).trans (congrArg Value.bool (decide_eq_false g84))) <| RunD.omit tab83 16 rfl rfl (fun f' L' w' hc => (hc.det (j := 3) rfl rfl rfl rfl).trans (congrArg Value.bool (decide_eq_false g84))) <| RunD.fin followsMixed tab83 hst rfl (fun f92 w R95 hs93 hd94 hr96 hst => ?_)
                   obtain ⟨h12_, r0⟩ := hd94 0 12 rfl rfl
                   obtain ⟨h13_, r1⟩ := hd94 1 13 rfl rfl
                   obtain ⟨h14_, r2⟩ := hd94 2 14 rfl rfl
                   obtain ⟨h15_, r3⟩ := hd94 3 15 rfl rfl
                   obtain ⟨h16_, r4⟩ := hd94 4 16 rfl rfl
                   obtain ⟨h17_, r5⟩ := hd94 5 17 rfl rfl
                   obtain ⟨h18_, r6⟩ := hd94 6 18 rfl rfl
                   obtain ⟨h19_, r7⟩ := hd94 7 19 rfl rfl
                   obtain ⟨h20_, r8⟩ := hd94 8 20 rfl rfl
                   obtain ⟨h21_, r9⟩ := hd94 9 21 rfl rfl
                   obtain ⟨h22_, r10⟩ := hd94 10 22 rfl rfl
                   obtain ⟨h23_, r11⟩ := hd94 11 23 rfl rfl
                   obtain ⟨h24_, r12⟩ := hd94 12 24 rfl rfl
                   obtain ⟨h25_, r13⟩ := hd94 13 25 rfl rfl
                   obtain ⟨h26_, r14⟩ := hd94 14 26 rfl rfl
                   obtain ⟨h27_, r15⟩ := hd94 15 27 rfl rfl
                   simp only [show List.range 16 = [0, 1, 2, 3, 4, 5, 6, 7, 8, 9, 10, 11, 12, 13, 14, 15] from rfl, List.flatMap_cons, List.flatMap_nil, List.map_cons, List.map_nil, r0, r1, r2, r3, r4, r5, r6, r7, r8, r9, r10, r11, r12, r13, r14, r15, List.nil_append, List.append_nil, List.cons_append] at hst
                   refine RunL.slots (sl := [(0, .pointer (some ⟨_, _, none⟩)), (3, .int .u8 _), (4, .int .i64 _), (5, .int .u8 _), (15, .bool _), (26, _), (27, _)]) ⟨(hs93 0 rfl).trans rfl, (hs93 3 rfl).trans rfl, (hs93 4 rfl).trans rfl, (hs93 5 rfl).trans rfl, h15_, h26_, h27_, trivial⟩ ?_
                   clear hs93 hd94 hr96 tab83
                   refine OM (t := 15) rfl (congrArg Value.bool (decide_eq_false g84)) rfl <| CN <| Op1.pickF (u := .bool _) (congrArg Value.bool (decide_eq_false g84)) rfl <| NL ?_
                   have hpm := ptA_map l (a7 + i)
                   have hge := (not_congr (top_nx (l := (l.map InstP.L)) (p := 7) (a := a7) (i := i) (by omega) (by omega))).1 (fun h => g84 h.1)
                   have htn : topN (l.map InstP.L) 7 a7 = topR (l.map InstP.L) 7 a7 := if_neg (by decide)
                   have he : a7 + i = a8 := by omega
                   rw [he] at hst
                   refine run_cond_false (congrArg Value.bool (rfl : false = _)) <| run_exit (id := 2) rfl ?_
                   exact cut72 (()) _ w (hst) (trivial) ⟨rfl, rfl, rfl, rfl, trivial⟩ trivial
               · skip
                 refine run_block <| run_loop <| Run.indW [(0, .pointer (some ⟨_, _, none⟩)), (3, .int .u8 _), (4, .int .i64 _), (5, .int .u8 _)] ⟨rfl, rfl, rfl, rfl, trivial⟩ (fun (i : Nat) => []) (fun (i : Nat) => [CutR 69 bq ao l.length cp (a6 + i) [.int .i64 ((0 : Nat) : Int), .int .i64 (a1 : Int), .int .i64 (a1 : Int), .int .i64 (a2 : Int), .int .i64 (a2 : Int), .int .i64 (a3 : Int), .int .i64 (a3 : Int), .int .i64 (a4 : Int), .int .i64 (a4 : Int), .int .i64 (a5 : Int), .int .i64 (a5 : Int), .int .i64 (a6 : Int), .int .i64 0, .int .i64 0, .int .i64 0, .int .i64 0, .int .i64 0, .int .i64 0, .int .i64 0, .int .i64 0, .slice none 0 0]]) (fun (i : Nat) => i ≤ topR (l.map InstP.L) 6 a6) (fun (i : Nat) => topR (l.map InstP.L) 6 a6 - i) (0) hst (Nat.zero_le _) trivial ?_
                 intro i f w hst hJ ih97
                 have hti := topR_le (l := (l.map InstP.L)) (p := 6) (k := a6) (by omega)
                 refine SQ <| SQ <| RunD.start [] hst (bs := [0, 1, 3, 7, 15, 31, 63, 127, 15, 271, 783, 1807, 4095, 8191, 16383, 15, 65535, 131071]) (ds := [some 12, some 13, some 14, some 15, some 16, some 17, some 18, some 19, some 20, some 21, some 22, some 23, some 24, some 25, some 26, some 27, some 28, some 29]) ⟨by kernel_rfl, by kernel_rfl, by kernel_rfl⟩ (fun tab98 => ?_)
                 refine RunD.op (det _) tab98 1 (fun f' L' w' hc => Op1.move (v := .pointer (some ⟨_, _, none⟩)) (hc.old (v := .pointer (some ⟨_, _, none⟩)) rfl rfl rfl) ⟨[], ⟨rfl, rfl⟩, hc.st⟩) <| RunD.op (det _) tab98 2 (fun f' L' w' hc => Op1.call1 (v1 := .pointer (some ⟨_, _, none⟩)) ent40 rfl (hc.det (j := 0) rfl rfl rfl rfl) ((R5ly_next bq l ao cp (a6 + i) [.int .i64 ((0 : Nat) : Int), .int .i64 (a1 : Int), .int .i64 (a1 : Int), .int .i64 (a2 : Int), .int .i64 (a2 : Int), .int .i64 (a3 : Int), .int .i64 (a3 : Int), .int .i64 (a4 : Int), .int .i64 (a4 : Int), .int .i64 (a5 : Int), .int .i64 (a5 : Int), .int .i64 (a6 : Int), .int .i64 0, .int .i64 0, .int .i64 0, .int .i64 0, .int .i64 0, .int .i64 0, .int .i64 0, .int .i64 0, .slice none 0 0] _ (hc.st.hL _ (List.mem_append_right _ (.head _))) (hc.st.hD _ (.head _)) (by omega) hl hla hop).mono fun v w hp => ⟨[], ⟨hp.1, rfl⟩, hc.st.keepc hp.2⟩)) <| RunD.op (det _) tab98 3 (fun f' L' w' hc => Op1.eql (hc.det (j := 1) rfl rfl rfl rfl) rfl ⟨[], ⟨rfl, rfl⟩, hc.st⟩) <| RunD.op (det _) tab98 4 (fun f' L' w' hc => Op1.move (v := .bool _) (hc.det (j := 2) rfl rfl rfl rfl) ⟨[], ⟨rfl, rfl⟩, hc.st⟩) <| RunD.splitD (j := 3) rfl (fun g99 => ?_) (fun g99 => ?_)
                 · skip
                   have hin := nx_in g99
                   refine RunD.take (det _) tab98 5 rfl (fun f' L' w' hc => (hc.det (j := 3) rfl rfl rfl rfl).trans (congrArg Value.bool (decide_eq_true g99))) (fun f' L' w' hc => Op1.move (v := .pointer (some ⟨_, _, none⟩)) (hc.old (v := .pointer (some ⟨_, _, none⟩)) rfl rfl rfl) ⟨[], ⟨rfl, rfl⟩, hc.st⟩) <| RunD.take (det _) tab98 6 rfl (fun f' L' w' hc => (hc.det (j := 3) rfl rfl rfl rfl).trans (congrArg Value.bool (decide_eq_true g99))) (fun f' L' w' hc => Op1.nilCheckP (hc.det (j := 4) rfl rfl rfl rfl) ⟨[], ⟨rfl, rfl⟩, hc.st⟩) <| RunD.take (det _) tab98 7 rfl (fun f' L' w' hc => (hc.det (j := 3) rfl rfl rfl rfl).trans (congrArg Value.bool (decide_eq_true g99))) (fun f' L' w' hc => Op1.fieldAddr fld69_0 (hc.det (j := 5) rfl rfl rfl rfl) ⟨[], ⟨rfl, rfl⟩, hc.st⟩) <| RunD.take (det _) tab98 8 rfl (fun f' L' w' hc => (hc.det (j := 3) rfl rfl rfl rfl).trans (congrArg Value.bool (decide_eq_true g99))) (fun f' L' w' hc => Op1.load1 (v := .slice _ _ _) ty23 rfl (hc.det (j := 6) rfl rfl rfl rfl) (hc.st.cellL (List.mem_append_right _ (.head _)) rfl) ⟨[], ⟨rfl, rfl⟩, hc.st⟩) <| RunD.take (det _) tab98 9 rfl (fun f' L' w' hc => (hc.det (j := 3) rfl rfl rfl rfl).trans (congrArg Value.bool (decide_eq_true g99))) (fun f' L' w' hc => Op1.move (v := .pointer (some ⟨_, _, none⟩)) (hc.old (v := .pointer (some ⟨_, _, none⟩)) rfl rfl rfl) ⟨[], ⟨rfl, rfl⟩, hc.st⟩) <| RunD.take (det _) tab98 10 rfl (fun f' L' w' hc => (hc.det (j := 3) rfl rfl rfl rfl).trans (congrArg Value.bool (decide_eq_true g99))) (fun f' L' w' hc => Op1.nilCheckP (hc.det (j := 8) rfl rfl rfl rfl) ⟨[], ⟨rfl, rfl⟩, hc.st⟩) <| RunD.take (det _) tab98 11 rfl (fun f' L' w' hc => (hc.det (j := 3) rfl rfl rfl rfl).trans (congrArg Value.bool (decide_eq_true g99))) (fun f' L' w' hc => Op1.fieldAddr fld69_1 (hc.det (j := 9) rfl rfl rfl rfl) ⟨[], ⟨rfl, rfl⟩, hc.st⟩) <| RunD.take (det _) tab98 12 rfl (fun f' L' w' hc => (hc.det (j := 3) rfl rfl rfl rfl).trans (congrArg Value.bool (decide_eq_true g99))) (fun f' L' w' hc => Op1.load1 (v := .int .i64 _) ty3 rfl (hc.det (j := 10) rfl rfl rfl rfl) (hc.st.cellL (List.mem_append_right _ (.head _)) rfl) ⟨[], ⟨rfl, rfl⟩, hc.st⟩) <| RunD.take (det _) tab98 13 rfl (fun f' L' w' hc => (hc.det (j := 3) rfl rfl rfl rfl).trans (congrArg Value.bool (decide_eq_true g99))) (fun f' L' w' hc => Op1.indexRs ty23 ty39 (Res.rmod_insts (hc.st.hD _ (.head _))) (hc.det (j := 7) rfl rfl rfl rfl) (hc.det (j := 11) rfl rfl rfl rfl) (by omega) (by omega) ⟨[], ⟨rfl, rfl⟩, hc.st⟩) <| RunD.take (det _) tab98 14 rfl (fun f' L' w' hc => (hc.det (j := 3) rfl rfl rfl rfl).trans (congrArg Value.bool (decide_eq_true g99))) (fun f' L' w' hc => Op1.loadA (vs := [.int .u16 _, .int .u32 _, .int .u32 _, .slice _ _ _]) ty39 rfl (hc.det (j := 12) rfl rfl rfl rfl) rfl (Res.rs2_cells (m := 4) (Res.rmod_insts (hc.st.hD _ (.head _))) _ (flat_seg (g := instC) (d := zeroI) instC_len _ _ (by omega))) ⟨[], ⟨rfl, rfl⟩, hc.st⟩) <| RunD.take (det _) tab98 15 rfl (fun f' L' w' hc => (hc.det (j := 3) rfl rfl rfl rfl).trans (congrArg Value.bool (decide_eq_true g99))) (fun f' L' w' hc => Op1.call1 (v1 := .agg #[.int .u16 _, .int .u32 _, .int .u32 _, .slice _ _ _]) ent51 rfl (hc.det (j := 13) rfl rfl rfl rfl) ((R5ly_part (l.getD (a6 + i) zeroI) (hop _ (getD_memD (by omega))) _ (Res.rmod_argsI (hc.st.hD _ (.head _)) (i := a6 + i) (by omega)) (hla _ (getD_memD (by omega)))).mono fun v w hp => ⟨[], ⟨hp.1, rfl⟩, hc.st.keepc hp.2⟩)) <| RunD.take (det _) tab98 16 rfl (fun f' L' w' hc => (hc.det (j := 3) rfl rfl rfl rfl).trans (congrArg Value.bool (decide_eq_true g99))) (fun f' L' w' hc => Op1.move (v := .int .u8 _) (hc.old (v := .int .u8 _) rfl rfl rfl) ⟨[], ⟨rfl, rfl⟩, hc.st⟩) <| RunD.fin followsMixed tab98 hst rfl (fun f100 w R103 hs101 hd102 hr104 hst => ?_)
                   obtain ⟨h12_, r0⟩ := hd102 0 12 rfl rfl
                   obtain ⟨h13_, r1⟩ := hd102 1 13 rfl rfl
                   obtain ⟨h14_, r2⟩ := hd102 2 14 rfl rfl
                   obtain ⟨h15_, r3⟩ := hd102 3 15 rfl rfl
                   obtain ⟨h16_, r4⟩ := hd102 4 16 rfl rfl
                   obtain ⟨h17_, r5⟩ := hd102 5 17 rfl rfl
                   obtain ⟨h18_, r6⟩ := hd102 6 18 rfl rfl
                   obtain ⟨h19_, r7⟩ := hd102 7 19 rfl rfl
                   obtain ⟨h20_, r8⟩ := hd102 8 20 rfl rfl
                   obtain ⟨h21_, r9⟩ := hd102 9 21 rfl rfl
                   obtain ⟨h22_, r10⟩ := hd102 10 22 rfl rfl
                   obtain ⟨h23_, r11⟩ := hd102 11 23 rfl rfl
                   obtain ⟨h24_, r12⟩ := hd102 12 24 rfl rfl
                   obtain ⟨h25_, r13⟩ := hd102 13 25 rfl rfl
                   obtain ⟨h26_, r14⟩ := hd102 14 26 rfl rfl
                   obtain ⟨h27_, r15⟩ := hd102 15 27 rfl rfl
                   simp only [show List.range 16 = [0, 1, 2, 3, 4, 5, 6, 7, 8, 9, 10, 11, 12, 13, 14, 15] from rfl, List.flatMap_cons, List.flatMap_nil, List.map_cons, List.map_nil, r0, r1, r2, r3, r4, r5, r6, r7, r8, r9, r10, r11, r12, r13, r14, r15, List.nil_append, List.append_nil, List.cons_append] at hst
                   refine RunL.slots (sl := [(0, .pointer (some ⟨_, _, none⟩)), (3, .int .u8 _), (4, .int .i64 _), (5, .int .u8 _), (15, .bool _), (26, .int .u8 _), (27, .int .u8 _)]) ⟨(hs101 0 rfl).trans rfl, (hs101 3 rfl).trans rfl, (hs101 4 rfl).trans rfl, (hs101 5 rfl).trans rfl, h15_, h26_, h27_, trivial⟩ ?_
                   clear hs101 hd102 hr104 tab98
                   refine TK (t := 15) rfl (congrArg Value.bool (decide_eq_true g99)) <| Op1.eql rfl rfl <| CN <| Op1.pickT (u := .bool _) (congrArg Value.bool (decide_eq_true g99)) rfl <| NL <| run_cond_dec rfl (fun g105 => ?_) (fun g105 => ?_)
                   · skip
                     have hpm := ptA_map l (a6 + i)
                     have hlt := (top_nx (l := (l.map InstP.L)) (p := 6) (a := a6) (i := i) (by omega) (by omega)).1 ⟨g99, by rw [hpm]; exact g105⟩
                     refine run_skip <| run_block <| SR <| MP rfl <| CN <| Op1.nilCheckP rfl <| CN <| Op1.fieldAddr fld69_1 rfl <| CN <| Op1.load1 (v := .int .i64 _) ty3 rfl rfl (hst.cellL (.head _) rfl) <| CN <| Op1.addN rfl rfl rfl (wrap_i64 (by omega) (by omega)) <| CN <| Op1.nilCheckP rfl <| CN <| Op1.fieldAddr fld69_1 rfl <| CN (SO (v := .int .i64 _) hst ty3 rfl rfl (.here) fun w hst => ?_)
                     refine NL <| Run.forget [(0, .pointer (some ⟨_, _, none⟩)), (3, .int .u8 _), (4, .int .i64 _), (5, .int .u8 _)] ⟨rfl, rfl, rfl, rfl, trivial⟩ fun f => SR <| MC rfl <| CN <| Op1.eql rfl rfl <| NL <| run_cond_dec rfl (fun g106 => ?_) (fun g106 => ?_)
                     · skip
                       exfalso
                       exact absurd g106 (by decide)
                     refine run_skip <| run_inBlock <| run_inLoop ?_
                     exact ih97 (i + 1) _ w (by omega) hst (by omega) ⟨rfl, rfl, rfl, rfl, trivial⟩ trivial
                   have hpm := ptA_map l (a6 + i)
                   have hge := (not_congr (top_nx (l := (l.map InstP.L)) (p := 6) (a := a6) (i := i) (by omega) (by omega))).1 (fun h => g105 (by rw [← hpm]; exact h.2))
                   have htn : topN (l.map InstP.L) 6 a6 = topR (l.map InstP.L) 6 a6 := if_neg (by decide)
                   have he : a6 + i = a7 := by omega
                   rw [he] at hst
                   refine run_exit (id := 2) rfl ?_
                   exact cut62 (()) _ w (hst) (trivial) ⟨rfl, rfl, rfl, rfl, trivial⟩ trivial
                 refine RunD.omit tab98 5 rfl rfl (fun f' L' w' hc => (hc.det (j := 3) rfl rfl rfl rfl).trans (congrArg Value.bool (decide_eq_false g99))) <| RunD.omit tab98 6 rfl rfl (fun f' L' w' hc => (hc.det (j := 3) rfl rfl rfl rfl).trans (congrArg Value.bool (decide_eq_false g99))) <| RunD.omit tab98 7 rfl rfl (fun f' L' w' hc => (hc.det (j := 3) rfl rfl rfl rfl).trans (congrArg Value.bool (decide_eq_false g99))) <| RunD.omit tab98 8 rfl rfl (fun f' L' w' hc => (hc.det (j := 3) rfl rfl rfl rfl).trans (congrArg Value.bool (decide_eq_false g99))) <| RunD.omit tab98 9 rfl rfl (fun f' L' w' hc => (hc.det (j := 3) rfl rfl rfl rfl).trans (congrArg Value.bool (decide_eq_false g99))) <| RunD.omit tab98 10 rfl rfl (fun f' L' w' hc => (hc.det (j := 3) rfl rfl rfl rfl).trans (congrArg Value.bool (decide_eq_false g99))) <| RunD.omit tab98 11 rfl rfl (fun f' L' w' hc => (hc.det (j := 3) rfl rfl rfl rfl).trans (congrArg Value.bool (decide_eq_false g99))) <| RunD.omit tab98 12 rfl rfl (fun f' L' w' hc => (hc.det (j := 3) rfl rfl rfl rfl).trans (congrArg Value.bool (decide_eq_false g99))) <| RunD.omit tab98 13 rfl rfl (fun f' L' w' hc => (hc.det (j := 3) rfl rfl rfl rfl).trans (congrArg Value.bool (decide_eq_false g99))) <| RunD.omit tab98 14 rfl rfl (fun f' L' w' hc => (hc.det (j := 3) rfl rfl rfl rfl).trans (congrArg Value.bool (decide_eq_false g99))) <| RunD.omit tab98 15 rfl rfl (fun f' L' w' hc => (hc.det (j := 3) rfl rfl rfl rfl).trans (congrArg Value.bool (decide_eq_false g99))) <| RunD.omit tab98 16 rfl rfl (fun f' L' w' hc => (hc.det (j := 3) rfl rfl rfl rfl).trans (congrArg Value.bool (decide_eq_false g99))) <| RunD.fin followsMixed tab98 hst rfl (fun f107 w R110 hs108 hd109 hr111 hst => ?_)
                 obtain ⟨h12_, r0⟩ := hd109 0 12 rfl rfl
                 obtain ⟨h13_, r1⟩ := hd109 1 13 rfl rfl
                 obtain ⟨h14_, r2⟩ := hd109 2 14 rfl rfl
                 obtain ⟨h15_, r3⟩ := hd109 3 15 rfl rfl
                 obtain ⟨h16_, r4⟩ := hd109 4 16 rfl rfl
                 obtain ⟨h17_, r5⟩ := hd109 5 17 rfl rfl
                 obtain ⟨h18_, r6⟩ := hd109 6 18 rfl rfl
                 obtain ⟨h19_, r7⟩ := hd109 7 19 rfl rfl
                 obtain ⟨h20_, r8⟩ := hd109 8 20 rfl rfl
                 obtain ⟨h21_, r9⟩ := hd109 9 21 rfl rfl
                 obtain ⟨h22_, r10⟩ := hd109 10 22 rfl rfl
                 obtain ⟨h23_, r11⟩ := hd109 11 23 rfl rfl
                 obtain ⟨h24_, r12⟩ := hd109 12 24 rfl rfl
                 obtain ⟨h25_, r13⟩ := hd109 13 25 rfl rfl
                 obtain ⟨h26_, r14⟩ := hd109 14 26 rfl rfl
                 obtain ⟨h27_, r15⟩ := hd109 15 27 rfl rfl
                 simp only [show List.range 16 = [0, 1, 2, 3, 4, 5, 6, 7, 8, 9, 10, 11, 12, 13, 14, 15] from rfl, List.flatMap_cons, List.flatMap_nil, List.map_cons, List.map_nil, r0, r1, r2, r3, r4, r5, r6, r7, r8, r9, r10, r11, r12, r13, r14, r15, List.nil_append, List.append_nil, List.cons_append] at hst
                 refine RunL.slots (sl := [(0, .pointer (some ⟨_, _, none⟩)), (3, .int .u8 _), (4, .int .i64 _), (5, .int .u8 _), (15, .bool _), (26, _), (27, _)]) ⟨(hs108 0 rfl).trans rfl, (hs108 3 rfl).trans rfl, (hs108 4 rfl).trans rfl, (hs108 5 rfl).trans rfl, h15_, h26_, h27_, trivial⟩ ?_
                 clear hs108 hd109 hr111 tab98
                 refine OM (t := 15) rfl (congrArg Value.bool (decide_eq_false g99)) rfl <| CN <| Op1.pickF (u := .bool _) (congrArg Value.bool (decide_eq_false g99)) rfl <| NL ?_
                 have hpm := ptA_map l (a6 + i)
                 have hge := (not_congr (top_nx (l := (l.map InstP.L)) (p := 6) (a := a6) (i := i) (by omega) (by omega))).1 (fun h => g99 h.1)
                 have htn : topN (l.map InstP.L) 6 a6 = topR (l.map InstP.L) 6 a6 := if_neg (by decide)
                 have he : a6 + i = a7 := by omega
                 rw [he] at hst
                 refine run_cond_false (congrArg Value.bool (rfl : false = _)) <| run_exit (id := 2) rfl ?_
                 exact cut62 (()) _ w (hst) (trivial) ⟨rfl, rfl, rfl, rfl, trivial⟩ trivial
             · skip
               refine run_block <| run_loop <| Run.indW [(0, .pointer (some ⟨_, _, none⟩)), (3, .int .u8 _), (4, .int .i64 _), (5, .int .u8 _)] ⟨rfl, rfl, rfl, rfl, trivial⟩ (fun (i : Nat) => []) (fun (i : Nat) => [CutR 69 bq ao l.length cp (a5 + i) [.int .i64 ((0 : Nat) : Int), .int .i64 (a1 : Int), .int .i64 (a1 : Int), .int .i64 (a2 : Int), .int .i64 (a2 : Int), .int .i64 (a3 : Int), .int .i64 (a3 : Int), .int .i64 (a4 : Int), .int .i64 (a4 : Int), .int .i64 (a5 : Int), .int .i64 0, .int .i64 0, .int .i64 0, .int .i64 0, .int .i64 0, .int .i64 0, .int .i64 0, .int .i64 0, .int .i64 0, .int .i64 0, .slice none 0 0]]) (fun (i : Nat) => i ≤ topR (l.map InstP.L) 5 a5) (fun (i : Nat) => topR (l.map InstP.L) 5 a5 - i) (0) hst (Nat.zero_le _) trivial ?_
               intro i f w hst hJ ih112
               have hti := topR_le (l := (l.map InstP.L)) (p := 5) (k := a5) (by omega)
               refine SQ <| SQ <| RunD.start [] hst (bs := [0, 1, 3, 7, 15, 31, 63, 127, 15, 271, 783, 1807, 4095, 8191, 16383, 15, 65535, 131071]) (ds := [some 12, some 13, some 14, some 15, some 16, some 17, some 18, some 19, some 20, some 21, some 22, some 23, some 24, some 25, some 26, some 27, some 28, some 29]) ⟨by kernel_rfl, by kernel_rfl, by kernel_rfl⟩ (fun tab113 => ?_)
               refine RunD.op (det _) tab113 1 (fun f' L' w' hc => Op1.move (v := .pointer (some ⟨_, _, none⟩)) (hc.old (v := .pointer (some ⟨_, _, none⟩)) rfl rfl rfl) ⟨[], ⟨rfl, rfl⟩, hc.st⟩) <| RunD.op (det _) tab113 2 (fun f' L' w' hc => Op1.call1 (v1 := .pointer (some ⟨_, _, none⟩)) ent40 rfl (hc.det (j := 0) rfl rfl rfl rfl) ((R5ly_next bq l ao cp (a5 + i) [.int .i64 ((0 : Nat) : Int), .int .i64 (a1 : Int), .int .i64 (a1 : Int), .int .i64 (a2 : Int), .int .i64 (a2 : Int), .int .i64 (a3 : Int), .int .i64 (a3 : Int), .int .i64 (a4 : Int), .int .i64 (a4 : Int), .int .i64 (a5 : Int), .int .i64 0, .int .i64 0, .int .i64 0, .int .i64 0, .int .i64 0, .int .i64 0, .int .i64 0, .int .i64 0, .int .i64 0, .int .i64 0, .slice none 0 0] _ (hc.st.hL _ (List.mem_append_right _ (.head _))) (hc.st.hD _ (.head _)) (by omega) hl hla hop).mono fun v w hp => ⟨[], ⟨hp.1, rfl⟩, hc.st.keepc hp.2⟩)) <| RunD.op (det _) tab113 3 (fun f' L' w' hc => Op1.eql (hc.det (j := 1) rfl rfl rfl rfl) rfl ⟨[], ⟨rfl, rfl⟩, hc.st⟩) <| RunD.op (det _) tab113 4 (fun f' L' w' hc => Op1.move (v := .bool _) (hc.det (j := 2) rfl rfl rfl rfl) ⟨[], ⟨rfl, rfl⟩, hc.st⟩) <| RunD.splitD (j := 3) rfl (fun g114 => ?_) (fun g114 => ?_)
               · skip
                 have hin := nx_in g114
                 refine RunD.take (det _) tab113 5 rfl (fun f' L' w' hc => (hc.det (j := 3) rfl rfl rfl rfl).trans (congrArg Value.bool (decide_eq_true g114))) (fun f' L' w' hc => Op1.move (v := .pointer (some ⟨_, _, none⟩)) (hc.old (v := .pointer (some ⟨_, _, none⟩)) rfl rfl rfl) ⟨[], ⟨rfl, rfl⟩, hc.st⟩) <| RunD.take (det _) tab113 6 rfl (fun f' L' w' hc => (hc.det (j := 3) rfl rfl rfl rfl).trans (congrArg Value.bool (decide_eq_true g114))) (fun f' L' w' hc => Op1.nilCheckP (hc.det (j := 4) rfl rfl rfl rfl) ⟨[], ⟨rfl, rfl⟩, hc.st⟩) <| RunD.take (det _) tab113 7 rfl (fun f' L' w' hc => (hc.det (j := 3) rfl rfl rfl rfl).trans (congrArg Value.bool (decide_eq_true g114))) (fun f' L' w' hc => Op1.fieldAddr fld69_0 (hc.det (j := 5) rfl rfl rfl rfl) ⟨[], ⟨rfl, rfl⟩, hc.st⟩) <| RunD.take (det _) tab113 8 rfl (fun f' L' w' hc => (hc.det (j := 3) rfl rfl rfl rfl).trans (congrArg Value.bool (decide_eq_true g114))) (fun f' L' w' hc => Op1.load1 (v := .slice _ _ _) ty23 rfl (hc.det (j := 6) rfl rfl rfl rfl) (hc.st.cellL (List.mem_append_right _ (.head _)) rfl) ⟨[], ⟨rfl, rfl⟩, hc.st⟩) <| RunD.take (det _) tab113 9 rfl (fun f' L' w' hc => (hc.det (j := 3) rfl rfl rfl rfl).trans (congrArg Value.bool (decide_eq_true g114))) (fun f' L' w' hc => Op1.move (v := .pointer (some ⟨_, _, none⟩)) (hc.old (v := .pointer (some ⟨_, _, none⟩)) rfl rfl rfl) ⟨[], ⟨rfl, rfl⟩, hc.st⟩) <| RunD.take (det _) tab113 10 rfl (fun f' L' w' hc => (hc.det (j := 3) rfl rfl rfl rfl).trans (congrArg Value.bool (decide_eq_true g114))) (fun f' L' w' hc => Op1.nilCheckP (hc.det (j := 8) rfl rfl rfl rfl) ⟨[], ⟨rfl, rfl⟩, hc.st⟩) <| RunD.take (det _) tab113 11 rfl (fun f' L' w' hc => (hc.det (j := 3) rfl rfl rfl rfl).trans (congrArg Value.bool (decide_eq_true g114))) (fun f' L' w' hc => Op1.fieldAddr fld69_1 (hc.det (j := 9) rfl rfl rfl rfl) ⟨[], ⟨rfl, rfl⟩, hc.st⟩) <| RunD.take (det _) tab113 12 rfl (fun f' L' w' hc => (hc.det (j := 3) rfl rfl rfl rfl).trans (congrArg Value.bool (decide_eq_true g114))) (fun f' L' w' hc => Op1.load1 (v := .int .i64 _) ty3 rfl (hc.det (j := 10) rfl rfl rfl rfl) (hc.st.cellL (List.mem_append_right _ (.head _)) rfl) ⟨[], ⟨rfl, rfl⟩, hc.st⟩) <| RunD.take (det _) tab113 13 rfl (fun f' L' w' hc => (hc.det (j := 3) rfl rfl rfl rfl).trans (congrArg Value.bool (decide_eq_true g114))) (fun f' L' w' hc => Op1.indexRs ty23 ty39 (Res.rmod_insts (hc.st.hD _ (.head _))) (hc.det (j := 7) rfl rfl rfl rfl) (hc.det (j := 11) rfl rfl rfl rfl) (by omega) (by omega) ⟨[], ⟨rfl, rfl⟩, hc.st⟩) <| RunD.take (det _) tab113 14 rfl (fun f' L' w' hc => (hc.det (j := 3) rfl rfl rfl rfl).trans (congrArg Value.bool (decide_eq_true g114))) (fun f' L' w' hc => Op1.loadA (vs := [.int .u16 _, .int .u32 _, .int .u32 _, .slice _ _ _]) ty39 rfl (hc.det (j := 12) rfl rfl rfl rfl) rfl (Res.rs2_cells (m := 4) (Res.rmod_insts (hc.st.hD _ (.head _))) _ (flat_seg (g := instC) (d := zeroI) instC_len _ _ (by omega))) ⟨[], ⟨rfl, rfl⟩, hc.st⟩) <| RunD.take (det _) tab113 15 rfl (fun f' L' w' hc => (hc.det (j := 3) rfl rfl rfl rfl).trans (congrArg Value.bool (decide_eq_true g114))) (fun f' L' w' hc => Op1.call1 (v1 := .agg #[.int .u16 _, .int .u32 _, .int .u32 _, .slice _ _ _]) ent51 rfl (hc.det (j := 13) rfl rfl rfl rfl) ((R5ly_part (l.getD (a5 + i) zeroI) (hop _ (getD_memD (by omega))) _ (Res.rmod_argsI (hc.st.hD _ (.head _)) (i := a5 + i) (by omega)) (hla _ (getD_memD (by omega)))).mono fun v w hp => ⟨[], ⟨hp.1, rfl⟩, hc.st.keepc hp.2⟩)) <| RunD.take (det _) tab113 16 rfl (fun f' L' w' hc => (hc.det (j := 3) rfl rfl rfl rfl).trans (congrArg Value.bool (decide_eq_true g114))) (fun f' L' w' hc => Op1.move (v := .int .u8 _) (hc.old (v := .int .u8 _) rfl rfl rfl) ⟨[], ⟨rfl, rfl⟩, hc.st⟩) <| RunD.fin followsMixed tab113 hst rfl (fun f115 w R118 hs116 hd117 hr119 hst => ?_)
                 obtain ⟨h12_, r0⟩ := hd117 0 12 rfl rfl
                 obtain ⟨h13_, r1⟩ := hd117 1 13 rfl rfl
                 obtain ⟨h14_, r2⟩ := hd117 2 14 rfl rfl
                 obtain ⟨h15_, r3⟩ := hd117 3 15 rfl rfl
                 obtain ⟨h16_, r4⟩ := hd117 4 16 rfl rfl
                 obtain ⟨h17_, r5⟩ := hd117 5 17 rfl rfl
                 obtain ⟨h18_, r6⟩ := hd117 6 18 rfl rfl
                 obtain ⟨h19_, r7⟩ := hd117 7 19 rfl rfl
                 obtain ⟨h20_, r8⟩ := hd117 8 20 rfl rfl
                 obtain ⟨h21_, r9⟩ := hd117 9 21 rfl rfl
                 obtain ⟨h22_, r10⟩ := hd117 10 22 rfl rfl
                 obtain ⟨h23_, r11⟩ := hd117 11 23 rfl rfl
                 obtain ⟨h24_, r12⟩ := hd117 12 24 rfl rfl
                 obtain ⟨h25_, r13⟩ := hd117 13 25 rfl rfl
                 obtain ⟨h26_, r14⟩ := hd117 14 26 rfl rfl
                 obtain ⟨h27_, r15⟩ := hd117 15 27 rfl rfl
                 simp only [show List.range 16 = [0, 1, 2, 3, 4, 5, 6, 7, 8, 9, 10, 11, 12, 13, 14, 15] from rfl, List.flatMap_cons, List.flatMap_nil, List.map_cons, List.map_nil, r0, r1, r2, r3, r4, r5, r6, r7, r8, r9, r10, r11, r12, r13, r14, r15, List.nil_append, List.append_nil, List.cons_append] at hst
                 refine RunL.slots (sl := [(0, .pointer (some ⟨_, _, none⟩)), (3, .int .u8 _), (4, .int .i64 _), (5, .int .u8 _), (15, .bool _), (26, .int .u8 _), (27, .int .u8 _)]) ⟨(hs116 0 rfl).trans rfl, (hs116 3 rfl).trans rfl, (hs116 4 rfl).trans rfl, (hs116 5 rfl).trans rfl, h15_, h26_, h27_, trivial⟩ ?_
                 clear hs116 hd117 hr119 tab113
                 refine TK (t := 15) rfl (congrArg Value.bool (decide_eq_true g114)) <| Op1.eql rfl rfl <| CN <| Op1.pickT (u := .bool _) (congrArg Value.bool (decide_eq_true g114)) rfl <| NL <| run_cond_dec rfl (fun g120 => ?_) (fun g120 => ?_)
                 · skip
                   have hpm := ptA_map l (a5 + i)
                   have hlt := (top_nx (l := (l.map InstP.L)) (p := 5) (a := a5) (i := i) (by omega) (by omega)).1 ⟨g114, by rw [hpm]; exact g120⟩
                   refine run_skip <| run_block <| SR <| MP rfl <| CN <| Op1.nilCheckP rfl <| CN <| Op1.fieldAddr fld69_1 rfl <| CN <| Op1.load1 (v := .int .i64 _) ty3 rfl rfl (hst.cellL (.head _) rfl) <| CN <| Op1.addN rfl rfl rfl (wrap_i64 (by omega) (by omega)) <| CN <| Op1.nilCheckP rfl <| CN <| Op1.fieldAddr fld69_1 rfl <| CN (SO (v := .int .i64 _) hst ty3 rfl rfl (.here) fun w hst => ?_)
                   refine NL <| Run.forget [(0, .pointer (some ⟨_, _, none⟩)), (3, .int .u8 _), (4, .int .i64 _), (5, .int .u8 _)] ⟨rfl, rfl, rfl, rfl, trivial⟩ fun f => SR <| MC rfl <| CN <| Op1.eql rfl rfl <| NL <| run_cond_dec rfl (fun g121 => ?_) (fun g121 => ?_)
                   · skip
                     exfalso
                     exact absurd g121 (by decide)
                   refine run_skip <| run_inBlock <| run_inLoop ?_
                   exact ih112 (i + 1) _ w (by omega) hst (by omega) ⟨rfl, rfl, rfl, rfl, trivial⟩ trivial
                 have hpm := ptA_map l (a5 + i)
                 have hge := (not_congr (top_nx (l := (l.map InstP.L)) (p := 5) (a := a5) (i := i) (by omega) (by omega))).1 (fun h => g120 (by rw [← hpm]; exact h.2))
                 have htn : topN (l.map InstP.L) 5 a5 = topR (l.map InstP.L) 5 a5 := if_neg (by decide)
                 have he : a5 + i = a6 := by omega
                 rw [he] at hst
                 refine run_exit (id := 2) rfl ?_
                 exact cut52 (()) _ w (hst) (trivial) ⟨rfl, rfl, rfl, rfl, trivial⟩ trivial
               refine RunD.omit tab113 5 rfl rfl (fun f' L' w' hc => (hc.det (j := 3) rfl rfl rfl rfl).trans (congrArg Value.bool (decide_eq_false g114))) <| RunD.omit tab113 6 rfl rfl (fun f' L' w' hc => (hc.det (j := 3) rfl rfl rfl rfl).trans (congrArg Value.bool (decide_eq_false g114))) <| RunD.omit tab113 7 rfl rfl (fun f' L' w' hc => (hc.det (j := 3) rfl rfl rfl rfl).trans (congrArg Value.bool (decide_eq_false g114))) <| RunD.omit tab113 8 rfl rfl (fun f' L' w' hc => (hc.det (j := 3) rfl rfl rfl rfl).trans (congrArg Value.bool (decide_eq_false g114))) <| RunD.omit tab113 9 rfl rfl (fun f' L' w' hc => (hc.det (j := 3) rfl rfl rfl rfl).trans (congrArg Value.bool (decide_eq_false g114))) <| RunD.omit tab113 10 rfl rfl (fun f' L' w' hc => (hc.det (j := 3) rfl rfl rfl rfl).trans (congrArg Value.bool (decide_eq_false g114))) <| RunD.omit tab113 11 rfl rfl (fun f' L' w' hc => (hc.det (j := 3) rfl rfl rfl rfl).trans (congrArg Value.bool (decide_eq_false g114))) <| RunD.omit tab113 12 rfl rfl (fun f' L' w' hc => (hc.det (j := 3) rfl rfl rfl rfl).trans (congrArg Value.bool (decide_eq_false g114))) <| RunD.omit tab113 13 rfl rfl (fun f' L' w' hc => (hc.det (j := 3) rfl rfl rfl rfl).trans (congrArg Value.bool (decide_eq_false g114))) <| RunD.omit tab113 14 rfl rfl (fun f' L' w' hc => (hc.det (j := 3) rfl rfl rfl rfl).trans (congrArg Value.bool (decide_eq_false g114))) <| RunD.omit tab113 15 rfl rfl (fun f' L' w' hc => (hc.det (j := 3) rfl rfl rfl rfl).trans (congrArg Value.bool (decide_eq_false g114))) <| RunD.omit tab113 16 rfl rfl (fun f' L' w' hc => (hc.det (j := 3) rfl rfl rfl rfl).trans (congrArg Value.bool (decide_eq_false g114))) <| RunD.fin followsMixed tab113 hst rfl (fun f122 w R125 hs123 hd124 hr126 hst => ?_)
               obtain ⟨h12_, r0⟩ := hd124 0 12 rfl rfl
               obtain ⟨h13_, r1⟩ := hd124 1 13 rfl rfl
               obtain ⟨h14_, r2⟩ := hd124 2 14 rfl rfl
               obtain ⟨h15_, r3⟩ := hd124 3 15 rfl rfl
               obtain ⟨h16_, r4⟩ := hd124 4 16 rfl rfl
               obtain ⟨h17_, r5⟩ := hd124 5 17 rfl rfl
               obtain ⟨h18_, r6⟩ := hd124 6 18 rfl rfl
               obtain ⟨h19_, r7⟩ := hd124 7 19 rfl rfl
               obtain ⟨h20_, r8⟩ := hd124 8 20 rfl rfl
               obtain ⟨h21_, r9⟩ := hd124 9 21 rfl rfl
               obtain ⟨h22_, r10⟩ := hd124 10 22 rfl rfl
               obtain ⟨h23_, r11⟩ := hd124 11 23 rfl rfl
               obtain ⟨h24_, r12⟩ := hd124 12 24 rfl rfl
               obtain ⟨h25_, r13⟩ := hd124 13 25 rfl rfl
               obtain ⟨h26_, r14⟩ := hd124 14 26 rfl rfl
               obtain ⟨h27_, r15⟩ := hd124 15 27 rfl rfl
               simp only [show List.range 16 = [0, 1, 2, 3, 4, 5, 6, 7, 8, 9, 10, 11, 12, 13, 14, 15] from rfl, List.flatMap_cons, List.flatMap_nil, List.map_cons, List.map_nil, r0, r1, r2, r3, r4, r5, r6, r7, r8, r9, r10, r11, r12, r13, r14, r15, List.nil_append, List.append_nil, List.cons_append] at hst
               refine RunL.slots (sl := [(0, .pointer (some ⟨_, _, none⟩)), (3, .int .u8 _), (4, .int .i64 _), (5, .int .u8 _), (15, .bool _), (26, _), (27, _)]) ⟨(hs123 0 rfl).trans rfl, (hs123 3 rfl).trans rfl, (hs123 4 rfl).trans rfl, (hs123 5 rfl).trans rfl, h15_, h26_, h27_, trivial⟩ ?_
               clear hs123 hd124 hr126 tab113
               refine OM (t := 15) rfl (congrArg Value.bool (decide_eq_false g114)) rfl <| CN <| Op1.pickF (u := .bool _) (congrArg Value.bool (decide_eq_false g114)) rfl <| NL ?_
               have hpm := ptA_map l (a5 + i)
               have hge := (not_congr (top_nx (l := (l.map InstP.L)) (p := 5) (a := a5) (i := i) (by omega) (by omega))).1 (fun h => g114 h.1)
               have htn : topN (l.map InstP.L) 5 a5 = topR (l.map InstP.L) 5 a5 := if_neg (by decide)
               have he : a5 + i = a6 := by omega
               rw [he] at hst
               refine run_cond_false (congrArg Value.bool (rfl : false = _)) <| run_exit (id := 2) rfl ?_
               exact cut52 (()) _ w (hst) (trivial) ⟨rfl, rfl, rfl, rfl, trivial⟩ trivial
           · skip
             refine run_block <| run_loop <| Run.indW [(0, .pointer (some ⟨_, _, none⟩)), (3, .int .u8 _), (4, .int .i64 _), (5, .int .u8 _)] ⟨rfl, rfl, rfl, rfl, trivial⟩ (fun (i : Nat) => []) (fun (i : Nat) => [CutR 69 bq ao l.length cp (a4 + i) [.int .i64 ((0 : Nat) : Int), .int .i64 (a1 : Int), .int .i64 (a1 : Int), .int .i64 (a2 : Int), .int .i64 (a2 : Int), .int .i64 (a3 : Int), .int .i64 (a3 : Int), .int .i64 (a4 : Int), .int .i64 0, .int .i64 0, .int .i64 0, .int .i64 0, .int .i64 0, .int .i64 0, .int .i64 0, .int .i64 0, .int .i64 0, .int .i64 0, .int .i64 0, .int .i64 0, .slice none 0 0]]) (fun (i : Nat) => i ≤ topR (l.map InstP.L) 4 a4) (fun (i : Nat) => topR (l.map InstP.L) 4 a4 - i) (0) hst (Nat.zero_le _) trivial ?_
             intro i f w hst hJ ih127
             have hti := topR_le (l := (l.map InstP.L)) (p := 4) (k := a4) (by omega)
             refine SQ <| SQ <| RunD.start [] hst (bs := [0, 1, 3, 7, 15, 31, 63, 127, 15, 271, 783, 1807, 4095, 8191, 16383, 15, 65535, 131071]) (ds := [some 12, some 13, some 14, some 15, some 16, some 17, some 18, some 19, some 20, some 21, some 22, some 23, some 24, some 25, some 26, some 27, some 28, some 29]) ⟨by kernel_rfl, by kernel_rfl, by kernel_rfl⟩ (fun tab128 => ?_)
             refine RunD.op (det _) tab128 1 (fun f' L' w' hc => Op1.move (v := .pointer (some ⟨_, _, none⟩)) (hc.old (v := .pointer (some ⟨_, _, none⟩)) rfl rfl rfl) ⟨[], ⟨rfl, rfl⟩, hc.st⟩) <| RunD.op (det _) tab128 2 (fun f' L' w' hc => Op1.call1 (v1 := .pointer (some ⟨_, _, none⟩)) ent40 rfl (hc.det (j := 0) rfl rfl rfl rfl) ((R5ly_next bq l ao cp (a4 + i) [.int .i64 ((0 : Nat) : Int), .int .i64 (a1 : Int), .int .i64 (a1 : Int), .int .i64 (a2 : Int), .int .i64 (a2 : Int), .int .i64 (a3 : Int), .int .i64 (a3 : Int), .int .i64 (a4 : Int), .int .i64 0, .int .i64 0, .int .i64 0, .int .i64 0, .int .i64 0, .int .i64 0, .int .i64 0, .int .i64 0, .int .i64 0, .int .i64 0, .int .i64 0, .int .i64 0, .slice none 0 0] _ (hc.st.hL _ (List.mem_append_right _ (.head _))) (hc.st.hD _ (.head _)) (by omega) hl hla hop).mono fun v w hp => ⟨[], ⟨hp.1, rfl⟩, hc.st.keepc hp.2⟩)) <| RunD.op (det _) tab128 3 (fun f' L' w' hc => Op1.eql (hc.det (j := 1) rfl rfl rfl rfl) rfl ⟨[], ⟨rfl, rfl⟩, hc.st⟩) <| RunD.op (det _) tab128 4 (fun f' L' w' hc => Op1.move (v := .bool _) (hc.det (j := 2) rfl rfl rfl rfl) ⟨[], ⟨rfl, rfl⟩, hc.st⟩) <| RunD.splitD (j := 3) rfl (fun g129 => ?_) (fun g129 => ?_)
             · skip
               have hin := nx_in g129
               refine RunD.take (det _) tab128 5 rfl (fun f' L' w' hc => (hc.det (j := 3) rfl rfl rfl rfl).trans (congrArg Value.bool (decide_eq_true g129))) (fun f' L' w' hc => Op1.move (v := .pointer (some ⟨_, _, none⟩)) (hc.old (v := .pointer (some ⟨_, _, none⟩)) rfl rfl rfl) ⟨[], ⟨rfl, rfl⟩, hc.st⟩) <| RunD.take (det _) tab128 6 rfl (fun f' L' w' hc => (hc.det (j := 3) rfl rfl rfl rfl).trans (congrArg Value.bool (decide_eq_true g129))) (fun f' L' w' hc => Op1.nilCheckP (hc.det (j := 4) rfl rfl rfl rfl) ⟨[], ⟨rfl, rfl⟩, hc.st⟩) <| RunD.take (det _) tab128 7 rfl (fun f' L' w' hc => (hc.det (j := 3) rfl rfl rfl rfl).trans (congrArg Value.bool (decide_eq_true g129))) (fun f' L' w' hc => Op1.fieldAddr fld69_0 (hc.det (j := 5) rfl rfl rfl rfl) ⟨[], ⟨rfl, rfl⟩, hc.st⟩) <| RunD.take (det _) tab128 8 rfl (fun f' L' w' hc => (hc.det (j := 3) rfl rfl rfl rfl).trans (congrArg Value.bool (decide_eq_true g129))) (fun f' L' w' hc => Op1.load1 (v := .slice _ _ _) ty23 rfl (hc.det (j := 6) rfl rfl rfl rfl) (hc.st.cellL (List.mem_append_right _ (.head _)) rfl) ⟨[], ⟨rfl, rfl⟩, hc.st⟩) <| RunD.take (det _) tab128 9 rfl (fun f' L' w' hc => (hc.det (j := 3) rfl rfl rfl rfl).trans (congrArg Value.bool (decide_eq_true g129))) (fun f' L' w' hc => Op1.move (v := .pointer (some ⟨_, _, none⟩)) (hc.old (v := .pointer (some ⟨_, _, none⟩)) rfl rfl rfl) ⟨[], ⟨rfl, rfl⟩, hc.st⟩) <| RunD.take (det _) tab128 10 rfl (fun f' L' w' hc => (hc.det (j := 3) rfl rfl rfl rfl).trans (congrArg Value.bool (decide_eq_true g129))) (fun f' L' w' hc => Op1.nilCheckP (hc.det (j := 8) rfl rfl rfl rfl) ⟨[], ⟨rfl, rfl⟩, hc.st⟩) <| RunD.take (det _) tab128 11 rfl (fun f' L' w' hc => (hc.det (j := 3) rfl rfl rfl rfl).trans (congrArg Value.bool (decide_eq_true g129))) (fun f' L' w' hc => Op1.fieldAddr fld69_1 (hc.det (j := 9) rfl rfl rfl rfl) ⟨[], ⟨rfl, rfl⟩, hc.st⟩) <| RunD.take (det _) tab128 12 rfl (fun f' L' w' hc => (hc.det (j := 3) rfl rfl rfl rfl).trans (congrArg Value.bool (decide_eq_true g129))) (fun f' L' w' hc => Op1.load1 (v := .int .i64 _) ty3 rfl (hc.det (j := 10) rfl rfl rfl rfl) (hc.st.cellL (List.mem_append_right _ (.head _)) rfl) ⟨[], ⟨rfl, rfl⟩, hc.st⟩) <| RunD.take (det _) tab128 13 rfl (fun f' L' w' hc => (hc.det (j := 3) rfl rfl rfl rfl).trans (congrArg Value.bool (decide_eq_true g129))) (fun f' L' w' hc => Op1.indexRs ty23 ty39 (Res.rmod_insts (hc.st.hD _ (.head _))) (hc.det (j := 7) rfl rfl rfl rfl) (hc.det (j := 11) rfl rfl rfl rfl) (by omega) (by omega) ⟨[], ⟨rfl, rfl⟩, hc.st⟩) <| RunD.take (det _) tab128 14 rfl (fun f' L' w' hc => (hc.det (j := 3) rfl rfl rfl rfl).trans (congrArg Value.bool (decide_eq_true g129))) (fun f' L' w' hc => Op1.loadA (vs := [.int .u16 _, .int .u32 _, .int .u32 _, .slice _ _ _]) ty39 rfl (hc.det (j := 12) rfl rfl rfl rfl) rfl (Res.rs2_cells (m := 4) (Res.rmod_insts (hc.st.hD _ (.head _))) _ (flat_seg (g := instC) (d := zeroI) instC_len _ _ (by omega))) ⟨[], ⟨rfl, rfl⟩, hc.st⟩) <| RunD.take (det _) tab128 15 rfl (fun f' L' w' hc => (hc.det (j := 3) rfl rfl rfl rfl).trans (congrArg Value.bool (decide_eq_true g129))) (fun f' L' w' hc => Op1.call1 (v1 := .agg #[.int .u16 _, .int .u32 _, .int .u32 _, .slice _ _ _]) ent51 rfl (hc.det (j := 13) rfl rfl rfl rfl) ((R5ly_part (l.getD (a4 + i) zeroI) (hop _ (getD_memD (by omega))) _ (Res.rmod_argsI (hc.st.hD _ (.head _)) (i := a4 + i) (by omega)) (hla _ (getD_memD (by omega)))).mono fun v w hp => ⟨[], ⟨hp.1, rfl⟩, hc.st.keepc hp.2⟩)) <| RunD.take (det _) tab128 16 rfl (fun f' L' w' hc => (hc.det (j := 3) rfl rfl rfl rfl).trans (congrArg Value.bool (decide_eq_true g129))) (fun f' L' w' hc => Op1.move (v := .int .u8 _) (hc.old (v := .int .u8 _) rfl rfl rfl) ⟨[], ⟨rfl, rfl⟩, hc.st⟩) <| RunD.fin followsMixed tab128 hst rfl (fun f130 w R133 hs131 hd132 hr134 hst => ?_)
               obtain ⟨h12_, r0⟩ := hd132 0 12 rfl rfl
               obtain ⟨h13_, r1⟩ := hd132 1 13 rfl rfl
               obtain ⟨h14_, r2⟩ := hd132 2 14 rfl rfl
               obtain ⟨h15_, r3⟩ := hd132 3 15 rfl rfl
               obtain ⟨h16_, r4⟩ := hd132 4 16 rfl rfl
               obtain ⟨h17_, r5⟩ := hd132 5 17 rfl rfl
               obtain ⟨h18_, r6⟩ := hd132 6 18 rfl rfl
               obtain ⟨h19_, r7⟩ := hd132 7 19 rfl rfl
               obtain ⟨h20_, r8⟩ := hd132 8 20 rfl rfl
               obtain ⟨h21_, r9⟩ := hd132 9 21 rfl rfl
               obtain ⟨h22_, r10⟩ := hd132 10 22 rfl rfl
               obtain ⟨h23_, r11⟩ := hd132 11 23 rfl rfl
               obtain ⟨h24_, r12⟩ := hd132 12 24 rfl rfl
               obtain ⟨h25_, r13⟩ := hd132 13 25 rfl rfl
               obtain ⟨h26_, r14⟩ := hd132 14 26 rfl rfl
               obtain ⟨h27_, r15⟩ := hd132 15 27 rfl rfl
               simp only [show List.range 16 = [0, 1, 2, 3, 4, 5, 6, 7, 8, 9, 10, 11, 12, 13, 14, 15] from rfl, List.flatMap_cons, List.flatMap_nil, List.map_cons, List.map_nil, r0, r1, r2, r3, r4, r5, r6, r7, r8, r9, r10, r11, r12, r13, r14, r15, List.nil_append, List.append_nil, List.cons_append] at hst
               refine RunL.slots (sl := [(0, .pointer (some ⟨_, _, none⟩)), (3, .int .u8 _), (4, .int .i64 _), (5, .int .u8 _), (15, .bool _), (26, .int .u8 _), (27, .int .u8 _)]) ⟨(hs131 0 rfl).trans rfl, (hs131 3 rfl).trans rfl, (hs131 4 rfl).trans rfl, (hs131 5 rfl).trans rfl, h15_, h26_, h27_, trivial⟩ ?_
               clear hs131 hd132 hr134 tab128
               refine TK (t := 15) rfl (congrArg Value.bool (decide_eq_true g129)) <| Op1.eql rfl rfl <| CN <| Op1.pickT (u := .bool _) (congrArg Value.bool (decide_eq_true g129)) rfl <| NL <| run_cond_dec rfl (fun g135 => ?_) (fun g135 => ?_)
               · skip
                 have hpm := ptA_map l (a4 + i)
                 have hlt := (top_nx (l := (l.map InstP.L)) (p := 4) (a := a4) (i := i) (by omega) (by omega)).1 ⟨g129, by rw [hpm]; exact g135⟩
                 refine run_skip <| run_block <| SR <| MP rfl <| CN <| Op1.nilCheckP rfl <| CN <| Op1.fieldAddr fld69_1 rfl <| CN <| Op1.load1 (v := .int .i64 _) ty3 rfl rfl (hst.cellL (.head _) rfl) <| CN <| Op1.addN rfl rfl rfl (wrap_i64 (by omega) (by omega)) <| CN <| Op1.nilCheckP rfl <| CN <| Op1.fieldAddr fld69_1 rfl <| CN (SO (v := .int .i64 _) hst ty3 rfl rfl (.here) fun w hst => ?_)
                 refine NL <| Run.forget [(0, .pointer (some ⟨_, _, none⟩)), (3, .int .u8 _), (4, .int .i64 _), (5, .int .u8 _)] ⟨rfl, rfl, rfl, rfl, trivial⟩ fun f => SR <| MC rfl <| CN <| Op1.eql rfl rfl <| NL <| run_cond_dec rfl (fun g136 => ?_) (fun g136 => ?_)
                 · skip
                   exfalso
                   exact absurd g136 (by decide)
                 refine run_skip <| run_inBlock <| run_inLoop ?_
                 exact ih127 (i + 1) _ w (by omega) hst (by omega) ⟨rfl, rfl, rfl, rfl, trivial⟩ trivial
               have hpm := ptA_map l (a4 + i)
               have hge := (not_congr (top_nx (l := (l.map InstP.L)) (p := 4) (a := a4) (i := i) (by omega) (by omega))).1 (fun h => g135 (by rw [← hpm]; exact h.2))
               have htn : topN (l.map InstP.L) 4 a4 = topR (l.map InstP.L) 4 a4 := if_neg (by decide)
               have he : a4 + i = a5 := by omega
               rw [he] at hst
               refine run_exit (id := 2) rfl ?_
               exact cut42 (()) _ w (hst) (trivial) ⟨rfl, rfl, rfl, rfl, trivial⟩ trivial
             refine RunD.omit tab128 5 rfl rfl (fun f' L' w' hc => (hc.det (j := 3) rfl rfl rfl rfl).trans (congrArg Value.bool (decide_eq_false g129))) <| RunD.omit tab128 6 rfl rfl (fun f' L' w' hc => (hc.det (j := 3) rfl rfl rfl rfl).trans (congrArg Value.bool (decide_eq_false g129))) <| RunD.omit tab128 7 rfl rfl (fun f' L' w' hc => (hc.det (j := 3) rfl rfl rfl rfl).trans (congrArg Value.bool (decide_eq_false g129))) <| RunD.omit tab128 8 rfl rfl (fun f' L' w' hc => (hc.det (j := 3) rfl rfl rfl rfl).trans (congrArg Value.bool (decide_eq_false g129))) <| RunD.omit tab128 9 rfl rfl (fun f' L' w' hc => (hc.det (j := 3) rfl rfl rfl rfl).trans (congrArg Value.bool (decide_eq_false g129))) <| RunD.omit tab128 10 rfl rfl (fun f' L' w' hc => (hc.det (j := 3) rfl rfl rfl rfl).trans (congrArg Value.bool (decide_eq_false g129))) <| RunD.omit tab128 11 rfl rfl (fun f' L' w' hc => (hc.det (j := 3) rfl rfl rfl rfl).trans (congrArg Value.bool (decide_eq_false g129))) <| RunD.omit tab128 12 rfl rfl (fun f' L' w' hc => (hc.det (j := 3) rfl rfl rfl rfl).trans (congrArg Value.bool (decide_eq_false g129))) <| RunD.omit tab128 13 rfl rfl (fun f' L' w' hc => (hc.det (j := 3) rfl rfl rfl rfl).trans (congrArg Value.bool (decide_eq_false g129))) <| RunD.omit tab128 14 rfl rfl (fun f' L' w' hc => (hc.det (j := 3) rfl rfl rfl rfl).trans (congrArg Value.bool (decide_eq_false g129))) <| RunD.omit tab128 15 rfl rfl (fun f' L' w' hc => (hc.det (j := 3) rfl rfl rfl rfl).trans (congrArg Value.bool (decide_eq_false g129))) <| RunD.omit tab128 16 rfl rfl (fun f' L' w' hc => (hc.det (j := 3) rfl rfl rfl rfl).trans (congrArg Value.bool (decide_eq_false g129))) <| RunD.fin followsMixed tab128 hst rfl (fun f137 w R140 hs138 hd139 hr141 hst => ?_)
             obtain ⟨h12_, r0⟩ := hd139 0 12 rfl rfl
             obtain ⟨h13_, r1⟩ := hd139 1 13 rfl rfl
             obtain ⟨h14_, r2⟩ := hd139 2 14 rfl rfl
             obtain ⟨h15_, r3⟩ := hd139 3 15 rfl rfl
             obtain ⟨h16_, r4⟩ := hd139 4 16 rfl rfl
             obtain ⟨h17_, r5⟩ := hd139 5 17 rfl rfl
             obtain ⟨h18_, r6⟩ := hd139 6 18 rfl rfl
             obtain ⟨h19_, r7⟩ := hd139 7 19 rfl rfl
             obtain ⟨h20_, r8⟩ := hd139 8 20 rfl rfl
             obtain ⟨h21_, r9⟩ := hd139 9 21 rfl rfl
             obtain ⟨h22_, r10⟩ := hd139 10 22 rfl rfl
             obtain ⟨h23_, r11⟩ := hd139 11 23 rfl rfl
             obtain ⟨h24_, r12⟩ := hd139 12 24 rfl rfl
             obtain ⟨h25_, r13⟩ := hd139 13 25 rfl rfl
             obtain ⟨h26_, r14⟩ := hd139 14 26 rfl rfl
             obtain ⟨h27_, r15⟩ := hd139 15 27 rfl rfl
             simp only [show List.range 16 = [0, 1, 2, 3, 4, 5, 6, 7, 8, 9, 10, 11, 12, 13, 14, 15] from rfl, List.flatMap_cons, List.flatMap_nil, List.map_cons, List.map_nil, r0, r1, r2, r3, r4, r5, r6, r7, r8, r9, r10, r11, r12, r13, r14, r15, List.nil_append, List.append_nil, List.cons_append] at hst
             refine RunL.slots (sl := [(0, .pointer (some ⟨_, _, none⟩)), (3, .int .u8 _), (4, .int .i64 _), (5, .int .u8 _), (15, .bool _), (26, _), (27, _)]) ⟨(hs138 0 rfl).trans rfl, (hs138 3 rfl).trans rfl, (hs138 4 rfl).trans rfl, (hs138 5 rfl).trans rfl, h15_, h26_, h27_, trivial⟩ ?_
             clear hs138 hd139 hr141 tab128
             refine OM (t := 15) rfl (congrArg Value.bool (decide_eq_false g129)) rfl <| CN <| Op1.pickF (u := .bool _) (congrArg Value.bool (decide_eq_false g129)) rfl <| NL ?_
             have hpm := ptA_map l (a4 + i)
             have hge := (not_congr (top_nx (l := (l.map InstP.L)) (p := 4) (a := a4) (i := i) (by omega) (by omega))).1 (fun h => g129 h.1)
             have htn : topN (l.map InstP.L) 4 a4 = topR (l.map InstP.L) 4 a4 := if_neg (by decide)
             have he : a4 + i = a5 := by omega
             rw [he] at hst
             refine run_cond_false (congrArg Value.bool (rfl : false = _)) <| run_exit (id := 2) rfl ?_
             exact cut42 (()) _ w (hst) (trivial) ⟨rfl, rfl, rfl, rfl, trivial⟩ trivial
         · skip
           refine run_block <| run_loop <| Run.indW [(0, .pointer (some ⟨_, _, none⟩)), (3, .int .u8 _), (4, .int .i64 _), (5, .int .u8 _)] ⟨rfl, rfl, rfl, rfl, trivial⟩ (fun (i : Nat) => []) (fun (i : Nat) => [CutR 69 bq ao l.length cp (a3 + i) [.int .i64 ((0 : Nat) : Int), .int .i64 (a1 : Int), .int .i64 (a1 : Int), .int .i64 (a2 : Int), .int .i64 (a2 : Int), .int .i64 (a3 : Int), .int .i64 0, .int .i64 0, .int .i64 0, .int .i64 0, .int .i64 0, .int .i64 0, .int .i64 0, .int .i64 0, .int .i64 0, .int .i64 0, .int .i64 0, .int .i64 0, .int .i64 0, .int .i64 0, .slice none 0 0]]) (fun (i : Nat) => i ≤ topR (l.map InstP.L) 3 a3) (fun (i : Nat) => topR (l.map InstP.L) 3 a3 - i) (0) hst (Nat.zero_le _) trivial ?_
           intro i f w hst hJ ih142
           have hti := topR_le (l := (l.map InstP.L)) (p := 3) (k := a3) (by omega)
           refine SQ <| SQ <| RunD.start [] hst (bs := [0, 1, 3, 7, 15, 31, 63, 127, 15, 271, 783, 1807, 4095, 8191, 16383, 15, 65535, 131071]) (ds := [some 12, some 13, some 14, some 15, some 16, some 17, some 18, some 19, some 20, some 21, some 22, some 23, some 24, some 25, some 26, some 27, some 28, some 29]) ⟨by kernel_rfl, by kernel_rfl, by kernel_rfl⟩ (fun tab143 => ?_)
           refine RunD.op (det _) tab143 1 (fun f' L' w' hc => Op1.move (v := .pointer (some ⟨_, _, none⟩)) (hc.old (v := .pointer (some ⟨_, _, none⟩)) rfl rfl rfl) ⟨[], ⟨rfl, rfl⟩, hc.st⟩) <| RunD.op (det _) tab143 2 (fun f' L' w' hc => Op1.call1 (v1 := .pointer (some ⟨_, _, none⟩)) ent40 rfl (hc.det (j := 0) rfl rfl rfl rfl) ((R5ly_next bq l ao cp (a3 + i) [.int .i64 ((0 : Nat) : Int), .int .i64 (a1 : Int), .int .i64 (a1 : Int), .int .i64 (a2 : Int), .int .i64 (a2 : Int), .int .i64 (a3 : Int), .int .i64 0, .int .i64 0, .int .i64 0, .int .i64 0, .int .i64 0, .int .i64 0, .int .i64 0, .int .i64 0, .int .i64 0, .int .i64 0, .int .i64 0, .int .i64 0, .int .i64 0, .int .i64 0, .slice none 0 0] _ (hc.st.hL _ (List.mem_append_right _ (.head _))) (hc.st.hD _ (.head _)) (by omega) hl hla hop).mono fun v w hp => ⟨[], ⟨hp.1, rfl⟩, hc.st.keepc hp.2⟩)) <| RunD.op (det _) tab143 3 (fun f' L' w' hc => Op1.eql (hc.det (j := 1) rfl rfl rfl rfl) rfl ⟨[], ⟨rfl, rfl⟩, hc.st⟩) <| RunD.op (det _) tab143 4 (fun f' L' w' hc => Op1.move (v := .bool _) (hc.det (j := 2) rfl rfl rfl rfl) ⟨[], ⟨rfl, rfl⟩, hc.st⟩) <| RunD.splitD (j := 3) rfl (fun g144 => ?_) (fun g144 => ?_)
           · skip
             have hin := nx_in g144
             refine RunD.take (det _) tab143 5 rfl (fun f' L' w' hc => (hc.det (j := 3) rfl rfl rfl rfl).trans (congrArg Value.bool (decide_eq_true g144))) (fun f' L' w' hc => Op1.move (v := .pointer (some ⟨_, _, none⟩)) (hc.old (v := .pointer (some ⟨_, _, none⟩)) rfl rfl rfl) ⟨[], ⟨rfl, rfl⟩, hc.st⟩) <| RunD.take (det _) tab143 6 rfl (fun f' L' w' hc => (hc.det (j := 3) rfl rfl rfl rfl).trans (congrArg Value.bool (decide_eq_true g144))) (fun f' L' w' hc => Op1.nilCheckP (hc.det (j := 4) rfl rfl rfl rfl) ⟨[], ⟨rfl, rfl⟩, hc.st⟩) <| RunD.take (det _) tab143 7 rfl (fun f' L' w' hc => (hc.det (j := 3) rfl rfl rfl rfl).trans (congrArg Value.bool (decide_eq_true g144))) (fun f' L' w' hc => Op1.fieldAddr fld69_0 (hc.det (j := 5) rfl rfl rfl rfl) ⟨[], ⟨rfl, rfl⟩, hc.st⟩) <| RunD.take (det _) tab143 8 rfl (fun f' L' w' hc => (hc.det (j := 3) rfl rfl rfl rfl).trans (congrArg Value.bool (decide_eq_true g144))) (fun f' L' w' hc => Op1.load1 (v := .slice _ _ _) ty23 rfl (hc.det (j := 6) rfl rfl rfl rfl) (hc.st.cellL (List.mem_append_right _ (.head _)) rfl) ⟨[], ⟨rfl, rfl⟩, hc.st⟩) <| RunD.take (det _) tab143 9 rfl (fun f' L' w' hc => (hc.det (j := 3) rfl rfl rfl rfl).trans (congrArg Value.bool (decide_eq_true g144))) (fun f' L' w' hc => Op1.move (v := .pointer (some ⟨_, _, none⟩)) (hc.old (v := .pointer (some ⟨_, _, none⟩)) rfl rfl rfl) ⟨[], ⟨rfl, rfl⟩, hc.st⟩) <| RunD.take (det _) tab143 10 rfl (fun f' L' w' hc => (hc.det (j := 3) rfl rfl rfl rfl).trans (congrArg Value.bool (decide_eq_true g144))) (fun f' L' w' hc => Op1.nilCheckP (hc.det (j := 8) rfl rfl rfl rfl) ⟨[], ⟨rfl, rfl⟩, hc.st⟩) <| RunD.take (det _) tab143 11 rfl (fun f' L' w' hc => (hc.det (j := 3) rfl rfl rfl rfl).trans (congrArg Value.bool (decide_eq_true g144))) (fun f' L' w' hc => Op1.fieldAddr fld69_1 (hc.det (j := 9) rfl rfl rfl rfl) ⟨[], ⟨rfl, rfl⟩, hc.st⟩) <| RunD.take (det _) tab143 12 rfl (fun f' L' w' hc => (hc.det (j := 3) rfl rfl rfl rfl).trans (congrArg Value.bool (decide_eq_true g144))) (fun f' L' w' hc => Op1.load1 (v := .int .i64 _) ty3 rfl (hc.det (j := 10) rfl rfl rfl rfl) (hc.st.cellL (List.mem_append_right _ (.head _)) rfl) ⟨[], ⟨rfl, rfl⟩, hc.st⟩) <| RunD.take (det _) tab143 13 rfl (fun f' L' w' hc => (hc.det (j := 3) rfl rfl rfl rfl).trans (congrArg Value.bool (decide_eq_true g144))) (fun f' L' w' hc => Op1.indexRs ty23 ty39 (Res.rmod_insts (hc.st.hD _ (.head _))) (hc.det (j := 7) rfl rfl rfl rfl) (hc.det (j := 11) rfl rfl rfl rfl) (by omega) (by omega) ⟨[], ⟨rfl, rfl⟩, hc.st⟩) <| RunD.take (det _) tab143 14 rfl (fun f' L' w' hc => (hc.det (j := 3) rfl rfl rfl rfl).trans (congrArg Value.bool (decide_eq_true g144))) (fun f' L' w' hc => Op1.loadA (vs := [.int .u16 _, .int .u32 _, .int .u32 _, .slice _ _ _]) ty39 rfl (hc.det (j := 12) rfl rfl rfl rfl) rfl (Res.rs2_cells (m := 4) (Res.rmod_insts (hc.st.hD _ (.head _))) _ (flat_seg (g := instC) (d := zeroI) instC_len _ _ (by omega))) ⟨[], ⟨rfl, rfl⟩, hc.st⟩) <| RunD.take (det _) tab143 15 rfl (fun f' L' w' hc => (hc.det (j := 3) rfl rfl rfl rfl).trans (congrArg Value.bool (decide_eq_true g144))) (fun f' L' w' hc => Op1.call1 (v1 := .agg #[.int .u16 _, .int .u32 _, .int .u32 _, .slice _ _ _]) ent51 rfl (hc.det (j := 13) rfl rfl rfl rfl) ((R5ly_part (l.getD (a3 + i) zeroI) (hop _ (getD_memD (by omega))) _ (Res.rmod_argsI (hc.st.hD _ (.head _)) (i := a3 + i) (by omega)) (hla _ (getD_memD (by omega)))).mono fun v w hp => ⟨[], ⟨hp.1, rfl⟩, hc.st.keepc hp.2⟩)) <| RunD.take (det _) tab143 16 rfl (fun f' L' w' hc => (hc.det (j := 3) rfl rfl rfl rfl).trans (congrArg Value.bool (decide_eq_true g144))) (fun f' L' w' hc => Op1.move (v := .int .u8 _) (hc.old (v := .int .u8 _) rfl rfl rfl) ⟨[], ⟨rfl, rfl⟩, hc.st⟩) <| RunD.fin followsMixed tab143 hst rfl (fun f145 w R148 hs146 hd147 hr149 hst => ?_)
             obtain ⟨h12_, r0⟩ := hd147 0 12 rfl rfl
             obtain ⟨h13_, r1⟩ := hd147 1 13 rfl rfl
             obtain ⟨h14_, r2⟩ := hd147 2 14 rfl rfl
             obtain ⟨h15_, r3⟩ := hd147 3 15 rfl rfl
             obtain ⟨h16_, r4⟩ := hd147 4 16 rfl rfl
             obtain ⟨h17_, r5⟩ := hd147 5 17 rfl rfl
             obtain ⟨h18_, r6⟩ := hd147 6 18 rfl rfl
             obtain ⟨h19_, r7⟩ := hd147 7 19 rfl rfl
             obtain ⟨h20_, r8⟩ := hd147 8 20 rfl rfl
             obtain ⟨h21_, r9⟩ := hd147 9 21 rfl rfl
             obtain ⟨h22_, r10⟩ := hd147 10 22 rfl rfl
             obtain ⟨h23_, r11⟩ := hd147 11 23 rfl rfl
             obtain ⟨h24_, r12⟩ := hd147 12 24 rfl rfl
             obtain ⟨h25_, r13⟩ := hd147 13 25 rfl rfl
             obtain ⟨h26_, r14⟩ := hd147 14 26 rfl rfl
             obtain ⟨h27_, r15⟩ := hd147 15 27 rfl rfl
             simp only [show List.range 16 = [0, 1, 2, 3, 4, 5, 6, 7, 8, 9, 10, 11, 12, 13, 14, 15] from rfl, List.flatMap_cons, List.flatMap_nil, List.map_cons, List.map_nil, r0, r1, r2, r3, r4, r5, r6, r7, r8, r9, r10, r11, r12, r13, r14, r15, List.nil_append, List.append_nil, List.cons_append] at hst
             refine RunL.slots (sl := [(0, .pointer (some ⟨_, _, none⟩)), (3, .int .u8 _), (4, .int .i64 _), (5, .int .u8 _), (15, .bool _), (26, .int .u8 _), (27, .int .u8 _)]) ⟨(hs146 0 rfl).trans rfl, (hs146 3 rfl).trans rfl, (hs146 4 rfl).trans rfl, (hs146 5 rfl).trans rfl, h15_, h26_, h27_, trivial⟩ ?_
             clear hs146 hd147 hr149 tab143
             refine TK (t := 15) rfl (congrArg Value.bool (decide_eq_true g144)) <| Op1.eql rfl rfl <| CN <| Op1.pickT (u := .bool _) (congrArg Value.bool (decide_eq_true g144)) rfl <| NL <| run_cond_dec rfl (fun g150 => ?_) (fun g150 => ?_)
             · skip
               have hpm := ptA_map l (a3 + i)
               have hlt := (top_nx (l := (l.map InstP.L)) (p := 3) (a := a3) (i := i) (by omega) (by omega)).1 ⟨g144, by rw [hpm]; exact g150⟩
               refine run_skip <| run_block <| SR <| MP rfl <| CN <| Op1.nilCheckP rfl <| CN <| Op1.fieldAddr fld69_1 rfl <| CN <| Op1.load1 (v := .int .i64 _) ty3 rfl rfl (hst.cellL (.head _) rfl) <| CN <| Op1.addN rfl rfl rfl (wrap_i64 (by omega) (by omega)) <| CN <| Op1.nilCheckP rfl <| CN <| Op1.fieldAddr fld69_1 rfl <| CN (SO (v := .int .i64 _) hst ty3 rfl rfl (.here) fun w hst => ?_)
               refine NL <| Run.forget [(0, .pointer (some ⟨_, _, none⟩)), (3, .int .u8 _), (4, .int .i64 _), (5, .int .u8 _)] ⟨rfl, rfl, rfl, rfl, trivial⟩ fun f => SR <| MC rfl <| CN <| Op1.eql rfl rfl <| NL <| run_cond_dec rfl (fun g151 => ?_) (fun g151 => ?_)
               · skip
                 exfalso
                 exact absurd g151 (by decide)
               refine run_skip <| run_inBlock <| run_inLoop ?_
               exact ih142 (i + 1) _ w (by omega) hst (by omega) ⟨rfl, rfl, rfl, rfl, trivial⟩ trivial
             have hpm := ptA_map l (a3 + i)
             have hge := (not_congr (top_nx (l := (l.map InstP.L)) (p := 3) (a := a3) (i := i) (by omega) (by omega))).1 (fun h => g150 (by rw [← hpm]; exact h.2))
             have htn : topN (l.map InstP.L) 3 a3 = topR (l.map InstP.L) 3 a3 := if_neg (by decide)
             have he : a3 + i = a4 := by omega
             rw [he] at hst
             refine run_exit (id := 2) rfl ?_
             exact cut32 (()) _ w (hst) (trivial) ⟨rfl, rfl, rfl, rfl, trivial⟩ trivial
           refine RunD.omit tab143 5 rfl rfl (fun f' L' w' hc => (hc.det (j := 3) rfl rfl rfl rfl).trans (congrArg Value.bool (decide_eq_false g144))) <| RunD.omit tab143 6 rfl rfl (fun f' L' w' hc => (hc.det (j := 3) rfl rfl rfl rfl).trans (congrArg Value.bool (decide_eq_false g144))) <| RunD.omit tab143 7 rfl rfl (fun f' L' w' hc => (hc.det (j := 3) rfl rfl rfl rfl).trans (congrArg Value.bool (decide_eq_false g144))) <| RunD.omit tab143 8 rfl rfl (fun f' L' w' hc => (hc.det (j := 3) rfl rfl rfl rfl).trans (congrArg Value.bool (decide_eq_false g144))) <| RunD.omit tab143 9 rfl rfl (fun f' L' w' hc => (hc.det (j := 3) rfl rfl rfl rfl).trans (congrArg Value.bool (decide_eq_false g144))) <| RunD.omit tab143 10 rfl rfl (fun f' L' w' hc => (hc.det (j := 3) rfl rfl rfl rfl).trans (congrArg Value.bool (decide_eq_false g144))) <| RunD.omit tab143 11 rfl rfl (fun f' L' w' hc => (hc.det (j := 3) rfl rfl rfl rfl).trans (congrArg Value.bool (decide_eq_false g144))) <| RunD.omit tab143 12 rfl rfl (fun f' L' w' hc => (hc.det (j := 3) rfl rfl rfl rfl).trans (congrArg Value.bool (decide_eq_false g144))) <| RunD.omit tab143 13 rfl rfl (fun f' L' w' hc => (hc.det (j := 3) rfl rfl rfl rfl).trans (congrArg Value.bool (decide_eq_false g144))) <| RunD.omit tab143 14 rfl rfl (fun f' L' w' hc => (hc.det (j := 3) rfl rfl rfl rfl).trans (congrArg Value.bool (decide_eq_false g144))) <| RunD.omit tab143 15 rfl rfl (fun f' L' w' hc => (hc.det (j := 3) rfl rfl rfl rfl).trans (congrArg Value.bool (decide_eq_false g144))) <| RunD.omit tab143 16 rfl rfl (fun f' L' w' hc => (hc.det (j := 3) rfl rfl rfl rfl).trans (congrArg Value.bool (decide_eq_false g144))) <| RunD.fin followsMixed tab143 hst rfl (fun f152 w R155 hs153 hd154 hr156 hst => ?_)
           obtain ⟨h12_, r0⟩ := hd154 0 12 rfl rfl
           obtain ⟨h13_, r1⟩ := hd154 1 13 rfl rfl
           obtain ⟨h14_, r2⟩ := hd154 2 14 rfl rfl
           obtain ⟨h15_, r3⟩ := hd154 3 15 rfl rfl
           obtain ⟨h16_, r4⟩ := hd154 4 16 rfl rfl
           obtain ⟨h17_, r5⟩ := hd154 5 17 rfl rfl
           obtain ⟨h18_, r6⟩ := hd154 6 18 rfl rfl
           obtain ⟨h19_, r7⟩ := hd154 7 19 rfl rfl
           obtain ⟨h20_, r8⟩ := hd154 8 20 rfl rfl
           obtain ⟨h21_, r9⟩ := hd154 9 21 rfl rfl
           obtain ⟨h22_, r10⟩ := hd154 10 22 rfl rfl
           obtain ⟨h23_, r11⟩ := hd154 11 23 rfl rfl
           obtain ⟨h24_, r12⟩ := hd154 12 24 rfl rfl
           obtain ⟨h25_, r13⟩ := hd154 13 25 rfl rfl
           obtain ⟨h26_, r14⟩ := hd154 14 26 rfl rfl
           obtain ⟨h27_, r15⟩ := hd154 15 27 rfl rfl
           simp only [show List.range 16 = [0, 1, 2, 3, 4, 5, 6, 7, 8, 9, 10, 11, 12, 13, 14, 15] from rfl, List.flatMap_cons, List.flatMap_nil, List.map_cons, List.map_nil, r0, r1, r2, r3, r4, r5, r6, r7, r8, r9, r10, r11, r12, r13, r14, r15, List.nil_append, List.append_nil, List.cons_append] at hst
           refine RunL.slots (sl := [(0, .pointer (some ⟨_, _, none⟩)), (3, .int .u8 _), (4, .int .i64 _), (5, .int .u8 _), (15, .bool _), (26, _), (27, _)]) ⟨(hs153 0 rfl).trans rfl, (hs153 3 rfl).trans rfl, (hs153 4 rfl).trans rfl, (hs153 5 rfl).trans rfl, h15_, h26_, h27_, trivial⟩ ?_
           clear hs153 hd154 hr156 tab143
           refine OM (t := 15) rfl (congrArg Value.bool (decide_eq_false g144)) rfl <| CN <| Op1.pickF (u := .bool _) (congrArg Value.bool (decide_eq_false g144)) rfl <| NL ?_
           have hpm := ptA_map l (a3 + i)
           have hge := (not_congr (top_nx (l := (l.map InstP.L)) (p := 3) (a := a3) (i := i) (by omega) (by omega))).1 (fun h => g144 h.1)
           have htn : topN (l.map InstP.L) 3 a3 = topR (l.map InstP.L) 3 a3 := if_neg (by decide)
           have he : a3 + i = a4 := by omega
           rw [he] at hst
           refine run_cond_false (congrArg Value.bool (rfl : false = _)) <| run_exit (id := 2) rfl ?_
           exact cut32 (()) _ w (hst) (trivial) ⟨rfl, rfl, rfl, rfl, trivial⟩ trivial
       · skip
         refine run_block <| run_loop <| Run.indW [(0, .pointer (some ⟨_, _, none⟩)), (3, .int .u8 _), (4, .int .i64 _), (5, .int .u8 _)] ⟨rfl, rfl, rfl, rfl, trivial⟩ (fun (i : Nat) => []) (fun (i : Nat) => [CutR 69 bq ao l.length cp (a2 + i) [.int .i64 ((0 : Nat) : Int), .int .i64 (a1 : Int), .int .i64 (a1 : Int), .int .i64 (a2 : Int), .int .i64 0, .int .i64 0, .int .i64 0, .int .i64 0, .int .i64 0, .int .i64 0, .int .i64 0, .int .i64 0, .int .i64 0, .int .i64 0, .int .i64 0, .int .i64 0, .int .i64 0, .int .i64 0, .int .i64 0, .int .i64 0, .slice none 0 0]]) (fun (i : Nat) => i ≤ topR (l.map InstP.L) 2 a2) (fun (i : Nat) => topR (l.map InstP.L) 2 a2 - i) (0) hst (Nat.zero_le _) trivial ?_
         intro i f w hst hJ ih157
         have hti := topR_le (l := (l.map InstP.L)) (p := 2) (k := a2) (by omega)
         refine SQ <| SQ <| RunD.start [] hst (bs := [0, 1, 3, 7, 15, 31, 63, 127, 15, 271, 783, 1807, 4095, 8191, 16383, 15, 65535, 131071]) (ds := [some 12, some 13, some 14, some 15, some 16, some 17, some 18, some 19, some 20, some 21, some 22, some 23, some 24, some 25, some 26, some 27, some 28, some 29]) ⟨by kernel_rfl, by kernel_rfl, by kernel_rfl⟩ (fun tab158 => ?_)
         refine RunD.op (det _) tab158 1 (fun f' L' w' hc => Op1.move (v := .pointer (some ⟨_, _, none⟩)) (hc.old (v := .pointer (some ⟨_, _, none⟩)) rfl rfl rfl) ⟨[], ⟨rfl, rfl⟩, hc.st⟩) <| RunD.op (det _) tab158 2 (fun f' L' w' hc => Op1.call1 (v1 := .pointer (some ⟨_, _, none⟩)) ent40 rfl (hc.det (j := 0) rfl rfl rfl rfl) ((R5ly_next bq l ao cp (a2 + i) [.int .i64 ((0 : Nat) : Int), .int .i64 (a1 : Int), .int .i64 (a1 : Int), .int .i64 (a2 : Int), .int .i64 0, .int .i64 0, .int .i64 0, .int .i64 0, .int .i64 0, .int .i64 0, .int .i64 0, .int .i64 0, .int .i64 0, .int .i64 0, .int .i64 0, .int .i64 0, .int .i64 0, .int .i64 0, .int .i64 0, .int .i64 0, .slice none 0 0] _ (hc.st.hL _ (List.mem_append_right _ (.head _))) (hc.st.hD _ (.head _)) (by omega) hl hla hop).mono fun v w hp => ⟨[], ⟨hp.1, rfl⟩, hc.st.keepc hp.2⟩)) <| RunD.op (det _) tab158 3 (fun f' L' w' hc => Op1.eql (hc.det (j := 1) rfl rfl rfl rfl) rfl ⟨[], ⟨rfl, rfl⟩, hc.st⟩) <| RunD.op (det _) tab158 4 (fun f' L' w' hc => Op1.move (v := .bool _) (hc.det (j := 2) rfl rfl rfl rfl) ⟨[], ⟨rfl, rfl⟩, hc.st⟩) <| RunD.splitD (j := 3) rfl (fun g159 => ?_) (fun g159 => ?_)
         · skip
           have hin := nx_in g159
           refine RunD.take (det _) tab158 5 rfl (fun f' L' w' hc => (hc.det (j := 3) rfl rfl rfl rfl).trans (congrArg Value.bool (decide_eq_true g159))) (fun f' L' w' hc => Op1.move (v := .pointer (some ⟨_, _, none⟩)) (hc.old (v := .pointer (some ⟨_, _, none⟩)) rfl rfl rfl) ⟨[], ⟨rfl, rfl⟩, hc.st⟩) <| RunD.take (det _) tab158 6 rfl (fun f' L' w' hc => (hc.det (j := 3) rfl rfl rfl rfl).trans (congrArg Value.bool (decide_eq_true g159))) (fun f' L' w' hc => Op1.nilCheckP (hc.det (j := 4) rfl rfl rfl rfl) ⟨[], ⟨rfl, rfl⟩, hc.st⟩) <| RunD.take (det _) tab158 7 rfl (fun f' L' w' hc => (hc.det (j := 3) rfl rfl rfl rfl).trans (congrArg Value.bool (decide_eq_true g159))) (fun f' L' w' hc => Op1.fieldAddr fld69_0 (hc.det (j := 5) rfl rfl rfl rfl) ⟨[], ⟨rfl, rfl⟩, hc.st⟩) <| RunD.take (det _) tab158 8 rfl (fun f' L' w' hc => (hc.det (j := 3) rfl rfl rfl rfl).trans (congrArg Value.bool (decide_eq_true g159))) (fun f' L' w' hc => Op1.load1 (v := .slice _ _ _) ty23 rfl (hc.det (j := 6) rfl rfl rfl rfl) (hc.st.cellL (List.mem_append_right _ (.head _)) rfl) ⟨[], ⟨rfl, rfl⟩, hc.st⟩) <| RunD.take (det _) tab158 9 rfl (fun f' L' w' hc => (hc.det (j := 3) rfl rfl rfl rfl).trans (congrArg Value.bool (decide_eq_true g159))) (fun f' L' w' hc => Op1.move (v := .pointer (some ⟨_, _, none⟩)) (hc.old (v := .pointer (some ⟨_, _, none⟩)) rfl rfl rfl) ⟨[], ⟨rfl, rfl⟩, hc.st⟩) <| RunD.take (det _) tab158 10 rfl (fun f' L' w' hc => (hc.det (j := 3) rfl rfl rfl rfl).trans (congrArg Value.bool (decide_eq_true g159))) (fun f' L' w' hc => Op1.nilCheckP (hc.det (j := 8) rfl rfl rfl rfl) ⟨[], ⟨rfl, rfl⟩, hc.st⟩) <| RunD.take (det _) tab158 11 rfl (fun f' L' w' hc => (hc.det (j := 3) rfl rfl rfl rfl).trans (congrArg Value.bool (decide_eq_true g159))) (fun f' L' w' hc => Op1.fieldAddr fld69_1 (hc.det (j := 9) rfl rfl rfl rfl) ⟨[], ⟨rfl, rfl⟩, hc.st⟩) <| RunD.take (det _) tab158 12 rfl (fun f' L' w' hc => (hc.det (j := 3) rfl rfl rfl rfl).trans (congrArg Value.bool (decide_eq_true g159))) (fun f' L' w' hc => Op1.load1 (v := .int .i64 _) ty3 rfl (hc.det (j := 10) rfl rfl rfl rfl) (hc.st.cellL (List.mem_append_right _ (.head _)) rfl) ⟨[], ⟨rfl, rfl⟩, hc.st⟩) <| RunD.take (det _) tab158 13 rfl (fun f' L' w' hc => (hc.det (j := 3) rfl rfl rfl rfl).trans (congrArg Value.bool (decide_eq_true g159))) (fun f' L' w' hc => Op1.indexRs ty23 ty39 (Res.rmod_insts (hc.st.hD _ (.head _))) (hc.det (j := 7) rfl rfl rfl rfl) (hc.det (j := 11) rfl rfl rfl rfl) (by omega) (by omega) ⟨[], ⟨rfl, rfl⟩, hc.st⟩) <| RunD.take (det _) tab158 14 rfl (fun f' L' w' hc => (hc.det (j := 3) rfl rfl rfl rfl).trans (congrArg Value.bool (decide_eq_true g159))) (fun f' L' w' hc => Op1.loadA (vs := [.int .u16 _, .int .u32 _, .int .u32 _, .slice _ _ _]) ty39 rfl (hc.det (j := 12) rfl rfl rfl rfl) rfl (Res.rs2_cells (m := 4) (Res.rmod_insts (hc.st.hD _ (.head _))) _ (flat_seg (g := instC) (d := zeroI) instC_len _ _ (by omega))) ⟨[], ⟨rfl, rfl⟩, hc.st⟩) <| RunD.take (det _) tab158 15 rfl (fun f' L' w' hc => (hc.det (j := 3) rfl rfl rfl rfl).trans (congrArg Value.bool (decide_eq_true g159))) (fun f' L' w' hc => Op1.call1 (v1 := .agg #[.int .u16 _, .int .u32 _, .int .u32 _, .slice _ _ _]) ent51 rfl (hc.det (j := 13) rfl rfl rfl rfl) ((R5ly_part (l.getD (a2 + i) zeroI) (hop _ (getD_memD (by omega))) _ (Res.rmod_argsI (hc.st.hD _ (.head _)) (i := a2 + i) (by omega)) (hla _ (getD_memD (by omega)))).mono fun v w hp => ⟨[], ⟨hp.1, rfl⟩, hc.st.keepc hp.2⟩)) <| RunD.take (det _) tab158 16 rfl (fun f' L' w' hc => (hc.det (j := 3) rfl rfl rfl rfl).trans (congrArg Value.bool (decide_eq_true g159))) (fun f' L' w' hc => Op1.move (v := .int .u8 _) (hc.old (v := .int .u8 _) rfl rfl rfl) ⟨[], ⟨rfl, rfl⟩, hc.st⟩) <| RunD.fin followsMixed tab158 hst rfl (fun f160 w R163 hs161 hd162 hr164 hst => ?_)
           obtain ⟨h12_, r0⟩ := hd162 0 12 rfl rfl
           obtain ⟨h13_, r1⟩ := hd162 1 13 rfl rfl
           obtain ⟨h14_, r2⟩ := hd162 2 14 rfl rfl
           obtain ⟨h15_, r3⟩ := hd162 3 15 rfl rfl
           obtain ⟨h16_, r4⟩ := hd162 4 16 rfl rfl
           obtain ⟨h17_, r5⟩ := hd162 5 17 rfl rfl
           obtain ⟨h18_, r6⟩ := hd162 6 18 rfl rfl
           obtain ⟨h19_, r7⟩ := hd162 7 19 rfl rfl
           obtain ⟨h20_, r8⟩ := hd162 8 20 rfl rfl
           obtain ⟨h21_, r9⟩ := hd162 9 21 rfl rfl
           obtain ⟨h22_, r10⟩ := hd162 10 22 rfl rfl
           obtain ⟨h23_, r11⟩ := hd162 11 23 rfl rfl
           obtain ⟨h24_, r12⟩ := hd162 12 24 rfl rfl
           obtain ⟨h25_, r13⟩ := hd162 13 25 rfl rfl
           obtain ⟨h26_, r14⟩ := hd162 14 26 rfl rfl
           obtain ⟨h27_, r15⟩ := hd162 15 27 rfl rfl
           simp only [show List.range 16 = [0, 1, 2, 3, 4, 5, 6, 7, 8, 9, 10, 11, 12, 13, 14, 15] from rfl, List.flatMap_cons, List.flatMap_nil, List.map_cons, List.map_nil, r0, r1, r2, r3, r4, r5, r6, r7, r8, r9, r10, r11, r12, r13, r14, r15, List.nil_append, List.append_nil, List.cons_append] at hst
           refine RunL.slots (sl := [(0, .pointer (some ⟨_, _, none⟩)), (3, .int .u8 _), (4, .int .i64 _), (5, .int .u8 _), (15, .bool _), (26, .int .u8 _), (27, .int .u8 _)]) ⟨(hs161 0 rfl).trans rfl, (hs161 3 rfl).trans rfl, (hs161 4 rfl).trans rfl, (hs161 5 rfl).trans rfl, h15_, h26_, h27_, trivial⟩ ?_
           clear hs161 hd162 hr164 tab158
           refine TK (t := 15) rfl (congrArg Value.bool (decide_eq_true g159)) <| Op1.eql rfl rfl <| CN <| Op1.pickT (u := .bool _) (congrArg Value.bool (decide_eq_true g159)) rfl <| NL <| run_cond_dec rfl (fun g165 => ?_) (fun g165 => ?_)
           · skip
             have hpm := ptA_map l (a2 + i)
             have hlt := (top_nx (l := (l.map InstP.L)) (p := 2) (a := a2) (i := i) (by omega) (by omega)).1 ⟨g159, by rw [hpm]; exact g165⟩
             refine run_skip <| run_block <| SR <| MP rfl <| CN <| Op1.nilCheckP rfl <| CN <| Op1.fieldAddr fld69_1 rfl <| CN <| Op1.load1 (v := .int .i64 _) ty3 rfl rfl (hst.cellL (.head _) rfl) <| CN <| Op1.addN rfl rfl rfl (wrap_i64 (by omega) (by omega)) <| CN <| Op1.nilCheckP rfl <| CN <| Op1.fieldAddr fld69_1 rfl <| CN (SO (v := .int .i64 _) hst ty3 rfl rfl (.here) fun w hst => ?_)
             refine NL <| Run.forget [(0, .pointer (some ⟨_, _, none⟩)), (3, .int .u8 _), (4, .int .i64 _), (5, .int .u8 _)] ⟨rfl, rfl, rfl, rfl, trivial⟩ fun f => SR <| MC rfl <| CN <| Op1.eql rfl rfl <| NL <| run_cond_dec rfl (fun g166 => ?_) (fun g166 => ?_)
             · skip
               exfalso
               exact absurd g166 (by decide)
             refine run_skip <| run_inBlock <| run_inLoop ?_
             exact ih157 (i + 1) _ w (by omega) hst (by omega) ⟨rfl, rfl, rfl, rfl, trivial⟩ trivial
           have hpm := ptA_map l (a2 + i)
           have hge := (not_congr (top_nx (l := (l.map InstP.L)) (p := 2) (a := a2) (i := i) (by omega) (by omega))).1 (fun h => g165 (by rw [← hpm]; exact h.2))
           have htn : topN (l.map InstP.L) 2 a2 = topR (l.map InstP.L) 2 a2 := if_neg (by decide)
           have he : a2 + i = a3 := by omega
           rw [he] at hst
           refine run_exit (id := 2) rfl ?_
           exact cut22 (()) _ w (hst) (trivial) ⟨rfl, rfl, rfl, rfl, trivial⟩ trivial
         refine RunD.omit tab158 5 rfl rfl (fun f' L' w' hc => (hc.det (j := 3) rfl rfl rfl rfl).trans (congrArg Value.bool (decide_eq_false g159))) <| RunD.omit tab158 6 rfl rfl (fun f' L' w' hc => (hc.det (j := 3) rfl rfl rfl rfl).trans (congrArg Value.bool (decide_eq_false g159))) <| RunD.omit tab158 7 rfl rfl (fun f' L' w' hc => (hc.det (j := 3) rfl rfl rfl rfl).trans (congrArg Value.bool (decide_eq_false g159))) <| RunD.omit tab158 8 rfl rfl (fun f' L' w' hc => (hc.det (j := 3) rfl rfl rfl rfl).trans (congrArg Value.bool (decide_eq_false g159))) <| RunD.omit tab158 9 rfl rfl (fun f' L' w' hc => (hc.det (j := 3) rfl rfl rfl rfl).trans (congrArg Value.bool (decide_eq_false g159))) <| RunD.omit tab158 10 rfl rfl (fun f' L' w' hc => (hc.det (j := 3) rfl rfl rfl rfl).trans (congrArg Value.bool (decide_eq_false g159))) <| RunD.omit tab158 11 rfl rfl (fun f' L' w' hc => (hc.det (j := 3) rfl rfl rfl rfl).trans (congrArg Value.bool (decide_eq_false g159))) <| RunD.omit tab158 12 rfl rfl (fun f' L' w' hc => (hc.det (j := 3) rfl rfl rfl rfl).trans (congrArg Value.bool (decide_eq_false g159))) <| RunD.omit tab158 13 rfl rfl (fun f' L' w' hc => (hc.det (j := 3) rfl rfl rfl rfl).trans (congrArg Value.bool (decide_eq_false g159))) <| RunD.omit tab158 14 rfl rfl (fun f' L' w' hc => (hc.det (j := 3) rfl rfl rfl rfl).trans (congrArg Value.bool (decide_eq_false g159))) <| RunD.omit tab158 15 rfl rfl (fun f' L' w' hc => (hc.det (j := 3) rfl rfl rfl rfl).trans (congrArg Value.bool (decide_eq_false g159))) <| RunD.omit tab158 16 rfl rfl (fun f' L' w' hc => (hc.det (j := 3) rfl rfl rfl rfl).trans (congrArg Value.bool (decide_eq_false g159))) <| RunD.fin followsMixed tab158 hst rfl (fun f167 w R170 hs168 hd169 hr171 hst => ?_)
         obtain ⟨h12_, r0⟩ := hd169 0 12 rfl rfl
         obtain ⟨h13_, r1⟩ := hd169 1 13 rfl rfl
         obtain ⟨h14_, r2⟩ := hd169 2 14 rfl rfl
         obtain ⟨h15_, r3⟩ := hd169 3 15 rfl rfl
         obtain ⟨h16_, r4⟩ := hd169 4 16 rfl rfl
         obtain ⟨h17_, r5⟩ := hd169 5 17 rfl rfl
         obtain ⟨h18_, r6⟩ := hd169 6 18 rfl rfl
         obtain ⟨h19_, r7⟩ := hd169 7 19 rfl rfl
         obtain ⟨h20_, r8⟩ := hd169 8 20 rfl rfl
         obtain ⟨h21_, r9⟩ := hd169 9 21 rfl rfl
         obtain ⟨h22_, r10⟩ := hd169 10 22 rfl rfl
         obtain ⟨h23_, r11⟩ := hd169 11 23 rfl rfl
         obtain ⟨h24_, r12⟩ := hd169 12 24 rfl rfl
         obtain ⟨h25_, r13⟩ := hd169 13 25 rfl rfl
         obtain ⟨h26_, r14⟩ := hd169 14 26 rfl rfl
         obtain ⟨h27_, r15⟩ := hd169 15 27 rfl rfl
         simp only [show List.range 16 = [0, 1, 2, 3, 4, 5, 6, 7, 8, 9, 10, 11, 12, 13, 14, 15] from rfl, List.flatMap_cons, List.flatMap_nil, List.map_cons, List.map_nil, r0, r1, r2, r3, r4, r5, r6, r7, r8, r9, r10, r11, r12, r13, r14, r15, List.nil_append, List.append_nil, List.cons_append] at hst
         refine RunL.slots (sl := [(0, .pointer (some ⟨_, _, none⟩)), (3, .int .u8 _), (4, .int .i64 _), (5, .int .u8 _), (15, .bool _), (26, _), (27, _)]) ⟨(hs168 0 rfl).trans rfl, (hs168 3 rfl).trans rfl, (hs168 4 rfl).trans rfl, (hs168 5 rfl).trans rfl, h15_, h26_, h27_, trivial⟩ ?_
         clear hs168 hd169 hr171 tab158
         refine OM (t := 15) rfl (congrArg Value.bool (decide_eq_false g159)) rfl <| CN <| Op1.pickF (u := .bool _) (congrArg Value.bool (decide_eq_false g159)) rfl <| NL ?_
         have hpm := ptA_map l (a2 + i)
         have hge := (not_congr (top_nx (l := (l.map InstP.L)) (p := 2) (a := a2) (i := i) (by omega) (by omega))).1 (fun h => g159 h.1)
         have htn : topN (l.map InstP.L) 2 a2 = topR (l.map InstP.L) 2 a2 := if_neg (by decide)
         have he : a2 + i = a3 := by omega
         rw [he] at hst
         refine run_cond_false (congrArg Value.bool (rfl : false = _)) <| run_exit (id := 2) rfl ?_
         exact cut22 (()) _ w (hst) (trivial) ⟨rfl, rfl, rfl, rfl, trivial⟩ trivial
     exfalso
     exact g20 rfl
   · skip
     refine run_block <| run_loop <| Run.indW [(0, .pointer (some ⟨_, _, none⟩)), (3, .int .u8 _), (4, .int .i64 _), (5, .int .u8 _)] ⟨rfl, rfl, rfl, rfl, trivial⟩ (fun (i : Nat) => []) (fun (i : Nat) => [CutR 69 bq ao l.length cp (a1 + i) [.int .i64 ((0 : Nat) : Int), .int .i64 (a1 : Int), .int .i64 0, .int .i64 0, .int .i64 0, .int .i64 0, .int .i64 0, .int .i64 0, .int .i64 0, .int .i64 0, .int .i64 0, .int .i64 0, .int .i64 0, .int .i64 0, .int .i64 0, .int .i64 0, .int .i64 0, .int .i64 0, .int .i64 0, .int .i64 0, .slice none 0 0]]) (fun (i : Nat) => i = 0) (fun (i : Nat) => 0) (0) hst rfl trivial ?_
     intro i f w hst hJ ih172
     refine SQ <| SQ <| RunD.start [] hst (bs := [0, 1, 3, 7, 15, 31, 63, 127, 15, 271, 783, 1807, 4095, 8191, 16383, 15, 65535, 131071]) (ds := [some 12, some 13, some 14, some 15, some 16, some 17, some 18, some 19, some 20, some 21, some 22, some 23, some 24, some 25, some 26, some 27, some 28, some 29]) ⟨by kernel_rfl, by kernel_rfl, by kernel_rfl⟩ (fun tab173 => ?_)
     refine RunD.op (det _) tab173 1 (fun f' L' w' hc => Op1.move (v := .pointer (some ⟨_, _, none⟩)) (hc.old (v := .pointer (some ⟨_, _, none⟩)) rfl rfl rfl) ⟨[], ⟨rfl, rfl⟩, hc.st⟩) <| RunD.op (det _) tab173 2 (fun f' L' w' hc => Op1.call1 (v1 := .pointer (some ⟨_, _, none⟩)) ent40 rfl (hc.det (j := 0) rfl rfl rfl rfl) ((R5ly_next bq l ao cp (a1 + i) [.int .i64 ((0 : Nat) : Int), .int .i64 (a1 : Int), .int .i64 0, .int .i64 0, .int .i64 0, .int .i64 0, .int .i64 0, .int .i64 0, .int .i64 0, .int .i64 0, .int .i64 0, .int .i64 0, .int .i64 0, .int .i64 0, .int .i64 0, .int .i64 0, .int .i64 0, .int .i64 0, .int .i64 0, .int .i64 0, .slice none 0 0] _ (hc.st.hL _ (List.mem_append_right _ (.head _))) (hc.st.hD _ (.head _)) (by omega) hl hla hop).mono fun v w hp => ⟨[], ⟨hp.1, rfl⟩, hc.st.keepc hp.2⟩)) <| RunD.op (det _) tab173 3 (fun f' L' w' hc => Op1.eql (hc.det (j := 1) rfl rfl rfl rfl) rfl ⟨[], ⟨rfl, rfl⟩, hc.st⟩) <| RunD.op (det _) tab173 4 (fun f' L' w' hc => Op1.move (v := .bool _) (hc.det (j := 2) rfl rfl rfl rfl) ⟨[], ⟨rfl, rfl⟩, hc.st⟩) <| RunD.splitD (j := 3) rfl (fun g174 => ?_) (fun g174 => ?_)
     · skip
       have hin := nx_in g174
       refine RunD.take (det _) tab173 5 rfl (fun f' L' w' hc => (hc.det (j := 3) rfl rfl rfl rfl).trans (congrArg Value.bool (decide_eq_true g174))) (fun f' L' w' hc => Op1.move (v := .pointer (some ⟨_, _, none⟩)) (hc.old (v := .pointer (some ⟨_, _, none⟩)) rfl rfl rfl) ⟨[], ⟨rfl, rfl⟩, hc.st⟩) <| RunD.take (det _) tab173 6 rfl (fun f' L' w' hc => (hc.det (j := 3) rfl rfl rfl rfl).trans (congrArg Value.bool (decide_eq_true g174))) (fun f' L' w' hc => Op1.nilCheckP (hc.det (j := 4) rfl rfl rfl rfl) ⟨[], ⟨rfl, rfl⟩, hc.st⟩) <| RunD.take (det _) tab173 7 rfl (fun f' L' w' hc => (hc.det (j := 3) rfl rfl rfl rfl).trans (congrArg Value.bool (decide_eq_true g174))) (fun f' L' w' hc => Op1.fieldAddr fld69_0 (hc.det (j := 5) rfl rfl rfl rfl) ⟨[], ⟨rfl, rfl⟩, hc.st⟩) <| RunD.take (det _) tab173 8 rfl (fun f' L' w' hc => (hc.det (j := 3) rfl rfl rfl rfl).trans (congrArg Value.bool (decide_eq_true g174))) (fun f' L' w' hc => Op1.load1 (v := .slice _ _ _) ty23 rfl (hc.det (j := 6) rfl rfl rfl rfl) (hc.st.cellL (List.mem_append_right _ (.head _)) rfl) ⟨[], ⟨rfl, rfl⟩, hc.st⟩) <| RunD.take (det _) tab173 9 rfl (fun f' L' w' hc => (hc.det (j := 3) rfl rfl rfl rfl).trans (congrArg Value.bool (decide_eq_true g174))) (fun f' L' w' hc => Op1.move (v := .pointer (some ⟨_, _, none⟩)) (hc.old (v := .pointer (some ⟨_, _, none⟩)) rfl rfl rfl) ⟨[], ⟨rfl, rfl⟩, hc.st⟩) <| RunD.take (det _) tab173 10 rfl (fun f' L' w' hc => (hc.det (j := 3) rfl rfl rfl rfl).trans (congrArg Value.bool (decide_eq_true g174))) (fun f' L' w' hc => Op1.nilCheckP (hc.det (j := 8) rfl rfl rfl rfl) ⟨[], ⟨rfl, rfl⟩, hc.st⟩) <| RunD.take (det _) tab173 11 rfl (fun f' L' w' hc => (hc.det (j := 3) rfl rfl rfl rfl).trans (congrArg Value.bool (decide_eq_true g174))) (fun f' L' w' hc => Op1.fieldAddr fld69_1 (hc.det (j := 9) rfl rfl rfl rfl) ⟨[], ⟨rfl, rfl⟩, hc.st⟩) <| RunD.take (det _) tab173 12 rfl (fun f' L' w' hc => (hc.det (j := 3) rfl rfl rfl rfl).trans (congrArg Value.bool (decide_eq_true g174))) (fun f' L' w' hc => Op1.load1 (v := .int .i64 _) ty3 rfl (hc.det (j := 10) rfl rfl rfl rfl) (hc.st.cellL (List.mem_append_right _ (.head _)) rfl) ⟨[], ⟨rfl, rfl⟩, hc.st⟩) <| RunD.take (det _) tab173 13 rfl (fun f' L' w' hc => (hc.det (j := 3) rfl rfl rfl rfl).trans (congrArg Value.bool (decide_eq_true g174))) (fun f' L' w' hc => Op1.indexRs ty23 ty39 (Res.rmod_insts (hc.st.hD _ (.head _))) (hc.det (j := 7) rfl rfl rfl rfl) (hc.det (j := 11) rfl rfl rfl rfl) (by omega) (by omega) ⟨[], ⟨rfl, rfl⟩, hc.st⟩) <| RunD.take (det _) tab173 14 rfl (fun f' L' w' hc => (hc.det (j := 3) rfl rfl rfl rfl).trans (congrArg Value.bool (decide_eq_true g174))) (fun f' L' w' hc => Op1.loadA (vs := [.int .u16 _, .int .u32 _, .int .u32 _, .slice _ _ _]) ty39 rfl (hc.det (j := 12) rfl rfl rfl rfl) rfl (Res.rs2_cells (m := 4) (Res.rmod_insts (hc.st.hD _ (.head _))) _ (flat_seg (g := instC) (d := zeroI) instC_len _ _ (by omega))) ⟨[], ⟨rfl, rfl⟩, hc.st⟩) <| RunD.take (det _) tab173 15 rfl (fun f' L' w' hc => (hc.det (j := 3) rfl rfl rfl rfl).trans (congrArg Value.bool (decide_eq_true g174))) (fun f' L' w' hc => Op1.call1 (v1 := .agg #[.int .u16 _, .int .u32 _, .int .u32 _, .slice _ _ _]) ent51 rfl (hc.det (j := 13) rfl rfl rfl rfl) ((R5ly_part (l.getD (a1 + i) zeroI) (hop _ (getD_memD (by omega))) _ (Res.rmod_argsI (hc.st.hD _ (.head _)) (i := a1 + i) (by omega)) (hla _ (getD_memD (by omega)))).mono fun v w hp => ⟨[], ⟨hp.1, rfl⟩, hc.st.keepc hp.2⟩)) <| RunD.take (det _) tab173 16 rfl (fun f' L' w' hc => (hc.det (j := 3) rfl rfl rfl rfl).trans (congrArg Value.bool (decide_eq_true g174))) (fun f' L' w' hc => Op1.move (v := .int .u8 _) (hc.old (v := .int .u8 _) rfl rfl rfl) ⟨[], ⟨rfl, rfl⟩, hc.st⟩) <| RunD.fin followsMixed tab173 hst rfl (fun f175 w R178 hs176 hd177 hr179 hst => ?_)
       obtain ⟨h12_, r0⟩ := hd177 0 12 rfl rfl
       obtain ⟨h13_, r1⟩ := hd177 1 13 rfl rfl
       obtain ⟨h14_, r2⟩ := hd177 2 14 rfl rfl
       obtain ⟨h15_, r3⟩ := hd177 3 15 rfl rfl
       obtain ⟨h16_, r4⟩ := hd177 4 16 rfl rfl
       obtain ⟨h17_, r5⟩ := hd177 5 17 rfl rfl
       obtain ⟨h18_, r6⟩ := hd177 6 18 rfl rfl
       obtain ⟨h19_, r7⟩ := hd177 7 19 rfl rfl
       obtain ⟨h20_, r8⟩ := hd177 8 20 rfl rfl
       obtain ⟨h21_, r9⟩ := hd177 9 21 rfl rfl
       obtain ⟨h22_, r10⟩ := hd177 10 22 rfl rfl
       obtain ⟨h23_, r11⟩ := hd177 11 23 rfl rfl
       obtain ⟨h24_, r12⟩ := hd177 12 24 rfl rfl
       obtain ⟨h25_, r13⟩ := hd177 13 25 rfl rfl
       obtain ⟨h26_, r14⟩ := hd177 14 26 rfl rfl
       obtain ⟨h27_, r15⟩ := hd177 15 27 rfl rfl
       simp only [show List.range 16 = [0, 1, 2, 3, 4, 5, 6, 7, 8, 9, 10, 11, 12, 13, 14, 15] from rfl, List.flatMap_cons, List.flatMap_nil, List.map_cons, List.map_nil, r0, r1, r2, r3, r4, r5, r6, r7, r8, r9, r10, r11, r12, r13, r14, r15, List.nil_append, List.append_nil, List.cons_append] at hst
       refine RunL.slots (sl := [(0, .pointer (some ⟨_, _, none⟩)), (3, .int .u8 _), (4, .int .i64 _), (5, .int .u8 _), (15, .bool _), (26, .int .u8 _), (27, .int .u8 _)]) ⟨(hs176 0 rfl).trans rfl, (hs176 3 rfl).trans rfl, (hs176 4 rfl).trans rfl, (hs176 5 rfl).trans rfl, h15_, h26_, h27_, trivial⟩ ?_
       clear hs176 hd177 hr179 tab173
       refine TK (t := 15) rfl (congrArg Value.bool (decide_eq_true g174)) <| Op1.eql rfl rfl <| CN <| Op1.pickT (u := .bool _) (congrArg Value.bool (decide_eq_true g174)) rfl <| NL <| run_cond_dec rfl (fun g180 => ?_) (fun g180 => ?_)
       · skip
         have hpm := ptA_map l (a1 + i)
         have hlt := (top_nx (l := (l.map InstP.L)) (p := 1) (a := a1) (i := i) (by omega) (by omega)).1 ⟨g174, by rw [hpm]; exact g180⟩
         refine run_skip <| run_block <| SR <| MP rfl <| CN <| Op1.nilCheckP rfl <| CN <| Op1.fieldAddr fld69_1 rfl <| CN <| Op1.load1 (v := .int .i64 _) ty3 rfl rfl (hst.cellL (.head _) rfl) <| CN <| Op1.addN rfl rfl rfl (wrap_i64 (by omega) (by omega)) <| CN <| Op1.nilCheckP rfl <| CN <| Op1.fieldAddr fld69_1 rfl <| CN (SO (v := .int .i64 _) hst ty3 rfl rfl (.here) fun w hst => ?_)
         refine NL <| Run.forget [(0, .pointer (some ⟨_, _, none⟩)), (3, .int .u8 _), (4, .int .i64 _), (5, .int .u8 _)] ⟨rfl, rfl, rfl, rfl, trivial⟩ fun f => SR <| MC rfl <| CN <| Op1.eql rfl rfl <| NL <| run_cond_dec rfl (fun g181 => ?_) (fun g181 => ?_)
         · skip
           have htn : topN (l.map InstP.L) 1 a1 = 1 := by unfold topN; rw [if_pos rfl]; omega
           have he : ((a1 + i : Nat) : Int) + 1 = (a2 : Int) := by omega
           rw [he] at hst
           refine run_exit (id := 2) rfl ?_
           exact cut11 (()) _ w (hst) (trivial) ⟨rfl, rfl, rfl, rfl, trivial⟩ trivial
         exfalso
         exact g181 rfl
       have hpm := ptA_map l (a1 + i)
       have hge := (not_congr (top_nx (l := (l.map InstP.L)) (p := 1) (a := a1) (i := i) (by omega) (by omega))).1 (fun h => g180 (by rw [← hpm]; exact h.2))
       have htn : topN (l.map InstP.L) 1 a1 = 0 := by unfold topN; rw [if_pos rfl]; omega
       have he : a1 + i = a2 := by omega
       rw [he] at hst
       refine run_exit (id := 2) rfl ?_
       exact cut11 (()) _ w (hst) (trivial) ⟨rfl, rfl, rfl, rfl, trivial⟩ trivial
     refine RunD.omit tab173 5 rfl rfl (fun f' L' w' hc => (hc.det (j := 3) rfl rfl rfl rfl).trans (congrArg Value.bool (decide_eq_false g174))) <| RunD.omit tab173 6 rfl rfl (fun f' L' w' hc => (hc.det (j := 3) rfl rfl rfl rfl).trans (congrArg Value.bool (decide_eq_false g174))) <| RunD.omit tab173 7 rfl rfl (fun f' L' w' hc => (hc.det (j := 3) rfl rfl rfl rfl).trans (congrArg Value.bool (decide_eq_false g174))) <| RunD.omit tab173 8 rfl rfl (fun f' L' w' hc => (hc.det (j := 3) rfl rfl rfl rfl).trans (congrArg Value.bool (decide_eq_false g174))) <| RunD.omit tab173 9 rfl rfl (fun f' L' w' hc => (hc.det (j := 3) rfl rfl rfl rfl).trans (congrArg Value.bool (decide_eq_false g174))) <| RunD.omit tab173 10 rfl rfl (fun f' L' w' hc => (hc.det (j := 3) rfl rfl rfl rfl).trans (congrArg Value.bool (decide_eq_false g174))) <| RunD.omit tab173 11 rfl rfl (fun f' L' w' hc => (hc.det (j := 3) rfl rfl rfl rfl).trans (congrArg Value.bool (decide_eq_false g174))) <| RunD.omit tab173 12 rfl rfl (fun f' L' w' hc => (hc.det (j := 3) rfl rfl rfl rfl).trans (congrArg Value.bool (decide_eq_false g174))) <| RunD.omit tab173 13 rfl rfl (fun f' L' w' hc => (hc.det (j := 3) rfl rfl rfl rfl).trans (congrArg Value.bool (decide_eq_false g174))) <| RunD.omit tab173 14 rfl rfl (fun f' L' w' hc => (hc.det (j := 3) rfl rfl rfl rfl).trans (congrArg Value.bool (decide_eq_false g174))) <| RunD.omit tab173 15 rfl rfl (fun f' L' w' hc => (hc.det (j := 3) rfl rfl rfl rfl).trans (congrArg Value.bool (decide_eq_false g174))) <| RunD.omit tab173 16 rfl rfl (fun f' L' w' hc => (hc.det (j := 3) rfl rfl rfl rfl).trans (congrArg Value.bool (decide_eq_false g174))) <| RunD.fin followsMixed tab173 hst rfl (fun f182 w R185 hs183 hd184 hr186 hst => ?_)
     obtain ⟨h12_, r0⟩ := hd184 0 12 rfl rfl
     obtain ⟨h13_, r1⟩ := hd184 1 13 rfl rfl
     obtain ⟨h14_, r2⟩ := hd184 2 14 rfl rfl
     obtain ⟨h15_, r3⟩ := hd184 3 15 rfl rfl
     obtain ⟨h16_, r4⟩ := hd184 4 16 rfl rfl
     obtain ⟨h17_, r5⟩ := hd184 5 17 rfl rfl
     obtain ⟨h18_, r6⟩ := hd184 6 18 rfl rfl
     obtain ⟨h19_, r7⟩ := hd184 7 19 rfl rfl
     obtain ⟨h20_, r8⟩ := hd184 8 20 rfl rfl
     obtain ⟨h21_, r9⟩ := hd184 9 21 rfl rfl
     obtain ⟨h22_, r10⟩ := hd184 10 22 rfl rfl
     obtain ⟨h23_, r11⟩ := hd184 11 23 rfl rfl
     obtain ⟨h24_, r12⟩ := hd184 12 24 rfl rfl
     obtain ⟨h25_, r13⟩ := hd184 13 25 rfl rfl
     obtain ⟨h26_, r14⟩ := hd184 14 26 rfl rfl
     obtain ⟨h27_, r15⟩ := hd184 15 27 rfl rfl
     simp only [show List.range 16 = [0, 1, 2, 3, 4, 5, 6, 7, 8, 9, 10, 11, 12, 13, 14, 15] from rfl, List.flatMap_cons, List.flatMap_nil, List.map_cons, List.map_nil, r0, r1, r2, r3, r4, r5, r6, r7, r8, r9, r10, r11, r12, r13, r14, r15, List.nil_append, List.append_nil, List.cons_append] at hst
     refine RunL.slots (sl := [(0, .pointer (some ⟨_, _, none⟩)), (3, .int .u8 _), (4, .int .i64 _), (5, .int .u8 _), (15, .bool _), (26, _), (27, _)]) ⟨(hs183 0 rfl).trans rfl, (hs183 3 rfl).trans rfl, (hs183 4 rfl).trans rfl, (hs183 5 rfl).trans rfl, h15_, h26_, h27_, trivial⟩ ?_
     clear hs183 hd184 hr186 tab173
     refine OM (t := 15) rfl (congrArg Value.bool (decide_eq_false g174)) rfl <| CN <| Op1.pickF (u := .bool _) (congrArg Value.bool (decide_eq_false g174)) rfl <| NL ?_
     have hpm := ptA_map l (a1 + i)
     have hge := (not_congr (top_nx (l := (l.map InstP.L)) (p := 1) (a := a1) (i := i) (by omega) (by omega))).1 (fun h => g174 h.1)
     have htn : topN (l.map InstP.L) 1 a1 = 0 := by unfold topN; rw [if_pos rfl]; omega
     have he : a1 + i = a2 := by omega
     rw [he] at hst
     refine run_cond_false (congrArg Value.bool (rfl : false = _)) <| run_exit (id := 2) rfl ?_
     exact cut11 (()) _ w (hst) (trivial) ⟨rfl, rfl, rfl, rfl, trivial⟩ trivial
 · skip
   refine run_block <| run_loop <| Run.indW [(0, .pointer (some ⟨_, _, none⟩)), (3, .int .u8 _), (4, .int .i64 _), (5, .int .u8 _)] ⟨rfl, rfl, rfl, rfl, trivial⟩ (fun (i : Nat) => []) (fun (i : Nat) => [CutR 69 bq ao l.length cp ((0 : Nat) + i) [.int .i64 0, .int .i64 0, .int .i64 0, .int .i64 0, .int .i64 0, .int .i64 0, .int .i64 0, .int .i64 0, .int .i64 0, .int .i64 0, .int .i64 0, .int .i64 0, .int .i64 0, .int .i64 0, .int .i64 0, .int .i64 0, .int .i64 0, .int .i64 0, .int .i64 0, .int .i64 0, .slice none 0 0]]) (fun (i : Nat) => i ≤ topR (l.map InstP.L) 0 (0 : Nat)) (fun (i : Nat) => topR (l.map InstP.L) 0 (0 : Nat) - i) (0) hst (Nat.zero_le _) trivial ?_
   intro i f w hst hJ ih187
   have hti := topR_le (l := (l.map InstP.L)) (p := 0) (k := (0 : Nat)) (by omega)
   refine SQ <| SQ <| RunD.start [] hst (bs := [0, 1, 3, 7, 15, 31, 63, 127, 15, 271, 783, 1807, 4095, 8191, 16383, 15, 65535, 131071]) (ds := [some 12, some 13, some 14, some 15, some 16, some 17, some 18, some 19, some 20, some 21, some 22, some 23, some 24, some 25, some 26, some 27, some 28, some 29]) ⟨by kernel_rfl, by kernel_rfl, by kernel_rfl⟩ (fun tab188 => ?_)
   refine RunD.op (det _) tab188 1 (fun f' L' w' hc => Op1.move (v := .pointer (some ⟨_, _, none⟩)) (hc.old (v := .pointer (some ⟨_, _, none⟩)) rfl rfl rfl) ⟨[], ⟨rfl, rfl⟩, hc.st⟩) <| RunD.op (det _) tab188 2 (fun f' L' w' hc => Op1.call1 (v1 := .pointer (some ⟨_, _, none⟩)) ent40 rfl (hc.det (j := 0) rfl rfl rfl rfl) ((R5ly_next bq l ao cp ((0 : Nat) + i) [.int .i64 0, .int .i64 0, .int .i64 0, .int .i64 0, .int .i64 0, .int .i64 0, .int .i64 0, .int .i64 0, .int .i64 0, .int .i64 0, .int .i64 0, .int .i64 0, .int .i64 0, .int .i64 0, .int .i64 0, .int .i64 0, .int .i64 0, .int .i64 0, .int .i64 0, .int .i64 0, .slice none 0 0] _ (hc.st.hL _ (List.mem_append_right _ (.head _))) (hc.st.hD _ (.head _)) (by omega) hl hla hop).mono fun v w hp => ⟨[], ⟨hp.1, rfl⟩, hc.st.keepc hp.2⟩)) <| RunD.op (det _) tab188 3 (fun f' L' w' hc => Op1.eql (hc.det (j := 1) rfl rfl rfl rfl) rfl ⟨[], ⟨rfl, rfl⟩, hc.st⟩) <| RunD.op (det _) tab188 4 (fun f' L' w' hc => Op1.move (v := .bool _) (hc.det (j := 2) rfl rfl rfl rfl) ⟨[], ⟨rfl, rfl⟩, hc.st⟩) <| RunD.splitD (j := 3) rfl (fun g189 => ?_) (fun g189 => ?_)
   · skip
     have hin := nx_in g189
     refine RunD.take (det _) tab188 5 rfl (fun f' L' w' hc => (hc.det (j := 3) rfl rfl rfl rfl).trans (congrArg Value.bool (decide_eq_true g189))) (fun f' L' w' hc => Op1.move (v := .pointer (some ⟨_, _, none⟩)) (hc.old (v := .pointer (some ⟨_, _, none⟩)) rfl rfl rfl) ⟨[], ⟨rfl, rfl⟩, hc.st⟩) <| RunD.take (det _) tab188 6 rfl (fun f' L' w' hc => (hc.det (j := 3) rfl rfl rfl rfl).trans (congrArg Value.bool (decide_eq_true g189))) (fun f' L' w' hc => Op1.nilCheckP (hc.det (j := 4) rfl rfl rfl rfl) ⟨[], ⟨rfl, rfl⟩, hc.st⟩) <| RunD.take (det _) tab188 7 rfl (fun f' L' w' hc => (hc.det (j := 3) rfl rfl rfl rfl).trans (congrArg Value.bool (decide_eq_true g189))) (fun f' L' w' hc => Op1.fieldAddr fld69_0 (hc.det (j := 5) rfl rfl rfl rfl) ⟨[], ⟨rfl, rfl⟩, hc.st⟩) <| RunD.take (det _) tab188 8 rfl (fun f' L' w' hc => (hc.det (j := 3) rfl rfl rfl rfl).trans (congrArg Value.bool (decide_eq_true g189))) (fun f' L' w' hc => Op1.load1 (v := .slice _ _ _) ty23 rfl (hc.det (j := 6) rfl rfl rfl rfl) (hc.st.cellL (List.mem_append_right _ (.head _)) rfl) ⟨[], ⟨rfl, rfl⟩, hc.st⟩) <| RunD.take (det _) tab188 9 rfl (fun f' L' w' hc => (hc.det (j := 3) rfl rfl rfl rfl).trans (congrArg Value.bool (decide_eq_true g189))) (fun f' L' w' hc => Op1.move (v := .pointer (some ⟨_, _, none⟩)) (hc.old (v := .pointer (some ⟨_, _, none⟩)) rfl rfl rfl) ⟨[], ⟨rfl, rfl⟩, hc.st⟩) <| RunD.take (det _) tab188 10 rfl (fun f' L' w' hc => (hc.det (j := 3) rfl rfl rfl rfl).trans (congrArg Value.bool (decide_eq_true g189))) (fun f' L' w' hc => Op1.nilCheckP (hc.det (j := 8) rfl rfl rfl rfl) ⟨[], ⟨rfl, rfl⟩, hc.st⟩) <| RunD.take (det _) tab188 11 rfl (fun f' L' w' hc => (hc.det (j := 3) rfl rfl rfl rfl).trans (congrArg Value.bool (decide_eq_true g189))) (fun f' L' w' hc => Op1.fieldAddr fld69_1 (hc.det (j := 9) rfl rfl rfl rfl) ⟨[], ⟨rfl, rfl⟩, hc.st⟩) <| RunD.take (det _) tab188 12 rfl (fun f' L' w' hc => (hc.det (j := 3) rfl rfl rfl rfl).trans (congrArg Value.bool (decide_eq_true g189))) (fun f' L' w' hc => Op1.load1 (v := .int .i64 _) ty3 rfl (hc.det (j := 10) rfl rfl rfl rfl) (hc.st.cellL (List.mem_append_right _ (.head _)) rfl) ⟨[], ⟨rfl, rfl⟩, hc.st⟩) <| RunD.take (det _) tab188 13 rfl (fun f' L' w' hc => (hc.det (j := 3) rfl rfl rfl rfl).trans (congrArg Value.bool (decide_eq_true g189))) (fun f' L' w' hc => Op1.indexRs ty23 ty39 (Res.rmod_insts (hc.st.hD _ (.head _))) (hc.det (j := 7) rfl rfl rfl rfl) (hc.det (j := 11) rfl rfl rfl rfl) (by omega) (by omega) ⟨[], ⟨rfl, rfl⟩, hc.st⟩) <| RunD.take (det _) tab188 14 rfl (fun f' L' w' hc => (hc.det (j := 3) rfl rfl rfl rfl).trans (congrArg Value.bool (decide_eq_true g189))) (fun f' L' w' hc => Op1.loadA (vs := [.int .u16 _, .int .u32 _, .int .u32 _, .slice _ _ _]) ty39 rfl (hc.det (j := 12) rfl rfl rfl rfl) rfl (Res.rs2_cells (m := 4) (Res.rmod_insts (hc.st.hD _ (.head _))) _ (flat_seg (g := instC) (d := zeroI) instC_len _ _ (by omega))) ⟨[], ⟨rfl, rfl⟩, hc.st⟩) <| RunD.take (det _) tab188 15 rfl (fun f' L' w' hc => (hc.det (j := 3) rfl rfl rfl rfl).trans (congrArg Value.bool (decide_eq_true g189))) (fun f' L' w' hc => Op1.call1 (v1 := .agg #[.int .u16 _, .int .u32 _, .int .u32 _, .slice _ _ _]) ent51 rfl (hc.det (j := 13) rfl rfl rfl rfl) ((R5ly_part (l.getD ((0 : Nat) + i) zeroI) (hop _ (getD_memD (by omega))) _ (Res.rmod_argsI (hc.st.hD _ (.head _)) (i := (0 : Nat) + i) (by omega)) (hla _ (getD_memD (by omega)))).mono fun v w hp => ⟨[], ⟨hp.1, rfl⟩, hc.st.keepc hp.2⟩)) <| RunD.take (det _) tab188 16 rfl (fun f' L' w' hc => (hc.det (j := 3) rfl rfl rfl rfl).trans (congrArg Value.bool (decide_eq_true g189))) (fun f' L' w' hc => Op1.move (v := .int .u8 _) (hc.old (v := .int .u8 _) rfl rfl rfl) ⟨[], ⟨rfl, rfl⟩, hc.st⟩) <| RunD.fin followsMixed tab188 hst rfl (fun f190 w R193 hs191 hd192 hr194 hst => ?_)
     obtain ⟨h12_, r0⟩ := hd192 0 12 rfl rfl
     obtain ⟨h13_, r1⟩ := hd192 1 13 rfl rfl
     obtain ⟨h14_, r2⟩ := hd192 2 14 rfl rfl
     obtain ⟨h15_, r3⟩ := hd192 3 15 rfl rfl
     obtain ⟨h16_, r4⟩ := hd192 4 16 rfl rfl
     obtain ⟨h17_, r5⟩ := hd192 5 17 rfl rfl
     obtain ⟨h18_, r6⟩ := hd192 6 18 rfl rfl
     obtain ⟨h19_, r7⟩ := hd192 7 19 rfl rfl
     obtain ⟨h20_, r8⟩ := hd192 8 20 rfl rfl
     obtain ⟨h21_, r9⟩ := hd192 9 21 rfl rfl
     obtain ⟨h22_, r10⟩ := hd192 10 22 rfl rfl
     obtain ⟨h23_, r11⟩ := hd192 11 23 rfl rfl
     obtain ⟨h24_, r12⟩ := hd192 12 24 rfl rfl
     obtain ⟨h25_, r13⟩ := hd192 13 25 rfl rfl
     obtain ⟨h26_, r14⟩ := hd192 14 26 rfl rfl
     obtain ⟨h27_, r15⟩ := hd192 15 27 rfl rfl
     simp only [show List.range 16 = [0, 1, 2, 3, 4, 5, 6, 7, 8, 9, 10, 11, 12, 13, 14, 15] from rfl, List.flatMap_cons, List.flatMap_nil, List.map_cons, List.map_nil, r0, r1, r2, r3, r4, r5, r6, r7, r8, r9, r10, r11, r12, r13, r14, r15, List.nil_append, List.append_nil, List.cons_append] at hst
     refine RunL.slots (sl := [(0, .pointer (some ⟨_, _, none⟩)), (3, .int .u8 _), (4, .int .i64 _), (5, .int .u8 _), (15, .bool _), (26, .int .u8 _), (27, .int .u8 _)]) ⟨(hs191 0 rfl).trans rfl, (hs191 3 rfl).trans rfl, (hs191 4 rfl).trans rfl, (hs191 5 rfl).trans rfl, h15_, h26_, h27_, trivial⟩ ?_
     clear hs191 hd192 hr194 tab188
     refine TK (t := 15) rfl (congrArg Value.bool (decide_eq_true g189)) <| Op1.eql rfl rfl <| CN <| Op1.pickT (u := .bool _) (congrArg Value.bool (decide_eq_true g189)) rfl <| NL <| run_cond_dec rfl (fun g195 => ?_) (fun g195 => ?_)
     · skip
       have hpm := ptA_map l ((0 : Nat) + i)
       have hlt := (top_nx (l := (l.map InstP.L)) (p := 0) (a := (0 : Nat)) (i := i) (by omega) (by omega)).1 ⟨g189, by rw [hpm]; exact g195⟩
       refine run_skip <| run_block <| SR <| MP rfl <| CN <| Op1.nilCheckP rfl <| CN <| Op1.fieldAddr fld69_1 rfl <| CN <| Op1.load1 (v := .int .i64 _) ty3 rfl rfl (hst.cellL (.head _) rfl) <| CN <| Op1.addN rfl rfl rfl (wrap_i64 (by omega) (by omega)) <| CN <| Op1.nilCheckP rfl <| CN <| Op1.fieldAddr fld69_1 rfl <| CN (SO (v := .int .i64 _) hst ty3 rfl rfl (.here) fun w hst => ?_)
       refine NL <| Run.forget [(0, .pointer (some ⟨_, _, none⟩)), (3, .int .u8 _), (4, .int .i64 _), (5, .int .u8 _)] ⟨rfl, rfl, rfl, rfl, trivial⟩ fun f => SR <| MC rfl <| CN <| Op1.eql rfl rfl <| NL <| run_cond_dec rfl (fun g196 => ?_) (fun g196 => ?_)
       · skip
         exfalso
         exact absurd g196 (by decide)
       refine run_skip <| run_inBlock <| run_inLoop ?_
       exact ih187 (i + 1) _ w (by omega) hst (by omega) ⟨rfl, rfl, rfl, rfl, trivial⟩ trivial
     have hpm := ptA_map l ((0 : Nat) + i)
     have hge := (not_congr (top_nx (l := (l.map InstP.L)) (p := 0) (a := (0 : Nat)) (i := i) (by omega) (by omega))).1 (fun h => g195 (by rw [← hpm]; exact h.2))
     have htn : topN (l.map InstP.L) 0 (0 : Nat) = topR (l.map InstP.L) 0 (0 : Nat) := if_neg (by decide)
     have he : (0 : Nat) + i = a1 := by omega
     rw [he] at hst
     refine run_exit (id := 2) rfl ?_
     exact cut1 (()) _ w (hst) (trivial) ⟨rfl, rfl, rfl, rfl, trivial⟩ trivial
   refine RunD.omit tab188 5 rfl rfl (fun f' L' w' hc => (hc.det (j := 3) rfl rfl rfl rfl).trans (congrArg Value.bool (decide_eq_false g189))) <| RunD.omit tab188 6 rfl rfl (fun f' L' w' hc => (hc.det (j := 3) rfl rfl rfl rfl).trans (congrArg Value.bool (decide_eq_false g189))) <| RunD.omit tab188 7 rfl rfl (fun f' L' w' hc => (hc.det (j := 3) rfl rfl rfl rfl).trans (congrArg Value.bool (decide_eq_false g189))) <| RunD.omit tab188 8 rfl rfl (fun f' L' w' hc => (hc.det (j := 3) rfl rfl rfl rfl).trans (congrArg Value.bool (decide_eq_false g189))) <| RunD.omit tab188 9 rfl rfl (fun f' L' w' hc => (hc.det (j := 3) rfl rfl rfl rfl).trans (congrArg Value.bool (decide_eq_false g189))) <| RunD.omit tab188 10 rfl rfl (fun f' L' w' hc => (hc.det (j := 3) rfl rfl rfl rfl).trans (congrArg Value.bool (decide_eq_false g189))) <| RunD.omit tab188 11 rfl rfl (fun f' L' w' hc => (hc.det (j := 3) rfl rfl rfl rfl).trans (congrArg Value.bool (decide_eq_false g189))) <| RunD.omit tab188 12 rfl rfl (fun f' L' w' hc => (hc.det (j := 3) rfl rfl rfl rfl).trans (congrArg Value.bool (decide_eq_false g189))) <| RunD.omit tab188 13 rfl rfl (fun f' L' w' hc => (hc.det (j := 3) rfl rfl rfl rfl).trans (congrArg Value.bool (decide_eq_false g189))) <| RunD.omit tab188 14 rfl rfl (fun f' L' w' hc => (hc.det (j := 3) rfl rfl rfl rfl).trans (congrArg Value.bool (decide_eq_false g189))) <| RunD.omit tab188 15 rfl rfl (fun f' L' w' hc => (hc.det (j := 3) rfl rfl rfl rfl).trans (congrArg Value.bool (decide_eq_false g189))) <| RunD.omit tab188 16 rfl rfl (fun f' L' w' hc => (hc.det (j := 3) rfl rfl rfl rfl).trans (congrArg Value.bool (decide_eq_false g189))) <| RunD.fin followsMixed tab188 hst rfl (fun f197 w R200 hs198 hd199 hr201 hst => ?_)
   obtain ⟨h12_, r0⟩ := hd199 0 12 rfl rfl
   obtain ⟨h13_, r1⟩ := hd199 1 13 rfl rfl
   obtain ⟨h14_, r2⟩ := hd199 2 14 rfl rfl
   obtain ⟨h15_, r3⟩ := hd199 3 15 rfl rfl
   obtain ⟨h16_, r4⟩ := hd199 4 16 rfl rfl
   obtain ⟨h17_, r5⟩ := hd199 5 17 rfl rfl
   obtain ⟨h18_, r6⟩ := hd199 6 18 rfl rfl
   obtain ⟨h19_, r7⟩ := hd199 7 19 rfl rfl
   obtain ⟨h20_, r8⟩ := hd199 8 20 rfl rfl
   obtain ⟨h21_, r9⟩ := hd199 9 21 rfl rfl
   obtain ⟨h22_, r10⟩ := hd199 10 22 rfl rfl
   obtain ⟨h23_, r11⟩ := hd199 11 23 rfl rfl
   obtain ⟨h24_, r12⟩ := hd199 12 24 rfl rfl
   obtain ⟨h25_, r13⟩ := hd199 13 25 rfl rfl
   obtain ⟨h26_, r14⟩ := hd199 14 26 rfl rfl
   obtain ⟨h27_, r15⟩ := hd199 15 27 rfl rfl
   simp only [show List.range 16 = [0, 1, 2, 3, 4, 5, 6, 7, 8, 9, 10, 11, 12, 13, 14, 15] from rfl, List.flatMap_cons, List.flatMap_nil, List.map_cons, List.map_nil, r0, r1, r2, r3, r4, r5, r6, r7, r8, r9, r10, r11, r12, r13, r14, r15, List.nil_append, List.append_nil, List.cons_append] at hst
   refine RunL.slots (sl := [(0, .pointer (some ⟨_, _, none⟩)), (3, .int .u8 _), (4, .int .i64 _), (5, .int .u8 _), (15, .bool _), (26, _), (27, _)]) ⟨(hs198 0 rfl).trans rfl, (hs198 3 rfl).trans rfl, (hs198 4 rfl).trans rfl, (hs198 5 rfl).trans rfl, h15_, h26_, h27_, trivial⟩ ?_
   clear hs198 hd199 hr201 tab188
   refine OM (t := 15) rfl (congrArg Value.bool (decide_eq_false g189)) rfl <| CN <| Op1.pickF (u := .bool _) (congrArg Value.bool (decide_eq_false g189)) rfl <| NL ?_
   have hpm := ptA_map l ((0 : Nat) + i)
   have hge := (not_congr (top_nx (l := (l.map InstP.L)) (p := 0) (a := (0 : Nat)) (i := i) (by omega) (by omega))).1 (fun h => g189 h.1)
   have htn : topN (l.map InstP.L) 0 (0 : Nat) = topR (l.map InstP.L) 0 (0 : Nat) := if_neg (by decide)
   have he : (0 : Nat) + i = a1 := by omega
   rw [he] at hst
   refine run_cond_false (congrArg Value.bool (rfl : false = _)) <| run_exit (id := 2) rfl ?_
   exact cut1 (()) _ w (hst) (trivial) ⟨rfl, rfl, rfl, rfl, trivial⟩ trivial
end Go.SK
namespace Go.SK
open Go Go.Proofs
theorem ty56 : TyF Try.prog 56 (.struct (fieldsOf Try.prog 56)) 3 24 [.int .u32 0, .int .i64 0, .int .i64 0] := TyF.of (by kernel_rfl) (by kernel_rfl)
theorem stf56 : StructF Try.prog 56 [(0, 1), (1, 1), (2, 1)] := ⟨fieldsOf Try.prog 56, by kernel_rfl, fun w => by kernel_rfl⟩
theorem ent41 : Enters Try.prog 41 := ⟨Try.f41, _, Try.func41, by kernel_rfl, rfl⟩
theorem ent53 : Enters Try.prog 53 := ⟨Try.f53, _, Try.func53, by kernel_rfl, rfl⟩
theorem fld56_2 : FldF Try.prog 56 2 2 := FldF.of (n := 0) (by kernel_rfl)
theorem fld54_3 : FldF Try.prog 54 3 3 := FldF.of (n := 0) (by kernel_rfl)
theorem ty52 : TyF Try.prog 52 (.slice 56) 1 24 [.slice none 0 0] := TyF.of (by kernel_rfl) (by kernel_rfl)
end Go.SK
