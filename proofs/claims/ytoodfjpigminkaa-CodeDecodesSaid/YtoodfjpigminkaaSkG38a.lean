/-
  Steps of functions, plain law, and walks of functions: what the laws rest on.
-/
import Derived.Test.YtoodfjpigminkaaSkG0d
import Derived.Test.YtoodfjpigminkaaSkG1a
import Derived.Test.YtoodfjpigminkaaSkG2a
import Derived.Test.YtoodfjpigminkaaSkG5a
import Derived.Test.YtoodfjpigminkaaSkG6a
import Derived.Test.YtoodfjpigminkaaSkG8a
import Derived.Test.YtoodfjpigminkaaSkG9a
import Derived.Test.YtoodfjpigminkaaSkG10a
import Derived.Test.YtoodfjpigminkaaSkG13a
import Derived.Test.YtoodfjpigminkaaSkG14a
import Derived.Test.YtoodfjpigminkaaSkG16a
import Derived.Test.YtoodfjpigminkaaSkG17a
import Derived.Test.YtoodfjpigminkaaSkG18a
import Derived.Test.YtoodfjpigminkaaSkG21a
import Derived.Test.YtoodfjpigminkaaSkG22a
import Derived.Test.YtoodfjpigminkaaSkG29a
import Derived.Test.YtoodfjpigminkaaSkG30a
set_option linter.unusedVariables false
set_option linter.unusedSimpArgs false
set_option linter.unusedSectionVars false
namespace Go.SK
abbrev endsV (p : Int × Bool) : Value := .tuple #[.int .i64 p.1, .bool p.2]
theorem endsF_zero {l : List Int} {a : Nat} (h : l.getD a 0 / 65536 = 0) : endsF l a = (0, false) := if_pos (.inl h)
theorem endsF_far {l : List Int} {a : Nat} (h : l.getD a 0 / 65536 > (l.length : Int) - a) : endsF l a = (0, false) := if_pos (.inr h)
end Go.SK
namespace Go.SK
theorem part_step {l : List Int} {a i : Nat} (h1 : a + 1 ≤ i) (h2 : i < l.length) : ((l.drop (a + 1)).take (i + 1 - (a + 1))) = ((l.drop (a + 1)).take (i - (a + 1))) ++ [l.getD i 0] := by
  rw [show i + 1 - (a + 1) = (i - (a + 1)) + 1 by omega, take_getD2 (d := 0) (by rw [List.length_drop]; omega)]
  congr 2
  simp only [List.getD, List.getElem?_drop]
  rw [show a + 1 + (i - (a + 1)) = i by omega]
end Go.SK
namespace Go.SK
theorem hd_end2 {l : List Int} {k : Nat} (h : l.length ≤ k) : hd1 l k = 14 := if_neg (by omega)
end Go.SK
namespace Go.SK
open Go.RowKit Go.ChangeShapes Go.WideShapes Go.ChangeAt
theorem oraws_cap {Tr Tw : TypeId} {ao : Option Addr} {cap : Nat} {l : List RawP} {w : World} (h : (Res.oraws Tr Tw ao cap l).holds w) {r : RawP} (hr : r ∈ l) : r.ws.length ≤ r.cap :=
  Res.sl_cap (h.1 (Res.oword Tw r) (.tail _ (List.mem_map_of_mem hr)))
end Go.SK
namespace Go.SK
open Go.RowKit Go.ChangeShapes Go.WideShapes Go.ChangeAt
theorem St.starUncons {w0 w : World} {M : Nat → Prop} {X L D : List Res} {r : Res} (h : St w0 M (Res.star (r :: X) :: L) D w) : St w0 M (r :: Res.star X :: L) D w := by
  have h1 : St w0 M (r :: (X ++ L)) D w := h.unpack
  have h2 : St w0 M (X ++ r :: L) D w := h1.perm List.perm_middle.symm
  exact (St.pack (L1 := X) h2).perm (List.Perm.swap _ _ _)
end Go.SK
namespace Go.SK
open Go Go.Proofs
theorem ent96 : Enters Try.prog 96 := ⟨Try.f96, _, Try.func96, by kernel_rfl, rfl⟩
end Go.SK
namespace Go.SK
open Go Go.Proofs
open Go.RowKit
theorem R3ref2_Count (l : List Int) (hw : Wd l) (ao : Option Addr) (cp : Nat) (a : Nat) (ha : a < l.length) (w : World) (hA : (Res.rs ao l.length 1 (l.flatMap u32C)).holds w) (hl : l.length ≤ 35184372088832) : Ret Try.prog 96 #[.slice ao l.length cp, .int .i64 (a : Int)] w (fun v w' => v = .int .i64 (l.getD a 0 / 65536) ∧ St w NoM [] [] w') := by
 refine Ret.enter (args := [.slice ao l.length cp, .int .i64 (a : Int)]) Try.func96 rfl rfl rfl ?_
 have hst : St w NoM [] [Res.rs ao l.length 1 (l.flatMap u32C)] w := St.init_D hA
 clear hA
 have hx := hw.get a
 have hx2 := hw.get ((a : Int).toNat)
 refine SR <| AI rfl <| NSR <| ML rfl <| MI rfl <| CN <| Op1.indexRs ty43 ty23 (hst.hD _ (.head _)) rfl rfl (by omega) (by omega) <| CN (Op1.load1 (v := .int .u32 _) ty23 rfl rfl (Res.rs2_cell (hst.hD _ (.head _)) (flat_cell0 (g := u32C) (d := 0) u32C_len rfl (by omega))) ?_)
 first | refine CN (Op1.quoN rfl rfl (by omega) (by omega) rfl (wrap_u32 (by omega) (by omega)) ?_) | refine CN (Op1.quo rfl rfl (by omega) ?_)
 first | refine CN (Op1.convN ty23 ty3 rfl (wrap_i64 (by omega) (by omega)) ?_) | refine CN (Op1.conv ty23 ty3 rfl ?_)
 refine AI rfl <| NL <| run_ret1 Try.func96 rfl (TP (v := .int .i64 _) rfl) ?_
 exact ⟨rfl, hst.pure⟩
theorem R3ref2_Ends (l : List Int) (hw : Wd l) (ao : Option Addr) (cp : Nat) (a : Nat) (ha : a < l.length) (w : World) (hA : (Res.rs ao l.length 1 (l.flatMap u32C)).holds w) (hl : l.length ≤ 35184372088832) : Ret Try.prog 67 #[.slice ao l.length cp, .int .i64 (a : Int)] w (fun v w' => v = endsV (endsF l a) ∧ St w NoM [] [] w') := by
 refine Ret.enter (args := [.slice ao l.length cp, .int .i64 (a : Int)]) Try.func67 rfl rfl rfl ?_
 have hst : St w NoM [] [Res.rs ao l.length 1 (l.flatMap u32C)] w := St.init_D hA
 clear hA
 have hx := hw.get a
 have hx2 := hw.get ((a : Int).toNat)
 refine SR <| AI rfl <| AB rfl <| NSR <| ML rfl <| MI rfl <| CN <| Op1.call2 (v1 := .slice _ _ _) (v2 := .int .i64 _) ent96 rfl rfl rfl <| Ret.det (R3ref2_Count _ hw _ _ a ha _ (hst.hD _ (.head _)) hl) hst fun w hst => AI rfl <| NL <| SQ <| SQ <| RG ?_
 refine MI rfl <| CN <| Op1.eql rfl rfl <| MB rfl <| RunL.splitD (d := 12) rfl (fun g1 => ?_) (fun g1 => ?_)
 · skip
   refine OM (t := 12) rfl (congrArg Value.bool (decide_eq_true g1)) rfl <| OM (t := 12) rfl (congrArg Value.bool (decide_eq_true g1)) rfl <| OM (t := 12) rfl (congrArg Value.bool (decide_eq_true g1)) rfl <| OM (t := 12) rfl (congrArg Value.bool (decide_eq_true g1)) rfl <| OM (t := 12) rfl (congrArg Value.bool (decide_eq_true g1)) rfl <| OM (t := 12) rfl (congrArg Value.bool (decide_eq_true g1)) rfl <| CN <| Op1.pickT (u := .bool _) (congrArg Value.bool (decide_eq_true g1)) rfl <| NL <| run_cond_true (congrArg Value.bool (rfl : true = _)) <| SR <| AI rfl <| AB rfl <| NL <| run_ret2 Try.func67 rfl (TP (v := .int .i64 _) rfl) (TP (v := .bool _) rfl) ?_
   rw [endsF_zero g1]
   exact ⟨rfl, hst.pure⟩
 refine TK (t := 12) rfl (congrArg Value.bool (decide_eq_false g1)) <| Op1.move (v := .int .i64 _) rfl <| TK (t := 12) rfl (congrArg Value.bool (decide_eq_false g1)) <| Op1.move (v := .slice _ _ _) rfl <| TK (t := 12) rfl (congrArg Value.bool (decide_eq_false g1)) <| Op1.lenSl (rest := []) ty43 rfl <| TK (t := 12) rfl (congrArg Value.bool (decide_eq_false g1)) <| Op1.move (v := .int .i64 _) rfl <| TK (t := 12) rfl (congrArg Value.bool (decide_eq_false g1)) <| Op1.subN rfl rfl rfl (wrap_i64 (by omega) (by omega)) <| TK (t := 12) rfl (congrArg Value.bool (decide_eq_false g1)) <| Op1.gtr rfl rfl <| CN <| Op1.pickF (u := .bool _) (congrArg Value.bool (decide_eq_false g1)) rfl <| NL <| run_cond_dec rfl (fun g2 => ?_) (fun g2 => ?_)
 · skip
   refine SR <| AI rfl <| AB rfl <| NL <| run_ret2 Try.func67 rfl (TP (v := .int .i64 _) rfl) (TP (v := .bool _) rfl) ?_
   rw [endsF_far (by omega)]
   exact ⟨rfl, hst.pure⟩
 refine run_skip <| SR <| MI rfl <| MI rfl <| CN <| Op1.addN rfl rfl rfl (wrap_i64 (by omega) (by omega)) <| AI rfl <| AB rfl <| NL <| run_ret2 Try.func67 rfl (TP (v := .int .i64 _) rfl) (TP (v := .bool _) rfl) ?_
 rw [endsF_ok (by omega) (by omega)]
 exact ⟨rfl, hst.pure⟩
end Go.SK
namespace Go.SK
open Go Go.Proofs
open Go.RowKit
theorem R3ref2_Wrong (k : Nat) (x : Int) (w : World) : Ret Try.prog 66 #[.int .i64 (k : Int), .int .u32 x] w (fun v w' => v = .int .i64 (wrongF k x) ∧ St w NoM [] [] w') := by
 refine Ret.enter (args := [.int .i64 (k : Int), .int .u32 x]) Try.func66 rfl rfl rfl ?_
 have hst := St.init w
 refine SR <| AI rfl <| NL <| SQ <| SR <| MI rfl <| NL <| run_block <| SR <| CN <| Op1.eql rfl rfl <| AB rfl <| NL ?_
 refine run_cond_dec rfl (fun g1 => ?_) (fun g1 => ?_)
 · skip
   refine SQ <| SR <| MU rfl <| CN <| Op1.eql rfl rfl <| NL <| run_cond_dec rfl (fun g2 => ?_) (fun g2 => ?_)
   · skip
     refine SR <| AI rfl <| NL <| run_ret1 Try.func66 rfl (TP (v := .int .i64 _) rfl) ?_
     exact ⟨congrArg (Value.int .i64) (by unfold wrongF; repeat (first | rw [if_pos (by omega)] | rw [if_neg (by omega)])), hst.pure⟩
   refine run_skip <| SR <| MU rfl <| CN <| Op1.neq rfl rfl <| NL <| run_cond_dec rfl (fun g3 => ?_) (fun g3 => ?_)
   · skip
     refine SR <| AI rfl <| NL <| run_ret1 Try.func66 rfl (TP (v := .int .i64 _) rfl) ?_
     exact ⟨congrArg (Value.int .i64) (by unfold wrongF; repeat (first | rw [if_pos (by omega)] | rw [if_neg (by omega)])), hst.pure⟩
   refine run_skip <| run_inBlock <| SR <| AI rfl <| NL <| run_ret1 Try.func66 rfl (TP (v := .int .i64 _) rfl) ?_
   exact ⟨congrArg (Value.int .i64) (by unfold wrongF; repeat (first | rw [if_pos (by omega)] | rw [if_neg (by omega)])), hst.pure⟩
 refine SR <| CN <| Op1.eql rfl rfl <| AB rfl <| NL <| run_cond_dec rfl (fun g4 => ?_) (fun g4 => ?_)
 · skip
   refine SR <| MU rfl <| CN <| Op1.neq rfl rfl <| NL <| run_cond_dec rfl (fun g5 => ?_) (fun g5 => ?_)
   · skip
     refine SR <| AI rfl <| NL <| run_ret1 Try.func66 rfl (TP (v := .int .i64 _) rfl) ?_
     exact ⟨congrArg (Value.int .i64) (by unfold wrongF; repeat (first | rw [if_pos (by omega)] | rw [if_neg (by omega)])), hst.pure⟩
   refine run_skip <| run_inBlock <| SR <| AI rfl <| NL <| run_ret1 Try.func66 rfl (TP (v := .int .i64 _) rfl) ?_
   exact ⟨congrArg (Value.int .i64) (by unfold wrongF; repeat (first | rw [if_pos (by omega)] | rw [if_neg (by omega)])), hst.pure⟩
 refine SR <| CN <| Op1.eql rfl rfl <| AB rfl <| NL <| run_cond_dec rfl (fun g6 => ?_) (fun g6 => ?_)
 · skip
   refine SR <| MU rfl <| CN <| Op1.eql rfl rfl <| MB rfl <| RunL.splitD (d := 20) rfl (fun g7 => ?_) (fun g7 => ?_)
   · skip
     refine OM (t := 20) rfl (congrArg Value.bool (decide_eq_true g7)) rfl <| OM (t := 20) rfl (congrArg Value.bool (decide_eq_true g7)) rfl <| CN <| Op1.pickT (u := .bool _) (congrArg Value.bool (decide_eq_true g7)) rfl <| NL <| run_cond_true (congrArg Value.bool (rfl : true = _)) <| SR <| AI rfl <| NL <| run_ret1 Try.func66 rfl (TP (v := .int .i64 _) rfl) ?_
     exact ⟨congrArg (Value.int .i64) (by unfold wrongF; repeat (first | rw [if_pos (by omega)] | rw [if_neg (by omega)])), hst.pure⟩
   refine TK (t := 20) rfl (congrArg Value.bool (decide_eq_false g7)) <| Op1.move (v := .int .u32 _) rfl <| TK (t := 20) rfl (congrArg Value.bool (decide_eq_false g7)) <| Op1.gtr rfl rfl <| CN <| Op1.pickF (u := .bool _) (congrArg Value.bool (decide_eq_false g7)) rfl <| NL <| run_cond_dec rfl (fun g8 => ?_) (fun g8 => ?_)
   · skip
     refine SR <| AI rfl <| NL <| run_ret1 Try.func66 rfl (TP (v := .int .i64 _) rfl) ?_
     exact ⟨congrArg (Value.int .i64) (by unfold wrongF; repeat (first | rw [if_pos (by omega)] | rw [if_neg (by omega)])), hst.pure⟩
   refine run_skip <| run_inBlock <| SR <| AI rfl <| NL <| run_ret1 Try.func66 rfl (TP (v := .int .i64 _) rfl) ?_
   exact ⟨congrArg (Value.int .i64) (by unfold wrongF; repeat (first | rw [if_pos (by omega)] | rw [if_neg (by omega)])), hst.pure⟩
 refine SR <| CN <| Op1.eql rfl rfl <| AB rfl <| NL <| run_cond_dec rfl (fun g9 => ?_) (fun g9 => ?_)
 · skip
   refine SR <| MU rfl <| CN <| Op1.neq rfl rfl <| NL <| run_cond_dec rfl (fun g10 => ?_) (fun g10 => ?_)
   · skip
     refine SR <| AI rfl <| NL <| run_ret1 Try.func66 rfl (TP (v := .int .i64 _) rfl) ?_
     exact ⟨congrArg (Value.int .i64) (by unfold wrongF; repeat (first | rw [if_pos (by omega)] | rw [if_neg (by omega)])), hst.pure⟩
   refine run_skip <| run_inBlock <| SR <| AI rfl <| NL <| run_ret1 Try.func66 rfl (TP (v := .int .i64 _) rfl) ?_
   exact ⟨congrArg (Value.int .i64) (by unfold wrongF; repeat (first | rw [if_pos (by omega)] | rw [if_neg (by omega)])), hst.pure⟩
 refine run_skip <| run_inBlock <| SR <| AI rfl <| NL <| run_ret1 Try.func66 rfl (TP (v := .int .i64 _) rfl) ?_
 exact ⟨congrArg (Value.int .i64) (by unfold wrongF; repeat (first | rw [if_pos (by omega)] | rw [if_neg (by omega)])), hst.pure⟩
theorem R3ref2_At (l : List Int) (hw : Wd l) (ao : Option Addr) (cp : Nat) (a t : Nat) (h1 : a + 1 ≤ t) (h2 : t ≤ l.length) (w : World) (hA : (Res.rs ao l.length 1 (l.flatMap u32C)).holds w) (hl : l.length ≤ 35184372088832) : Ret Try.prog 68 #[.slice ao l.length cp, .int .i64 (a : Int), .int .i64 (t : Int)] w (fun v w' => ∃ ro rc, v = .agg #[.int .u16 (l.getD a 0 % 65536), .slice ro (t - (a + 1)) rc] ∧ St w NoM [Res.sl ro (t - (a + 1)) rc 23 1 (((l.drop (a + 1)).take (t - (a + 1))).flatMap u32C)] [] w') := by
 refine Ret.enter (args := [.slice ao l.length cp, .int .i64 (a : Int), .int .i64 (t : Int)]) Try.func68 rfl rfl rfl ?_
 have hst : St w NoM [] [Res.rs ao l.length 1 (l.flatMap u32C)] w := St.init_D hA
 clear hA
 have hx := hw.get a
 have hx2 : l.getD ((a : Int)).toNat 0 = l.getD a 0 := rfl
 refine SR <| CN <| Op1.alloc hst ty45 fun w b6 hst => NSR <| ML rfl <| MI rfl <| CN <| Op1.indexRs ty43 ty23 (hst.hD _ (.head _)) rfl rfl (by omega) (by omega) <| CN (Op1.load1 (v := .int .u32 _) ty23 rfl rfl (Res.rs2_cell (hst.hD _ (.head _)) (flat_cell0 (g := u32C) (d := 0) u32C_len rfl (by omega))) ?_)
 first | refine CN (Op1.remN rfl rfl (by omega) (by omega) rfl ?_) | refine CN (Op1.rem rfl rfl (by omega) ?_)
 refine CN <| Op1.convW (c := l.getD a 0 % 65536) ty23 ty42 rfl (by rw [wrap16]; omega) <| CN (Op1.buildStruct ty45 stf45 (.c (v := .int .u16 _) rfl (h := .nil)) ?_)
 refine CN <| Op1.alloc hst ty45 fun w b7 hst => CN (SO (v := .agg #[.int .u16 _, .slice _ _ _]) hst ty45 rfl rfl (.here) fun w hst => ?_)
 refine NL <| SQ <| SR <| MI rfl <| CN <| Op1.addN rfl rfl rfl (wrap_i64 (by omega) (by omega)) <| AI rfl <| NL <| run_block <| run_loop ?_
 replace hst := hst.pushNil 23 1
 refine Run.indW [(0, .slice _ _ _), (2, .int .i64 _), (6, .pointer (some ⟨_, _, none⟩)), (7, .pointer (some ⟨_, _, none⟩))] ⟨rfl, rfl, rfl, rfl, trivial⟩ (fun (q : Nat × Option Addr × Nat) => [(8, .int .i64 (q.1 : Int))]) (fun (q : Nat × Option Addr × Nat) => [Res.sl q.2.1 (q.1 - (a + 1)) q.2.2 23 1 (((l.drop (a + 1)).take (q.1 - (a + 1))).flatMap u32C), Res.row b7 45 [.int .u16 (l.getD a 0 % 65536), .slice q.2.1 (q.1 - (a + 1)) q.2.2]]) (fun (q : Nat × Option Addr × Nat) => a + 1 ≤ q.1 ∧ q.1 ≤ t) (fun (q : Nat × Option Addr × Nat) => t - q.1) ((a + 1, none, 0)) (by (try dsimp only); rw [Nat.sub_self]; exact hst) ⟨Nat.le_refl _, h1⟩ ⟨rfl, trivial⟩ ?_
 intro ⟨i, aq, cq⟩ f w hst hJ ih1
 replace hst : St _ _ ([Res.sl aq (i - (a + 1)) cq 23 1 (((l.drop (a + 1)).take (i - (a + 1))).flatMap u32C), Res.row b7 45 [.int .u16 (l.getD a 0 % 65536), .slice aq (i - (a + 1)) cq]] ++ [_]) _ _ := hst
 replace hJ : a + 1 ≤ i ∧ i ≤ t := hJ
 refine Run.slots (sl := [(8, .int .i64 (i : Int))]) ⟨rfl, trivial⟩ <| SQ <| SR <| MI rfl <| MI rfl <| CN <| Op1.lss rfl rfl <| NL <| run_cond_dec rfl (fun g2 => ?_) (fun g2 => ?_)
 · skip
   have hidx : l.getD ((i : Int)).toNat 0 = l.getD i 0 := rfl
   refine run_skip <| SQ <| run_block <| RunD.start [] hst (bs := [0, 1, 0, 0, 12, 28, 60, 127, 255, 511]) (ds := [some 23, some 24, some 25, some 26, some 27, some 28, some 29, some 30, some 31, none]) ⟨by kernel_rfl, by kernel_rfl, by kernel_rfl⟩ (fun tab3 => ?_)
   refine RunD.op (det _) tab3 1 (fun f' L' w' hc => Op1.fieldAddr fld45_1 (hc.old (v := .pointer (some ⟨_, _, none⟩)) rfl rfl rfl) ⟨[], ⟨rfl, rfl⟩, hc.st⟩) <| RunD.op (det _) tab3 2 (fun f' L' w' hc => Op1.load1 (v := .slice _ _ _) ty43 rfl (hc.det (j := 0) rfl rfl rfl rfl) (hc.st.cellL (List.mem_append_right _ (.tail _ (.head _))) rfl) ⟨[], ⟨rfl, rfl⟩, hc.st⟩) <| RunD.op (det _) tab3 3 (fun f' L' w' hc => Op1.move (v := .slice _ _ _) (hc.old (v := .slice _ _ _) rfl rfl rfl) ⟨[], ⟨rfl, rfl⟩, hc.st⟩) <| RunD.op (det _) tab3 4 (fun f' L' w' hc => Op1.move (v := .int .i64 _) (hc.old (v := .int .i64 _) rfl rfl rfl) ⟨[], ⟨rfl, rfl⟩, hc.st⟩) <| RunD.op (det _) tab3 5 (fun f' L' w' hc => Op1.indexRs ty43 ty23 (hc.st.hD _ (.head _)) (hc.det (j := 2) rfl rfl rfl rfl) (hc.det (j := 3) rfl rfl rfl rfl) (by omega) (by omega) ⟨[], ⟨rfl, rfl⟩, hc.st⟩) <| RunD.op (det _) tab3 6 (fun f' L' w' hc => Op1.load1 (v := .int .u32 _) ty23 rfl (hc.det (j := 4) rfl rfl rfl rfl) (Res.rs2_cell (hc.st.hD _ (.head _)) (flat_cell0 (g := u32C) (d := 0) u32C_len rfl (by omega))) ⟨[], ⟨rfl, rfl⟩, hc.st⟩) <| RunD.op (fun v rs => ∃ b, v = .slice (some ⟨b, 0, none⟩) 1 1 ∧ rs = [Res.row b 23 (u32C (l.getD i 0))]) tab3 7 (fun f' L' w' hc => Op1.buildSl (z0 := [.int .u32 0]) hc.st ty43 ty23 rfl rfl (by kernel_rfl) (.c (v := .int .u32 _) (hc.det (j := 5) rfl rfl rfl rfl) (h := .nil)) fun w b hst => ⟨[_], ⟨b, rfl, rfl⟩, hst⟩) ?_
   refine RunD.fin followsMixed tab3 hst rfl (fun f4 w R7 hs5 hd6 hr8 hst => ?_)
   obtain ⟨h23_, r0⟩ := hd6 0 23 rfl rfl
   obtain ⟨h24_, r1⟩ := hd6 1 24 rfl rfl
   obtain ⟨h25_, r2⟩ := hd6 2 25 rfl rfl
   obtain ⟨h26_, r3⟩ := hd6 3 26 rfl rfl
   obtain ⟨h27_, r4⟩ := hd6 4 27 rfl rfl
   obtain ⟨h28_, r5⟩ := hd6 5 28 rfl rfl
   obtain ⟨b29, h29_, r6⟩ := hd6 6 29 rfl rfl
   simp only [show List.range 7 = [0, 1, 2, 3, 4, 5, 6] from rfl, List.flatMap_cons, List.flatMap_nil, List.map_cons, List.map_nil, r0, r1, r2, r3, r4, r5, r6, List.nil_append, List.append_nil, List.cons_append] at hst
   refine RunL.slots (sl := [(0, .slice _ _ _), (2, .int .i64 _), (6, .pointer (some ⟨_, _, none⟩)), (7, .pointer (some ⟨_, _, none⟩)), (8, .int .i64 _), (24, .slice _ _ _), (29, .slice _ _ _)]) ⟨(hs5 0 rfl).trans rfl, (hs5 2 rfl).trans rfl, (hs5 6 rfl).trans rfl, (hs5 7 rfl).trans rfl, (hs5 8 rfl).trans rfl, h24_, h29_, trivial⟩ ?_
   clear hs5 hd6 hr8 tab3
   refine CN (Op1.append (news := [.int .u32 _]) hst ty43 ty23 rfl rfl (.there (.here)) rfl rfl rfl (cells_of_obj (n := 1) (hst.objL (.head _)) _ rfl) rfl rfl (by omega) fun w ao9 cp10 hst => ?_)
   replace hst := hst.drop (.there (.here))
   refine CN <| Op1.fieldAddr fld45_1 rfl <| CN (SO (v := .slice _ _ _) hst ty43 rfl rfl (.there (.here)) fun w hst => ?_)
   refine NL <| run_inBlock <| RG <| MI rfl <| CN <| Op1.addN rfl rfl rfl (wrap_i64 (by omega) (by omega)) <| AI rfl <| NL <| run_inLoop ?_
   have e1 : i - (a + 1) + 1 = i + 1 - (a + 1) := by omega
   have e2 : ((l.drop (a + 1)).take (i - (a + 1))).flatMap u32C ++ [.int .u32 (l.getD i 0)] = ((l.drop (a + 1)).take ((i + 1) - (a + 1))).flatMap u32C := by rw [part_step (by omega) (by omega), List.flatMap_append]; rfl
   rw [e1] at hst
   exact ih1 ((i + 1, ao9, cp10)) _ w (by (try dsimp only); omega) (by (try dsimp only); rw [← e2]; exact hst) (by (try dsimp only); omega) ⟨rfl, rfl, rfl, rfl, trivial⟩ ⟨(congrArg (Value.int .i64) (by (try dsimp only); omega)), trivial⟩
 obtain rfl : i = t := by omega
 refine run_exit (id := 0) rfl <| SR <| CN <| Op1.loadA (vs := [.int .u16 _, .slice _ _ _]) ty45 rfl rfl rfl (cells_of_obj (n := 2) (hst.objL (.tail _ (.head _))) _ rfl) <| CN (SO (v := .agg #[.int .u16 _, .slice _ _ _]) hst ty45 rfl rfl (.there (.there (.here))) fun w hst => ?_)
 refine NL <| run_ret1 Try.func68 rfl (RV.cellA (vs := [.int .u16 _, .slice _ _ _]) rfl ty45 rfl rfl (cells_of_obj (n := 2) (hst.objL (.tail _ (.tail _ (.head _)))) _ rfl)) ?_
 replace hst := hst.pick (.cons (.here) .nil)
 exact ⟨_, _, rfl, hst.noD⟩
end Go.SK
namespace Go.SK
open Go Go.Proofs
theorem ent66 : Enters Try.prog 66 := ⟨Try.f66, _, Try.func66, by kernel_rfl, rfl⟩
theorem ent67 : Enters Try.prog 67 := ⟨Try.f67, _, Try.func67, by kernel_rfl, rfl⟩
theorem ent68 : Enters Try.prog 68 := ⟨Try.f68, _, Try.func68, by kernel_rfl, rfl⟩
end Go.SK
namespace Go.SK
open Go Go.Proofs
open Go.RowKit
theorem R3ref2_Ends2 (l : List Int) (hw : Wd l) (ao : Option Addr) (cp : Nat) (a : Nat) (ha : a < l.length) (w : World) (hA : (Res.rs ao l.length 1 (l.flatMap u32C)).holds w) (hl : l.length ≤ 35184372088832) : Ret Try.prog 67 #[.slice ao l.length cp, .int .i64 (a : Int)] w (fun v w' => ((endsF l a).2 = false ∧ v = .tuple #[.int .i64 0, .bool false] ∧ St w NoM [] [] w') ∨ (∃ n : Nat, l.getD a 0 / 65536 = (n : Int) ∧ 1 ≤ n ∧ a + n ≤ l.length ∧ v = .tuple #[.int .i64 ((a + n : Nat) : Int), .bool true] ∧ St w NoM [] [] w')) := by
 refine (R3ref2_Ends l hw ao cp a ha w hA hl).mono fun v w' hp => ?_
 obtain ⟨rfl, hst⟩ := hp
 cases he : (endsF l a).2 with
 | false =>
   refine .inl ⟨rfl, ?_, hst⟩
   have : endsF l a = (0, false) := by
     unfold endsF at he ⊢
     split at he
     · rename_i h; rw [if_pos h]
     · cases he
   rw [this]
 | true =>
   have ht := ends_true hw he
   refine .inr ⟨_, ht.2.2, ht.1, ht.2.1, ?_, hst⟩
   rw [endsF_ok (by omega) (by omega)]
   have : (a : Int) + l.getD a 0 / 65536 = ((a + (l.getD a 0 / 65536).toNat : Nat) : Int) := by omega
   rw [this]
theorem R3ref2_Read (l : List Int) (hw : Wd l) (ao : Option Addr) (cp : Nat) (w : World) (hA : (Res.rs ao l.length 1 (l.flatMap u32C)).holds w) (hl : l.length ≤ 35184372088832) : Ret Try.prog 38 #[.slice ao l.length cp] w (fun v w' => ∃ ro rc done, v = .tuple #[.agg #[.int .u32 (readF l).1.1, .int .u32 (readF l).1.2], .slice ro done.length rc, .agg #[.int .i64 (readF l).2.2.1, .int .i64 (readF l).2.2.2]] ∧ done.map RawP.L = (readF l).2.1.map (·.2) ∧ St w NoM [Res.oraws 45 23 ro rc done] [] w') := by
 refine Ret.enter (args := [.slice ao l.length cp]) Try.func38 rfl rfl rfl ?_
 have hst : St w NoM [] [Res.rs ao l.length 1 (l.flatMap u32C)] w := St.init_D hA
 clear hA
 refine SR <| CN <| Op1.alloc hst ty66 fun w b2 hst => AL rfl <| CN <| Op1.alloc hst ty29 fun w b4 hst => NL <| SQ <| SR <| ML rfl <| CN <| Op1.lenSl (rest := []) ty43 rfl <| CN <| Op1.gtr rfl rfl <| NL <| run_cond_dec rfl (fun g1 => ?_) (fun g1 => ?_)
 · skip
   refine SR <| CN (Op1.buildStruct ty66 stf66 .nil ?_)
   refine CN (Op1.buildStruct ty29 stf29 (.c (v := .int .i64 _) rfl (h := (.c (v := .int .i64 _) rfl (h := .nil)))) ?_)
   refine CN (SO (v := .agg #[.int .u32 _, .int .u32 _]) hst ty66 rfl rfl (.there (.here)) fun w hst => ?_)
   refine AL rfl <| CN (SO (v := .agg #[.int .i64 _, .int .i64 _]) hst ty29 rfl rfl (.here) fun w hst => ?_)
   refine NL <| run_ret3 Try.func38 rfl (RV.cellA (vs := [.int .u32 _, .int .u32 _]) rfl ty66 rfl rfl (cells_of_obj (n := 2) (hst.objL (.tail _ (.head _))) _ rfl)) (TP (v := .slice _ _ _) rfl) (RV.cellA (vs := [.int .i64 _, .int .i64 _]) rfl ty29 rfl rfl (cells_of_obj (n := 2) (hst.objL (.head _)) _ rfl)) ?_
   replace hst := hst.pick .nil
   replace hst := St.starCons ((hst.starNil).pushNil 45 2)
   refine ⟨none, 0, [], ?_, ?_, hst.noD⟩
   · rw [readF_large (by omega)] <;> rfl
   · rw [readF_large (by omega)] <;> rfl
 refine run_skip <| SQ <| SR <| AI rfl <| NL <| run_block <| run_loop <| Run.indW [(0, .slice _ _ _), (2, .pointer (some ⟨_, _, none⟩)), (4, .pointer (some ⟨_, _, none⟩))] ⟨rfl, rfl, rfl, trivial⟩ (fun (k : Nat) => [(5, .int .i64 (k : Int))]) (fun (k : Nat) => []) (fun (k : Nat) => k ≤ 5 ∧ ∀ j, j < k → hd1 l j = 0) (fun (k : Nat) => 5 - k) (0) hst ⟨Nat.zero_le _, no_lt⟩ ⟨rfl, trivial⟩ ?_
 intro k f w hst hJ ih2
 refine SQ <| SR <| MI rfl <| CN <| Op1.lss rfl rfl <| NL <| run_cond_dec rfl (fun g3 => ?_) (fun g3 => ?_)
 · skip
   refine run_skip <| SQ <| run_block <| SQ <| SR <| MI rfl <| ML rfl <| CN <| Op1.lenSl (rest := []) ty43 rfl <| CN <| Op1.geq rfl rfl <| NL <| run_cond_dec rfl (fun g4 => ?_) (fun g4 => ?_)
   · skip
     refine SR <| CN (Op1.buildStruct ty66 stf66 .nil ?_)
     refine MI rfl <| CN (Op1.buildStruct ty29 stf29 (.c (v := .int .i64 _) rfl (h := (.c (v := .int .i64 _) rfl (h := .nil)))) ?_)
     refine CN (SO (v := .agg #[.int .u32 _, .int .u32 _]) hst ty66 rfl rfl (.there (.here)) fun w hst => ?_)
     refine AL rfl <| CN (SO (v := .agg #[.int .i64 _, .int .i64 _]) hst ty29 rfl rfl (.here) fun w hst => ?_)
     refine NL <| run_ret3 Try.func38 rfl (RV.cellA (vs := [.int .u32 _, .int .u32 _]) rfl ty66 rfl rfl (cells_of_obj (n := 2) (hst.objL (.tail _ (.head _))) _ rfl)) (TP (v := .slice _ _ _) rfl) (RV.cellA (vs := [.int .i64 _, .int .i64 _]) rfl ty29 rfl rfl (cells_of_obj (n := 2) (hst.objL (.head _)) _ rfl)) ?_
     replace hst := hst.pick .nil
     have hh := headE_at (k := k) (e := 14) (by omega) hJ.2 (hd_end2 (by omega)) (by decide)
     have hr := readF_head (w := l) (by omega) (by rw [hh]; exact (by decide : (14 : Int) ≠ 0))
     rw [hh] at hr
     replace hst := St.starCons ((hst.starNil).pushNil 45 2)
     refine ⟨none, 0, [], ?_, ?_, hst.noD⟩
     · rw [hr] <;> rfl
     · rw [hr] <;> rfl
   refine run_skip <| SR <| MI rfl <| ML rfl <| MI rfl <| CN <| Op1.indexRs ty43 ty23 (hst.hD _ (.head _)) rfl rfl (by omega) (by omega) <| CN (Op1.load1 (v := .int .u32 _) ty23 rfl rfl (Res.rs2_cell (hst.hD _ (.head _)) (flat_cell0 (g := u32C) (d := 0) u32C_len rfl (by omega))) ?_)
   have hidx : l.getD ((k : Int)).toNat 0 = l.getD k 0 := rfl
   refine CN <| Op1.call2 (v1 := .int .i64 _) (v2 := .int .u32 _) ent66 rfl rfl rfl <| Ret.det (R3ref2_Wrong k (l.getD k 0) _) hst fun w hst => AI rfl <| NSR <| MI rfl <| CN <| Op1.neq rfl rfl <| NL <| run_cond_dec rfl (fun g5 => ?_) (fun g5 => ?_)
   · skip
     refine SR <| CN (Op1.buildStruct ty66 stf66 .nil ?_)
     refine MI rfl <| MI rfl <| CN (Op1.buildStruct ty29 stf29 (.c (v := .int .i64 _) rfl (h := (.c (v := .int .i64 _) rfl (h := .nil)))) ?_)
     refine CN (SO (v := .agg #[.int .u32 _, .int .u32 _]) hst ty66 rfl rfl (.there (.here)) fun w hst => ?_)
     refine AL rfl <| CN (SO (v := .agg #[.int .i64 _, .int .i64 _]) hst ty29 rfl rfl (.here) fun w hst => ?_)
     refine NL <| run_ret3 Try.func38 rfl (RV.cellA (vs := [.int .u32 _, .int .u32 _]) rfl ty66 rfl rfl (cells_of_obj (n := 2) (hst.objL (.tail _ (.head _))) _ rfl)) (TP (v := .slice _ _ _) rfl) (RV.cellA (vs := [.int .i64 _, .int .i64 _]) rfl ty29 rfl rfl (cells_of_obj (n := 2) (hst.objL (.head _)) _ rfl)) ?_
     replace hst := hst.pick .nil
     have hh := headE_at (k := k) (by omega) hJ.2 (hd_in (by omega) rfl) g5
     have hr := readF_head (w := l) (by omega) (by rw [hh]; exact g5)
     rw [hh] at hr
     replace hst := St.starCons ((hst.starNil).pushNil 45 2)
     refine ⟨none, 0, [], ?_, ?_, hst.noD⟩
     · rw [hr] <;> rfl
     · rw [hr] <;> rfl
   refine run_skip <| run_inBlock <| RG <| MI rfl <| CN <| Op1.addN rfl rfl rfl (wrap_i64 (by omega) (by omega)) <| AI rfl <| NL <| run_inLoop ?_
   exact ih2 (k + 1) _ w (by omega) hst (⟨by omega, step_all hJ.2 (hd_in (by omega) (Classical.not_not.1 g5))⟩) ⟨rfl, rfl, rfl, trivial⟩ ⟨(congrArg (Value.int .i64) (by omega)), trivial⟩
 refine run_exit (id := 0) rfl <| SR <| AL rfl <| NL <| SQ ?_
 replace hst := hst.pushNil 45 2
 replace hst := hst.starNil
 obtain rfl : k = 5 := by omega
 have hh0 := headE_ok hJ.2
 have hh : (headE l).1 = 0 := by rw [hh0]
 have hlen5 := (headE_len hh).1
 refine RG <| AI rfl <| NL <| SQ <| run_block <| run_loop <| Run.indW [(0, .slice _ _ _), (2, .pointer (some ⟨_, _, none⟩)), (4, .pointer (some ⟨_, _, none⟩))] ⟨rfl, rfl, rfl, trivial⟩ (fun (q : Nat × Option Addr × Nat × List RawP) => [(7, .slice q.2.1 q.2.2.2.length q.2.2.1), (8, .int .i64 (q.1 : Int))]) (fun (q : Nat × Option Addr × Nat × List RawP) => [Res.star (q.2.2.2.map (Res.oword 23)), Res.sl q.2.1 q.2.2.2.length q.2.2.1 45 2 (q.2.2.2.flatMap rawC)]) (fun (q : Nat × Option Addr × Nat × List RawP) => q.2.2.2.map RawP.L ++ (insR l q.1).1.map (·.2) = (insR l 5).1.map (·.2) ∧ (insR l q.1).2 = (insR l 5).2 ∧ q.1 ≤ l.length ∧ q.2.2.2.length + 5 ≤ q.1) (fun (q : Nat × Option Addr × Nat × List RawP) => l.length - q.1) ((5, none, 0, [])) hst ⟨rfl, rfl, hlen5, by decide⟩ ⟨rfl, rfl, trivial⟩ ?_
 intro ⟨a, aq, cq, done⟩ f w hst hK ih6
 replace hst : St _ _ ([Res.star (done.map (Res.oword 23)), Res.sl aq done.length cq 45 2 (done.flatMap rawC)] ++ [_, _]) _ _ := hst
 replace hK : done.map RawP.L ++ (insR l a).1.map (·.2) = (insR l 5).1.map (·.2) ∧ (insR l a).2 = (insR l 5).2 ∧ a ≤ l.length ∧ done.length + 5 ≤ a := hK
 refine Run.slots (sl := [(7, .slice aq done.length cq), (8, .int .i64 (a : Int))]) ⟨rfl, rfl, trivial⟩ <| SQ <| SR <| MI rfl <| ML rfl <| CN <| Op1.lenSl (rest := []) ty43 rfl <| CN <| Op1.lss rfl rfl <| NL <| run_cond_dec rfl (fun g7 => ?_) (fun g7 => ?_)
 · skip
   refine run_skip <| run_block <| SR <| ML rfl <| MI rfl <| CN (Op1.call2 (v1 := .slice _ _ _) (v2 := .int .i64 _) ent67 rfl rfl rfl ((R3ref2_Ends2 _ hw _ _ a (by omega) _ (hst.hD _ (.head _)) hl).mono fun v w hp => ?_))
   rcases hp with ⟨he, rfl, hp⟩ | ⟨n, hn, h1, h2, rfl, hp⟩
   · skip
     replace hst := hst.keepc hp
     clear hp
     refine CN <| Op1.move (v := .tuple #[.int .i64 _, .bool _]) rfl <| CN <| Op1.extract (v := .int .i64 _) rfl rfl <| CN <| Op1.extract (v := .bool _) rfl rfl <| AI rfl <| AB rfl <| NL <| SQ <| SR <| MB rfl <| CN <| Op1.not rfl <| NL <| run_cond_split rfl (fun g8 => ?_) (fun g8 => ?_)
     · skip
       refine SR <| CN (Op1.buildStruct ty66 stf66 .nil ?_)
       refine MI rfl <| CN (Op1.buildStruct ty29 stf29 (.c (v := .int .i64 _) rfl (h := (.c (v := .int .i64 _) rfl (h := .nil)))) ?_)
       refine CN (SO (v := .agg #[.int .u32 _, .int .u32 _]) hst ty66 rfl rfl (.there (.there (.there (.here)))) fun w hst => ?_)
       refine AL rfl <| CN (SO (v := .agg #[.int .i64 _, .int .i64 _]) hst ty29 rfl rfl (.there (.there (.here))) fun w hst => ?_)
       refine NL <| run_ret3 Try.func38 rfl (RV.cellA (vs := [.int .u32 _, .int .u32 _]) rfl ty66 rfl rfl (cells_of_obj (n := 2) (hst.objL (.tail _ (.tail _ (.tail _ (.head _))))) _ rfl)) (TP (v := .slice _ _ _) rfl) (RV.cellA (vs := [.int .i64 _, .int .i64 _]) rfl ty29 rfl rfl (cells_of_obj (n := 2) (hst.objL (.tail _ (.tail _ (.head _)))) _ rfl)) ?_
       replace hst := hst.pick .nil
       have hs := insR_stop (w := l) (a := a) (fun h => he)
       rw [hs] at hK
       have hk2 : a = (insR l 5).2 := hK.2.1
       subst hk2
       replace hst := St.starCons ((hst.starNil).pushNil 45 2)
       refine ⟨none, 0, [], ?_, ?_, hst.noD⟩
       · rw [readF_count (by omega) hh (by omega)] <;> rfl
       · rw [readF_count (by omega) hh (by omega)] <;> rfl
     exfalso
     cases g8
   · skip
     replace hst := hst.keepc hp
     clear hp
     refine CN <| Op1.move (v := .tuple #[.int .i64 _, .bool _]) rfl <| CN <| Op1.extract (v := .int .i64 _) rfl rfl <| CN <| Op1.extract (v := .bool _) rfl rfl <| AI rfl <| AB rfl <| NL <| SQ <| SR <| MB rfl <| CN <| Op1.not rfl <| NL <| run_cond_split rfl (fun g9 => ?_) (fun g9 => ?_)
     · skip
       exfalso
       cases g9
     refine run_skip <| SR <| ML rfl <| ML rfl <| MI rfl <| MI rfl <| CN (Op1.call3 (v1 := .slice _ _ _) (v2 := .int .i64 _) (v3 := .int .i64 _) ent68 rfl rfl rfl rfl ((R3ref2_At _ hw _ _ a (a + n) (by omega) h2 _ (hst.hD _ (.head _)) hl).mono fun v w hp => ?_))
     obtain ⟨ro, rc, rfl, hp⟩ := hp
     replace hst : St _ _ (_ :: _) _ _ := hst.call0 hp
     clear hp
     refine CN (Op1.buildSl (z0 := [.int .u16 0, .slice none 0 0]) hst ty67 ty45 rfl rfl (by kernel_rfl) (.c (v := .agg #[.int .u16 _, .slice _ _ _]) rfl (h := .nil)) fun w b59 hst => ?_)
     refine CN (Op1.append (news := [.int .u16 _, .slice _ _ _]) hst ty67 ty45 rfl rfl (.there (.there (.there (.here)))) rfl rfl rfl (cells_of_obj (n := 2) (hst.objL (.head _)) _ rfl) rfl rfl (by omega) fun w ao10 cp11 hst => ?_)
     replace hst := hst.drop (.there (.here))
     refine AL rfl <| NL <| Run.forget [(0, .slice _ _ _), (2, .pointer (some ⟨_, _, none⟩)), (4, .pointer (some ⟨_, _, none⟩)), (7, .slice _ _ _), (9, .int .i64 _)] ⟨rfl, rfl, rfl, rfl, rfl, trivial⟩ fun f => RG <| MI rfl <| AI rfl <| NL <| run_inBlock <| run_inLoop ?_
     replace hst := hst.pick (.cons (.there (.here)) (.cons (.there (.here)) (.cons (.here) (.cons (.here) (.cons (.here) .nil)))))
     replace hst := hst.starSnoc
     have e0 : a + n - (a + 1) = ((l.drop (a + 1)).take (a + n - (a + 1))).length := by rw [List.length_take, List.length_drop]; omega
     have e1 : done.length + 1 = (done ++ [(⟨l.getD a 0 % 65536, ro, rc, (l.drop (a + 1)).take (a + n - (a + 1))⟩ : RawP)]).length := by simp
     have e2 : done.flatMap rawC ++ [.int .u16 (l.getD a 0 % 65536), .slice ro (a + n - (a + 1)) rc] = (done ++ [(⟨l.getD a 0 % 65536, ro, rc, (l.drop (a + 1)).take (a + n - (a + 1))⟩ : RawP)]).flatMap rawC := by rw [List.flatMap_append]; simp only [List.flatMap_cons, List.flatMap_nil, List.append_nil, rawC, ← e0]
     have e3 : done.map (Res.oword 23) ++ [Res.sl ro (a + n - (a + 1)) rc 23 1 (((l.drop (a + 1)).take (a + n - (a + 1))).flatMap u32C)] = (done ++ [(⟨l.getD a 0 % 65536, ro, rc, (l.drop (a + 1)).take (a + n - (a + 1))⟩ : RawP)]).map (Res.oword 23) := by rw [List.map_append]; simp only [List.map_cons, List.map_nil, Res.oword, ← e0]
     have hs := insR_step hw hn h1 h2
     rw [hs] at hK
     have e5 : a + n - (a + 1) = n - 1 := by omega
     have hI2 : (done ++ [(⟨l.getD a 0 % 65536, ro, rc, (l.drop (a + 1)).take (a + n - (a + 1))⟩ : RawP)]).map RawP.L ++ (insR l (a + n)).1.map (·.2) = (insR l 5).1.map (·.2) := by rw [← hK.1, List.map_append, List.append_assoc]; simp only [e5, List.map_cons, List.map_nil, List.cons_append, List.nil_append]
     rw [e1, e2, e3] at hst
     exact ih6 ((a + n, ao10, cp11, done ++ [(⟨l.getD a 0 % 65536, ro, rc, (l.drop (a + 1)).take (a + n - (a + 1))⟩ : RawP)])) _ w (by (try dsimp only); omega) hst (⟨hI2, hK.2.1, h2, by (try dsimp only); simp only [List.length_append, List.length_cons, List.length_nil]; omega⟩) ⟨rfl, rfl, rfl, trivial⟩ ⟨(by (try dsimp only); rw [← e1]; rfl), rfl, trivial⟩
 refine run_exit (id := 2) rfl <| SQ ?_
 replace hst := hst.pick (.cons (.there (.there (.there (.here)))) (.cons (.here) (.cons (.here) (.cons (.here) .nil))))
 apply RunD.start [(9, Res.row b2 66 _, Res.row b2 66 _)] hst (bs := [0, 1, 3, 0, 8, 24, 63, 0, 0, 127, 767, 2047]) (ds := [some 62, some 63, some 64, some 65, some 66, some 67, some 68, some 69, some 70, none, some 3, none]) (htab := ⟨by kernel_rfl, by kernel_rfl, by kernel_rfl⟩)
 intro tab12
 refine RunD.op (det _) tab12 1 (fun f' L' w' hc => Op1.move (v := .slice _ _ _) (hc.old (v := .slice _ _ _) rfl rfl rfl) ⟨[], ⟨rfl, rfl⟩, hc.st⟩) <| RunD.op (det _) tab12 2 (fun f' L' w' hc => Op1.indexRs ty43 ty23 (hc.st.hD _ (.head _)) (hc.det (j := 0) rfl rfl rfl rfl) rfl (by omega) (by omega) ⟨[], ⟨rfl, rfl⟩, hc.st⟩) <| RunD.op (det _) tab12 3 (fun f' L' w' hc => Op1.load1 (v := .int .u32 _) ty23 rfl (hc.det (j := 1) rfl rfl rfl rfl) (Res.rs2_cell (hc.st.hD _ (.head _)) (flat_cell0 (g := u32C) (d := 0) u32C_len rfl (by omega))) ⟨[], ⟨rfl, rfl⟩, hc.st⟩) <| RunD.op (det _) tab12 4 (fun f' L' w' hc => Op1.move (v := .slice _ _ _) (hc.old (v := .slice _ _ _) rfl rfl rfl) ⟨[], ⟨rfl, rfl⟩, hc.st⟩) <| RunD.op (det _) tab12 5 (fun f' L' w' hc => Op1.indexRs ty43 ty23 (hc.st.hD _ (.head _)) (hc.det (j := 3) rfl rfl rfl rfl) rfl (by omega) (by omega) ⟨[], ⟨rfl, rfl⟩, hc.st⟩) <| RunD.op (det _) tab12 6 (fun f' L' w' hc => Op1.load1 (v := .int .u32 _) ty23 rfl (hc.det (j := 4) rfl rfl rfl rfl) (Res.rs2_cell (hc.st.hD _ (.head _)) (flat_cell0 (g := u32C) (d := 0) u32C_len rfl (by omega))) ⟨[], ⟨rfl, rfl⟩, hc.st⟩) <| RunD.op (det _) tab12 7 (fun f' L' w' hc => Op1.buildStruct ty66 stf66 (.c (v := .int .u32 _) (hc.det (j := 2) rfl rfl rfl rfl) (h := (.c (v := .int .u32 _) (hc.det (j := 5) rfl rfl rfl rfl) (h := .nil)))) ⟨[], ⟨rfl, rfl⟩, hc.st⟩) ?_
 refine RunD.op (det _) tab12 8 (fun f' L' w' hc => Op1.move (v := .slice _ _ _) (hc.old (v := .slice _ _ _) rfl rfl rfl) ⟨[], ⟨rfl, rfl⟩, hc.st⟩) <| RunD.op (det _) tab12 9 (fun f' L' w' hc => Op1.buildStruct ty29 stf29 .nil ⟨[], ⟨rfl, rfl⟩, hc.st⟩) ?_
 refine RunD.own tab12 10 (.head _) (fun f' L' L2 w' hc hsel => Op1.store (v := .agg #[.int .u32 _, .int .u32 _]) hc.st ty66 (hc.old (v := .pointer (some ⟨_, _, none⟩)) rfl rfl rfl) (hc.det (j := 6) rfl rfl rfl rfl) rfl rfl rfl hsel (by repeat (first | exact Put.nil | apply Put.put | apply Put.skip)) fun w hst => ⟨rfl, hst⟩) ?_
 refine RunD.op (det _) tab12 11 (fun f' L' w' hc => Op1.assign (v := .slice _ _ _) (hc.det (j := 7) rfl rfl rfl rfl) ⟨[], ⟨rfl, rfl⟩, hc.st⟩) <| RunD.fin followsMixed tab12 hst rfl (fun f13 w R16 hs14 hd15 hr17 hst => ?_)
 obtain ⟨h62_, r0⟩ := hd15 0 62 rfl rfl
 obtain ⟨h63_, r1⟩ := hd15 1 63 rfl rfl
 obtain ⟨h64_, r2⟩ := hd15 2 64 rfl rfl
 obtain ⟨h65_, r3⟩ := hd15 3 65 rfl rfl
 obtain ⟨h66_, r4⟩ := hd15 4 66 rfl rfl
 obtain ⟨h67_, r5⟩ := hd15 5 67 rfl rfl
 obtain ⟨h68_, r6⟩ := hd15 6 68 rfl rfl
 obtain ⟨h69_, r7⟩ := hd15 7 69 rfl rfl
 obtain ⟨h70_, r8⟩ := hd15 8 70 rfl rfl
 obtain ⟨_, _, r9⟩ := hr17 9 rfl
 obtain ⟨h3_, r10⟩ := hd15 10 3 rfl rfl
 simp only [show List.range 11 = [0, 1, 2, 3, 4, 5, 6, 7, 8, 9, 10] from rfl, List.flatMap_cons, List.flatMap_nil, List.map_cons, List.map_nil, r0, r1, r2, r3, r4, r5, r6, r7, r8, r9, r10, List.nil_append, List.append_nil, List.cons_append] at hst
 refine RunL.slots (sl := [(2, .pointer (some ⟨_, _, none⟩)), (3, .slice _ _ _), (4, .pointer (some ⟨_, _, none⟩)), (70, .agg #[.int .i64 _, .int .i64 _])]) ⟨(hs14 2 rfl).trans rfl, h3_, (hs14 4 rfl).trans rfl, h70_, trivial⟩ ?_
 clear hs14 hd15 hr17 tab12
 refine CN (SO (v := .agg #[.int .i64 _, .int .i64 _]) hst ty29 rfl rfl (.there (.there (.there (.here)))) fun w hst => ?_)
 refine NL <| run_ret3 Try.func38 rfl (RV.cellA (vs := [.int .u32 _, .int .u32 _]) rfl ty66 rfl rfl (cells_of_obj (n := 2) (hst.objL (.head _)) _ rfl)) (TP (v := .slice _ _ _) rfl) (RV.cellA (vs := [.int .i64 _, .int .i64 _]) rfl ty29 rfl rfl (cells_of_obj (n := 2) (hst.objL (.tail _ (.tail _ (.tail _ (.head _))))) _ rfl)) ?_
 replace hst := hst.pick (.cons (.there (.there (.here))) (.cons (.there (.here)) .nil))
 have hs := insR_stop (w := l) (a := a) (fun h => absurd h (by omega))
 rw [hs] at hK
 have hk2 : a = (insR l 5).2 := hK.2.1
 have hK1 := hK.1
 simp only [List.map_nil, List.append_nil] at hK1
 refine ⟨aq, cq, done, ?_, ?_, (St.starCons hst).noD⟩
 · rw [readF_ok (by omega) hh (by omega)] <;> rfl
 · rw [readF_ok (by omega) hh (by omega)]; exact hK1
end Go.SK
namespace Go.SK
open Go Go.Proofs
theorem ent38 : Enters Try.prog 38 := ⟨Try.f38, _, Try.func38, by kernel_rfl, rfl⟩
end Go.SK
namespace Go.SK
open Go Go.Proofs
open Go.RowKit
theorem R3ref1_SplitD (b : List UInt8) (ao : Option Addr) (cp : Nat) {l : List Int} {se : Int} (h1 : splitL b = l) (h2 : splitE b = se) (w : World) (hA : (Res.rs ao b.length 1 (b.flatMap byC)).holds w) (hl : b.length ≤ 240000000000000) : Ret Try.prog 37 #[.slice ao b.length cp] w (fun v w' => ∃ ro rc, v = .tuple #[.slice ro l.length rc, .int .i64 se] ∧ St w NoM [Res.sl ro l.length rc 23 1 (l.flatMap u32C)] [] w') := by
 subst h1; subst h2; exact R3ref1_Split b ao cp w hA hl
theorem R3ref2_ReadD {l : List Int} {gn bd re ra : Int} {its : List InsW} (hR : readF l = ((gn, bd), its, (re, ra))) (hw : Wd l) (ao : Option Addr) (cp : Nat) (w : World) (hA : (Res.rs ao l.length 1 (l.flatMap u32C)).holds w) (hl : l.length ≤ 35184372088832) : Ret Try.prog 38 #[.slice ao l.length cp] w (fun v w' => ∃ ro rc done, v = .tuple #[.agg #[.int .u32 gn, .int .u32 bd], .slice ro done.length rc, .agg #[.int .i64 re, .int .i64 ra]] ∧ done.map RawP.L = its.map (·.2) ∧ St w NoM [Res.oraws 45 23 ro rc done] [] w') := by
 have h := R3ref2_Read l hw ao cp w hA hl
 rw [hR] at h; exact h
theorem R3ref4_Decode (b : List UInt8) (ao : Option Addr) (cp : Nat) (w : World) (hA : (Res.rs ao b.length 1 (b.flatMap byC)).holds w) (hb : b.length ≤ 140737488355328) : Ret Try.prog 13 #[.slice ao b.length cp] w (fun v w' => ∃ ro rc dm, v = .tuple #[.agg #[.int .u32 (decodeF b).1.1, .int .u32 (decodeF b).1.2.1, .slice ro dm.length rc], .agg #[.int .i64 (decodeF b).2.1, .int .i64 (decodeF b).2.2]] ∧ dm.map InstP.L = (decodeF b).1.2.2 ∧ St w NoM [Res.omod 48 71 ro rc dm] [] w') := by
 refine Ret.enter (args := [.slice ao b.length cp]) Try.func13 rfl rfl rfl ?_
 have hst : St w NoM [] [Res.rs ao b.length 1 (b.flatMap byC)] w := St.init_D hA
 clear hA
 obtain ⟨l, hsl⟩ : ∃ l, splitL b = l := ⟨_, rfl⟩
 obtain ⟨se, hse⟩ : ∃ se, splitE b = se := ⟨_, rfl⟩
 obtain ⟨gn, bd, its, re, ra, hR⟩ : ∃ gn bd its re ra, readF l = ((gn, bd), its, (re, ra)) := ⟨_, _, _, _, _, rfl⟩
 have hwd : Wd l := hsl ▸ splitL_wd b
 have hll : l.length ≤ 35184372088832 := by have := splitL_le b; rw [← hsl]; omega
 refine SR <| CN <| Op1.alloc hst ty26 fun w b2 hst => CN <| Op1.alloc hst ty29 fun w b3 hst => NSR <| ML rfl <| CN (Op1.call1 (v1 := .slice _ _ _) ent37 rfl rfl ((R3ref1_SplitD b _ _ hsl hse _ (hst.hD _ (.head _)) (by omega)).mono fun v w hp => ?_))
 obtain ⟨aW, cW, rfl, hp⟩ := hp
 replace hst : St _ _ (_ :: _) _ _ := hst.call0 hp
 clear hp
 refine CN <| Op1.move (v := .tuple #[.slice _ _ _, .int .i64 _]) rfl <| CN <| Op1.extract (v := .slice _ _ _) rfl rfl <| CN <| Op1.extract (v := .int .i64 _) rfl rfl <| AL rfl <| AI rfl <| NL <| SQ <| SR <| MI rfl <| CN <| Op1.neq rfl rfl <| NL <| run_cond_dec rfl (fun g1 => ?_) (fun g1 => ?_)
 · skip
   refine SR <| CN (Op1.buildStruct ty26 stf26 .nil ?_)
   refine MI rfl <| CN (Op1.buildStruct ty29 stf29 (.c (v := .int .i64 _) rfl (h := .nil)) ?_)
   refine CN (SO (v := .agg #[.int .u32 _, .int .u32 _, .slice _ _ _]) hst ty26 rfl rfl (.there (.there (.here))) fun w hst => ?_)
   refine CN (SO (v := .agg #[.int .i64 _, .int .i64 _]) hst ty29 rfl rfl (.there (.here)) fun w hst => ?_)
   refine NL <| run_ret2 Try.func13 rfl (RV.cellA (vs := [.int .u32 _, .int .u32 _, .slice _ _ _]) rfl ty26 rfl rfl (cells_of_obj (n := 3) (hst.objL (.tail _ (.tail _ (.head _)))) _ rfl)) (RV.cellA (vs := [.int .i64 _, .int .i64 _]) rfl ty29 rfl rfl (cells_of_obj (n := 2) (hst.objL (.tail _ (.head _))) _ rfl)) ?_
   replace hst := hst.pick .nil
   have hD := decodeF_split (b := b) (by rw [hse]; exact g1)
   rw [hse] at hD
   replace hst := St.starCons ((hst.starNil).pushNil 48 4)
   rw [hD]
   exact ⟨none, 0, [], rfl, rfl, hst.noD⟩
 refine run_skip <| SR <| ML rfl <| CN (Op1.call1 (v1 := .slice _ _ _) ent38 rfl rfl ((R3ref2_ReadD hR hwd _ _ _ (Res.rs_of_sl (hst.hL _ (.head _))) hll).mono fun v w hp => ?_))
 obtain ⟨aQ, cQ, done, rfl, hI, hp⟩ := hp
 replace hst : St _ _ (_ :: _) _ _ := hst.call0 hp
 clear hp
 refine CN <| Op1.move (v := .tuple #[.agg #[.int .u32 _, .int .u32 _], .slice _ _ _, .agg #[.int .i64 _, .int .i64 _]]) rfl <| CN <| Op1.extract (v := .agg #[.int .u32 _, .int .u32 _]) rfl rfl <| CN <| Op1.extract (v := .slice _ _ _) rfl rfl <| CN <| Op1.extract (v := .agg #[.int .i64 _, .int .i64 _]) rfl rfl <| CN <| Op1.alloc hst ty66 fun w b6 hst => CN <| Op1.alloc hst ty29 fun w b8 hst => CN (SO (v := .agg #[.int .u32 _, .int .u32 _]) hst ty66 rfl rfl (.there (.here)) fun w hst => ?_)
 refine AL rfl <| CN (SO (v := .agg #[.int .i64 _, .int .i64 _]) hst ty29 rfl rfl (.here) fun w hst => ?_)
 refine NL <| Run.forget [(2, .pointer (some ⟨_, _, none⟩)), (3, .pointer (some ⟨_, _, none⟩)), (6, .pointer (some ⟨_, _, none⟩)), (7, .slice _ _ _), (8, .pointer (some ⟨_, _, none⟩))] ⟨rfl, rfl, rfl, rfl, rfl, trivial⟩ fun f => SQ <| SR <| CN <| Op1.fieldAddr fld29_0 rfl <| CN <| Op1.load1 (v := .int .i64 _) ty27 rfl rfl (hst.cellL (.head _) rfl) <| CN <| Op1.neq rfl rfl <| NL <| run_cond_dec rfl (fun g2 => ?_) (fun g2 => ?_)
 · skip
   refine SQ ?_
   replace hst := hst.pick (.cons (.there (.there (.there (.there (.there (.here)))))) (.cons (.here) (.cons (.here) (.cons (.here) (.cons (.here) (.cons (.here) .nil))))))
   apply RunD.start [(2, Res.row b2 26 _, Res.row b2 26 _)] hst (bs := [0, 0, 1, 7]) (ds := [some 33, some 34, none, none]) (htab := ⟨by kernel_rfl, by kernel_rfl, by kernel_rfl⟩)
   intro tab3
   refine RunD.op (det _) tab3 1 (fun f' L' w' hc => Op1.buildStruct ty26 stf26 .nil ⟨[], ⟨rfl, rfl⟩, hc.st⟩) ?_
   refine RunD.op (det _) tab3 2 (fun f' L' w' hc => Op1.loadA (vs := [.int .i64 _, .int .i64 _]) ty29 rfl (hc.old (v := .pointer (some ⟨_, _, none⟩)) rfl rfl rfl) rfl (cells_of_obj (n := 2) (hc.st.objL (List.mem_append_right _ (.head _))) _ rfl) ⟨[], ⟨rfl, rfl⟩, hc.st⟩) <| RunD.own tab3 3 (.head _) (fun f' L' L2 w' hc hsel => Op1.store (v := .agg #[.int .u32 _, .int .u32 _, .slice _ _ _]) hc.st ty26 (hc.old (v := .pointer (some ⟨_, _, none⟩)) rfl rfl rfl) (hc.det (j := 0) rfl rfl rfl rfl) rfl rfl rfl hsel (by repeat (first | exact Put.nil | apply Put.put | apply Put.skip)) fun w hst => ⟨rfl, hst⟩) ?_
   refine RunD.fin followsMixed tab3 hst rfl (fun f4 w R7 hs5 hd6 hr8 hst => ?_)
   obtain ⟨h33_, r0⟩ := hd6 0 33 rfl rfl
   obtain ⟨h34_, r1⟩ := hd6 1 34 rfl rfl
   obtain ⟨_, _, r2⟩ := hr8 2 rfl
   simp only [show List.range 3 = [0, 1, 2] from rfl, List.flatMap_cons, List.flatMap_nil, List.map_cons, List.map_nil, r0, r1, r2, List.nil_append, List.append_nil, List.cons_append] at hst
   refine RunL.slots (sl := [(2, .pointer (some ⟨_, _, none⟩)), (3, .pointer (some ⟨_, _, none⟩)), (34, .agg #[.int .i64 _, .int .i64 _])]) ⟨(hs5 2 rfl).trans rfl, (hs5 3 rfl).trans rfl, h34_, trivial⟩ ?_
   clear hs5 hd6 hr8 tab3
   refine CN (SO (v := .agg #[.int .i64 _, .int .i64 _]) hst ty29 rfl rfl (.there (.there (.there (.there (.there (.here)))))) fun w hst => ?_)
   refine NL <| run_ret2 Try.func13 rfl (RV.cellA (vs := [.int .u32 _, .int .u32 _, .slice _ _ _]) rfl ty26 rfl rfl (cells_of_obj (n := 3) (hst.objL (.head _)) _ rfl)) (RV.cellA (vs := [.int .i64 _, .int .i64 _]) rfl ty29 rfl rfl (cells_of_obj (n := 2) (hst.objL (.tail _ (.tail _ (.tail _ (.tail _ (.tail _ (.head _))))))) _ rfl)) ?_
   replace hst := hst.pick .nil
   have hse0 : splitE b = 0 := by rw [hse]; exact Classical.not_not.1 g1
   have hD := decodeF_words hse0
   rw [hsl] at hD
   rw [decW_read (by rw [hR]; exact g2), hR] at hD
   replace hst := St.starCons ((hst.starNil).pushNil 48 4)
   rw [hD]
   exact ⟨none, 0, [], rfl, rfl, hst.noD⟩
 have hre : re = 0 := by omega
 have hgd := readF_good (w := l) (by rw [hR]; exact hre)
 rw [hR] at hgd
 have hits : its = (insR l 5).1 := congrArg (fun q : (Int × Int) × List InsW × (Int × Int) => q.2.1) hgd.1
 have hlen5 := (headE_len hgd.2.2.1).1
 have hend := (ins_end hwd l.length 5 hlen5).1
 have hAN : atI (insR l 5) its.length = (insR l 5).2 := by rw [hits]; unfold atI; rw [if_neg (by omega)]
 have hen : (insR l 5).2 = l.length := Nat.le_antisymm hend (Nat.not_lt.1 hgd.2.2.2)
 have hdl : done.length = its.length := by simpa using congrArg List.length hI
 have hnl : its.length + 5 ≤ l.length := by have h := (ins_end hwd l.length 5 hlen5).2; rw [← hen, hits]; exact h
 refine run_skip <| SR <| CN <| Op1.fieldAddr fld66_0 rfl <| CN <| Op1.load1 (v := .int .u32 _) ty23 rfl rfl (hst.cellL (.tail _ (.head _)) rfl) <| CN <| Op1.fieldAddr fld66_1 rfl <| CN <| Op1.load1 (v := .int .u32 _) ty23 rfl rfl (hst.cellL (.tail _ (.head _)) rfl) <| CN (Op1.buildStruct ty26 stf26 (.c (v := .int .u32 _) rfl (h := (.c (v := .int .u32 _) rfl (h := .nil)))) ?_)
 refine CN <| Op1.alloc hst ty26 fun w b9 hst => CN (SO (v := .agg #[.int .u32 _, .int .u32 _, .slice _ _ _]) hst ty26 rfl rfl (.here) fun w hst => ?_)
 refine NSR <| AI rfl <| NL <| SQ <| SQ ?_
 replace hst := hst.pushNil 48 4
 replace hst := hst.starNil
 refine RG <| AI rfl <| NL <| run_block <| run_loop <| Run.indW [(2, .pointer (some ⟨_, _, none⟩)), (3, .pointer (some ⟨_, _, none⟩)), (6, .pointer (some ⟨_, _, none⟩)), (7, .slice _ _ _), (9, .pointer (some ⟨_, _, none⟩))] ⟨rfl, rfl, rfl, rfl, rfl, trivial⟩ (fun (q : Nat × Option Addr × Nat × List InstP) => [(10, .int .i64 (atI (insR l 5) q.1 : Int)), (11, .int .i64 (q.1 : Int))]) (fun (q : Nat × Option Addr × Nat × List InstP) => [Res.star (q.2.2.2.map (Res.oargs 71)), Res.sl q.2.1 q.2.2.2.length q.2.2.1 48 4 (q.2.2.2.flatMap instC), Res.row b9 26 [.int .u32 gn, .int .u32 bd, .slice q.2.1 q.2.2.2.length q.2.2.1]]) (fun (q : Nat × Option Addr × Nat × List InstP) => q.1 ≤ its.length ∧ (∀ j, j < q.1 → (instF bd (its.getD j zeroW).2.1 (its.getD j zeroW).2.2).2 = 0) ∧ q.2.2.2.map InstP.L = (its.take q.1).map (fun p => (instF bd p.2.1 p.2.2).1)) (fun (q : Nat × Option Addr × Nat × List InstP) => its.length - q.1) ((0, none, 0, [])) hst ⟨Nat.zero_le _, no_lt, rfl⟩ ⟨(congrArg (Value.int .i64) (by rw [show atI (insR l 5) 0 = 5 from atI_zero _ _]; rfl)), rfl, trivial⟩ ?_
 intro ⟨i, aq, cq, dm⟩ f w hst hK ih9
 replace hst : St _ _ ([Res.star (dm.map (Res.oargs 71)), Res.sl aq dm.length cq 48 4 (dm.flatMap instC), Res.row b9 26 [.int .u32 gn, .int .u32 bd, .slice aq dm.length cq]] ++ [_, _, _, _, _, _]) _ _ := hst
 replace hK : i ≤ its.length ∧ (∀ j, j < i → (instF bd (its.getD j zeroW).2.1 (its.getD j zeroW).2.2).2 = 0) ∧ dm.map InstP.L = (its.take i).map (fun p => (instF bd p.2.1 p.2.2).1) := hK
 refine Run.slots (sl := [(10, .int .i64 (atI (insR l 5) i : Int)), (11, .int .i64 (i : Int))]) ⟨rfl, rfl, trivial⟩ <| SQ <| SR <| MI rfl <| ML rfl <| CN <| Op1.lenSl (rest := []) ty67 rfl <| CN <| Op1.lss rfl rfl <| NL <| run_cond_dec rfl (fun g10 => ?_) (fun g10 => ?_)
 · skip
   have hch : atI (insR l 5) i + 1 + (its.getD i zeroW).2.2.length = atI (insR l 5) (i + 1) ∧ (its.getD i zeroW).1 = atI (insR l 5) i := by rw [hits]; exact ins_chain hwd _ 5 i (by rw [← hits]; omega)
   have hgt := raws_getD hI (i := i) (by omega)
   have hidx : done.getD ((i : Int)).toNat zeroR = (done.getD i zeroR) := rfl
   have hidx2 : (done.getD ((i : Int)).toNat zeroR).ws.length = (its.getD i zeroW).2.2.length := by rw [← hgt.2]; rfl
   have hidx3 : (done.getD i zeroR).ws.length = (its.getD i zeroW).2.2.length := by rw [hgt.2]
   have hbl : atI (insR l 5) (i + 1) ≤ l.length := atI_le hwd l.length 5 (i + 1) hlen5
   obtain ⟨I, ie, hIF⟩ : ∃ I ie, instF bd (done.getD i zeroR).op (done.getD i zeroR).ws = (I, ie) := ⟨_, _, rfl⟩
   have hIW := hIF
   rw [hgt.1, hgt.2] at hIW
   have hsub := its_sub hwd hits (i := i) (by omega)
   have hmem : (done.getD i zeroR) ∈ done := getD_memD (by omega)
   have hdml : dm.length ≤ i := by have := congrArg List.length hK.2.2; simp only [List.length_map, List.length_take] at this; omega
   refine run_skip <| SQ <| run_block <| SQ <| RunD.startT [(10, 11)] [] hst (bs := [0, 0, 3, 7, 0, 16, 63, 127, 255, 255, 0, 1535, 4095]) (ds := [some 47, some 48, some 49, some 50, some 51, some 52, some 53, some 46, some 54, some 55, some 12, none, some 13]) ⟨by kernel_rfl, by kernel_rfl, by kernel_rfl⟩ (fun tab11 => ?_)
   refine RunD.op (det _) tab11 1 (fun f' L' w' hc => Op1.move (v := .slice _ _ _) (hc.old (v := .slice _ _ _) rfl rfl rfl) ⟨[], ⟨rfl, rfl⟩, hc.st⟩) <| RunD.op (det _) tab11 2 (fun f' L' w' hc => Op1.move (v := .int .i64 _) (hc.old (v := .int .i64 _) rfl rfl rfl) ⟨[], ⟨rfl, rfl⟩, hc.st⟩) <| RunD.op (det _) tab11 3 (fun f' L' w' hc => Op1.indexRs ty67 ty45 (Res.rraws_raws (Res.rraws_of_oraws (hc.st.hL _ (List.mem_append_right _ (.tail _ (.tail _ (.tail _ (.tail _ (.tail _ (.head _)))))))))) (hc.det (j := 0) rfl rfl rfl rfl) (hc.det (j := 1) rfl rfl rfl rfl) (by omega) (by omega) ⟨[], ⟨rfl, rfl⟩, hc.st⟩) <| RunD.op (det _) tab11 4 (fun f' L' w' hc => Op1.loadA (vs := [.int .u16 _, .slice _ _ _]) ty45 rfl (hc.det (j := 2) rfl rfl rfl rfl) rfl (Res.rs2_cells (m := 2) (Res.rraws_raws (Res.rraws_of_oraws (hc.st.hL _ (List.mem_append_right _ (.tail _ (.tail _ (.tail _ (.tail _ (.tail _ (.head _)))))))))) _ (flat_seg (g := rawC) (d := zeroR) rawC_len _ _ (by omega))) ⟨[], ⟨rfl, rfl⟩, hc.st⟩) <| RunD.op (det _) tab11 5 (fun f' L' w' hc => Op1.fieldAddr fld66_1 (hc.old (v := .pointer (some ⟨_, _, none⟩)) rfl rfl rfl) ⟨[], ⟨rfl, rfl⟩, hc.st⟩) <| RunD.op (det _) tab11 6 (fun f' L' w' hc => Op1.load1 (v := .int .u32 _) ty23 rfl (hc.det (j := 4) rfl rfl rfl rfl) (hc.st.cellL (List.mem_append_right _ (.tail _ (.tail _ (.tail _ (.tail _ (.head _)))))) rfl) ⟨[], ⟨rfl, rfl⟩, hc.st⟩) ?_
   have hwx : Wd (done.getD i zeroR).ws := by rw [hgt.2]; exact hsub.1
   refine RunD.op (fun v rs => ∃ ro rc, v = .tuple #[.agg #[.int .u16 I.op, .int .u32 I.ty, .int .u32 I.res, .slice ro I.args.length rc], .int .i64 ie] ∧ rs = [Res.sl ro I.args.length rc 71 3 (I.args.flatMap argC)]) tab11 7 (fun f' L' w' hc => Op1.call2 (v1 := .agg #[.int .u16 _, .slice _ _ _]) (v2 := .int .u32 _) ent24 rfl (hc.det (j := 3) rfl rfl rfl rfl) (hc.det (j := 5) rfl rfl rfl rfl) ((R3ref4_InstD hIF hwx _ _ (oraws_cap (hc.st.hL _ (List.mem_append_right _ (.tail _ (.tail _ (.tail _ (.tail _ (.tail _ (.head _)))))))) hmem) (by rw [hgt.1]; exact hsub.2.1) _ (Res.rraws_wsI (Res.rraws_of_oraws (hc.st.hL _ (List.mem_append_right _ (.tail _ (.tail _ (.tail _ (.tail _ (.tail _ (.head _))))))))) (i := i) (by omega)) (by rw [hgt.2]; omega)).mono fun v w hp => (by obtain ⟨ro, rc, rfl, hp⟩ := hp; exact ⟨_, ⟨ro, rc, rfl, rfl⟩, hc.st.call0 hp⟩))) <| RunD.opR (fun g v rs => v = g 53 ∧ rs = []) tab11 8 (fun f' L' w' hc => Op1.move (evs rfl rfl) ⟨[], fun g hg => ⟨(hg 6 53 rfl rfl).symm, rfl⟩, hc.st⟩) <| RunD.opR (fun g v rs => (∀ ro rc, g 53 = .tuple #[.agg #[.int .u16 I.op, .int .u32 I.ty, .int .u32 I.res, .slice ro I.args.length rc], .int .i64 ie] → v = .agg #[.int .u16 I.op, .int .u32 I.ty, .int .u32 I.res, .slice ro I.args.length rc]) ∧ rs = []) tab11 9 (fun f' L' w' hc => by obtain ⟨_, _, q1, _⟩ := hc.dep 6 53 rfl rfl; obtain ⟨ro, rc, htc, _⟩ := q1; obtain ⟨gm, _, q2, hgm, _⟩ := hc.dep 7 46 rfl rfl; have htm : f' 46 = .tuple #[.agg #[.int .u16 I.op, .int .u32 I.ty, .int .u32 I.res, .slice ro I.args.length rc], .int .i64 ie] := (by rw [q2.1, hgm 6 53 rfl rfl, htc]); exact Op1.extract (v := .agg #[.int .u16 I.op, .int .u32 I.ty, .int .u32 I.res, .slice ro I.args.length rc]) (evs htm rfl) rfl ⟨[], fun g hg => ⟨fun ro2 rc2 e => (by rw [hg 6 53 rfl rfl, htc] at e; cases e; rfl), rfl⟩, hc.st⟩) <| RunD.op (det (.int .i64 ie)) tab11 10 (fun f' L' w' hc => by obtain ⟨_, _, q1, _⟩ := hc.dep 6 53 rfl rfl; obtain ⟨ro, rc, htc, _⟩ := q1; obtain ⟨gm, _, q2, hgm, _⟩ := hc.dep 7 46 rfl rfl; have htm : f' 46 = .tuple #[.agg #[.int .u16 I.op, .int .u32 I.ty, .int .u32 I.res, .slice ro I.args.length rc], .int .i64 ie] := (by rw [q2.1, hgm 6 53 rfl rfl, htc]); exact Op1.extract (v := .int .i64 ie) (evs htm rfl) rfl ⟨[], ⟨rfl, rfl⟩, hc.st⟩) <| RunD.op (fun v rs => ∃ b, v = .pointer (some ⟨b, 0, none⟩) ∧ rs = [Res.row b 48 [.int .u16 0, .int .u32 0, .int .u32 0, .slice none 0 0]]) tab11 11 (fun f' L' w' hc => Op1.alloc hc.st ty48 fun w b hst => ⟨[_], ⟨b, rfl, rfl⟩, hst⟩) <| RunD.over (fun g v rs => v = undef ∧ ∃ b, g 12 = .pointer (some ⟨b, 0, none⟩) ∧ ∀ ro rc, g 53 = .tuple #[.agg #[.int .u16 I.op, .int .u32 I.ty, .int .u32 I.res, .slice ro I.args.length rc], .int .i64 ie] → rs = [Res.row b 48 [.int .u16 I.op, .int .u32 I.ty, .int .u32 I.res, .slice ro I.args.length rc]]) tab11 12 10 12 (.head _) rfl (fun f' L' L'' w' hc hq => by obtain ⟨_, rs, hz, _, hp⟩ := hq; obtain ⟨b, hb, hrs⟩ := hz; subst hrs; obtain ⟨_, _, q1, _⟩ := hc.dep 6 53 rfl rfl; obtain ⟨ro, rc, htc, _⟩ := q1; obtain ⟨gx, _, q3, hgx, _⟩ := hc.dep 8 54 rfl rfl; have htx := q3.1 ro rc ((hgx 6 53 rfl rfl).trans htc); have hst := hc.st.perm (hp.append_right _); exact Op1.store (v := .agg #[.int .u16 _, .int .u32 _, .int .u32 _, .slice _ _ _]) hst ty48 (evs hb rfl) (evs htx rfl) rfl rfl rfl .here (by repeat (first | exact Put.nil | apply Put.put | apply Put.skip)) fun w hst => ⟨[_], fun g hg => ⟨rfl, b, (hg 10 12 rfl rfl).trans hb, fun ro2 rc2 e => (by rw [hg 6 53 rfl rfl, htc] at e; cases e; rfl)⟩, hst⟩) ?_
   refine RunD.finT followsMixed tab11 hst rfl (fun f12 w R15 hs13 hd14 hr16 hst => ?_)
   obtain ⟨h47_, r0⟩ := hd14 0 47 rfl rfl
   obtain ⟨h48_, r1⟩ := hd14 1 48 rfl rfl
   obtain ⟨h49_, r2⟩ := hd14 2 49 rfl rfl
   obtain ⟨h50_, r3⟩ := hd14 3 50 rfl rfl
   obtain ⟨h51_, r4⟩ := hd14 4 51 rfl rfl
   obtain ⟨h52_, r5⟩ := hd14 5 52 rfl rfl
   obtain ⟨ro, rc, h53_, r6⟩ := hd14 6 53 rfl rfl
   obtain ⟨h46_, r7⟩ := hd14 7 46 rfl rfl
   rw [DrawTab.mask tab11 _ (j := 7) (l := 6) (t := 53) rfl rfl, h53_] at h46_
   obtain ⟨h54_, r8⟩ := hd14 8 54 rfl rfl
   replace h54_ := h54_ ro rc ((DrawTab.mask tab11 _ (j := 8) (l := 6) (t := 53) rfl rfl).trans h53_)
   obtain ⟨h55_, r9⟩ := hd14 9 55 rfl rfl
   obtain ⟨_, _, b12, h12_, r11⟩ := hr16 11 rfl
   rw [DrawTab.mask tab11 _ (j := 11) (l := 10) (t := 12) rfl rfl] at h12_
   replace r11 := r11 ro rc ((DrawTab.mask tab11 _ (j := 11) (l := 6) (t := 53) rfl rfl).trans h53_)
   simp only [show List.range 12 = [0, 1, 2, 3, 4, 5, 6, 7, 8, 9, 10, 11] from rfl, List.flatMap_cons, List.flatMap_nil, List.map_cons, List.map_nil, show finR [(10, 11)] R15 0 = R15 0 from rfl, show finR [(10, 11)] R15 1 = R15 1 from rfl, show finR [(10, 11)] R15 2 = R15 2 from rfl, show finR [(10, 11)] R15 3 = R15 3 from rfl, show finR [(10, 11)] R15 4 = R15 4 from rfl, show finR [(10, 11)] R15 5 = R15 5 from rfl, show finR [(10, 11)] R15 6 = R15 6 from rfl, show finR [(10, 11)] R15 7 = R15 7 from rfl, show finR [(10, 11)] R15 8 = R15 8 from rfl, show finR [(10, 11)] R15 9 = R15 9 from rfl, show finR [(10, 11)] R15 10 = [] from rfl, show finR [(10, 11)] R15 11 = R15 11 from rfl, r0, r1, r2, r3, r4, r5, r6, r7, r8, r9, r11, List.nil_append, List.append_nil, List.cons_append] at hst
   refine RunL.slots (sl := [(2, .pointer (some ⟨_, _, none⟩)), (3, .pointer (some ⟨_, _, none⟩)), (6, .pointer (some ⟨_, _, none⟩)), (7, .slice _ _ _), (9, .pointer (some ⟨_, _, none⟩)), (10, .int .i64 _), (11, .int .i64 _), (12, .pointer (some ⟨_, _, none⟩)), (55, .int .i64 _)]) ⟨(hs13 2 rfl).trans rfl, (hs13 3 rfl).trans rfl, (hs13 6 rfl).trans rfl, (hs13 7 rfl).trans rfl, (hs13 9 rfl).trans rfl, (hs13 10 rfl).trans rfl, (hs13 11 rfl).trans rfl, h12_, h55_, trivial⟩ ?_
   clear hs13 hd14 hr16 tab11
   refine AI rfl <| NL <| SQ <| SR <| MI rfl <| CN <| Op1.neq rfl rfl <| NL <| run_cond_dec rfl (fun g17 => ?_) (fun g17 => ?_)
   · skip
     refine SR <| CN (Op1.buildStruct ty26 stf26 .nil ?_)
     refine MI rfl <| MI rfl <| CN (Op1.buildStruct ty29 stf29 (.c (v := .int .i64 _) rfl (h := (.c (v := .int .i64 _) rfl (h := .nil)))) ?_)
     refine CN (SO (v := .agg #[.int .u32 _, .int .u32 _, .slice _ _ _]) hst ty26 rfl rfl (.there (.there (.there (.there (.there (.there (.there (.there (.there (.there (.here))))))))))) fun w hst => ?_)
     refine CN (SO (v := .agg #[.int .i64 _, .int .i64 _]) hst ty29 rfl rfl (.there (.there (.there (.there (.there (.there (.there (.there (.there (.here)))))))))) fun w hst => ?_)
     refine NL <| run_ret2 Try.func13 rfl (RV.cellA (vs := [.int .u32 _, .int .u32 _, .slice _ _ _]) rfl ty26 rfl rfl (cells_of_obj (n := 3) (hst.objL (.tail _ (.tail _ (.tail _ (.tail _ (.tail _ (.tail _ (.tail _ (.tail _ (.tail _ (.tail _ (.head _)))))))))))) _ rfl)) (RV.cellA (vs := [.int .i64 _, .int .i64 _]) rfl ty29 rfl rfl (cells_of_obj (n := 2) (hst.objL (.tail _ (.tail _ (.tail _ (.tail _ (.tail _ (.tail _ (.tail _ (.tail _ (.tail _ (.head _))))))))))) _ rfl)) ?_
     replace hst := hst.pick .nil
     have hse0 : splitE b = 0 := by rw [hse]; exact Classical.not_not.1 g1
     have hD := decodeF_words hse0
     rw [hsl] at hD
     have hde := decG_err (bound := bd) (ps := its) (i := i) (by omega) hK.2.1 (by rw [hIW]; exact g17)
     rw [hIW, hch.2] at hde
     rw [decW_inst hR hre hde g17] at hD
     replace hst := St.starCons ((hst.starNil).pushNil 48 4)
     rw [hD]
     exact ⟨none, 0, [], rfl, rfl, hst.noD⟩
   refine run_skip <| SR <| CN <| Op1.fieldAddr fld26_2 rfl <| CN <| Op1.load1 (v := .slice _ _ _) ty24 rfl rfl (hst.cellL (.tail _ (.tail _ (.tail _ (.tail _ (.head _))))) rfl) <| CN <| Op1.loadA (vs := [.int .u16 _, .int .u32 _, .int .u32 _, .slice _ _ _]) ty48 rfl rfl rfl (cells_of_obj (n := 4) (hst.objL (.tail _ (.head _))) _ rfl) <| CN (Op1.buildSl (z0 := [.int .u16 0, .int .u32 0, .int .u32 0, .slice none 0 0]) hst ty24 ty48 rfl rfl (by kernel_rfl) (.c (v := .agg #[.int .u16 _, .int .u32 _, .int .u32 _, .slice _ _ _]) rfl (h := .nil)) fun w b65 hst => ?_)
   refine CN (Op1.append (news := [.int .u16 _, .int .u32 _, .int .u32 _, .slice _ _ _]) hst ty24 ty48 rfl rfl (.there (.there (.there (.there (.here))))) rfl rfl rfl (cells_of_obj (n := 4) (hst.objL (.head _)) _ rfl) rfl rfl (by omega) fun w ao18 cp19 hst => ?_)
   replace hst := hst.drop (.there (.here))
   refine CN <| Op1.fieldAddr fld26_2 rfl <| CN (SO (v := .slice _ _ _) hst ty24 rfl rfl (.there (.there (.there (.there (.here))))) fun w hst => ?_)
   refine NL <| Run.forget [(2, .pointer (some ⟨_, _, none⟩)), (3, .pointer (some ⟨_, _, none⟩)), (6, .pointer (some ⟨_, _, none⟩)), (7, .slice _ _ _), (9, .pointer (some ⟨_, _, none⟩)), (10, .int .i64 _), (11, .int .i64 _)] ⟨rfl, rfl, rfl, rfl, rfl, rfl, rfl, trivial⟩ fun f => RG <| MI rfl <| CN <| Op1.addN rfl rfl rfl (wrap_i64 (by omega) (by omega)) <| ML rfl <| MI rfl <| CN <| Op1.indexRs ty67 ty45 (Res.rraws_raws (Res.rraws_of_oraws (hst.hL _ (.tail _ (.tail _ (.tail _ (.tail _ (.tail _ (.tail _ (.tail _ (.head _))))))))))) rfl rfl (by omega) (by omega) <| CN <| Op1.fieldAddr fld45_1 rfl <| CN <| Op1.load1 (v := .slice _ _ _) ty43 rfl rfl (Res.rs2_cellF (Res.rraws_raws (Res.rraws_of_oraws (hst.hL _ (.tail _ (.tail _ (.tail _ (.tail _ (.tail _ (.tail _ (.tail _ (.head _))))))))))) (flat_cell (g := rawC) (d := zeroR) rawC_len rfl (by omega))) <| CN <| Op1.lenSl (rest := []) ty43 rfl <| CN <| Op1.addN rfl rfl rfl (wrap_i64 (by omega) (by omega)) <| AI rfl <| NL <| run_inBlock ?_
   refine RG <| MI rfl <| CN <| Op1.addN rfl rfl rfl (wrap_i64 (by omega) (by omega)) <| AI rfl <| NL <| run_inLoop ?_
   replace hst := hst.pick (.cons (.there (.here)) (.cons (.there (.there (.here))) (.cons (.here) (.cons (.here) (.cons (.here) (.cons (.here) (.cons (.here) (.cons (.here) (.cons (.here) (.cons (.here) (.cons (.here) .nil)))))))))))
   replace hst := hst.starSnoc
   have e1 : dm.length + 1 = (dm ++ [(⟨I.op, I.ty, I.res, ro, rc, I.args⟩ : InstP)]).length := by simp
   have e2 : dm.flatMap instC ++ [.int .u16 I.op, .int .u32 I.ty, .int .u32 I.res, .slice ro I.args.length rc] = (dm ++ [(⟨I.op, I.ty, I.res, ro, rc, I.args⟩ : InstP)]).flatMap instC := by simp
   have e3 : dm.map (Res.oargs 71) ++ [Res.sl ro I.args.length rc 71 3 (I.args.flatMap argC)] = (dm ++ [(⟨I.op, I.ty, I.res, ro, rc, I.args⟩ : InstP)]).map (Res.oargs 71) := by simp
   rw [e1, e2, e3] at hst
   have hie : ie = 0 := Classical.not_not.1 g17
   have hI2 : (dm ++ [(⟨I.op, I.ty, I.res, ro, rc, I.args⟩ : InstP)]).map InstP.L = (its.take (i + 1)).map (fun p => (instF bd p.2.1 p.2.2).1) := by rw [List.map_append, hK.2.2, its_take (by omega), hIW]; rfl
   replace hst := hst.pick (.cons (.here) (.cons (.here) (.cons (.there (.here)) (.cons (.there (.here)) (.cons (.there (.here)) (.cons (.there (.here)) (.cons (.there (.here)) (.cons (.there (.here)) (.cons (.there (.here)) .nil)))))))))
   exact ih9 ((i + 1, ao18, cp19, dm ++ [(⟨I.op, I.ty, I.res, ro, rc, I.args⟩ : InstP)])) _ w (by (try dsimp only); omega) hst (⟨by (try dsimp only); omega, step_all hK.2.1 (by rw [hIW]; exact hie), hI2⟩) ⟨rfl, rfl, rfl, rfl, rfl, trivial⟩ ⟨(congrArg (Value.int .i64) (by (try dsimp only); omega)), (congrArg (Value.int .i64) (by (try dsimp only); omega)), trivial⟩
 obtain rfl : i = its.length := by omega
 have hK3 := hK.2.2
 rw [List.take_length] at hK3
 refine run_exit (id := 0) rfl <| SR <| CN <| Op1.loadA (vs := [.int .u32 _, .int .u32 _, .slice _ _ _]) ty26 rfl rfl rfl (cells_of_obj (n := 3) (hst.objL (.tail _ (.tail _ (.head _)))) _ rfl) <| CN (Op1.buildStruct ty29 stf29 .nil ?_)
 refine CN (SO (v := .agg #[.int .u32 _, .int .u32 _, .slice _ _ _]) hst ty26 rfl rfl (.there (.there (.there (.there (.there (.there (.there (.there (.here))))))))) fun w hst => ?_)
 refine CN (SO (v := .agg #[.int .i64 _, .int .i64 _]) hst ty29 rfl rfl (.there (.there (.there (.there (.there (.there (.there (.here)))))))) fun w hst => ?_)
 refine NL <| run_ret2 Try.func13 rfl (RV.cellA (vs := [.int .u32 _, .int .u32 _, .slice _ _ _]) rfl ty26 rfl rfl (cells_of_obj (n := 3) (hst.objL (.tail _ (.tail _ (.tail _ (.tail _ (.tail _ (.tail _ (.tail _ (.tail _ (.head _)))))))))) _ rfl)) (RV.cellA (vs := [.int .i64 _, .int .i64 _]) rfl ty29 rfl rfl (cells_of_obj (n := 2) (hst.objL (.tail _ (.tail _ (.tail _ (.tail _ (.tail _ (.tail _ (.tail _ (.head _))))))))) _ rfl)) ?_
 replace hst := hst.pick (.cons (.there (.here)) (.cons (.here) .nil))
 have hse0 : splitE b = 0 := by rw [hse]; exact Classical.not_not.1 g1
 have hD := decodeF_words hse0
 rw [hsl] at hD
 have hdo := decG_ok (bound := bd) (ps := its) hK.2.1
 rw [decW_ok hR hre hdo] at hD
 rw [hD]
 exact ⟨aq, cq, dm, rfl, hK3, (St.starCons hst).noD⟩
end Go.SK
namespace Go.SK
open Go Go.Proofs
open Go.RowKit
theorem R3law_own (gn bd : Int) (dm : List InstP) (ao : Option Addr) (cp : Nat) (gw bw : Int) (wm : List InstP) (bo : Option Addr) (cq : Nat) (hd : dm.map InstP.L = wm.map InstP.L) (w : World) (hR : (Res.omod 48 71 ao cp dm).holds w) (hB : (Res.omod 48 71 bo cq wm).holds w) (hap : Apart (Res.omod 48 71 ao cp dm) (Res.omod 48 71 bo cq wm)) (hl : dm.length ≤ 3000000000000) (hla : ∀ i ∈ dm, i.args.length ≤ 900000000) : Ret Try.prog 18 #[.agg #[.int .u32 gn, .int .u32 bd, .slice ao dm.length cp], .agg #[.int .u32 gw, .int .u32 bw, .slice bo wm.length cq]] w (fun v w' => v = .bool true ∧ St w (Res.omod 48 71 ao cp dm).foot [] [] w') := by
 refine Ret.enter (args := [.agg #[.int .u32 gn, .int .u32 bd, .slice ao dm.length cp], .agg #[.int .u32 gw, .int .u32 bw, .slice bo wm.length cq]]) Try.func18 rfl rfl rfl ?_
 have hst : St w (Res.omod 48 71 ao cp dm).foot [Res.omod 48 71 ao cp dm] [Res.omod 48 71 bo cq wm] w := St.enter1 hR (fun d hd => by cases hd with | head => exact hB | tail _ h => cases h) (fun d hd => by cases hd with | head => exact hap | tail _ h => cases h)
 replace hst : St _ _ (Res.sl ao dm.length cp 48 4 (dm.flatMap instC) :: (dm.map (Res.oargs 71) ++ [])) _ _ := hst.unpack
 replace hst : St _ _ (Res.star (dm.map (Res.oargs 71)) :: [Res.sl ao dm.length cp 48 4 (dm.flatMap instC)]) _ _ := St.pack (L1 := dm.map (Res.oargs 71)) (hst.perm (by rw [List.append_nil]; exact List.perm_append_comm (l₁ := [_])))
 have hdl := insts_len hd
 refine SR <| CN <| Op1.box (v := .agg #[.int .u32 _, .int .u32 _, .slice _ _ _]) hst rfl rfl fun w b2 hst => CN <| Op1.box (v := .agg #[.int .u32 _, .int .u32 _, .slice _ _ _]) hst rfl rfl fun w b3 hst => AB rfl <| NL <| SQ <| SR <| AI rfl <| NL <| run_block <| run_loop ?_
 replace hst := hst.pick (.cons (.there (.there (.here))) (.cons (.here) (.cons (.here) (.cons (.here) .nil))))
 refine Run.indW [(2, .pointer (some ⟨_, _, none⟩)), (3, .pointer (some ⟨_, _, none⟩))] ⟨rfl, rfl, trivial⟩ (fun (k : Nat) => [(5, .int .i64 (k : Int))]) (fun (k : Nat) => [Res.star ((dm.drop k).map (Res.oargs 71))]) (fun (k : Nat) => k ≤ dm.length) (fun (k : Nat) => dm.length - k) (0) hst (Nat.zero_le _) ⟨rfl, trivial⟩ ?_
 intro k f w hst hK ih1
 refine SQ <| SR <| MI rfl <| CN <| Op1.fieldAddr fld26_2 rfl <| CN <| Op1.load1 (v := .slice _ _ _) ty24 rfl rfl (hst.cellL (.tail _ (.tail _ (.head _))) rfl) <| CN <| Op1.lenSl (rest := []) ty24 rfl <| CN <| Op1.lss rfl rfl <| NL <| run_cond_dec rfl (fun g2 => ?_) (fun g2 => ?_)
 · skip
   refine run_skip <| SQ <| run_block <| SQ <| SQ ?_
   obtain ⟨bI, rfl⟩ := Res.sl_some (hst.hL _ (.tail _ (.tail _ (.tail _ (.head _))))) (by omega)
   have hXL : (dm.getD k zeroI).L = (wm.getD k zeroI).L := insts_getD hd (by omega)
   have hmx : (dm.getD k zeroI) ∈ dm := getD_memD (by omega)
   have hxa := hla _ hmx
   have hxa2 : (dm.getD ((k : Int)).toNat zeroI).args.length ≤ 900000000 := hxa
   have hdr : (dm.drop k).map (Res.oargs 71) = Res.oargs 71 (dm.getD k zeroI) :: (dm.drop (k + 1)).map (Res.oargs 71) := by rw [drop_getD2 zeroI (by omega)]; rfl
   have hwl : k < wm.length := by omega
   rw [hdr] at hst
   refine RunD.start [] hst (bs := [0, 1, 0, 7, 15, 0, 32, 0, 224, 480, 1023, 2047]) (ds := [some 15, some 16, some 17, some 18, some 19, some 20, some 21, some 22, some 23, some 24, some 25, some 26]) ⟨by kernel_rfl, by kernel_rfl, by kernel_rfl⟩ (fun tab3 => ?_)
   refine RunD.op (det _) tab3 1 (fun f' L' w' hc => Op1.fieldAddr fld26_2 (hc.old (v := .pointer (some ⟨_, _, none⟩)) rfl rfl rfl) ⟨[], ⟨rfl, rfl⟩, hc.st⟩) <| RunD.op (det _) tab3 2 (fun f' L' w' hc => Op1.load1 (v := .slice _ _ _) ty24 rfl (hc.det (j := 0) rfl rfl rfl rfl) (hc.st.cellL (List.mem_append_right _ (.tail _ (.tail _ (.head _)))) rfl) ⟨[], ⟨rfl, rfl⟩, hc.st⟩) <| RunD.op (det _) tab3 3 (fun f' L' w' hc => Op1.move (v := .int .i64 _) (hc.old (v := .int .i64 _) rfl rfl rfl) ⟨[], ⟨rfl, rfl⟩, hc.st⟩) <| RunD.op (det _) tab3 4 (fun f' L' w' hc => Op1.indexSl ty24 ty48 (hc.det (j := 1) rfl rfl rfl rfl) (hc.det (j := 2) rfl rfl rfl rfl) (by omega) (by omega) ⟨[], ⟨rfl, rfl⟩, hc.st⟩) <| RunD.op (det _) tab3 5 (fun f' L' w' hc => Op1.loadA (vs := [.int .u16 _, .int .u32 _, .int .u32 _, .slice _ _ _]) ty48 rfl (hc.det (j := 3) rfl rfl rfl rfl) rfl (Res.sl_cells (k := 4) (hc.st.hL _ (List.mem_append_right _ (.tail _ (.tail _ (.tail _ (.head _)))))) _ (flat_seg (g := instC) (d := zeroI) instC_len _ _ (by omega))) ⟨[], ⟨rfl, rfl⟩, hc.st⟩) <| RunD.op (det _) tab3 6 (fun f' L' w' hc => Op1.fieldAddr fld26_2 (hc.old (v := .pointer (some ⟨_, _, none⟩)) rfl rfl rfl) ⟨[], ⟨rfl, rfl⟩, hc.st⟩) <| RunD.op (det _) tab3 7 (fun f' L' w' hc => Op1.load1 (v := .slice _ _ _) ty24 rfl (hc.det (j := 5) rfl rfl rfl rfl) (hc.st.cellL (List.mem_append_right _ (.tail _ (.head _))) rfl) ⟨[], ⟨rfl, rfl⟩, hc.st⟩) <| RunD.op (det _) tab3 8 (fun f' L' w' hc => Op1.move (v := .int .i64 _) (hc.old (v := .int .i64 _) rfl rfl rfl) ⟨[], ⟨rfl, rfl⟩, hc.st⟩) <| RunD.op (det _) tab3 9 (fun f' L' w' hc => Op1.indexRs ty24 ty48 (Res.rmod_insts (Res.rmod_of_omod (hc.st.hD _ (.head _)))) (hc.det (j := 6) rfl rfl rfl rfl) (hc.det (j := 7) rfl rfl rfl rfl) (by omega) (by omega) ⟨[], ⟨rfl, rfl⟩, hc.st⟩) <| RunD.op (det _) tab3 10 (fun f' L' w' hc => Op1.loadA (vs := [.int .u16 _, .int .u32 _, .int .u32 _, .slice _ _ _]) ty48 rfl (hc.det (j := 8) rfl rfl rfl rfl) rfl (Res.rs2_cells (m := 4) (Res.rmod_insts (Res.rmod_of_omod (hc.st.hD _ (.head _)))) _ (flat_seg (g := instC) (d := zeroI) instC_len _ _ (by omega))) ⟨[], ⟨rfl, rfl⟩, hc.st⟩) <| RunD.fin followsMixed tab3 hst rfl (fun f4 w R7 hs5 hd6 hr8 hst => ?_)
   obtain ⟨h15_, r0⟩ := hd6 0 15 rfl rfl
   obtain ⟨h16_, r1⟩ := hd6 1 16 rfl rfl
   obtain ⟨h17_, r2⟩ := hd6 2 17 rfl rfl
   obtain ⟨h18_, r3⟩ := hd6 3 18 rfl rfl
   obtain ⟨h19_, r4⟩ := hd6 4 19 rfl rfl
   obtain ⟨h20_, r5⟩ := hd6 5 20 rfl rfl
   obtain ⟨h21_, r6⟩ := hd6 6 21 rfl rfl
   obtain ⟨h22_, r7⟩ := hd6 7 22 rfl rfl
   obtain ⟨h23_, r8⟩ := hd6 8 23 rfl rfl
   obtain ⟨h24_, r9⟩ := hd6 9 24 rfl rfl
   simp only [show List.range 10 = [0, 1, 2, 3, 4, 5, 6, 7, 8, 9] from rfl, List.flatMap_cons, List.flatMap_nil, List.map_cons, List.map_nil, r0, r1, r2, r3, r4, r5, r6, r7, r8, r9, List.nil_append, List.append_nil, List.cons_append] at hst
   refine RunL.slots (sl := [(2, .pointer (some ⟨_, _, none⟩)), (3, .pointer (some ⟨_, _, none⟩)), (5, .int .i64 _), (19, .agg #[.int .u16 _, .int .u32 _, .int .u32 _, .slice _ _ _]), (24, .agg #[.int .u16 _, .int .u32 _, .int .u32 _, .slice _ _ _])]) ⟨(hs5 2 rfl).trans rfl, (hs5 3 rfl).trans rfl, (hs5 5 rfl).trans rfl, h19_, h24_, trivial⟩ ?_
   clear hs5 hd6 hr8 tab3
   refine CN <| Op1.call2 (v1 := .agg #[.int .u16 _, .int .u32 _, .int .u32 _, .slice _ _ _]) (v2 := .agg #[.int .u16 _, .int .u32 _, .int .u32 _, .slice _ _ _]) ent27 rfl rfl rfl <| Ret.detE (R3md_Inst _ _ _ (Res.rs_of_sl ((hst.hL _ (.head _)).1 (Res.oargs 71 (dm.getD k zeroI)) (.head _))) (Res.rmod_argsI (Res.rmod_of_omod (hst.hD _ (.head _))) (i := k) hwl) (by omega)) (congrArg Value.bool (decide_eq_true hXL)) hst fun w hst => CN <| Op1.not rfl <| NL <| run_cond_false (congrArg Value.bool (congrArg not (rfl : true = _))) <| run_skip <| SQ ?_
   obtain ⟨⟨o1, t1, r1, xo, xc, xa⟩, hX⟩ : ∃ q, (dm.getD k zeroI) = q := ⟨_, rfl⟩
   rw [hX] at hst hxa
   replace hst : St _ _ _ _ _ := hst
   replace hst := hst.pick (.cons (.here) (.cons (.here) (.cons (.here) (.cons (.here) .nil))))
   replace hst := hst.starUncons
   replace hst : St _ _ (Res.sl xo xa.length xc 71 3 (xa.flatMap argC) :: _) _ _ := hst
   replace hxa : xa.length ≤ 900000000 := hxa
   refine RG <| CN <| Op1.fieldAddr fld26_2 rfl <| CN <| Op1.load1 (v := .slice _ _ _) ty24 rfl rfl (hst.cellL (.tail _ (.tail _ (.tail _ (.head _)))) rfl) <| MI rfl <| CN <| Op1.indexSl ty24 ty48 rfl rfl (by omega) (by omega) <| CN <| Op1.fieldAddr fld48_3 rfl <| CN <| Op1.load1 (v := .slice xo xa.length xc) ty46 rfl rfl (Res.sl_cell (hst.hL _ (.tail _ (.tail _ (.tail _ (.tail _ (.head _)))))) (flat_cell (g := instC) (d := zeroI) instC_len (by rw [show dm.getD ((k : Int)).toNat zeroI = _ from hX]; rfl) (by omega))) <| AL rfl <| NL <| Run.forget [(2, .pointer (some ⟨_, _, none⟩)), (3, .pointer (some ⟨_, _, none⟩)), (5, .int .i64 _), (6, .slice _ _ _)] ⟨rfl, rfl, rfl, rfl, trivial⟩ fun f => SQ <| SR <| AI rfl <| NL ?_
   refine run_block <| run_loop <| Run.indW [(2, .pointer (some ⟨_, _, none⟩)), (3, .pointer (some ⟨_, _, none⟩)), (5, .int .i64 _), (6, .slice _ _ _)] ⟨rfl, rfl, rfl, rfl, trivial⟩ (fun (q : Nat × List ArgP) => [(7, .int .i64 (q.1 : Int))]) (fun (q : Nat × List ArgP) => [Res.sl xo xa.length xc 71 3 (q.2.flatMap argC)]) (fun (q : Nat × List ArgP) => q.1 ≤ xa.length ∧ q.2.length = xa.length) (fun (q : Nat × List ArgP) => xa.length - q.1) ((0, xa)) hst ⟨Nat.zero_le _, rfl⟩ ⟨rfl, trivial⟩ ?_
   intro ⟨n, ys⟩ f w hst hN ih9
   replace hst : St _ _ ([Res.sl xo xa.length xc 71 3 (ys.flatMap argC)] ++ [_, _, _, _]) _ _ := hst
   replace hN : n ≤ xa.length ∧ ys.length = xa.length := hN
   refine Run.slots (sl := [(7, .int .i64 (n : Int))]) ⟨rfl, trivial⟩ <| SQ <| SR <| MI rfl <| ML rfl <| CN <| Op1.lenSl (rest := []) ty46 rfl <| CN <| Op1.lss rfl rfl <| NL <| run_cond_dec rfl (fun g10 => ?_) (fun g10 => ?_)
   · skip
     refine run_skip <| SQ <| run_block <| RG <| ML rfl <| MI rfl <| CN (Op1.buildStruct ty71 stf71 (.c (v := .int .u8 _) rfl (h := (.c (v := .int .u32 _) rfl (h := .nil)))) ?_)
     obtain ⟨bs11, rfl⟩ := Res.sl_some (hst.hL _ (.head _)) (by omega)
     refine CN <| Op1.indexSl ty46 ty71 rfl rfl (by omega) (by omega) <| CN <| Op1.storeSl (v := .agg #[.int .u8 _, .int .u32 _, str _]) hst ty71 rfl rfl rfl rfl rfl (.here) (by simp only [List.length_cons, List.length_nil]; omega) fun w hst => NL <| run_inBlock <| RG <| MI rfl <| CN <| Op1.addN rfl rfl rfl (wrap_i64 (by omega) (by omega)) <| AI rfl <| NL <| run_inLoop ?_
     exact ih9 ((n + 1, ys.set n ⟨9, 99, []⟩)) _ w (by (try dsimp only); omega) (by (try dsimp only); rw [← setSeg_flat argC_len ⟨9, 99, []⟩ ys n (by omega)]; simpa using hst) (⟨by (try dsimp only); omega, by (try dsimp only); rw [List.length_set]; exact hN.2⟩) ⟨rfl, rfl, rfl, rfl, trivial⟩ ⟨(congrArg (Value.int .i64) (by (try dsimp only); omega)), trivial⟩
   refine run_exit (id := 2) rfl <| SR <| ML rfl <| CN (Op1.buildStruct ty71 stf71 (.c (v := .int .u8 _) rfl (h := (.c (v := .int .u32 _) rfl (h := .nil)))) ?_)
   refine CN (Op1.buildSl (z0 := [.int .u8 0, .int .u32 0, str []]) hst ty46 ty71 rfl rfl (by kernel_rfl) (.c (v := .agg #[.int .u8 _, .int .u32 _, str _]) rfl (h := .nil)) fun w b45 hst => ?_)
   refine CN (Op1.append (news := [.int .u8 _, .int .u32 _, str _]) hst ty46 ty71 rfl rfl (.there (.here)) rfl rfl rfl (cells_of_obj (n := 3) (hst.objL (.head _)) _ rfl) rfl rfl (by omega) fun w ao12 cp13 hst => ?_)
   replace hst := hst.drop (.there (.here))
   refine AL rfl <| NR <| ML rfl <| ML rfl <| CN <| Op1.lenSl (rest := []) ty46 rfl <| CN (Op1.subN rfl rfl rfl (wrap_i64 (by omega) (by omega)) ?_)
   obtain ⟨bs14, rfl⟩ := Res.sl_some (hst.hL _ (.head _)) (by omega)
   refine CN <| Op1.indexSl ty46 ty71 rfl rfl (by omega) (by omega) <| CN <| Op1.fieldAddr fld71_1 rfl <| CN <| Op1.storeSl (v := .int .u32 _) hst ty23 rfl rfl rfl rfl rfl (.here) (by simp only [List.length_cons, List.length_nil]; omega) fun w hst => NL <| run_inBlock <| RG <| MI rfl <| CN <| Op1.addN rfl rfl rfl (wrap_i64 (by omega) (by omega)) <| AI rfl <| NL <| run_inLoop ?_
   replace hst := hst.pick (.cons (.there (.here)) (.cons (.there (.here)) (.cons (.there (.here)) (.cons (.there (.here)) .nil))))
   exact ih1 (k + 1) _ w (by omega) hst (by omega) ⟨rfl, rfl, trivial⟩ ⟨(congrArg (Value.int .i64) (by omega)), trivial⟩
 refine run_exit (id := 0) rfl <| SR <| AB rfl <| NL <| run_ret1 Try.func18 rfl (TP (v := .bool _) rfl) ?_
 replace hst := hst.pick .nil
 exact ⟨rfl, hst.noD⟩
end Go.SK
namespace Go.SK
theorem wrap_inc (c : UInt8) : IntKind.u8.wrap ((c.toNat : Int) + 1) = ((c + 1).toNat : Int) := by
  rw [wrap8, UInt8.toNat_add]
  have : (1 : UInt8).toNat = 1 := rfl
  rw [this]
  omega
theorem inc_set (m : List UInt8) (i : Nat) (h : i < m.length) : (m.set i (m.getD i 0 + 1)).flatMap byC = setSeg (m.flatMap byC) (0 + (i : Int).toNat * 1) [.int .u8 (IntKind.u8.wrap (((m.getD (i : Int).toNat 0).toNat : Int) + 1))] := by
  rw [Int.toNat_natCast, wrap_inc, Nat.zero_add, ← setSeg_flat byC_len (m.getD i 0 + 1) m i h]
end Go.SK
namespace Go.SK
open Go Go.Proofs
theorem ent13 : Enters Try.prog 13 := ⟨Try.f13, _, Try.func13, by kernel_rfl, rfl⟩
theorem ent18 : Enters Try.prog 18 := ⟨Try.f18, _, Try.func18, by kernel_rfl, rfl⟩
end Go.SK
namespace Go.SK
open Go Go.Proofs
open Go.RowKit
theorem R3ref4_DecodeD {b : List UInt8} {gn bd e a : Int} {il : List InstL} (hD : decodeF b = ((gn, bd, il), (e, a))) (ao : Option Addr) (cp : Nat) (w : World) (hA : (Res.rs ao b.length 1 (b.flatMap byC)).holds w) (hb : b.length ≤ 140737488355328) : Ret Try.prog 13 #[.slice ao b.length cp] w (fun v w' => ∃ ro rc dm, v = .tuple #[.agg #[.int .u32 gn, .int .u32 bd, .slice ro dm.length rc], .agg #[.int .i64 e, .int .i64 a]] ∧ dm.map InstP.L = il ∧ St w NoM [Res.omod 48 71 ro rc dm] [] w') := by
 have h := R3ref4_Decode b ao cp w hA hb
 rw [hD] at h; exact h
theorem R3law_CodeDecodes (b : List UInt8) (ao : Option Addr) (cp : Nat) (w : World) (hA : (Res.rs ao b.length 1 (b.flatMap byC)).holds w) (hb : b.length ≤ 140737488355328) : Ret Try.prog 3 #[.slice ao b.length cp] w (fun v w' => v = .bool true ∧ St w NoM [] [] w') := by
 refine Ret.enter (args := [.slice ao b.length cp]) Try.func3 rfl rfl rfl ?_
 have hst : St w NoM [] [Res.rs ao b.length 1 (b.flatMap byC)] w := St.init_D hA
 clear hA
 obtain ⟨gn, bd, il, e, a, hD⟩ : ∃ gn bd il e a, decodeF b = ((gn, bd, il), (e, a)) := ⟨_, _, _, _, _, rfl⟩
 refine SR <| AB rfl <| NSR <| ML rfl <| CN (Op1.call1 (v1 := .slice _ _ _) ent13 rfl rfl ((R3ref4_DecodeD hD _ _ _ (hst.hD _ (.head _)) hb).mono fun v w hp => ?_))
 obtain ⟨aO1, cO1, dO1, rfl, hdO1, hp⟩ := hp
 replace hst : St _ _ (_ :: _) _ _ := hst.call0 hp
 clear hp
 refine CN <| Op1.move (v := .tuple #[.agg #[.int .u32 _, .int .u32 _, .slice _ _ _], .agg #[.int .i64 _, .int .i64 _]]) rfl <| CN <| Op1.extract (v := .agg #[.int .u32 _, .int .u32 _, .slice _ _ _]) rfl rfl <| CN <| Op1.extract (v := .agg #[.int .i64 _, .int .i64 _]) rfl rfl <| CN <| Op1.alloc hst ty26 fun w b3 hst => CN <| Op1.alloc hst ty29 fun w b4 hst => CN (SO (v := .agg #[.int .u32 _, .int .u32 _, .slice _ _ _]) hst ty26 rfl rfl (.there (.here)) fun w hst => ?_)
 refine CN (SO (v := .agg #[.int .i64 _, .int .i64 _]) hst ty29 rfl rfl (.here) fun w hst => ?_)
 refine NSR <| ML rfl <| CN (Op1.call1 (v1 := .slice _ _ _) ent14 rfl rfl ((R3wd_CopyBytes b _ _ _ (hst.hD _ (.head _)) hb).mono fun v w hp => ?_))
 obtain ⟨bC, rfl, hp⟩ := hp
 replace hst : St _ _ (_ :: _) _ _ := hst.call0 hp
 clear hp
 refine AL rfl <| NSR <| ML rfl <| CN (Op1.call1 (v1 := .slice _ _ _) ent15 rfl rfl ((R3cd_DecodeD hD _ _ _ (Res.rs_of_sl (hst.hL _ (.head _))) hb).mono fun v w hp => ?_))
 obtain ⟨aO2, cO2, dO2, rfl, hdO2, hp⟩ := hp
 replace hst : St _ _ (_ :: _) _ _ := hst.call0 hp
 clear hp
 refine CN <| Op1.move (v := .tuple #[.agg #[.int .u32 _, .int .u32 _, .slice _ _ _], .agg #[.int .i64 _, .int .i64 _]]) rfl <| CN <| Op1.extract (v := .agg #[.int .u32 _, .int .u32 _, .slice _ _ _]) rfl rfl <| CN <| Op1.extract (v := .agg #[.int .i64 _, .int .i64 _]) rfl rfl <| CN <| Op1.alloc hst ty26 fun w b6 hst => CN <| Op1.alloc hst ty29 fun w b7 hst => CN (SO (v := .agg #[.int .u32 _, .int .u32 _, .slice _ _ _]) hst ty26 rfl rfl (.there (.here)) fun w hst => ?_)
 refine CN (SO (v := .agg #[.int .i64 _, .int .i64 _]) hst ty29 rfl rfl (.here) fun w hst => ?_)
 refine NL <| SQ <| SQ ?_
 have hs2 := decode_smallD hD hdO2
 refine RG <| CN <| Op1.loadA (vs := [.int .i64 _, .int .i64 _]) ty29 rfl rfl rfl (cells_of_obj (n := 2) (hst.objL (.head _)) _ rfl) <| CN <| Op1.loadA (vs := [.int .i64 _, .int .i64 _]) ty29 rfl rfl rfl (cells_of_obj (n := 2) (hst.objL (.tail _ (.tail _ (.tail _ (.tail _ (.head _)))))) _ rfl) <| CN <| Op1.neqA (xs := [.int .i64 _, .int .i64 _]) (ys := [.int .i64 _, .int .i64 _]) rfl rfl (by kernel_rfl) (EqOk.struct Try.underlying29 (by kernel_rfl) (.cons (by decide) (PartOk.one ty27 rfl rfl) (PartOk.one ty27 rfl rfl) (EqOk.int ty27) (.cons (by decide) (PartOk.one ty3 rfl rfl) (PartOk.one ty3 rfl rfl) (EqOk.int ty3) .nil))) <| MB rfl <| RunL.split (d := 24) rfl (fun g1 => ?_) (fun g1 => ?_)
 · skip
   exfalso
   simp at g1
 refine TK (t := 24) rfl (congrArg Value.bool g1) <| Op1.loadA (vs := [.int .u32 _, .int .u32 _, .slice _ _ _]) ty26 rfl rfl rfl (cells_of_obj (n := 3) (hst.objL (.tail _ (.head _))) _ rfl) <| TK (t := 24) rfl (congrArg Value.bool g1) <| Op1.loadA (vs := [.int .u32 _, .int .u32 _, .slice _ _ _]) ty26 rfl rfl rfl (cells_of_obj (n := 3) (hst.objL (.tail _ (.tail _ (.tail _ (.tail _ (.tail _ (.head _))))))) _ rfl) <| TK (t := 24) rfl (congrArg Value.bool g1) (Op1.call2 (v1 := .agg #[.int .u32 _, .int .u32 _, .slice _ _ _]) (v2 := .agg #[.int .u32 _, .int .u32 _, .slice _ _ _]) ent16 rfl rfl rfl ((R3md_Module _ _ _ _ dO2 dO1 _ _ _ _ _ (Res.rmod_of_omod (hst.hL _ (.tail _ (.tail _ (.head _))))) (Res.rmod_of_omod (hst.hL _ (.tail _ (.tail _ (.tail _ (.tail _ (.tail _ (.tail _ (.head _))))))))) hs2.len9 hs2.la9).mono fun v w hp => ?_))
 obtain ⟨he, hp⟩ := hp
 replace he := he.trans (congrArg Value.bool (sameM_self (hdO2.trans hdO1.symm)))
 subst he
 replace hst := hst.keepc hp
 clear hp
 refine TK (t := 24) rfl (congrArg Value.bool g1) <| Op1.not rfl <| CN <| Op1.pickF (u := .bool _) (congrArg Value.bool g1) rfl <| MB rfl <| TK (t := 30) rfl (congrArg Value.bool (congrArg not (rfl : true = _))) <| Op1.move (v := .slice _ _ _) rfl <| TK (t := 30) rfl (congrArg Value.bool (congrArg not (rfl : true = _))) <| Op1.move (v := .slice _ _ _) rfl <| TK (t := 30) rfl (congrArg Value.bool (congrArg not (rfl : true = _))) (Op1.call2 (v1 := .slice _ _ _) (v2 := .slice _ _ _) ent17 rfl rfl rfl ((R3wd_Bytes b b _ _ _ _ _ (Res.rs_of_sl (hst.hL _ (.tail _ (.tail _ (.tail _ (.head _)))))) (hst.hD _ (.head _)) (by omega)).mono fun v w hp => ?_))
 obtain ⟨he, hp⟩ := hp
 replace he := he.trans (congrArg Value.bool (decide_eq_true rfl))
 subst he
 replace hst := hst.keepc hp
 clear hp
 refine TK (t := 30) rfl (congrArg Value.bool (congrArg not (rfl : true = _))) <| Op1.not rfl <| CN <| Op1.pickF (u := .bool _) (congrArg Value.bool (congrArg not (rfl : true = _))) rfl <| NL <| Run.forget [(3, .pointer (some ⟨_, _, none⟩)), (5, .slice _ _ _), (6, .pointer (some ⟨_, _, none⟩)), (35, .bool _)] ⟨rfl, rfl, rfl, rfl, trivial⟩ fun f => run_cond_false (congrArg Value.bool (congrArg not (rfl : true = _))) <| run_skip <| SQ <| SR <| AI rfl <| NL <| run_block <| run_loop ?_
 replace hst := hst.pick (.cons (.there (.there (.there (.here)))) (.cons (.here) (.cons (.here) (.cons (.here) (.cons (.here) (.cons (.here) (.cons (.here) .nil)))))))
 refine Run.indW [(3, .pointer (some ⟨_, _, none⟩)), (5, .slice _ _ _), (6, .pointer (some ⟨_, _, none⟩))] ⟨rfl, rfl, rfl, trivial⟩ (fun (q : Nat × List UInt8) => [(8, .int .i64 (q.1 : Int))]) (fun (q : Nat × List UInt8) => [Res.sl (some ⟨bC, 0, none⟩) b.length b.length 5 1 (q.2.flatMap byC)]) (fun (q : Nat × List UInt8) => q.1 ≤ b.length ∧ q.2.length = b.length) (fun (q : Nat × List UInt8) => b.length - q.1) ((0, b)) hst ⟨Nat.zero_le _, rfl⟩ ⟨rfl, trivial⟩ ?_
 intro ⟨i, m⟩ f w hst hJ ih2
 replace hst : St _ _ ([Res.sl (some ⟨bC, 0, none⟩) b.length b.length 5 1 (m.flatMap byC)] ++ [_, _, _, _, _, _]) _ _ := hst
 replace hJ : i ≤ b.length ∧ m.length = b.length := hJ
 refine Run.slots (sl := [(8, .int .i64 (i : Int))]) ⟨rfl, trivial⟩ <| SQ <| SR <| MI rfl <| ML rfl <| CN <| Op1.lenSl (rest := []) ty22 rfl <| CN <| Op1.lss rfl rfl <| NL <| run_cond_dec rfl (fun g3 => ?_) (fun g3 => ?_)
 · skip
   refine run_skip <| SQ <| run_block <| RG <| ML rfl <| MI rfl <| ML rfl <| MI rfl <| CN <| Op1.indexSl ty22 ty5 rfl rfl (by omega) (by omega) <| CN <| Op1.load1 (v := .int .u8 _) ty5 rfl rfl (Res.sl_cell (hst.hL _ (.head _)) (flat_cell0 (g := byC) (d := 0) byC_len rfl (by omega))) <| CN <| Op1.add rfl rfl <| CN <| Op1.indexSl ty22 ty5 rfl rfl (by omega) (by omega) <| CN <| Op1.storeSl (v := .int .u8 _) hst ty5 rfl rfl rfl rfl rfl (.here) (by simp only [List.length_cons, List.length_nil]; omega) fun w hst => NL <| run_inBlock ?_
   refine RG <| MI rfl <| CN <| Op1.addN rfl rfl rfl (wrap_i64 (by omega) (by omega)) <| AI rfl <| NL <| run_inLoop ?_
   exact ih2 ((i + 1, m.set i (m.getD i 0 + 1))) _ w (by (try dsimp only); omega) (by (try dsimp only); rw [inc_set m i (by omega)]; exact hst) (⟨by (try dsimp only); omega, by (try dsimp only); rw [List.length_set]; exact hJ.2⟩) ⟨rfl, rfl, rfl, trivial⟩ ⟨(congrArg (Value.int .i64) (by (try dsimp only); omega)), trivial⟩
 refine run_exit (id := 0) rfl <| SR <| CN <| Op1.loadA (vs := [.int .u32 _, .int .u32 _, .slice _ _ _]) ty26 rfl rfl rfl (cells_of_obj (n := 3) (hst.objL (.tail _ (.tail _ (.head _)))) _ rfl) <| CN (Op1.loadA (vs := [.int .u32 _, .int .u32 _, .slice _ _ _]) ty26 rfl rfl rfl (cells_of_obj (n := 3) (hst.objL (.tail _ (.tail _ (.tail _ (.tail _ (.tail _ (.head _))))))) _ rfl) ?_)
 replace hst := hst.pick (.cons (.there (.there (.there (.here)))) (.cons (.there (.there (.there (.there (.there (.here)))))) (.cons (.here) (.cons (.here) (.cons (.here) (.cons (.here) (.cons (.here) .nil)))))))
 refine CN (Op1.call2 (v1 := .agg #[.int .u32 _, .int .u32 _, .slice _ _ _]) (v2 := .agg #[.int .u32 _, .int .u32 _, .slice _ _ _]) ent18 rfl rfl rfl ((R3law_own _ _ dO2 _ _ _ _ dO1 _ _ (hdO2.trans hdO1.symm) _ (hst.hL _ (.head _)) (hst.hL _ (.tail _ (.head _))) ((List.pairwise_cons.1 hst.sep).1 _ (.head _)) hs2.len hs2.args).mono fun v w hp => ?_))
 obtain ⟨rfl, hp⟩ := hp
 replace hst : St _ _ [_, _, _, _, _, _] _ _ := hst.call1 hp
 clear hp
 refine MB rfl <| TK (t := 53) rfl (congrArg Value.bool (rfl : true = _)) (Op1.call0  ent19 rfl  ((R3law_awake _).mono fun v w hp => ?_))
 obtain ⟨rfl, hp⟩ := hp
 replace hst := hst.keepc hp
 clear hp
 refine CN <| Op1.pickT (u := .bool _) (congrArg Value.bool (rfl : true = _)) rfl <| AB rfl <| NL <| run_ret1 Try.func3 rfl (TP (v := .bool _) rfl) ?_
 exact ⟨rfl, hst.pure⟩
end Go.SK
