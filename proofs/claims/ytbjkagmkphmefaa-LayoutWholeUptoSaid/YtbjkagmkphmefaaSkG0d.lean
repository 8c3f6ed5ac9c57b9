/-
  Steps of functions, plain law, and walks of functions: what the laws rest on.
-/
import Derived.Test.YtbjkagmkphmefaaSkG0c
set_option linter.unusedVariables false
set_option linter.unusedSimpArgs false
set_option linter.unusedSectionVars false
namespace Go.SK
open Go Go.Proofs
open Go.RowKit
set_option maxHeartbeats 4000000 in
theorem R5ly_top (bq : Nat) (l : List InstP) (ao : Option Addr) (cp : Nat) (w : World) (hR : (CutR 69 bq ao l.length cp 0 [.int .i64 0, .int .i64 0, .int .i64 0, .int .i64 0, .int .i64 0, .int .i64 0, .int .i64 0, .int .i64 0, .int .i64 0, .int .i64 0, .int .i64 0, .int .i64 0, .int .i64 0, .int .i64 0, .int .i64 0, .int .i64 0, .int .i64 0, .int .i64 0, .int .i64 0, .int .i64 0, .slice none 0 0]).holds w) (hA : (Res.rmod ao l).holds w) (hap : Apart (CutR 69 bq ao l.length cp 0 [.int .i64 0, .int .i64 0, .int .i64 0, .int .i64 0, .int .i64 0, .int .i64 0, .int .i64 0, .int .i64 0, .int .i64 0, .int .i64 0, .int .i64 0, .int .i64 0, .int .i64 0, .int .i64 0, .int .i64 0, .int .i64 0, .int .i64 0, .int .i64 0, .int .i64 0, .int .i64 0, .slice none 0 0]) (Res.rmod ao l)) (hl : l.length ≤ 3000000000000) (hla : ∀ i ∈ l, i.args.length ≤ 9000000000000000000) (hop : ∀ i ∈ l, 0 ≤ i.op) : Ret Try.prog 39 #[.pointer (some ⟨bq, 0, none⟩)] w (fun v w' => (topA (l.map InstP.L) 2 ≠ topA (l.map InstP.L) 1 ∧ v = .bool true ∧ St w (CutR 69 bq ao l.length cp 0 [.int .i64 0, .int .i64 0, .int .i64 0, .int .i64 0, .int .i64 0, .int .i64 0, .int .i64 0, .int .i64 0, .int .i64 0, .int .i64 0, .int .i64 0, .int .i64 0, .int .i64 0, .int .i64 0, .int .i64 0, .int .i64 0, .int .i64 0, .int .i64 0, .int .i64 0, .int .i64 0, .slice none 0 0]).foot [CutR 69 bq ao l.length cp (topA (l.map InstP.L) 8) [.int .i64 ((topA (l.map InstP.L) 0) : Int), .int .i64 ((topA (l.map InstP.L) 1) : Int), .int .i64 ((topA (l.map InstP.L) 1) : Int), .int .i64 ((topA (l.map InstP.L) 2) : Int), .int .i64 ((topA (l.map InstP.L) 2) : Int), .int .i64 ((topA (l.map InstP.L) 3) : Int), .int .i64 ((topA (l.map InstP.L) 3) : Int), .int .i64 ((topA (l.map InstP.L) 4) : Int), .int .i64 ((topA (l.map InstP.L) 4) : Int), .int .i64 ((topA (l.map InstP.L) 5) : Int), .int .i64 ((topA (l.map InstP.L) 5) : Int), .int .i64 ((topA (l.map InstP.L) 6) : Int), .int .i64 ((topA (l.map InstP.L) 6) : Int), .int .i64 ((topA (l.map InstP.L) 7) : Int), .int .i64 ((topA (l.map InstP.L) 7) : Int), .int .i64 ((topA (l.map InstP.L) 8) : Int), .int .i64 0, .int .i64 0, .int .i64 0, .int .i64 0, .slice none 0 0]] [] w') ∨ (topA (l.map InstP.L) 2 = topA (l.map InstP.L) 1 ∧ v = .bool false ∧ ∃ tail, St w (CutR 69 bq ao l.length cp 0 [.int .i64 0, .int .i64 0, .int .i64 0, .int .i64 0, .int .i64 0, .int .i64 0, .int .i64 0, .int .i64 0, .int .i64 0, .int .i64 0, .int .i64 0, .int .i64 0, .int .i64 0, .int .i64 0, .int .i64 0, .int .i64 0, .int .i64 0, .int .i64 0, .int .i64 0, .int .i64 0, .slice none 0 0]).foot [CutR 69 bq ao l.length cp (topA (l.map InstP.L) 2) tail] [] w')) := by
 refine Ret.enter (args := [.pointer (some ⟨bq, 0, none⟩)]) Try.func39 rfl rfl rfl ?_
 have hst : St w (CutR 69 bq ao l.length cp 0 [.int .i64 0, .int .i64 0, .int .i64 0, .int .i64 0, .int .i64 0, .int .i64 0, .int .i64 0, .int .i64 0, .int .i64 0, .int .i64 0, .int .i64 0, .int .i64 0, .int .i64 0, .int .i64 0, .int .i64 0, .int .i64 0, .int .i64 0, .int .i64 0, .int .i64 0, .int .i64 0, .slice none 0 0]).foot [CutR 69 bq ao l.length cp 0 [.int .i64 0, .int .i64 0, .int .i64 0, .int .i64 0, .int .i64 0, .int .i64 0, .int .i64 0, .int .i64 0, .int .i64 0, .int .i64 0, .int .i64 0, .int .i64 0, .int .i64 0, .int .i64 0, .int .i64 0, .int .i64 0, .int .i64 0, .int .i64 0, .int .i64 0, .int .i64 0, .slice none 0 0]] [Res.rmod ao l] w := St.enter1 hR (fun d hd => by cases hd with | head => exact hA | tail _ h => cases h) (fun d hd => by cases hd with | head => exact hap | tail _ h => cases h)
 obtain ⟨a1, ha1⟩ : ∃ a, topA (l.map InstP.L) 1 = a := ⟨_, rfl⟩
 obtain ⟨a2, ha2⟩ : ∃ a, topA (l.map InstP.L) 2 = a := ⟨_, rfl⟩
 obtain ⟨a3, ha3⟩ : ∃ a, topA (l.map InstP.L) 3 = a := ⟨_, rfl⟩
 obtain ⟨a4, ha4⟩ : ∃ a, topA (l.map InstP.L) 4 = a := ⟨_, rfl⟩
 obtain ⟨a5, ha5⟩ : ∃ a, topA (l.map InstP.L) 5 = a := ⟨_, rfl⟩
 obtain ⟨a6, ha6⟩ : ∃ a, topA (l.map InstP.L) 6 = a := ⟨_, rfl⟩
 obtain ⟨a7, ha7⟩ : ∃ a, topA (l.map InstP.L) 7 = a := ⟨_, rfl⟩
 obtain ⟨a8, ha8⟩ : ∃ a, topA (l.map InstP.L) 8 = a := ⟨_, rfl⟩
 have hb1 : a1 = (0 : Nat) + topN (l.map InstP.L) 0 (0 : Nat) := by rw [← ha1]; rfl
 have hc1 : a1 ≤ (l.map InstP.L).length := by rw [← ha1]; exact topA_le 1
 have hb2 : a2 = a1 + topN (l.map InstP.L) 1 a1 := by rw [← ha2, ← ha1]; rfl
 have hc2 : a2 ≤ (l.map InstP.L).length := by rw [← ha2]; exact topA_le 2
 have hb3 : a3 = a2 + topN (l.map InstP.L) 2 a2 := by rw [← ha3, ← ha2]; rfl
 have hc3 : a3 ≤ (l.map InstP.L).length := by rw [← ha3]; exact topA_le 3
 have hb4 : a4 = a3 + topN (l.map InstP.L) 3 a3 := by rw [← ha4, ← ha3]; rfl
 have hc4 : a4 ≤ (l.map InstP.L).length := by rw [← ha4]; exact topA_le 4
 have hb5 : a5 = a4 + topN (l.map InstP.L) 4 a4 := by rw [← ha5, ← ha4]; rfl
 have hc5 : a5 ≤ (l.map InstP.L).length := by rw [← ha5]; exact topA_le 5
 have hb6 : a6 = a5 + topN (l.map InstP.L) 5 a5 := by rw [← ha6, ← ha5]; rfl
 have hc6 : a6 ≤ (l.map InstP.L).length := by rw [← ha6]; exact topA_le 6
 have hb7 : a7 = a6 + topN (l.map InstP.L) 6 a6 := by rw [← ha7, ← ha6]; rfl
 have hc7 : a7 ≤ (l.map InstP.L).length := by rw [← ha7]; exact topA_le 7
 have hb8 : a8 = a7 + topN (l.map InstP.L) 7 a7 := by rw [← ha8, ← ha7]; rfl
 have hc8 : a8 ≤ (l.map InstP.L).length := by rw [← ha8]; exact topA_le 8
 have hL : (l.map InstP.L).length = l.length := List.length_map _
 refine SR <| AB rfl <| NL <| SQ <| SR <| MC rfl <| NL <| run_block <| run_loop <| SR <| CN <| Op1.lss rfl rfl <| NL ?_
 refine SQ <| Run.slots (sl := [(5, .int .u8 0)]) ⟨rfl, trivial⟩ <| run_cond_true (congrArg Value.bool (decide_eq_true (by decide))) <| run_skip <| SQ <| run_block <| SR <| MC rfl <| AC rfl <| NSR <| MP rfl <| CN (Op1.nilCheckP rfl ?_)
 refine CN <| Op1.fieldAddr fld69_1 rfl <| CN <| Op1.load1 (v := .int .i64 _) ty3 rfl rfl (hst.cellL (.head _) rfl) <| AI rfl <| NL <| SQ <| Run.cutW (L1 := [_]) [(0, .pointer (some ⟨_, _, none⟩)), (3, .int .u8 _), (4, .int .i64 _), (5, .int .u8 _)] hst ⟨rfl, rfl, rfl, rfl, trivial⟩ (fun (_u : Unit) => []) (fun (_u : Unit) => [CutR 69 bq ao l.length cp a1 [.int .i64 0, .int .i64 0, .int .i64 0, .int .i64 0, .int .i64 0, .int .i64 0, .int .i64 0, .int .i64 0, .int .i64 0, .int .i64 0, .int .i64 0, .int .i64 0, .int .i64 0, .int .i64 0, .int .i64 0, .int .i64 0, .int .i64 0, .int .i64 0, .int .i64 0, .int .i64 0, .slice none 0 0]]) (fun (_u : Unit) => True) (fun _u f w hst hJ2 => ?_) (fun cut1 => ?_)
 · skip
   refine SQ <| RunD.start [] hst (bs := [0, 0, 0, 0, 8, 24, 56, 124, 1, 257, 1023, 2047]) (ds := [some 39, some 40, some 41, some 42, some 43, some 44, some 45, some 46, some 47, some 48, some 49, none]) ⟨by kernel_rfl, by kernel_rfl, by kernel_rfl⟩ (fun tab4 => ?_)
   refine RunD.op (det _) tab4 1 (fun f' L' w' hc => Op1.move (v := .pointer (some ⟨_, _, none⟩)) (hc.old (v := .pointer (some ⟨_, _, none⟩)) rfl rfl rfl) ⟨[], ⟨rfl, rfl⟩, hc.st⟩) <| RunD.op (det _) tab4 2 (fun f' L' w' hc => Op1.move (v := .int .u8 _) (hc.old (v := .int .u8 _) rfl rfl rfl) ⟨[], ⟨rfl, rfl⟩, hc.st⟩) <| RunD.op (det _) tab4 3 (fun f' L' w' hc => Op1.move (v := .int .i64 _) (hc.old (v := .int .i64 _) rfl rfl rfl) ⟨[], ⟨rfl, rfl⟩, hc.st⟩) <| RunD.op (det _) tab4 4 (fun f' L' w' hc => Op1.move (v := .pointer (some ⟨_, _, none⟩)) (hc.old (v := .pointer (some ⟨_, _, none⟩)) rfl rfl rfl) ⟨[], ⟨rfl, rfl⟩, hc.st⟩) <| RunD.op (det _) tab4 5 (fun f' L' w' hc => Op1.nilCheckP (hc.det (j := 3) rfl rfl rfl rfl) ⟨[], ⟨rfl, rfl⟩, hc.st⟩) <| RunD.op (det _) tab4 6 (fun f' L' w' hc => Op1.fieldAddr fld69_1 (hc.det (j := 4) rfl rfl rfl rfl) ⟨[], ⟨rfl, rfl⟩, hc.st⟩) <| RunD.op (det _) tab4 7 (fun f' L' w' hc => Op1.load1 (v := .int .i64 _) ty3 rfl (hc.det (j := 5) rfl rfl rfl rfl) (hc.st.cellL (List.mem_append_right _ (.head _)) rfl) ⟨[], ⟨rfl, rfl⟩, hc.st⟩) <| RunD.op (det _) tab4 8 (fun f' L' w' hc => Op1.buildStruct ty41 stf41 (.c (v := .int .i64 _) (hc.det (j := 2) rfl rfl rfl rfl) (h := (.c (v := .int .i64 _) (hc.det (j := 6) rfl rfl rfl rfl) (h := .nil)))) ⟨[], ⟨rfl, rfl⟩, hc.st⟩) ?_
   refine RunD.op (det _) tab4 9 (fun f' L' w' hc => Op1.nilCheckP (hc.det (j := 0) rfl rfl rfl rfl) ⟨[], ⟨rfl, rfl⟩, hc.st⟩) <| RunD.op (det _) tab4 10 (fun f' L' w' hc => Op1.fieldAddr fld69_2 (hc.det (j := 8) rfl rfl rfl rfl) ⟨[], ⟨rfl, rfl⟩, hc.st⟩) <| RunD.fin followsMixed tab4 hst rfl (fun f5 w R8 hs6 hd7 hr9 hst => ?_)
   obtain ⟨h39_, r0⟩ := hd7 0 39 rfl rfl
   obtain ⟨h40_, r1⟩ := hd7 1 40 rfl rfl
   obtain ⟨h41_, r2⟩ := hd7 2 41 rfl rfl
   obtain ⟨h42_, r3⟩ := hd7 3 42 rfl rfl
   obtain ⟨h43_, r4⟩ := hd7 4 43 rfl rfl
   obtain ⟨h44_, r5⟩ := hd7 5 44 rfl rfl
   obtain ⟨h45_, r6⟩ := hd7 6 45 rfl rfl
   obtain ⟨h46_, r7⟩ := hd7 7 46 rfl rfl
   obtain ⟨h47_, r8⟩ := hd7 8 47 rfl rfl
   obtain ⟨h48_, r9⟩ := hd7 9 48 rfl rfl
   simp only [show List.range 10 = [0, 1, 2, 3, 4, 5, 6, 7, 8, 9] from rfl, List.flatMap_cons, List.flatMap_nil, List.map_cons, List.map_nil, r0, r1, r2, r3, r4, r5, r6, r7, r8, r9, List.nil_append, List.append_nil, List.cons_append] at hst
   refine RunL.slots (sl := [(0, .pointer (some ⟨_, _, none⟩)), (3, .int .u8 _), (4, .int .i64 _), (5, .int .u8 _), (40, .int .u8 _), (46, .agg #[.int .i64 _, .int .i64 _]), (48, .pointer (some ⟨_, _, none⟩))]) ⟨(hs6 0 rfl).trans rfl, (hs6 3 rfl).trans rfl, (hs6 4 rfl).trans rfl, (hs6 5 rfl).trans rfl, h40_, h46_, h48_, trivial⟩ ?_
   clear hs6 hd7 hr9 tab4
   refine CN <| Op1.indexArr ty42 ty41 rfl rfl (by decide) (by decide) <| RunL.slots (sl := [(49, .pointer (some ⟨bq, 2, none⟩)), (46, .agg #[.int .i64 _, .int .i64 _])]) ⟨rfl, rfl, trivial⟩ <| CN (SO (v := .agg #[.int .i64 _, .int .i64 _]) hst ty41 rfl rfl (.here) fun w hst => ?_)
   refine NSR <| MC rfl <| CN <| Op1.eql rfl rfl <| MB rfl <| RunL.splitD (d := 52) rfl (fun g10 => ?_) (fun g10 => ?_)
   · skip
     exfalso
     exact absurd g10 (by decide)
   refine OM (t := 52) rfl (congrArg Value.bool (decide_eq_false g10)) rfl <| OM (t := 52) rfl (congrArg Value.bool (decide_eq_false g10)) rfl <| OM (t := 52) rfl (congrArg Value.bool (decide_eq_false g10)) rfl <| OM (t := 52) rfl (congrArg Value.bool (decide_eq_false g10)) rfl <| OM (t := 52) rfl (congrArg Value.bool (decide_eq_false g10)) rfl <| OM (t := 52) rfl (congrArg Value.bool (decide_eq_false g10)) rfl <| CN <| Op1.pickF (u := .bool _) (congrArg Value.bool (decide_eq_false g10)) rfl <| NL <| run_cond_false (congrArg Value.bool (rfl : false = _)) <| run_skip <| run_inBlock <| RG <| CN <| Op1.addN rfl rfl rfl (wrap_u8 (by omega) (by omega)) <| MC rfl <| NL ?_
   refine run_inLoop <| SR <| CN <| Op1.lss rfl rfl <| NL <| SQ <| Run.slots (sl := [(5, .int .u8 1)]) ⟨rfl, trivial⟩ <| run_cond_true (congrArg Value.bool (decide_eq_true (by decide))) <| run_skip <| SQ <| run_block <| SR <| MC rfl <| AC rfl ?_
   refine NL <| Run.forget [(0, .pointer (some ⟨_, _, none⟩)), (3, .int .u8 _), (5, .int .u8 _)] ⟨rfl, rfl, rfl, trivial⟩ fun f => SR <| MP rfl <| CN <| Op1.nilCheckP rfl <| CN <| Op1.fieldAddr fld69_1 rfl <| CN <| Op1.load1 (v := .int .i64 _) ty3 rfl rfl (hst.cellL (.head _) rfl) <| AI rfl <| NL <| SQ <| Run.cutW (L1 := [_]) [(0, .pointer (some ⟨_, _, none⟩)), (3, .int .u8 _), (4, .int .i64 _), (5, .int .u8 _)] hst ⟨rfl, rfl, rfl, rfl, trivial⟩ (fun (_u : Unit) => []) (fun (_u : Unit) => [CutR 69 bq ao l.length cp a2 [.int .i64 ((0 : Nat) : Int), .int .i64 (a1 : Int), .int .i64 0, .int .i64 0, .int .i64 0, .int .i64 0, .int .i64 0, .int .i64 0, .int .i64 0, .int .i64 0, .int .i64 0, .int .i64 0, .int .i64 0, .int .i64 0, .int .i64 0, .int .i64 0, .int .i64 0, .int .i64 0, .int .i64 0, .int .i64 0, .slice none 0 0]]) (fun (_u : Unit) => True) (fun _u f w hst hJ12 => ?_) (fun cut11 => ?_)
   · skip
     refine SQ <| RunD.start [] hst (bs := [0, 0, 0, 0, 8, 24, 56, 124, 1, 257, 1023, 2047]) (ds := [some 39, some 40, some 41, some 42, some 43, some 44, some 45, some 46, some 47, some 48, some 49, none]) ⟨by kernel_rfl, by kernel_rfl, by kernel_rfl⟩ (fun tab14 => ?_)
     refine RunD.op (det _) tab14 1 (fun f' L' w' hc => Op1.move (v := .pointer (some ⟨_, _, none⟩)) (hc.old (v := .pointer (some ⟨_, _, none⟩)) rfl rfl rfl) ⟨[], ⟨rfl, rfl⟩, hc.st⟩) <| RunD.op (det _) tab14 2 (fun f' L' w' hc => Op1.move (v := .int .u8 _) (hc.old (v := .int .u8 _) rfl rfl rfl) ⟨[], ⟨rfl, rfl⟩, hc.st⟩) <| RunD.op (det _) tab14 3 (fun f' L' w' hc => Op1.move (v := .int .i64 _) (hc.old (v := .int .i64 _) rfl rfl rfl) ⟨[], ⟨rfl, rfl⟩, hc.st⟩) <| RunD.op (det _) tab14 4 (fun f' L' w' hc => Op1.move (v := .pointer (some ⟨_, _, none⟩)) (hc.old (v := .pointer (some ⟨_, _, none⟩)) rfl rfl rfl) ⟨[], ⟨rfl, rfl⟩, hc.st⟩) <| RunD.op (det _) tab14 5 (fun f' L' w' hc => Op1.nilCheckP (hc.det (j := 3) rfl rfl rfl rfl) ⟨[], ⟨rfl, rfl⟩, hc.st⟩) <| RunD.op (det _) tab14 6 (fun f' L' w' hc => Op1.fieldAddr fld69_1 (hc.det (j := 4) rfl rfl rfl rfl) ⟨[], ⟨rfl, rfl⟩, hc.st⟩) <| RunD.op (det _) tab14 7 (fun f' L' w' hc => Op1.load1 (v := .int .i64 _) ty3 rfl (hc.det (j := 5) rfl rfl rfl rfl) (hc.st.cellL (List.mem_append_right _ (.head _)) rfl) ⟨[], ⟨rfl, rfl⟩, hc.st⟩) <| RunD.op (det _) tab14 8 (fun f' L' w' hc => Op1.buildStruct ty41 stf41 (.c (v := .int .i64 _) (hc.det (j := 2) rfl rfl rfl rfl) (h := (.c (v := .int .i64 _) (hc.det (j := 6) rfl rfl rfl rfl) (h := .nil)))) ⟨[], ⟨rfl, rfl⟩, hc.st⟩) ?_
     refine RunD.op (det _) tab14 9 (fun f' L' w' hc => Op1.nilCheckP (hc.det (j := 0) rfl rfl rfl rfl) ⟨[], ⟨rfl, rfl⟩, hc.st⟩) <| RunD.op (det _) tab14 10 (fun f' L' w' hc => Op1.fieldAddr fld69_2 (hc.det (j := 8) rfl rfl rfl rfl) ⟨[], ⟨rfl, rfl⟩, hc.st⟩) <| RunD.fin followsMixed tab14 hst rfl (fun f15 w R18 hs16 hd17 hr19 hst => ?_)
     obtain ⟨h39_, r0⟩ := hd17 0 39 rfl rfl
     obtain ⟨h40_, r1⟩ := hd17 1 40 rfl rfl
     obtain ⟨h41_, r2⟩ := hd17 2 41 rfl rfl
     obtain ⟨h42_, r3⟩ := hd17 3 42 rfl rfl
     obtain ⟨h43_, r4⟩ := hd17 4 43 rfl rfl
     obtain ⟨h44_, r5⟩ := hd17 5 44 rfl rfl
     obtain ⟨h45_, r6⟩ := hd17 6 45 rfl rfl
     obtain ⟨h46_, r7⟩ := hd17 7 46 rfl rfl
     obtain ⟨h47_, r8⟩ := hd17 8 47 rfl rfl
     obtain ⟨h48_, r9⟩ := hd17 9 48 rfl rfl
     simp only [show List.range 10 = [0, 1, 2, 3, 4, 5, 6, 7, 8, 9] from rfl, List.flatMap_cons, List.flatMap_nil, List.map_cons, List.map_nil, r0, r1, r2, r3, r4, r5, r6, r7, r8, r9, List.nil_append, List.append_nil, List.cons_append] at hst
     refine RunL.slots (sl := [(0, .pointer (some ⟨_, _, none⟩)), (3, .int .u8 _), (4, .int .i64 _), (5, .int .u8 _), (40, .int .u8 _), (46, .agg #[.int .i64 _, .int .i64 _]), (48, .pointer (some ⟨_, _, none⟩))]) ⟨(hs16 0 rfl).trans rfl, (hs16 3 rfl).trans rfl, (hs16 4 rfl).trans rfl, (hs16 5 rfl).trans rfl, h40_, h46_, h48_, trivial⟩ ?_
     clear hs16 hd17 hr19 tab14
     refine CN <| Op1.indexArr ty42 ty41 rfl rfl (by decide) (by decide) <| RunL.slots (sl := [(49, .pointer (some ⟨bq, 4, none⟩)), (46, .agg #[.int .i64 _, .int .i64 _])]) ⟨rfl, rfl, trivial⟩ <| CN (SO (v := .agg #[.int .i64 _, .int .i64 _]) hst ty41 rfl rfl (.here) fun w hst => ?_)
     refine NSR <| MC rfl <| CN <| Op1.eql rfl rfl <| MB rfl <| RunL.splitD (d := 52) rfl (fun g20 => ?_) (fun g20 => ?_)
     · skip
       refine TK (t := 52) rfl (congrArg Value.bool (decide_eq_true g20)) <| Op1.move (v := .pointer (some ⟨_, _, none⟩)) rfl <| TK (t := 52) rfl (congrArg Value.bool (decide_eq_true g20)) <| Op1.nilCheckP rfl <| TK (t := 52) rfl (congrArg Value.bool (decide_eq_true g20)) <| Op1.fieldAddr fld69_1 rfl <| TK (t := 52) rfl (congrArg Value.bool (decide_eq_true g20)) <| Op1.load1 (v := .int .i64 _) ty3 rfl rfl (hst.cellL (.head _) rfl) <| TK (t := 52) rfl (congrArg Value.bool (decide_eq_true g20)) <| Op1.move (v := .int .i64 _) rfl <| TK (t := 52) rfl (congrArg Value.bool (decide_eq_true g20)) <| Op1.eql rfl rfl <| CN <| Op1.pickT (u := .bool _) (congrArg Value.bool (decide_eq_true g20)) rfl <| NL <| Run.forget [(0, .pointer (some ⟨_, _, none⟩)), (5, .int .u8 _), (59, .bool _)] ⟨rfl, rfl, rfl, trivial⟩ fun f => run_cond_dec rfl (fun g21 => ?_) (fun g21 => ?_)
       · skip
         refine SR <| AB rfl <| NL <| run_ret1 Try.func39 rfl (TP (v := .bool _) rfl) ?_
         replace hst := hst.pick (.cons (.here) .nil)
         have ht2 : a2 = a1 := by omega
         subst ha1 ha2
         exact .inr ⟨ht2, rfl, _, hst.noD⟩
       refine run_skip <| run_inBlock <| RG <| CN <| Op1.addN rfl rfl rfl (wrap_u8 (by omega) (by omega)) <| MC rfl <| NL <| run_inLoop <| SR <| CN <| Op1.lss rfl rfl <| NL <| SQ <| Run.slots (sl := [(5, .int .u8 2)]) ⟨rfl, trivial⟩ <| run_cond_true (congrArg Value.bool (decide_eq_true (by decide))) <| run_skip ?_
       refine SQ <| run_block <| SR <| MC rfl <| AC rfl <| NSR <| MP rfl <| CN <| Op1.nilCheckP rfl <| CN <| Op1.fieldAddr fld69_1 rfl <| CN <| Op1.load1 (v := .int .i64 _) ty3 rfl rfl (hst.cellL (.head _) rfl) <| AI rfl <| NL ?_
       refine SQ <| Run.cutW (L1 := [_]) [(0, .pointer (some ⟨_, _, none⟩)), (3, .int .u8 _), (4, .int .i64 _), (5, .int .u8 _)] hst ⟨rfl, rfl, rfl, rfl, trivial⟩ (fun (_u : Unit) => []) (fun (_u : Unit) => [CutR 69 bq ao l.length cp a3 [.int .i64 ((0 : Nat) : Int), .int .i64 (a1 : Int), .int .i64 (a1 : Int), .int .i64 (a2 : Int), .int .i64 0, .int .i64 0, .int .i64 0, .int .i64 0, .int .i64 0, .int .i64 0, .int .i64 0, .int .i64 0, .int .i64 0, .int .i64 0, .int .i64 0, .int .i64 0, .int .i64 0, .int .i64 0, .int .i64 0, .int .i64 0, .slice none 0 0]]) (fun (_u : Unit) => True) (fun _u f w hst hJ23 => ?_) (fun cut22 => ?_)
       · skip
         refine SQ <| RunD.start [] hst (bs := [0, 0, 0, 0, 8, 24, 56, 124, 1, 257, 1023, 2047]) (ds := [some 39, some 40, some 41, some 42, some 43, some 44, some 45, some 46, some 47, some 48, some 49, none]) ⟨by kernel_rfl, by kernel_rfl, by kernel_rfl⟩ (fun tab25 => ?_)
         refine RunD.op (det _) tab25 1 (fun f' L' w' hc => Op1.move (v := .pointer (some ⟨_, _, none⟩)) (hc.old (v := .pointer (some ⟨_, _, none⟩)) rfl rfl rfl) ⟨[], ⟨rfl, rfl⟩, hc.st⟩) <| RunD.op (det _) tab25 2 (fun f' L' w' hc => Op1.move (v := .int .u8 _) (hc.old (v := .int .u8 _) rfl rfl rfl) ⟨[], ⟨rfl, rfl⟩, hc.st⟩) <| RunD.op (det _) tab25 3 (fun f' L' w' hc => Op1.move (v := .int .i64 _) (hc.old (v := .int .i64 _) rfl rfl rfl) ⟨[], ⟨rfl, rfl⟩, hc.st⟩) <| RunD.op (det _) tab25 4 (fun f' L' w' hc => Op1.move (v := .pointer (some ⟨_, _, none⟩)) (hc.old (v := .pointer (some ⟨_, _, none⟩)) rfl rfl rfl) ⟨[], ⟨rfl, rfl⟩, hc.st⟩) <| RunD.op (det _) tab25 5 (fun f' L' w' hc => Op1.nilCheckP (hc.det (j := 3) rfl rfl rfl rfl) ⟨[], ⟨rfl, rfl⟩, hc.st⟩) <| RunD.op (det _) tab25 6 (fun f' L' w' hc => Op1.fieldAddr fld69_1 (hc.det (j := 4) rfl rfl rfl rfl) ⟨[], ⟨rfl, rfl⟩, hc.st⟩) <| RunD.op (det _) tab25 7 (fun f' L' w' hc => Op1.load1 (v := .int .i64 _) ty3 rfl (hc.det (j := 5) rfl rfl rfl rfl) (hc.st.cellL (List.mem_append_right _ (.head _)) rfl) ⟨[], ⟨rfl, rfl⟩, hc.st⟩) <| RunD.op (det _) tab25 8 (fun f' L' w' hc => Op1.buildStruct ty41 stf41 (.c (v := .int .i64 _) (hc.det (j := 2) rfl rfl rfl rfl) (h := (.c (v := .int .i64 _) (hc.det (j := 6) rfl rfl rfl rfl) (h := .nil)))) ⟨[], ⟨rfl, rfl⟩, hc.st⟩) ?_
         refine RunD.op (det _) tab25 9 (fun f' L' w' hc => Op1.nilCheckP (hc.det (j := 0) rfl rfl rfl rfl) ⟨[], ⟨rfl, rfl⟩, hc.st⟩) <| RunD.op (det _) tab25 10 (fun f' L' w' hc => Op1.fieldAddr fld69_2 (hc.det (j := 8) rfl rfl rfl rfl) ⟨[], ⟨rfl, rfl⟩, hc.st⟩) <| RunD.fin followsMixed tab25 hst rfl (fun f26 w R29 hs27 hd28 hr30 hst => ?_)
         obtain ⟨h39_, r0⟩ := hd28 0 39 rfl rfl
         obtain ⟨h40_, r1⟩ := hd28 1 40 rfl rfl
         obtain ⟨h41_, r2⟩ := hd28 2 41 rfl rfl
         obtain ⟨h42_, r3⟩ := hd28 3 42 rfl rfl
         obtain ⟨h43_, r4⟩ := hd28 4 43 rfl rfl
         obtain ⟨h44_, r5⟩ := hd28 5 44 rfl rfl
         obtain ⟨h45_, r6⟩ := hd28 6 45 rfl rfl
         obtain ⟨h46_, r7⟩ := hd28 7 46 rfl rfl
         obtain ⟨h47_, r8⟩ := hd28 8 47 rfl rfl
         obtain ⟨h48_, r9⟩ := hd28 9 48 rfl rfl
         simp only [show List.range 10 = [0, 1, 2, 3, 4, 5, 6, 7, 8, 9] from rfl, List.flatMap_cons, List.flatMap_nil, List.map_cons, List.map_nil, r0, r1, r2, r3, r4, r5, r6, r7, r8, r9, List.nil_append, List.append_nil, List.cons_append] at hst
         refine RunL.slots (sl := [(0, .pointer (some ⟨_, _, none⟩)), (3, .int .u8 _), (4, .int .i64 _), (5, .int .u8 _), (40, .int .u8 _), (46, .agg #[.int .i64 _, .int .i64 _]), (48, .pointer (some ⟨_, _, none⟩))]) ⟨(hs27 0 rfl).trans rfl, (hs27 3 rfl).trans rfl, (hs27 4 rfl).trans rfl, (hs27 5 rfl).trans rfl, h40_, h46_, h48_, trivial⟩ ?_
         clear hs27 hd28 hr30 tab25
         refine CN <| Op1.indexArr ty42 ty41 rfl rfl (by decide) (by decide) <| RunL.slots (sl := [(49, .pointer (some ⟨bq, 6, none⟩)), (46, .agg #[.int .i64 _, .int .i64 _])]) ⟨rfl, rfl, trivial⟩ <| CN (SO (v := .agg #[.int .i64 _, .int .i64 _]) hst ty41 rfl rfl (.here) fun w hst => ?_)
         refine NSR <| MC rfl <| CN <| Op1.eql rfl rfl <| MB rfl <| RunL.splitD (d := 52) rfl (fun g31 => ?_) (fun g31 => ?_)
         · skip
           exfalso
           exact absurd g31 (by decide)
         refine OM (t := 52) rfl (congrArg Value.bool (decide_eq_false g31)) rfl <| OM (t := 52) rfl (congrArg Value.bool (decide_eq_false g31)) rfl <| OM (t := 52) rfl (congrArg Value.bool (decide_eq_false g31)) rfl <| OM (t := 52) rfl (congrArg Value.bool (decide_eq_false g31)) rfl <| OM (t := 52) rfl (congrArg Value.bool (decide_eq_false g31)) rfl <| OM (t := 52) rfl (congrArg Value.bool (decide_eq_false g31)) rfl <| CN <| Op1.pickF (u := .bool _) (congrArg Value.bool (decide_eq_false g31)) rfl <| NL <| run_cond_false (congrArg Value.bool (rfl : false = _)) <| run_skip <| run_inBlock <| RG <| CN <| Op1.addN rfl rfl rfl (wrap_u8 (by omega) (by omega)) <| MC rfl <| NL ?_
         refine run_inLoop <| SR <| CN <| Op1.lss rfl rfl <| NL <| SQ <| Run.slots (sl := [(5, .int .u8 3)]) ⟨rfl, trivial⟩ <| run_cond_true (congrArg Value.bool (decide_eq_true (by decide))) <| run_skip <| SQ <| run_block <| SR <| MC rfl <| AC rfl ?_
         refine NL <| Run.forget [(0, .pointer (some ⟨_, _, none⟩)), (3, .int .u8 _), (5, .int .u8 _)] ⟨rfl, rfl, rfl, trivial⟩ fun f => SR <| MP rfl <| CN <| Op1.nilCheckP rfl <| CN <| Op1.fieldAddr fld69_1 rfl <| CN <| Op1.load1 (v := .int .i64 _) ty3 rfl rfl (hst.cellL (.head _) rfl) <| AI rfl <| NL <| SQ <| Run.cutW (L1 := [_]) [(0, .pointer (some ⟨_, _, none⟩)), (3, .int .u8 _), (4, .int .i64 _), (5, .int .u8 _)] hst ⟨rfl, rfl, rfl, rfl, trivial⟩ (fun (_u : Unit) => []) (fun (_u : Unit) => [CutR 69 bq ao l.length cp a4 [.int .i64 ((0 : Nat) : Int), .int .i64 (a1 : Int), .int .i64 (a1 : Int), .int .i64 (a2 : Int), .int .i64 (a2 : Int), .int .i64 (a3 : Int), .int .i64 0, .int .i64 0, .int .i64 0, .int .i64 0, .int .i64 0, .int .i64 0, .int .i64 0, .int .i64 0, .int .i64 0, .int .i64 0, .int .i64 0, .int .i64 0, .int .i64 0, .int .i64 0, .slice none 0 0]]) (fun (_u : Unit) => True) (fun _u f w hst hJ33 => ?_) (fun cut32 => ?_)
         · skip
           refine SQ <| RunD.start [] hst (bs := [0, 0, 0, 0, 8, 24, 56, 124, 1, 257, 1023, 2047]) (ds := [some 39, some 40, some 41, some 42, some 43, some 44, some 45, some 46, some 47, some 48, some 49, none]) ⟨by kernel_rfl, by kernel_rfl, by kernel_rfl⟩ (fun tab35 => ?_)
           refine RunD.op (det _) tab35 1 (fun f' L' w' hc => Op1.move (v := .pointer (some ⟨_, _, none⟩)) (hc.old (v := .pointer (some ⟨_, _, none⟩)) rfl rfl rfl) ⟨[], ⟨rfl, rfl⟩, hc.st⟩) <| RunD.op (det _) tab35 2 (fun f' L' w' hc => Op1.move (v := .int .u8 _) (hc.old (v := .int .u8 _) rfl rfl rfl) ⟨[], ⟨rfl, rfl⟩, hc.st⟩) <| RunD.op (det _) tab35 3 (fun f' L' w' hc => Op1.move (v := .int .i64 _) (hc.old (v := .int .i64 _) rfl rfl rfl) ⟨[], ⟨rfl, rfl⟩, hc.st⟩) <| RunD.op (det _) tab35 4 (fun f' L' w' hc => Op1.move (v := .pointer (some ⟨_, _, none⟩)) (hc.old (v := .pointer (some ⟨_, _, none⟩)) rfl rfl rfl) ⟨[], ⟨rfl, rfl⟩, hc.st⟩) <| RunD.op (det _) tab35 5 (fun f' L' w' hc => Op1.nilCheckP (hc.det (j := 3) rfl rfl rfl rfl) ⟨[], ⟨rfl, rfl⟩, hc.st⟩) <| RunD.op (det _) tab35 6 (fun f' L' w' hc => Op1.fieldAddr fld69_1 (hc.det (j := 4) rfl rfl rfl rfl) ⟨[], ⟨rfl, rfl⟩, hc.st⟩) <| RunD.op (det _) tab35 7 (fun f' L' w' hc => Op1.load1 (v := .int .i64 _) ty3 rfl (hc.det (j := 5) rfl rfl rfl rfl) (hc.st.cellL (List.mem_append_right _ (.head _)) rfl) ⟨[], ⟨rfl, rfl⟩, hc.st⟩) <| RunD.op (det _) tab35 8 (fun f' L' w' hc => Op1.buildStruct ty41 stf41 (.c (v := .int .i64 _) (hc.det (j := 2) rfl rfl rfl rfl) (h := (.c (v := .int .i64 _) (hc.det (j := 6) rfl rfl rfl rfl) (h := .nil)))) ⟨[], ⟨rfl, rfl⟩, hc.st⟩) ?_
           refine RunD.op (det _) tab35 9 (fun f' L' w' hc => Op1.nilCheckP (hc.det (j := 0) rfl rfl rfl rfl) ⟨[], ⟨rfl, rfl⟩, hc.st⟩) <| RunD.op (det _) tab35 10 (fun f' L' w' hc => Op1.fieldAddr fld69_2 (hc.det (j := 8) rfl rfl rfl rfl) ⟨[], ⟨rfl, rfl⟩, hc.st⟩) <| RunD.fin followsMixed tab35 hst rfl (fun f36 w R39 hs37 hd38 hr40 hst => ?_)
           obtain ⟨h39_, r0⟩ := hd38 0 39 rfl rfl
           obtain ⟨h40_, r1⟩ := hd38 1 40 rfl rfl
           obtain ⟨h41_, r2⟩ := hd38 2 41 rfl rfl
           obtain ⟨h42_, r3⟩ := hd38 3 42 rfl rfl
           obtain ⟨h43_, r4⟩ := hd38 4 43 rfl rfl
           obtain ⟨h44_, r5⟩ := hd38 5 44 rfl rfl
           obtain ⟨h45_, r6⟩ := hd38 6 45 rfl rfl
           obtain ⟨h46_, r7⟩ := hd38 7 46 rfl rfl
           obtain ⟨h47_, r8⟩ := hd38 8 47 rfl rfl
           obtain ⟨h48_, r9⟩ := hd38 9 48 rfl rfl
           simp only [show List.range 10 = [0, 1, 2, 3, 4, 5, 6, 7, 8, 9] from rfl, List.flatMap_cons, List.flatMap_nil, List.map_cons, List.map_nil, r0, r1, r2, r3, r4, r5, r6, r7, r8, r9, List.nil_append, List.append_nil, List.cons_append] at hst
           refine RunL.slots (sl := [(0, .pointer (some ⟨_, _, none⟩)), (3, .int .u8 _), (4, .int .i64 _), (5, .int .u8 _), (40, .int .u8 _), (46, .agg #[.int .i64 _, .int .i64 _]), (48, .pointer (some ⟨_, _, none⟩))]) ⟨(hs37 0 rfl).trans rfl, (hs37 3 rfl).trans rfl, (hs37 4 rfl).trans rfl, (hs37 5 rfl).trans rfl, h40_, h46_, h48_, trivial⟩ ?_
           clear hs37 hd38 hr40 tab35
           refine CN <| Op1.indexArr ty42 ty41 rfl rfl (by decide) (by decide) <| RunL.slots (sl := [(49, .pointer (some ⟨bq, 8, none⟩)), (46, .agg #[.int .i64 _, .int .i64 _])]) ⟨rfl, rfl, trivial⟩ <| CN (SO (v := .agg #[.int .i64 _, .int .i64 _]) hst ty41 rfl rfl (.here) fun w hst => ?_)
           refine NSR <| MC rfl <| CN <| Op1.eql rfl rfl <| MB rfl <| RunL.splitD (d := 52) rfl (fun g41 => ?_) (fun g41 => ?_)
           · skip
             exfalso
             exact absurd g41 (by decide)
           refine OM (t := 52) rfl (congrArg Value.bool (decide_eq_false g41)) rfl <| OM (t := 52) rfl (congrArg Value.bool (decide_eq_false g41)) rfl <| OM (t := 52) rfl (congrArg Value.bool (decide_eq_false g41)) rfl <| OM (t := 52) rfl (congrArg Value.bool (decide_eq_false g41)) rfl <| OM (t := 52) rfl (congrArg Value.bool (decide_eq_false g41)) rfl <| OM (t := 52) rfl (congrArg Value.bool (decide_eq_false g41)) rfl <| CN <| Op1.pickF (u := .bool _) (congrArg Value.bool (decide_eq_false g41)) rfl <| NL <| run_cond_false (congrArg Value.bool (rfl : false = _)) <| run_skip <| run_inBlock <| RG <| CN <| Op1.addN rfl rfl rfl (wrap_u8 (by omega) (by omega)) <| MC rfl <| NL ?_
           refine run_inLoop <| SR <| CN <| Op1.lss rfl rfl <| NL <| SQ <| Run.slots (sl := [(5, .int .u8 4)]) ⟨rfl, trivial⟩ <| run_cond_true (congrArg Value.bool (decide_eq_true (by decide))) <| run_skip <| SQ <| run_block <| SR <| MC rfl <| AC rfl ?_
           refine NL <| Run.forget [(0, .pointer (some ⟨_, _, none⟩)), (3, .int .u8 _), (5, .int .u8 _)] ⟨rfl, rfl, rfl, trivial⟩ fun f => SR <| MP rfl <| CN <| Op1.nilCheckP rfl <| CN <| Op1.fieldAddr fld69_1 rfl <| CN <| Op1.load1 (v := .int .i64 _) ty3 rfl rfl (hst.cellL (.head _) rfl) <| AI rfl <| NL <| SQ <| Run.cutW (L1 := [_]) [(0, .pointer (some ⟨_, _, none⟩)), (3, .int .u8 _), (4, .int .i64 _), (5, .int .u8 _)] hst ⟨rfl, rfl, rfl, rfl, trivial⟩ (fun (_u : Unit) => []) (fun (_u : Unit) => [CutR 69 bq ao l.length cp a5 [.int .i64 ((0 : Nat) : Int), .int .i64 (a1 : Int), .int .i64 (a1 : Int), .int .i64 (a2 : Int), .int .i64 (a2 : Int), .int .i64 (a3 : Int), .int .i64 (a3 : Int), .int .i64 (a4 : Int), .int .i64 0, .int .i64 0, .int .i64 0, .int .i64 0, .int .i64 0, .int .i64 0, .int .i64 0, .int .i64 0, .int .i64 0, .int .i64 0, .int .i64 0, .int .i64 0, .slice none 0 0]]) (fun (_u : Unit) => True) (fun _u f w hst hJ43 => ?_) (fun cut42 => ?_)
           · skip
             refine SQ <| RunD.start [] hst (bs := [0, 0, 0, 0, 8, 24, 56, 124, 1, 257, 1023, 2047]) (ds := [some 39, some 40, some 41, some 42, some 43, some 44, some 45, some 46, some 47, some 48, some 49, none]) ⟨by kernel_rfl, by kernel_rfl, by kernel_rfl⟩ (fun tab45 => ?_)
             refine RunD.op (det _) tab45 1 (fun f' L' w' hc => Op1.move (v := .pointer (some ⟨_, _, none⟩)) (hc.old (v := .pointer (some ⟨_, _, none⟩)) rfl rfl rfl) ⟨[], ⟨rfl, rfl⟩, hc.st⟩) <| RunD.op (det _) tab45 2 (fun f' L' w' hc => Op1.move (v := .int .u8 _) (hc.old (v := .int .u8 _) rfl rfl rfl) ⟨[], ⟨rfl, rfl⟩, hc.st⟩) <| RunD.op (det _) tab45 3 (fun f' L' w' hc => Op1.move (v := .int .i64 _) (hc.old (v := .int .i64 _) rfl rfl rfl) ⟨[], ⟨rfl, rfl⟩, hc.st⟩) <| RunD.op (det _) tab45 4 (fun f' L' w' hc => Op1.move (v := .pointer (some ⟨_, _, none⟩)) (hc.old (v := .pointer (some ⟨_, _, none⟩)) rfl rfl rfl) ⟨[], ⟨rfl, rfl⟩, hc.st⟩) <| RunD.op (det _) tab45 5 (fun f' L' w' hc => Op1.nilCheckP (hc.det (j := 3) rfl rfl rfl rfl) ⟨[], ⟨rfl, rfl⟩, hc.st⟩) <| RunD.op (det _) tab45 6 (fun f' L' w' hc => Op1.fieldAddr fld69_1 (hc.det (j := 4) rfl rfl rfl rfl) ⟨[], ⟨rfl, rfl⟩, hc.st⟩) <| RunD.op (det _) tab45 7 (fun f' L' w' hc => Op1.load1 (v := .int .i64 _) ty3 rfl (hc.det (j := 5) rfl rfl rfl rfl) (hc.st.cellL (List.mem_append_right _ (.head _)) rfl) ⟨[], ⟨rfl, rfl⟩, hc.st⟩) <| RunD.op (det _) tab45 8 (fun f' L' w' hc => Op1.buildStruct ty41 stf41 (.c (v := .int .i64 _) (hc.det (j := 2) rfl rfl rfl rfl) (h := (.c (v := .int .i64 _) (hc.det (j := 6) rfl rfl rfl rfl) (h := .nil)))) ⟨[], ⟨rfl, rfl⟩, hc.st⟩) ?_
             refine RunD.op (det _) tab45 9 (fun f' L' w' hc => Op1.nilCheckP (hc.det (j := 0) rfl rfl rfl rfl) ⟨[], ⟨rfl, rfl⟩, hc.st⟩) <| RunD.op (det _) tab45 10 (fun f' L' w' hc => Op1.fieldAddr fld69_2 (hc.det (j := 8) rfl rfl rfl rfl) ⟨[], ⟨rfl, rfl⟩, hc.st⟩) <| RunD.fin followsMixed tab45 hst rfl (fun f46 w R49 hs47 hd48 hr50 hst => ?_)
             obtain ⟨h39_, r0⟩ := hd48 0 39 rfl rfl
             obtain ⟨h40_, r1⟩ := hd48 1 40 rfl rfl
             obtain ⟨h41_, r2⟩ := hd48 2 41 rfl rfl
             obtain ⟨h42_, r3⟩ := hd48 3 42 rfl rfl
             obtain ⟨h43_, r4⟩ := hd48 4 43 rfl rfl
             obtain ⟨h44_, r5⟩ := hd48 5 44 rfl rfl
             obtain ⟨h45_, r6⟩ := hd48 6 45 rfl rfl
             obtain ⟨h46_, r7⟩ := hd48 7 46 rfl rfl
             obtain ⟨h47_, r8⟩ := hd48 8 47 rfl rfl
             obtain ⟨h48_, r9⟩ := hd48 9 48 rfl rfl
             simp only [show List.range 10 = [0, 1, 2, 3, 4, 5, 6, 7, 8, 9] from rfl, List.flatMap_cons, List.flatMap_nil, List.map_cons, List.map_nil, r0, r1, r2, r3, r4, r5, r6, r7, r8, r9, List.nil_append, List.append_nil, List.cons_append] at hst
             refine RunL.slots (sl := [(0, .pointer (some ⟨_, _, none⟩)), (3, .int .u8 _), (4, .int .i64 _), (5, .int .u8 _), (40, .int .u8 _), (46, .agg #[.int .i64 _, .int .i64 _]), (48, .pointer (some ⟨_, _, none⟩))]) ⟨(hs47 0 rfl).trans rfl, (hs47 3 rfl).trans rfl, (hs47 4 rfl).trans rfl, (hs47 5 rfl).trans rfl, h40_, h46_, h48_, trivial⟩ ?_
             clear hs47 hd48 hr50 tab45
             refine CN <| Op1.indexArr ty42 ty41 rfl rfl (by decide) (by decide) <| RunL.slots (sl := [(49, .pointer (some ⟨bq, 10, none⟩)), (46, .agg #[.int .i64 _, .int .i64 _])]) ⟨rfl, rfl, trivial⟩ <| CN (SO (v := .agg #[.int .i64 _, .int .i64 _]) hst ty41 rfl rfl (.here) fun w hst => ?_)
             refine NSR <| MC rfl <| CN <| Op1.eql rfl rfl <| MB rfl <| RunL.splitD (d := 52) rfl (fun g51 => ?_) (fun g51 => ?_)
             · skip
               exfalso
               exact absurd g51 (by decide)
             refine OM (t := 52) rfl (congrArg Value.bool (decide_eq_false g51)) rfl <| OM (t := 52) rfl (congrArg Value.bool (decide_eq_false g51)) rfl <| OM (t := 52) rfl (congrArg Value.bool (decide_eq_false g51)) rfl <| OM (t := 52) rfl (congrArg Value.bool (decide_eq_false g51)) rfl <| OM (t := 52) rfl (congrArg Value.bool (decide_eq_false g51)) rfl <| OM (t := 52) rfl (congrArg Value.bool (decide_eq_false g51)) rfl <| CN <| Op1.pickF (u := .bool _) (congrArg Value.bool (decide_eq_false g51)) rfl <| NL <| run_cond_false (congrArg Value.bool (rfl : false = _)) <| run_skip <| run_inBlock <| RG <| CN <| Op1.addN rfl rfl rfl (wrap_u8 (by omega) (by omega)) <| MC rfl <| NL ?_
             refine run_inLoop <| SR <| CN <| Op1.lss rfl rfl <| NL <| SQ <| Run.slots (sl := [(5, .int .u8 5)]) ⟨rfl, trivial⟩ <| run_cond_true (congrArg Value.bool (decide_eq_true (by decide))) <| run_skip <| SQ <| run_block <| SR <| MC rfl <| AC rfl ?_
             refine NL <| Run.forget [(0, .pointer (some ⟨_, _, none⟩)), (3, .int .u8 _), (5, .int .u8 _)] ⟨rfl, rfl, rfl, trivial⟩ fun f => SR <| MP rfl <| CN <| Op1.nilCheckP rfl <| CN <| Op1.fieldAddr fld69_1 rfl <| CN <| Op1.load1 (v := .int .i64 _) ty3 rfl rfl (hst.cellL (.head _) rfl) <| AI rfl <| NL <| SQ <| Run.cutW (L1 := [_]) [(0, .pointer (some ⟨_, _, none⟩)), (3, .int .u8 _), (4, .int .i64 _), (5, .int .u8 _)] hst ⟨rfl, rfl, rfl, rfl, trivial⟩ (fun (_u : Unit) => []) (fun (_u : Unit) => [CutR 69 bq ao l.length cp a6 [.int .i64 ((0 : Nat) : Int), .int .i64 (a1 : Int), .int .i64 (a1 : Int), .int .i64 (a2 : Int), .int .i64 (a2 : Int), .int .i64 (a3 : Int), .int .i64 (a3 : Int), .int .i64 (a4 : Int), .int .i64 (a4 : Int), .int .i64 (a5 : Int), .int .i64 0, .int .i64 0, .int .i64 0, .int .i64 0, .int .i64 0, .int .i64 0, .int .i64 0, .int .i64 0, .int .i64 0, .int .i64 0, .slice none 0 0]]) (fun (_u : Unit) => True) (fun _u f w hst hJ53 => ?_) (fun cut52 => ?_)
             · skip
               refine SQ <| RunD.start [] hst (bs := [0, 0, 0, 0, 8, 24, 56, 124, 1, 257, 1023, 2047]) (ds := [some 39, some 40, some 41, some 42, some 43, some 44, some 45, some 46, some 47, some 48, some 49, none]) ⟨by kernel_rfl, by kernel_rfl, by kernel_rfl⟩ (fun tab55 => ?_)
               refine RunD.op (det _) tab55 1 (fun f' L' w' hc => Op1.move (v := .pointer (some ⟨_, _, none⟩)) (hc.old (v := .pointer (some ⟨_, _, none⟩)) rfl rfl rfl) ⟨[], ⟨rfl, rfl⟩, hc.st⟩) <| RunD.op (det _) tab55 2 (fun f' L' w' hc => Op1.move (v := .int .u8 _) (hc.old (v := .int .u8 _) rfl rfl rfl) ⟨[], ⟨rfl, rfl⟩, hc.st⟩) <| RunD.op (det _) tab55 3 (fun f' L' w' hc => Op1.move (v := .int .i64 _) (hc.old (v := .int .i64 _) rfl rfl rfl) ⟨[], ⟨rfl, rfl⟩, hc.st⟩) <| RunD.op (det _) tab55 4 (fun f' L' w' hc => Op1.move (v := .pointer (some ⟨_, _, none⟩)) (hc.old (v := .pointer (some ⟨_, _, none⟩)) rfl rfl rfl) ⟨[], ⟨rfl, rfl⟩, hc.st⟩) <| RunD.op (det _) tab55 5 (fun f' L' w' hc => Op1.nilCheckP (hc.det (j := 3) rfl rfl rfl rfl) ⟨[], ⟨rfl, rfl⟩, hc.st⟩) <| RunD.op (det _) tab55 6 (fun f' L' w' hc => Op1.fieldAddr fld69_1 (hc.det (j := 4) rfl rfl rfl rfl) ⟨[], ⟨rfl, rfl⟩, hc.st⟩) <| RunD.op (det _) tab55 7 (fun f' L' w' hc => Op1.load1 (v := .int .i64 _) ty3 rfl (hc.det (j := 5) rfl rfl rfl rfl) (hc.st.cellL (List.mem_append_right _ (.head _)) rfl) ⟨[], ⟨rfl, rfl⟩, hc.st⟩) <| RunD.op (det _) tab55 8 (fun f' L' w' hc => Op1.buildStruct ty41 stf41 (.c (v := .int .i64 _) (hc.det (j := 2) rfl rfl rfl rfl) (h := (.c (v := .int .i64 _) (hc.det (j := 6) rfl rfl rfl rfl) (h := .nil)))) ⟨[], ⟨rfl, rfl⟩, hc.st⟩) ?_
               refine RunD.op (det _) tab55 9 (fun f' L' w' hc => Op1.nilCheckP (hc.det (j := 0) rfl rfl rfl rfl) ⟨[], ⟨rfl, rfl⟩, hc.st⟩) <| RunD.op (det _) tab55 10 (fun f' L' w' hc => Op1.fieldAddr fld69_2 (hc.det (j := 8) rfl rfl rfl rfl) ⟨[], ⟨rfl, rfl⟩, hc.st⟩) <| RunD.fin followsMixed tab55 hst rfl (fun f56 w R59 hs57 hd58 hr60 hst => ?_)
               obtain ⟨h39_, r0⟩ := hd58 0 39 rfl rfl
               obtain ⟨h40_, r1⟩ := hd58 1 40 rfl rfl
               obtain ⟨h41_, r2⟩ := hd58 2 41 rfl rfl
               obtain ⟨h42_, r3⟩ := hd58 3 42 rfl rfl
               obtain ⟨h43_, r4⟩ := hd58 4 43 rfl rfl
               obtain ⟨h44_, r5⟩ := hd58 5 44 rfl rfl
               obtain ⟨h45_, r6⟩ := hd58 6 45 rfl rfl
               obtain ⟨h46_, r7⟩ := hd58 7 46 rfl rfl
               obtain ⟨h47_, r8⟩ := hd58 8 47 rfl rfl
               obtain ⟨h48_, r9⟩ := hd58 9 48 rfl rfl
               simp only [show List.range 10 = [0, 1, 2, 3, 4, 5, 6, 7, 8, 9] from rfl, List.flatMap_cons, List.flatMap_nil, List.map_cons, List.map_nil, r0, r1, r2, r3, r4, r5, r6, r7, r8, r9, List.nil_append, List.append_nil, List.cons_append] at hst
               refine RunL.slots (sl := [(0, .pointer (some ⟨_, _, none⟩)), (3, .int .u8 _), (4, .int .i64 _), (5, .int .u8 _), (40, .int .u8 _), (46, .agg #[.int .i64 _, .int .i64 _]), (48, .pointer (some ⟨_, _, none⟩))]) ⟨(hs57 0 rfl).trans rfl, (hs57 3 rfl).trans rfl, (hs57 4 rfl).trans rfl, (hs57 5 rfl).trans rfl, h40_, h46_, h48_, trivial⟩ ?_
               clear hs57 hd58 hr60 tab55
               refine CN <| Op1.indexArr ty42 ty41 rfl rfl (by decide) (by decide) <| RunL.slots (sl := [(49, .pointer (some ⟨bq, 12, none⟩)), (46, .agg #[.int .i64 _, .int .i64 _])]) ⟨rfl, rfl, trivial⟩ <| CN (SO (v := .agg #[.int .i64 _, .int .i64 _]) hst ty41 rfl rfl (.here) fun w hst => ?_)
               refine NSR <| MC rfl <| CN <| Op1.eql rfl rfl <| MB rfl <| RunL.splitD (d := 52) rfl (fun g61 => ?_) (fun g61 => ?_)
               · skip
                 exfalso
                 exact absurd g61 (by decide)
               refine OM (t := 52) rfl (congrArg Value.bool (decide_eq_false g61)) rfl <| OM (t := 52) rfl (congrArg Value.bool (decide_eq_false g61)) rfl <| OM (t := 52) rfl (congrArg Value.bool (decide_eq_false g61)) rfl <| OM (t := 52) rfl (congrArg Value.bool (decide_eq_false g61)) rfl <| OM (t := 52) rfl (congrArg Value.bool (decide_eq_false g61)) rfl <| OM (t := 52) rfl (congrArg Value.bool (decide_eq_false g61)) rfl <| CN <| Op1.pickF (u := .bool _) (congrArg Value.bool (decide_eq_false g61)) rfl <| NL <| run_cond_false (congrArg Value.bool (rfl : false = _)) <| run_skip <| run_inBlock <| RG <| CN <| Op1.addN rfl rfl rfl (wrap_u8 (by omega) (by omega)) <| MC rfl <| NL ?_
               refine run_inLoop <| SR <| CN <| Op1.lss rfl rfl <| NL <| SQ <| Run.slots (sl := [(5, .int .u8 6)]) ⟨rfl, trivial⟩ <| run_cond_true (congrArg Value.bool (decide_eq_true (by decide))) <| run_skip <| SQ <| run_block <| SR <| MC rfl <| AC rfl ?_
               refine NL <| Run.forget [(0, .pointer (some ⟨_, _, none⟩)), (3, .int .u8 _), (5, .int .u8 _)] ⟨rfl, rfl, rfl, trivial⟩ fun f => SR <| MP rfl <| CN <| Op1.nilCheckP rfl <| CN <| Op1.fieldAddr fld69_1 rfl <| CN <| Op1.load1 (v := .int .i64 _) ty3 rfl rfl (hst.cellL (.head _) rfl) <| AI rfl <| NL <| SQ <| Run.cutW (L1 := [_]) [(0, .pointer (some ⟨_, _, none⟩)), (3, .int .u8 _), (4, .int .i64 _), (5, .int .u8 _)] hst ⟨rfl, rfl, rfl, rfl, trivial⟩ (fun (_u : Unit) => []) (fun (_u : Unit) => [CutR 69 bq ao l.length cp a7 [.int .i64 ((0 : Nat) : Int), .int .i64 (a1 : Int), .int .i64 (a1 : Int), .int .i64 (a2 : Int), .int .i64 (a2 : Int), .int .i64 (a3 : Int), .int .i64 (a3 : Int), .int .i64 (a4 : Int), .int .i64 (a4 : Int), .int .i64 (a5 : Int), .int .i64 (a5 : Int), .int .i64 (a6 : Int), .int .i64 0, .int .i64 0, .int .i64 0, .int .i64 0, .int .i64 0, .int .i64 0, .int .i64 0, .int .i64 0, .slice none 0 0]]) (fun (_u : Unit) => True) (fun _u f w hst hJ63 => ?_) (fun cut62 => ?_)
               · skip
                 refine SQ <| RunD.start [] hst (bs := [0, 0, 0, 0, 8, 24, 56, 124, 1, 257, 1023, 2047]) (ds := [some 39, some 40, some 41, some 42, some 43, some 44, some 45, some 46, some 47, some 48, some 49, none]) ⟨by kernel_rfl, by kernel_rfl, by kernel_rfl⟩ (fun tab65 => ?_)
                 refine RunD.op (det _) tab65 1 (fun f' L' w' hc => Op1.move (v := .pointer (some ⟨_, _, none⟩)) (hc.old (v := .pointer (some ⟨_, _, none⟩)) rfl rfl rfl) ⟨[], ⟨rfl, rfl⟩, hc.st⟩) <| RunD.op (det _) tab65 2 (fun f' L' w' hc => Op1.move (v := .int .u8 _) (hc.old (v := .int .u8 _) rfl rfl rfl) ⟨[], ⟨rfl, rfl⟩, hc.st⟩) <| RunD.op (det _) tab65 3 (fun f' L' w' hc => Op1.move (v := .int .i64 _) (hc.old (v := .int .i64 _) rfl rfl rfl) ⟨[], ⟨rfl, rfl⟩, hc.st⟩) <| RunD.op (det _) tab65 4 (fun f' L' w' hc => Op1.move (v := .pointer (some ⟨_, _, none⟩)) (hc.old (v := .pointer (some ⟨_, _, none⟩)) rfl rfl rfl) ⟨[], ⟨rfl, rfl⟩, hc.st⟩) <| RunD.op (det _) tab65 5 (fun f' L' w' hc => Op1.nilCheckP (hc.det (j := 3) rfl rfl rfl rfl) ⟨[], ⟨rfl, rfl⟩, hc.st⟩) <| RunD.op (det _) tab65 6 (fun f' L' w' hc => Op1.fieldAddr fld69_1 (hc.det (j := 4) rfl rfl rfl rfl) ⟨[], ⟨rfl, rfl⟩, hc.st⟩) <| RunD.op (det _) tab65 7 (fun f' L' w' hc => Op1.load1 (v := .int .i64 _) ty3 rfl (hc.det (j := 5) rfl rfl rfl rfl) (hc.st.cellL (List.mem_append_right _ (.head _)) rfl) ⟨[], ⟨rfl, rfl⟩, hc.st⟩) <| RunD.op (det _) tab65 8 (fun f' L' w' hc => Op1.buildStruct ty41 stf41 (.c (v := .int .i64 _) (hc.det (j := 2) rfl rfl rfl rfl) (h := (.c (v := .int .i64 _) (hc.det (j := 6) rfl rfl rfl rfl) (h := .nil)))) ⟨[], ⟨rfl, rfl⟩, hc.st⟩) ?_
                 refine RunD.op (det _) tab65 9 (fun f' L' w' hc => Op1.nilCheckP (hc.det (j := 0) rfl rfl rfl rfl) ⟨[], ⟨rfl, rfl⟩, hc.st⟩) <| RunD.op (det _) tab65 10 (fun f' L' w' hc => Op1.fieldAddr fld69_2 (hc.det (j := 8) rfl rfl rfl rfl) ⟨[], ⟨rfl, rfl⟩, hc.st⟩) <| RunD.fin followsMixed tab65 hst rfl (fun f66 w R69 hs67 hd68 hr70 hst => ?_)
                 obtain ⟨h39_, r0⟩ := hd68 0 39 rfl rfl
                 obtain ⟨h40_, r1⟩ := hd68 1 40 rfl rfl
                 obtain ⟨h41_, r2⟩ := hd68 2 41 rfl rfl
                 obtain ⟨h42_, r3⟩ := hd68 3 42 rfl rfl
                 obtain ⟨h43_, r4⟩ := hd68 4 43 rfl rfl
                 obtain ⟨h44_, r5⟩ := hd68 5 44 rfl rfl
                 obtain ⟨h45_, r6⟩ := hd68 6 45 rfl rfl
                 obtain ⟨h46_, r7⟩ := hd68 7 46 rfl rfl
                 obtain ⟨h47_, r8⟩ := hd68 8 47 rfl rfl
                 obtain ⟨h48_, r9⟩ := hd68 9 48 rfl rfl
                 simp only [show List.range 10 = [0, 1, 2, 3, 4, 5, 6, 7, 8, 9] from rfl, List.flatMap_cons, List.flatMap_nil, List.map_cons, List.map_nil, r0, r1, r2, r3, r4, r5, r6, r7, r8, r9, List.nil_append, List.append_nil, List.cons_append] at hst
                 refine RunL.slots (sl := [(0, .pointer (some ⟨_, _, none⟩)), (3, .int .u8 _), (4, .int .i64 _), (5, .int .u8 _), (40, .int .u8 _), (46, .agg #[.int .i64 _, .int .i64 _]), (48, .pointer (some ⟨_, _, none⟩))]) ⟨(hs67 0 rfl).trans rfl, (hs67 3 rfl).trans rfl, (hs67 4 rfl).trans rfl, (hs67 5 rfl).trans rfl, h40_, h46_, h48_, trivial⟩ ?_
                 clear hs67 hd68 hr70 tab65
                 refine CN <| Op1.indexArr ty42 ty41 rfl rfl (by decide) (by decide) <| RunL.slots (sl := [(49, .pointer (some ⟨bq, 14, none⟩)), (46, .agg #[.int .i64 _, .int .i64 _])]) ⟨rfl, rfl, trivial⟩ <| CN (SO (v := .agg #[.int .i64 _, .int .i64 _]) hst ty41 rfl rfl (.here) fun w hst => ?_)
                 refine NSR <| MC rfl <| CN <| Op1.eql rfl rfl <| MB rfl <| RunL.splitD (d := 52) rfl (fun g71 => ?_) (fun g71 => ?_)
                 · skip
                   exfalso
                   exact absurd g71 (by decide)
                 refine OM (t := 52) rfl (congrArg Value.bool (decide_eq_false g71)) rfl <| OM (t := 52) rfl (congrArg Value.bool (decide_eq_false g71)) rfl <| OM (t := 52) rfl (congrArg Value.bool (decide_eq_false g71)) rfl <| OM (t := 52) rfl (congrArg Value.bool (decide_eq_false g71)) rfl <| OM (t := 52) rfl (congrArg Value.bool (decide_eq_false g71)) rfl <| OM (t := 52) rfl (congrArg Value.bool (decide_eq_false g71)) rfl <| CN <| Op1.pickF (u := .bool _) (congrArg Value.bool (decide_eq_false g71)) rfl <| NL <| run_cond_false (congrArg Value.bool (rfl : false = _)) <| run_skip <| run_inBlock <| RG <| CN <| Op1.addN rfl rfl rfl (wrap_u8 (by omega) (by omega)) <| MC rfl <| NL ?_
                 refine run_inLoop <| SR <| CN <| Op1.lss rfl rfl <| NL <| SQ <| Run.slots (sl := [(5, .int .u8 7)]) ⟨rfl, trivial⟩ <| run_cond_true (congrArg Value.bool (decide_eq_true (by decide))) <| run_skip <| SQ <| run_block <| SR <| MC rfl <| AC rfl ?_
                 refine NL <| Run.forget [(0, .pointer (some ⟨_, _, none⟩)), (3, .int .u8 _), (5, .int .u8 _)] ⟨rfl, rfl, rfl, trivial⟩ fun f => SR <| MP rfl <| CN <| Op1.nilCheckP rfl <| CN <| Op1.fieldAddr fld69_1 rfl <| CN <| Op1.load1 (v := .int .i64 _) ty3 rfl rfl (hst.cellL (.head _) rfl) <| AI rfl <| NL <| SQ <| Run.cutW (L1 := [_]) [(0, .pointer (some ⟨_, _, none⟩)), (3, .int .u8 _), (4, .int .i64 _), (5, .int .u8 _)] hst ⟨rfl, rfl, rfl, rfl, trivial⟩ (fun (_u : Unit) => []) (fun (_u : Unit) => [CutR 69 bq ao l.length cp a8 [.int .i64 ((0 : Nat) : Int), .int .i64 (a1 : Int), .int .i64 (a1 : Int), .int .i64 (a2 : Int), .int .i64 (a2 : Int), .int .i64 (a3 : Int), .int .i64 (a3 : Int), .int .i64 (a4 : Int), .int .i64 (a4 : Int), .int .i64 (a5 : Int), .int .i64 (a5 : Int), .int .i64 (a6 : Int), .int .i64 (a6 : Int), .int .i64 (a7 : Int), .int .i64 0, .int .i64 0, .int .i64 0, .int .i64 0, .int .i64 0, .int .i64 0, .slice none 0 0]]) (fun (_u : Unit) => True) (fun _u f w hst hJ73 => ?_) (fun cut72 => ?_)
                 · skip
                   refine SQ <| RunD.start [] hst (bs := [0, 0, 0, 0, 8, 24, 56, 124, 1, 257, 1023, 2047]) (ds := [some 39, some 40, some 41, some 42, some 43, some 44, some 45, some 46, some 47, some 48, some 49, none]) ⟨by kernel_rfl, by kernel_rfl, by kernel_rfl⟩ (fun tab75 => ?_)
                   refine RunD.op (det _) tab75 1 (fun f' L' w' hc => Op1.move (v := .pointer (some ⟨_, _, none⟩)) (hc.old (v := .pointer (some ⟨_, _, none⟩)) rfl rfl rfl) ⟨[], ⟨rfl, rfl⟩, hc.st⟩) <| RunD.op (det _) tab75 2 (fun f' L' w' hc => Op1.move (v := .int .u8 _) (hc.old (v := .int .u8 _) rfl rfl rfl) ⟨[], ⟨rfl, rfl⟩, hc.st⟩) <| RunD.op (det _) tab75 3 (fun f' L' w' hc => Op1.move (v := .int .i64 _) (hc.old (v := .int .i64 _) rfl rfl rfl) ⟨[], ⟨rfl, rfl⟩, hc.st⟩) <| RunD.op (det _) tab75 4 (fun f' L' w' hc => Op1.move (v := .pointer (some ⟨_, _, none⟩)) (hc.old (v := .pointer (some ⟨_, _, none⟩)) rfl rfl rfl) ⟨[], ⟨rfl, rfl⟩, hc.st⟩) <| RunD.op (det _) tab75 5 (fun f' L' w' hc => Op1.nilCheckP (hc.det (j := 3) rfl rfl rfl rfl) ⟨[], ⟨rfl, rfl⟩, hc.st⟩) <| RunD.op (det _) tab75 6 (fun f' L' w' hc => Op1.fieldAddr fld69_1 (hc.det (j := 4) rfl rfl rfl rfl) ⟨[], ⟨rfl, rfl⟩, hc.st⟩) <| RunD.op (det _) tab75 7 (fun f' L' w' hc => Op1.load1 (v := .int .i64 _) ty3 rfl (hc.det (j := 5) rfl rfl rfl rfl) (hc.st.cellL (List.mem_append_right _ (.head _)) rfl) ⟨[], ⟨rfl, rfl⟩, hc.st⟩) <| RunD.op (det _) tab75 8 (fun f' L' w' hc => Op1.buildStruct ty41 stf41 (.c (v := .int .i64 _) (hc.det (j := 2) rfl rfl rfl rfl) (h := (.c (v := .int .i64 _) (hc.det (j := 6) rfl rfl rfl rfl) (h := .nil)))) ⟨[], ⟨rfl, rfl⟩, hc.st⟩) ?_
                   refine RunD.op (det _) tab75 9 (fun f' L' w' hc => Op1.nilCheckP (hc.det (j := 0) rfl rfl rfl rfl) ⟨[], ⟨rfl, rfl⟩, hc.st⟩) <| RunD.op (det _) tab75 10 (fun f' L' w' hc => Op1.fieldAddr fld69_2 (hc.det (j := 8) rfl rfl rfl rfl) ⟨[], ⟨rfl, rfl⟩, hc.st⟩) <| RunD.fin followsMixed tab75 hst rfl (fun f76 w R79 hs77 hd78 hr80 hst => ?_)
                   obtain ⟨h39_, r0⟩ := hd78 0 39 rfl rfl
                   obtain ⟨h40_, r1⟩ := hd78 1 40 rfl rfl
                   obtain ⟨h41_, r2⟩ := hd78 2 41 rfl rfl
                   obtain ⟨h42_, r3⟩ := hd78 3 42 rfl rfl
                   obtain ⟨h43_, r4⟩ := hd78 4 43 rfl rfl
                   obtain ⟨h44_, r5⟩ := hd78 5 44 rfl rfl
                   obtain ⟨h45_, r6⟩ := hd78 6 45 rfl rfl
                   obtain ⟨h46_, r7⟩ := hd78 7 46 rfl rfl
                   obtain ⟨h47_, r8⟩ := hd78 8 47 rfl rfl
                   obtain ⟨h48_, r9⟩ := hd78 9 48 rfl rfl
                   simp only [show List.range 10 = [0, 1, 2, 3, 4, 5, 6, 7, 8, 9] from rfl, List.flatMap_cons, List.flatMap_nil, List.map_cons, List.map_nil, r0, r1, r2, r3, r4, r5, r6, r7, r8, r9, List.nil_append, List.append_nil, List.cons_append] at hst
                   refine RunL.slots (sl := [(0, .pointer (some ⟨_, _, none⟩)), (3, .int .u8 _), (4, .int .i64 _), (5, .int .u8 _), (40, .int .u8 _), (46, .agg #[.int .i64 _, .int .i64 _]), (48, .pointer (some ⟨_, _, none⟩))]) ⟨(hs77 0 rfl).trans rfl, (hs77 3 rfl).trans rfl, (hs77 4 rfl).trans rfl, (hs77 5 rfl).trans rfl, h40_, h46_, h48_, trivial⟩ ?_
                   clear hs77 hd78 hr80 tab75
                   refine CN <| Op1.indexArr ty42 ty41 rfl rfl (by decide) (by decide) <| RunL.slots (sl := [(49, .pointer (some ⟨bq, 16, none⟩)), (46, .agg #[.int .i64 _, .int .i64 _])]) ⟨rfl, rfl, trivial⟩ <| CN (SO (v := .agg #[.int .i64 _, .int .i64 _]) hst ty41 rfl rfl (.here) fun w hst => ?_)
                   refine NSR <| MC rfl <| CN <| Op1.eql rfl rfl <| MB rfl <| RunL.splitD (d := 52) rfl (fun g81 => ?_) (fun g81 => ?_)
                   · skip
                     exfalso
                     exact absurd g81 (by decide)
                   refine OM (t := 52) rfl (congrArg Value.bool (decide_eq_false g81)) rfl <| OM (t := 52) rfl (congrArg Value.bool (decide_eq_false g81)) rfl <| OM (t := 52) rfl (congrArg Value.bool (decide_eq_false g81)) rfl <| OM (t := 52) rfl (congrArg Value.bool (decide_eq_false g81)) rfl <| OM (t := 52) rfl (congrArg Value.bool (decide_eq_false g81)) rfl <| OM (t := 52) rfl (congrArg Value.bool (decide_eq_false g81)) rfl <| CN <| Op1.pickF (u := .bool _) (congrArg Value.bool (decide_eq_false g81)) rfl <| NL <| run_cond_false (congrArg Value.bool (rfl : false = _)) <| run_skip <| run_inBlock <| RG <| CN <| Op1.addN rfl rfl rfl (wrap_u8 (by omega) (by omega)) <| MC rfl <| NL ?_
                   refine run_inLoop <| SR <| CN <| Op1.lss rfl rfl <| NL <| SQ <| run_cond_false (congrArg Value.bool (decide_eq_false (by decide))) <| run_exit (id := 0) rfl <| SR <| AB rfl <| NL <| run_ret1 Try.func39 rfl (TP (v := .bool _) rfl) ?_
                   replace hst := hst.pick (.cons (.here) .nil)
                   have ht2 : a2 ≠ a1 := by omega
                   subst ha1 ha2 ha3 ha4 ha5 ha6 ha7 ha8
                   exact .inl ⟨ht2, rfl, hst.noD⟩
                 · skip
                   refine run_block <| run_loop <| Run.indW [(0, .pointer (some ⟨_, _, none⟩)), (3, .int .u8 _), (4, .int .i64 _), (5, .int .u8 _)] ⟨rfl, rfl, rfl, rfl, trivial⟩ (fun (i : Nat) => []) (fun (i : Nat) => [CutR 69 bq ao l.length cp (a7 + i) [.int .i64 ((0 : Nat) : Int), .int .i64 (a1 : Int), .int .i64 (a1 : Int), .int .i64 (a2 : Int), .int .i64 (a2 : Int), .int .i64 (a3 : Int), .int .i64 (a3 : Int), .int .i64 (a4 : Int), .int .i64 (a4 : Int), .int .i64 (a5 : Int), .int .i64 (a5 : Int), .int .i64 (a6 : Int), .int .i64 (a6 : Int), .int .i64 (a7 : Int), .int .i64 0, .int .i64 0, .int .i64 0, .int .i64 0, .int .i64 0, .int .i64 0, .slice none 0 0]]) (fun (i : Nat) => i ≤ topR (l.map InstP.L) 7 a7) (fun (i : Nat) => topR (l.map InstP.L) 7 a7 - i) (0) hst (Nat.zero_le _) trivial ?_
                   intro i f w hst hJ ih82
                   have hti := topR_le (l := (l.map InstP.L)) (p := 7) (k := a7) (by omega)
                   refine SQ <| SQ <| RunD.start [] hst (bs := [0, 1, 3, 7, 15, 31, 63, 127, 15, 271, 783, 1807, 4095, 8191, 16383, 15, 65535, 131071]) (ds := [some 12, some 13, some 14, some 15, some 16, some 17, some 18, some 19, some 20, some 21, some 22, some 23, some 24, some 25, some 26, some 27, some 28, some 29]) ⟨by kernel_rfl, by kernel_rfl, by kernel_rfl⟩ (fun tab83 => ?_)
                   refine RunD.op (det _) tab83 1 (fun f' L' w' hc => Op1.move (v := .pointer (some ⟨_, _, none⟩)) (hc.old (v := .pointer (some ⟨_, _, none⟩)) rfl rfl rfl) ⟨[], ⟨rfl, rfl⟩, hc.st⟩) <| RunD.op (det _) tab83 2 (fun f' L' w' hc => Op1.call1 (v1 := .pointer (some ⟨_, _, none⟩)) ent40 rfl (hc.det (j := 0) rfl rfl rfl rfl) ((R5ly_next bq l ao cp (a7 + i) [.int .i64 ((0 : Nat) : Int), .int .i64 (a1 : Int), .int .i64 (a1 : Int), .int .i64 (a2 : Int), .int .i64 (a2 : Int), .int .i64 (a3 : Int), .int .i64 (a3 : Int), .int .i64 (a4 : Int), .int .i64 (a4 : Int), .int .i64 (a5 : Int), .int .i64 (a5 : Int), .int .i64 (a6 : Int), .int .i64 (a6 : Int), .int .i64 (a7 : Int), .int .i64 0, .int .i64 0, .int .i64 0, .int .i64 0, .int .i64 0, .int .i64 0, .slice none 0 0] _ (hc.st.hL _ (List.mem_append_right _ (.head _))) (hc.st.hD _ (.head _)) (by omega) hl hla hop).mono fun v w hp => ⟨[], ⟨hp.1, rfl⟩, hc.st.keepc hp.2⟩)) <| RunD.op (det _) tab83 3 (fun f' L' w' hc => Op1.eql (hc.det (j := 1) rfl rfl rfl rfl) rfl ⟨[], ⟨rfl, rfl⟩, hc.st⟩) <| RunD.op (det _) tab83 4 (fun f' L' w' hc => Op1.move (v := .bool _) (hc.det (j := 2) rfl rfl rfl rfl) ⟨[], ⟨rfl, rfl⟩, hc.st⟩) <| RunD.splitD (j := 3) rfl (fun g84 => ?_) (fun g84 => ?_)
                   · skip
                     have hin := nx_in g84
                     refine RunD.take (det _) tab83 5 rfl (fun f' L' w' hc => (hc.det (j := 3) rfl rfl rfl rfl).trans (congrArg Value.bool (decide_eq_true g84))) (fun f' L' w' hc => Op1.move (v := .pointer (some ⟨_, _, none⟩)) (hc.old (v := .pointer (some ⟨_, _, none⟩)) rfl rfl rfl) ⟨[], ⟨rfl, rfl⟩, hc.st⟩) <| RunD.take (det _) tab83 6 rfl (fun f' L' w' hc => (hc.det (j := 3) rfl rfl rfl rfl).trans (congrArg Value.bool (decide_eq_true g84))) (fun f' L' w' hc => Op1.nilCheckP (hc.det (j := 4) rfl rfl rfl rfl) ⟨[], ⟨rfl, rfl⟩, hc.st⟩) <| RunD.take (det _) tab83 7 rfl (fun f' L' w' hc => (hc.det (j := 3) rfl rfl rfl rfl).trans (congrArg Value.bool (decide_eq_true g84))) (fun f' L' w' hc => Op1.fieldAddr fld69_0 (hc.det (j := 5) rfl rfl rfl rfl) ⟨[], ⟨rfl, rfl⟩, hc.st⟩) <| RunD.take (det _) tab83 8 rfl (fun f' L' w' hc => (hc.det (j := 3) rfl rfl rfl rfl).trans (congrArg Value.bool (decide_eq_true g84))) (fun f' L' w' hc => Op1.load1 (v := .slice _ _ _) ty23 rfl (hc.det (j := 6) rfl rfl rfl rfl) (hc.st.cellL (List.mem_append_right _ (.head _)) rfl) ⟨[], ⟨rfl, rfl⟩, hc.st⟩) <| RunD.take (det _) tab83 9 rfl (fun f' L' w' hc => (hc.det (j := 3) rfl rfl rfl rfl).trans (congrArg Value.bool (decide_eq_true g84))) (fun f' L' w' hc => Op1.move (v := .pointer (some ⟨_, _, none⟩)) (hc.old (v := .pointer (some ⟨_, _, none⟩)) rfl rfl rfl) ⟨[], ⟨rfl, rfl⟩, hc.st⟩) <| RunD.take (det _) tab83 10 rfl (fun f' L' w' hc => (hc.det (j := 3) rfl rfl rfl rfl).trans (congrArg Value.bool (decide_eq_true g84))) (fun f' L' w' hc => Op1.nilCheckP (hc.det (j := 8) rfl rfl rfl rfl) ⟨[], ⟨rfl, rfl⟩, hc.st⟩) <| RunD.take (det _) tab83 11 rfl (fun f' L' w' hc => (hc.det (j := 3) rfl rfl rfl rfl).trans (congrArg Value.bool (decide_eq_true g84))) (fun f' L' w' hc => Op1.fieldAddr fld69_1 (hc.det (j := 9) rfl rfl rfl rfl) ⟨[], ⟨rfl, rfl⟩, hc.st⟩) <| RunD.take (det _) tab83 12 rfl (fun f' L' w' hc => (hc.det (j := 3) rfl rfl rfl rfl).trans (congrArg Value.bool (decide_eq_true g84))) (fun f' L' w' hc => Op1.load1 (v := .int .i64 _) ty3 rfl (hc.det (j := 10) rfl rfl rfl rfl) (hc.st.cellL (List.mem_append_right _ (.head _)) rfl) ⟨[], ⟨rfl, rfl⟩, hc.st⟩) <| RunD.take (det _) tab83 13 rfl (fun f' L' w' hc => (hc.det (j := 3) rfl rfl rfl rfl).trans (congrArg Value.bool (decide_eq_true g84))) (fun f' L' w' hc => Op1.indexRs ty23 ty39 (Res.rmod_insts (hc.st.hD _ (.head _))) (hc.det (j := 7) rfl rfl rfl rfl) (hc.det (j := 11) rfl rfl rfl rfl) (by omega) (by omega) ⟨[], ⟨rfl, rfl⟩, hc.st⟩) <| RunD.take (det _) tab83 14 rfl (fun f' L' w' hc => (hc.det (j := 3) rfl rfl rfl rfl).trans (congrArg Value.bool (decide_eq_true g84))) (fun f' L' w' hc => Op1.loadA (vs := [.int .u16 _, .int .u32 _, .int .u32 _, .slice _ _ _]) ty39 rfl (hc.det (j := 12) rfl rfl rfl rfl) rfl (Res.rs2_cells (m := 4) (Res.rmod_insts (hc.st.hD _ (.head _))) _ (flat_seg (g := instC) (d := zeroI) instC_len _ _ (by omega))) ⟨[], ⟨rfl, rfl⟩, hc.st⟩) <| RunD.take (det _) tab83 15 rfl (fun f' L' w' hc => (hc.det (j := 3) rfl rfl rfl rfl).trans (congrArg Value.bool (decide_eq_true g84))) (fun f' L' w' hc => Op1.call1 (v1 := .agg #[.int .u16 _, .int .u32 _, .int .u32 _, .slice _ _ _]) ent51 rfl (hc.det (j := 13) rfl rfl rfl rfl) ((R5ly_part (l.getD (a7 + i) zeroI) (hop _ (getD_memD (by omega))) _ (Res.rmod_argsI (hc.st.hD _ (.head _)) (i := a7 + i) (by omega)) (hla _ (getD_memD (by omega)))).mono fun v w hp => ⟨[], ⟨hp.1, rfl⟩, hc.st.keepc hp.2⟩)) <| RunD.take (det _) tab83 16 rfl (fun f' L' w' hc => (hc.det (j := 3) rfl rfl rfl rfl).trans (congrArg Value.bool (decide_eq_true g84))) (fun f' L' w' hc => Op1.move (v := .int .u8 _) (hc.old (v := .int .u8 _) rfl rfl rfl) ⟨[], ⟨rfl, rfl⟩, hc.st⟩) <| RunD.fin followsMixed tab83 hst rfl (fun f85 w R88 hs86 hd87 hr89 hst => ?_)
                     obtain ⟨h12_, r0⟩ := hd87 0 12 rfl rfl
                     obtain ⟨h13_, r1⟩ := hd87 1 13 rfl rfl
                     obtain ⟨h14_, r2⟩ := hd87 2 14 rfl rfl
                     obtain ⟨h15_, r3⟩ := hd87 3 15 rfl rfl
                     obtain ⟨h16_, r4⟩ := hd87 4 16 rfl rfl
                     obtain ⟨h17_, r5⟩ := hd87 5 17 rfl rfl
                     obtain ⟨h18_, r6⟩ := hd87 6 18 rfl rfl
                     obtain ⟨h19_, r7⟩ := hd87 7 19 rfl rfl
                     obtain ⟨h20_, r8⟩ := hd87 8 20 rfl rfl
                     obtain ⟨h21_, r9⟩ := hd87 9 21 rfl rfl
                     obtain ⟨h22_, r10⟩ := hd87 10 22 rfl rfl
                     obtain ⟨h23_, r11⟩ := hd87 11 23 rfl rfl
                     obtain ⟨h24_, r12⟩ := hd87 12 24 rfl rfl
                     obtain ⟨h25_, r13⟩ := hd87 13 25 rfl rfl
                     obtain ⟨h26_, r14⟩ := hd87 14 26 rfl rfl
                     obtain ⟨h27_, r15⟩ := hd87 15 27 rfl rfl
                     simp only [show List.range 16 = [0, 1, 2, 3, 4, 5, 6, 7, 8, 9, 10, 11, 12, 13, 14, 15] from rfl, List.flatMap_cons, List.flatMap_nil, List.map_cons, List.map_nil, r0, r1, r2, r3, r4, r5, r6, r7, r8, r9, r10, r11, r12, r13, r14, r15, List.nil_append, List.append_nil, List.cons_append] at hst
                     refine RunL.slots (sl := [(0, .pointer (some ⟨_, _, none⟩)), (3, .int .u8 _), (4, .int .i64 _), (5, .int .u8 _), (15, .bool _), (26, .int .u8 _), (27, .int .u8 _)]) ⟨(hs86 0 rfl).trans rfl, (hs86 3 rfl).trans rfl, (hs86 4 rfl).trans rfl, (hs86 5 rfl).trans rfl, h15_, h26_, h27_, trivial⟩ ?_
                     clear hs86 hd87 hr89 tab83
                     refine TK (t := 15) rfl (congrArg Value.bool (decide_eq_true g84)) <| Op1.eql rfl rfl <| CN <| Op1.pickT (u := .bool _) (congrArg Value.bool (decide_eq_true g84)) rfl <| NL <| run_cond_dec rfl (fun g90 => ?_) (fun g90 => ?_)
                     · skip
                       have hpm := ptA_map l (a7 + i)
                       have hlt := (top_nx (l := (l.map InstP.L)) (p := 7) (a := a7) (i := i) (by omega) (by omega)).1 ⟨g84, by rw [hpm]; exact g90⟩
                       refine run_skip <| run_block <| SR <| MP rfl <| CN <| Op1.nilCheckP rfl <| CN <| Op1.fieldAddr fld69_1 rfl <| CN <| Op1.load1 (v := .int .i64 _) ty3 rfl rfl (hst.cellL (.head _) rfl) <| CN <| Op1.addN rfl rfl rfl (wrap_i64 (by omega) (by omega)) <| CN <| Op1.nilCheckP rfl <| CN <| Op1.fieldAddr fld69_1 rfl <| CN (SO (v := .int .i64 _) hst ty3 rfl rfl (.here) fun w hst => ?_)
                       refine NL <| Run.forget [(0, .pointer (some ⟨_, _, none⟩)), (3, .int .u8 _), (4, .int .i64 _), (5, .int .u8 _)] ⟨rfl, rfl, rfl, rfl, trivial⟩ fun f => SR <| MC rfl <| CN <| Op1.eql rfl rfl <| NL <| run_cond_dec rfl (fun g91 => ?_) (fun g91 => ?_)
                       · skip
                         exfalso
                         exact absurd g91 (by decide)
                       refine run_skip <| run_inBlock <| run_inLoop ?_
                       exact ih82 (i + 1) _ w (by omega) hst (by omega) ⟨rfl, rfl, rfl, rfl, trivial⟩ trivial
                     have hpm := ptA_map l (a7 + i)
                     have hge := (not_congr (top_nx (l := (l.map InstP.L)) (p := 7) (a := a7) (i := i) (by omega) (by omega))).1 (fun h => g90 (by rw [← hpm]; exact h.2))
                     have htn : topN (l.map InstP.L) 7 a7 = topR (l.map InstP.L) 7 a7 := if_neg (by decide)
                     have he : a7 + i = a8 := by omega
                     rw [he] at hst
                     refine run_exit (id := 2) rfl ?_
                     exact cut72 (()) _ w (hst) (trivial) ⟨rfl, rfl, rfl, rfl, trivial⟩ trivial
                   refine RunD.omit tab83 5 rfl rfl (fun f' L' w' hc => (hc.det (j := 3) rfl rfl rfl rfl).trans (congrArg Value.bool (decide_eq_false g84))) <| RunD.omit tab83 6 rfl rfl (fun f' L' w' hc => (hc.det (j := 3) rfl rfl rfl rfl).trans (congrArg Value.bool (decide_eq_false g84))) <| RunD.omit tab83 7 rfl rfl (fun f' L' w' hc => (hc.det (j := 3) rfl rfl rfl rfl).trans (congrArg Value.bool (decide_eq_false g84))) <| RunD.omit tab83 8 rfl rfl (fun f' L' w' hc => (hc.det (j := 3) rfl rfl rfl rfl).trans (congrArg Value.bool (decide_eq_false g84))) <| RunD.omit tab83 9 rfl rfl (fun f' L' w' hc => (hc.det (j := 3) rfl rfl rfl rfl).trans (congrArg Value.bool (decide_eq_false g84))) <| RunD.omit tab83 10 rfl rfl (fun f' L' w' hc => (hc.det (j := 3) rfl rfl rfl rfl).trans (congrArg Value.bool (decide_eq_false g84))) <| RunD.omit tab83 11 rfl rfl (fun f' L' w' hc => (hc.det (j := 3) rfl rfl rfl rfl).trans (congrArg Value.bool (decide_eq_false g84))) <| RunD.omit tab83 12 rfl rfl (fun f' L' w' hc => (hc.det (j := 3) rfl rfl rfl rfl).trans (congrArg Value.bool (decide_eq_false g84))) <| RunD.omit tab83 13 rfl rfl (fun f' L' w' hc => (hc.det (j := 3) rfl rfl rfl rfl).trans (congrArg Value.bool (decide_eq_false g84))) <| RunD.omit tab83 14 rfl rfl (fun f' L' w' hc => (hc.det (j := 3) rfl rfl rfl rfl).trans (congrArg Value.bool (decide_eq_false g84))) <| RunD.omit tab83 15 rfl rfl (fun f' L' w' hc => (hc.det (j := 3) rfl rfl rfl rfl).trans (congrArg Value.bool (decide_eq_false g84))) <| RunD.omit tab83 16 rfl rfl (fun f' L' w' hc => (hc.det (j := 3) rfl rfl rfl rfl).trans (congrArg Value.bool (decide_eq_false g84))) <| RunD.fin followsMixed tab83 hst rfl (fun f92 w R95 hs93 hd94 hr96 hst => ?_)
                   obtain ⟨h12_, r0⟩ := hd94 0 12 rfl rfl
                   obtain ⟨h13_, r1⟩ := hd94 1 13 rfl rfl
                   obtain ⟨h14_, r2⟩ := hd94 2 14 rfl rfl
                   obtain ⟨h15_, r3⟩ := hd94 3 15 rfl rfl
                   obtain ⟨h16_, r4⟩ := hd94 4 16 rfl rfl
                   obtain ⟨h17_, r5⟩ := hd94 5 17 rfl rfl
                   obtain ⟨h18_, r6⟩ := hd94 6 18 rfl rfl
                   obtain ⟨h19_, r7⟩ := hd94 7 19 rfl rfl
                   obtain ⟨h20_, r8⟩ := hd94 8 20 rfl rfl
                   obtain ⟨h21_, r9⟩ := hd94 9 21 rfl rfl
                   obtain ⟨h22_, r10⟩ := hd94 10 22 rfl rfl
                   obtain ⟨h23_, r11⟩ := hd94 11 23 rfl rfl
                   obtain ⟨h24_, r12⟩ := hd94 12 24 rfl rfl
                   obtain ⟨h25_, r13⟩ := hd94 13 25 rfl rfl
                   obtain ⟨h26_, r14⟩ := hd94 14 26 rfl rfl
                   obtain ⟨h27_, r15⟩ := hd94 15 27 rfl rfl
                   simp only [show List.range 16 = [0, 1, 2, 3, 4, 5, 6, 7, 8, 9, 10, 11, 12, 13, 14, 15] from rfl, List.flatMap_cons, List.flatMap_nil, List.map_cons, List.map_nil, r0, r1, r2, r3, r4, r5, r6, r7, r8, r9, r10, r11, r12, r13, r14, r15, List.nil_append, List.append_nil, List.cons_append] at hst
                   refine RunL.slots (sl := [(0, .pointer (some ⟨_, _, none⟩)), (3, .int .u8 _), (4, .int .i64 _), (5, .int .u8 _), (15, .bool _), (26, _), (27, _)]) ⟨(hs93 0 rfl).trans rfl, (hs93 3 rfl).trans rfl, (hs93 4 rfl).trans rfl, (hs93 5 rfl).trans rfl, h15_, h26_, h27_, trivial⟩ ?_
                   clear hs93 hd94 hr96 tab83
                   refine OM (t := 15) rfl (congrArg Value.bool (decide_eq_false g84)) rfl <| CN <| Op1.pickF (u := .bool _) (congrArg Value.bool (decide_eq_false g84)) rfl <| NL ?_
                   have hpm := ptA_map l (a7 + i)
                   have hge := (not_congr (top_nx (l := (l.map InstP.L)) (p := 7) (a := a7) (i := i) (by omega) (by omega))).1 (fun h => g84 h.1)
                   have htn : topN (l.map InstP.L) 7 a7 = topR (l.map InstP.L) 7 a7 := if_neg (by decide)
                   have he : a7 + i = a8 := by omega
                   rw [he] at hst
                   refine run_cond_false (congrArg Value.bool (rfl : false = _)) <| run_exit (id := 2) rfl ?_
                   exact cut72 (()) _ w (hst) (trivial) ⟨rfl, rfl, rfl, rfl, trivial⟩ trivial
               · skip
                 refine run_block <| run_loop <| Run.indW [(0, .pointer (some ⟨_, _, none⟩)), (3, .int .u8 _), (4, .int .i64 _), (5, .int .u8 _)] ⟨rfl, rfl, rfl, rfl, trivial⟩ (fun (i : Nat) => []) (fun (i : Nat) => [CutR 69 bq ao l.length cp (a6 + i) [.int .i64 ((0 : Nat) : Int), .int .i64 (a1 : Int), .int .i64 (a1 : Int), .int .i64 (a2 : Int), .int .i64 (a2 : Int), .int .i64 (a3 : Int), .int .i64 (a3 : Int), .int .i64 (a4 : Int), .int .i64 (a4 : Int), .int .i64 (a5 : Int), .int .i64 (a5 : Int), .int .i64 (a6 : Int), .int .i64 0, .int .i64 0, .int .i64 0, .int .i64 0, .int .i64 0, .int .i64 0, .int .i64 0, .int .i64 0, .slice none 0 0]]) (fun (i : Nat) => i ≤ topR (l.map InstP.L) 6 a6) (fun (i : Nat) => topR (l.map InstP.L) 6 a6 - i) (0) hst (Nat.zero_le _) trivial ?_
                 intro i f w hst hJ ih97
                 have hti := topR_le (l := (l.map InstP.L)) (p := 6) (k := a6) (by omega)
                 refine SQ <| SQ <| RunD.start [] hst (bs := [0, 1, 3, 7, 15, 31, 63, 127, 15, 271, 783, 1807, 4095, 8191, 16383, 15, 65535, 131071]) (ds := [some 12, some 13, some 14, some 15, some 16, some 17, some 18, some 19, some 20, some 21, some 22, some 23, some 24, some 25, some 26, some 27, some 28, some 29]) ⟨by kernel_rfl, by kernel_rfl, by kernel_rfl⟩ (fun tab98 => ?_)
                 refine RunD.op (det _) tab98 1 (fun f' L' w' hc => Op1.move (v := .pointer (some ⟨_, _, none⟩)) (hc.old (v := .pointer (some ⟨_, _, none⟩)) rfl rfl rfl) ⟨[], ⟨rfl, rfl⟩, hc.st⟩) <| RunD.op (det _) tab98 2 (fun f' L' w' hc => Op1.call1 (v1 := .pointer (some ⟨_, _, none⟩)) ent40 rfl (hc.det (j := 0) rfl rfl rfl rfl) ((R5ly_next bq l ao cp (a6 + i) [.int .i64 ((0 : Nat) : Int), .int .i64 (a1 : Int), .int .i64 (a1 : Int), .int .i64 (a2 : Int), .int .i64 (a2 : Int), .int .i64 (a3 : Int), .int .i64 (a3 : Int), .int .i64 (a4 : Int), .int .i64 (a4 : Int), .int .i64 (a5 : Int), .int .i64 (a5 : Int), .int .i64 (a6 : Int), .int .i64 0, .int .i64 0, .int .i64 0, .int .i64 0, .int .i64 0, .int .i64 0, .int .i64 0, .int .i64 0, .slice none 0 0] _ (hc.st.hL _ (List.mem_append_right _ (.head _))) (hc.st.hD _ (.head _)) (by omega) hl hla hop).mono fun v w hp => ⟨[], ⟨hp.1, rfl⟩, hc.st.keepc hp.2⟩)) <| RunD.op (det _) tab98 3 (fun f' L' w' hc => Op1.eql (hc.det (j := 1) rfl rfl rfl rfl) rfl ⟨[], ⟨rfl, rfl⟩, hc.st⟩) <| RunD.op (det _) tab98 4 (fun f' L' w' hc => Op1.move (v := .bool _) (hc.det (j := 2) rfl rfl rfl rfl) ⟨[], ⟨rfl, rfl⟩, hc.st⟩) <| RunD.splitD (j := 3) rfl (fun g99 => ?_) (fun g99 => ?_)
                 · skip
                   have hin := nx_in g99
                   refine RunD.take (det _) tab98 5 rfl (fun f' L' w' hc => (hc.det (j := 3) rfl rfl rfl rfl).trans (congrArg Value.bool (decide_eq_true g99))) (fun f' L' w' hc => Op1.move (v := .pointer (some ⟨_, _, none⟩)) (hc.old (v := .pointer (some ⟨_, _, none⟩)) rfl rfl rfl) ⟨[], ⟨rfl, rfl⟩, hc.st⟩) <| RunD.take (det _) tab98 6 rfl (fun f' L' w' hc => (hc.det (j := 3) rfl rfl rfl rfl).trans (congrArg Value.bool (decide_eq_true g99))) (fun f' L' w' hc => Op1.nilCheckP (hc.det (j := 4) rfl rfl rfl rfl) ⟨[], ⟨rfl, rfl⟩, hc.st⟩) <| RunD.take (det _) tab98 7 rfl (fun f' L' w' hc => (hc.det (j := 3) rfl rfl rfl rfl).trans (congrArg Value.bool (decide_eq_true g99))) (fun f' L' w' hc => Op1.fieldAddr fld69_0 (hc.det (j := 5) rfl rfl rfl rfl) ⟨[], ⟨rfl, rfl⟩, hc.st⟩) <| RunD.take (det _) tab98 8 rfl (fun f' L' w' hc => (hc.det (j := 3) rfl rfl rfl rfl).trans (congrArg Value.bool (decide_eq_true g99))) (fun f' L' w' hc => Op1.load1 (v := .slice _ _ _) ty23 rfl (hc.det (j := 6) rfl rfl rfl rfl) (hc.st.cellL (List.mem_append_right _ (.head _)) rfl) ⟨[], ⟨rfl, rfl⟩, hc.st⟩) <| RunD.take (det _) tab98 9 rfl (fun f' L' w' hc => (hc.det (j := 3) rfl rfl rfl rfl).trans (congrArg Value.bool (decide_eq_true g99))) (fun f' L' w' hc => Op1.move (v := .pointer (some ⟨_, _, none⟩)) (hc.old (v := .pointer (some ⟨_, _, none⟩)) rfl rfl rfl) ⟨[], ⟨rfl, rfl⟩, hc.st⟩) <| RunD.take (det _) tab98 10 rfl (fun f' L' w' hc => (hc.det (j := 3) rfl rfl rfl rfl).trans (congrArg Value.bool (decide_eq_true g99))) (fun f' L' w' hc => Op1.nilCheckP (hc.det (j := 8) rfl rfl rfl rfl) ⟨[], ⟨rfl, rfl⟩, hc.st⟩) <| RunD.take (det _) tab98 11 rfl (fun f' L' w' hc => (hc.det (j := 3) rfl rfl rfl rfl).trans (congrArg Value.bool (decide_eq_true g99))) (fun f' L' w' hc => Op1.fieldAddr fld69_1 (hc.det (j := 9) rfl rfl rfl rfl) ⟨[], ⟨rfl, rfl⟩, hc.st⟩) <| RunD.take (det _) tab98 12 rfl (fun f' L' w' hc => (hc.det (j := 3) rfl rfl rfl rfl).trans (congrArg Value.bool (decide_eq_true g99))) (fun f' L' w' hc => Op1.load1 (v := .int .i64 _) ty3 rfl (hc.det (j := 10) rfl rfl rfl rfl) (hc.st.cellL (List.mem_append_right _ (.head _)) rfl) ⟨[], ⟨rfl, rfl⟩, hc.st⟩) <| RunD.take (det _) tab98 13 rfl (fun f' L' w' hc => (hc.det (j := 3) rfl rfl rfl rfl).trans (congrArg Value.bool (decide_eq_true g99))) (fun f' L' w' hc => Op1.indexRs ty23 ty39 (Res.rmod_insts (hc.st.hD _ (.head _))) (hc.det (j := 7) rfl rfl rfl rfl) (hc.det (j := 11) rfl rfl rfl rfl) (by omega) (by omega) ⟨[], ⟨rfl, rfl⟩, hc.st⟩) <| RunD.take (det _) tab98 14 rfl (fun f' L' w' hc => (hc.det (j := 3) rfl rfl rfl rfl).trans (congrArg Value.bool (decide_eq_true g99))) (fun f' L' w' hc => Op1.loadA (vs := [.int .u16 _, .int .u32 _, .int .u32 _, .slice _ _ _]) ty39 rfl (hc.det (j := 12) rfl rfl rfl rfl) rfl (Res.rs2_cells (m := 4) (Res.rmod_insts (hc.st.hD _ (.head _))) _ (flat_seg (g := instC) (d := zeroI) instC_len _ _ (by omega))) ⟨[], ⟨rfl, rfl⟩, hc.st⟩) <| RunD.take (det _) tab98 15 rfl (fun f' L' w' hc => (hc.det (j := 3) rfl rfl rfl rfl).trans (congrArg Value.bool (decide_eq_true g99))) (fun f' L' w' hc => Op1.call1 (v1 := .agg #[.int .u16 _, .int .u32 _, .int .u32 _, .slice _ _ _]) ent51 rfl (hc.det (j := 13) rfl rfl rfl rfl) ((R5ly_part (l.getD (a6 + i) zeroI) (hop _ (getD_memD (by omega))) _ (Res.rmod_argsI (hc.st.hD _ (.head _)) (i := a6 + i) (by omega)) (hla _ (getD_memD (by omega)))).mono fun v w hp => ⟨[], ⟨hp.1, rfl⟩, hc.st.keepc hp.2⟩)) <| RunD.take (det _) tab98 16 rfl (fun f' L' w' hc => (hc.det (j := 3) rfl rfl rfl rfl).trans (congrArg Value.bool (decide_eq_true g99))) (fun f' L' w' hc => Op1.move (v := .int .u8 _) (hc.old (v := .int .u8 _) rfl rfl rfl) ⟨[], ⟨rfl, rfl⟩, hc.st⟩) <| RunD.fin followsMixed tab98 hst rfl (fun f100 w R103 hs101 hd102 hr104 hst => ?_)
                   obtain ⟨h12_, r0⟩ := hd102 0 12 rfl rfl
                   obtain ⟨h13_, r1⟩ := hd102 1 13 rfl rfl
                   obtain ⟨h14_, r2⟩ := hd102 2 14 rfl rfl
                   obtain ⟨h15_, r3⟩ := hd102 3 15 rfl rfl
                   obtain ⟨h16_, r4⟩ := hd102 4 16 rfl rfl
                   obtain ⟨h17_, r5⟩ := hd102 5 17 rfl rfl
                   obtain ⟨h18_, r6⟩ := hd102 6 18 rfl rfl
                   obtain ⟨h19_, r7⟩ := hd102 7 19 rfl rfl
                   obtain ⟨h20_, r8⟩ := hd102 8 20 rfl rfl
                   obtain ⟨h21_, r9⟩ := hd102 9 21 rfl rfl
                   obtain ⟨h22_, r10⟩ := hd102 10 22 rfl rfl
                   obtain ⟨h23_, r11⟩ := hd102 11 23 rfl rfl
                   obtain ⟨h24_, r12⟩ := hd102 12 24 rfl rfl
                   obtain ⟨h25_, r13⟩ := hd102 13 25 rfl rfl
                   obtain ⟨h26_, r14⟩ := hd102 14 26 rfl rfl
                   obtain ⟨h27_, r15⟩ := hd102 15 27 rfl rfl
                   simp only [show List.range 16 = [0, 1, 2, 3, 4, 5, 6, 7, 8, 9, 10, 11, 12, 13, 14, 15] from rfl, List.flatMap_cons, List.flatMap_nil, List.map_cons, List.map_nil, r0, r1, r2, r3, r4, r5, r6, r7, r8, r9, r10, r11, r12, r13, r14, r15, List.nil_append, List.append_nil, List.cons_append] at hst
                   refine RunL.slots (sl := [(0, .pointer (some ⟨_, _, none⟩)), (3, .int .u8 _), (4, .int .i64 _), (5, .int .u8 _), (15, .bool _), (26, .int .u8 _), (27, .int .u8 _)]) ⟨(hs101 0 rfl).trans rfl, (hs101 3 rfl).trans rfl, (hs101 4 rfl).trans rfl, (hs101 5 rfl).trans rfl, h15_, h26_, h27_, trivial⟩ ?_
                   clear hs101 hd102 hr104 tab98
                   refine TK (t := 15) rfl (congrArg Value.bool (decide_eq_true g99)) <| Op1.eql rfl rfl <| CN <| Op1.pickT (u := .bool _) (congrArg Value.bool (decide_eq_true g99)) rfl <| NL <| run_cond_dec rfl (fun g105 => ?_) (fun g105 => ?_)
                   · skip
                     have hpm := ptA_map l (a6 + i)
                     have hlt := (top_nx (l := (l.map InstP.L)) (p := 6) (a := a6) (i := i) (by omega) (by omega)).1 ⟨g99, by rw [hpm]; exact g105⟩
                     refine run_skip <| run_block <| SR <| MP rfl <| CN <| Op1.nilCheckP rfl <| CN <| Op1.fieldAddr fld69_1 rfl <| CN <| Op1.load1 (v := .int .i64 _) ty3 rfl rfl (hst.cellL (.head _) rfl) <| CN <| Op1.addN rfl rfl rfl (wrap_i64 (by omega) (by omega)) <| CN <| Op1.nilCheckP rfl <| CN <| Op1.fieldAddr fld69_1 rfl <| CN (SO (v := .int .i64 _) hst ty3 rfl rfl (.here) fun w hst => ?_)
                     refine NL <| Run.forget [(0, .pointer (some ⟨_, _, none⟩)), (3, .int .u8 _), (4, .int .i64 _), (5, .int .u8 _)] ⟨rfl, rfl, rfl, rfl, trivial⟩ fun f => SR <| MC rfl <| CN <| Op1.eql rfl rfl <| NL <| run_cond_dec rfl (fun g106 => ?_) (fun g106 => ?_)
                     · skip
                       exfalso
                       exact absurd g106 (by decide)
                     refine run_skip <| run_inBlock <| run_inLoop ?_
                     exact ih97 (i + 1) _ w (by omega) hst (by omega) ⟨rfl, rfl, rfl, rfl, trivial⟩ trivial
                   have hpm := ptA_map l (a6 + i)
                   have hge := (not_congr (top_nx (l := (l.map InstP.L)) (p := 6) (a := a6) (i := i) (by omega) (by omega))).1 (fun h => g105 (by rw [← hpm]; exact h.2))
                   have htn : topN (l.map InstP.L) 6 a6 = topR (l.map InstP.L) 6 a6 := if_neg (by decide)
                   have he : a6 + i = a7 := by omega
                   rw [he] at hst
                   refine run_exit (id := 2) rfl ?_
                   exact cut62 (()) _ w (hst) (trivial) ⟨rfl, rfl, rfl, rfl, trivial⟩ trivial
                 refine RunD.omit tab98 5 rfl rfl (fun f' L' w' hc => (hc.det (j := 3) rfl rfl rfl rfl).trans (congrArg Value.bool (decide_eq_false g99))) <| RunD.omit tab98 6 rfl rfl (fun f' L' w' hc => (hc.det (j := 3) rfl rfl rfl rfl).trans (congrArg Value.bool (decide_eq_false g99))) <| RunD.omit tab98 7 rfl rfl (fun f' L' w' hc => (hc.det (j := 3) rfl rfl rfl rfl).trans (congrArg Value.bool (decide_eq_false g99))) <| RunD.omit tab98 8 rfl rfl (fun f' L' w' hc => (hc.det (j := 3) rfl rfl rfl rfl).trans (congrArg Value.bool (decide_eq_false g99))) <| RunD.omit tab98 9 rfl rfl (fun f' L' w' hc => (hc.det (j := 3) rfl rfl rfl rfl).trans (congrArg Value.bool (decide_eq_false g99))) <| RunD.omit tab98 10 rfl rfl (fun f' L' w' hc => (hc.det (j := 3) rfl rfl rfl rfl).trans (congrArg Value.bool (decide_eq_false g99))) <| RunD.omit tab98 11 rfl rfl (fun f' L' w' hc => (hc.det (j := 3) rfl rfl rfl rfl).trans (congrArg Value.bool (decide_eq_false g99))) <| RunD.omit tab98 12 rfl rfl (fun f' L' w' hc => (hc.det (j := 3) rfl rfl rfl rfl).trans (congrArg Value.bool (decide_eq_false g99))) <| RunD.omit tab98 13 rfl rfl (fun f' L' w' hc => (hc.det (j := 3) rfl rfl rfl rfl).trans (congrArg Value.bool (decide_eq_false g99))) <| RunD.omit tab98 14 rfl rfl (fun f' L' w' hc => (hc.det (j := 3) rfl rfl rfl rfl).trans (congrArg Value.bool (decide_eq_false g99))) <| RunD.omit tab98 15 rfl rfl (fun f' L' w' hc => (hc.det (j := 3) rfl rfl rfl rfl).trans (congrArg Value.bool (decide_eq_false g99))) <| RunD.omit tab98 16 rfl rfl (fun f' L' w' hc => (hc.det (j := 3) rfl rfl rfl rfl).trans (congrArg Value.bool (decide_eq_false g99))) <| RunD.fin followsMixed tab98 hst rfl (fun f107 w R110 hs108 hd109 hr111 hst => ?_)
                 obtain ⟨h12_, r0⟩ := hd109 0 12 rfl rfl
                 obtain ⟨h13_, r1⟩ := hd109 1 13 rfl rfl
                 obtain ⟨h14_, r2⟩ := hd109 2 14 rfl rfl
                 obtain ⟨h15_, r3⟩ := hd109 3 15 rfl rfl
                 obtain ⟨h16_, r4⟩ := hd109 4 16 rfl rfl
                 obtain ⟨h17_, r5⟩ := hd109 5 17 rfl rfl
                 obtain ⟨h18_, r6⟩ := hd109 6 18 rfl rfl
                 obtain ⟨h19_, r7⟩ := hd109 7 19 rfl rfl
                 obtain ⟨h20_, r8⟩ := hd109 8 20 rfl rfl
                 obtain ⟨h21_, r9⟩ := hd109 9 21 rfl rfl
                 obtain ⟨h22_, r10⟩ := hd109 10 22 rfl rfl
                 obtain ⟨h23_, r11⟩ := hd109 11 23 rfl rfl
                 obtain ⟨h24_, r12⟩ := hd109 12 24 rfl rfl
                 obtain ⟨h25_, r13⟩ := hd109 13 25 rfl rfl
                 obtain ⟨h26_, r14⟩ := hd109 14 26 rfl rfl
                 obtain ⟨h27_, r15⟩ := hd109 15 27 rfl rfl
                 simp only [show List.range 16 = [0, 1, 2, 3, 4, 5, 6, 7, 8, 9, 10, 11, 12, 13, 14, 15] from rfl, List.flatMap_cons, List.flatMap_nil, List.map_cons, List.map_nil, r0, r1, r2, r3, r4, r5, r6, r7, r8, r9, r10, r11, r12, r13, r14, r15, List.nil_append, List.append_nil, List.cons_append] at hst
                 refine RunL.slots (sl := [(0, .pointer (some ⟨_, _, none⟩)), (3, .int .u8 _), (4, .int .i64 _), (5, .int .u8 _), (15, .bool _), (26, _), (27, _)]) ⟨(hs108 0 rfl).trans rfl, (hs108 3 rfl).trans rfl, (hs108 4 rfl).trans rfl, (hs108 5 rfl).trans rfl, h15_, h26_, h27_, trivial⟩ ?_
                 clear hs108 hd109 hr111 tab98
                 refine OM (t := 15) rfl (congrArg Value.bool (decide_eq_false g99)) rfl <| CN <| Op1.pickF (u := .bool _) (congrArg Value.bool (decide_eq_false g99)) rfl <| NL ?_
                 have hpm := ptA_map l (a6 + i)
                 have hge := (not_congr (top_nx (l := (l.map InstP.L)) (p := 6) (a := a6) (i := i) (by omega) (by omega))).1 (fun h => g99 h.1)
                 have htn : topN (l.map InstP.L) 6 a6 = topR (l.map InstP.L) 6 a6 := if_neg (by decide)
                 have he : a6 + i = a7 := by omega
                 rw [he] at hst
                 refine run_cond_false (congrArg Value.bool (rfl : false = _)) <| run_exit (id := 2) rfl ?_
                 exact cut62 (()) _ w (hst) (trivial) ⟨rfl, rfl, rfl, rfl, trivial⟩ trivial
             · skip
               refine run_block <| run_loop <| Run.indW [(0, .pointer (some ⟨_, _, none⟩)), (3, .int .u8 _), (4, .int .i64 _), (5, .int .u8 _)] ⟨rfl, rfl, rfl, rfl, trivial⟩ (fun (i : Nat) => []) (fun (i : Nat) => [CutR 69 bq ao l.length cp (a5 + i) [.int .i64 ((0 : Nat) : Int), .int .i64 (a1 : Int), .int .i64 (a1 : Int), .int .i64 (a2 : Int), .int .i64 (a2 : Int), .int .i64 (a3 : Int), .int .i64 (a3 : Int), .int .i64 (a4 : Int), .int .i64 (a4 : Int), .int .i64 (a5 : Int), .int .i64 0, .int .i64 0, .int .i64 0, .int .i64 0, .int .i64 0, .int .i64 0, .int .i64 0, .int .i64 0, .int .i64 0, .int .i64 0, .slice none 0 0]]) (fun (i : Nat) => i ≤ topR (l.map InstP.L) 5 a5) (fun (i : Nat) => topR (l.map InstP.L) 5 a5 - i) (0) hst (Nat.zero_le _) trivial ?_
               intro i f w hst hJ ih112
               have hti := topR_le (l := (l.map InstP.L)) (p := 5) (k := a5) (by omega)
               refine SQ <| SQ <| RunD.start [] hst (bs := [0, 1, 3, 7, 15, 31, 63, 127, 15, 271, 783, 1807, 4095, 8191, 16383, 15, 65535, 131071]) (ds := [some 12, some 13, some 14, some 15, some 16, some 17, some 18, some 19, some 20, some 21, some 22, some 23, some 24, some 25, some 26, some 27, some 28, some 29]) ⟨by kernel_rfl, by kernel_rfl, by kernel_rfl⟩ (fun tab113 => ?_)
               refine RunD.op (det _) tab113 1 (fun f' L' w' hc => Op1.move (v := .pointer (some ⟨_, _, none⟩)) (hc.old (v := .pointer (some ⟨_, _, none⟩)) rfl rfl rfl) ⟨[], ⟨rfl, rfl⟩, hc.st⟩) <| RunD.op (det _) tab113 2 (fun f' L' w' hc => Op1.call1 (v1 := .pointer (some ⟨_, _, none⟩)) ent40 rfl (hc.det (j := 0) rfl rfl rfl rfl) ((R5ly_next bq l ao cp (a5 + i) [.int .i64 ((0 : Nat) : Int), .int .i64 (a1 : Int), .int .i64 (a1 : Int), .int .i64 (a2 : Int), .int .i64 (a2 : Int), .int .i64 (a3 : Int), .int .i64 (a3 : Int), .int .i64 (a4 : Int), .int .i64 (a4 : Int), .int .i64 (a5 : Int), .int .i64 0, .int .i64 0, .int .i64 0, .int .i64 0, .int .i64 0, .int .i64 0, .int .i64 0, .int .i64 0, .int .i64 0, .int .i64 0, .slice none 0 0] _ (hc.st.hL _ (List.mem_append_right _ (.head _))) (hc.st.hD _ (.head _)) (by omega) hl hla hop).mono fun v w hp => ⟨[], ⟨hp.1, rfl⟩, hc.st.keepc hp.2⟩)) <| RunD.op (det _) tab113 3 (fun f' L' w' hc => Op1.eql (hc.det (j := 1) rfl rfl rfl rfl) rfl ⟨[], ⟨rfl, rfl⟩, hc.st⟩) <| RunD.op (det _) tab113 4 (fun f' L' w' hc => Op1.move (v := .bool _) (hc.det (j := 2) rfl rfl rfl rfl) ⟨[], ⟨rfl, rfl⟩, hc.st⟩) <| RunD.splitD (j := 3) rfl (fun g114 => ?_) (fun g114 => ?_)
               · skip
                 have hin := nx_in g114
                 refine RunD.take (det _) tab113 5 rfl (fun f' L' w' hc => (hc.det (j := 3) rfl rfl rfl rfl).trans (congrArg Value.bool (decide_eq_true g114))) (fun f' L' w' hc => Op1.move (v := .pointer (some ⟨_, _, none⟩)) (hc.old (v := .pointer (some ⟨_, _, none⟩)) rfl rfl rfl) ⟨[], ⟨rfl, rfl⟩, hc.st⟩) <| RunD.take (det _) tab113 6 rfl (fun f' L' w' hc => (hc.det (j := 3) rfl rfl rfl rfl).trans (congrArg Value.bool (decide_eq_true g114))) (fun f' L' w' hc => Op1.nilCheckP (hc.det (j := 4) rfl rfl rfl rfl) ⟨[], ⟨rfl, rfl⟩, hc.st⟩) <| RunD.take (det _) tab113 7 rfl (fun f' L' w' hc => (hc.det (j := 3) rfl rfl rfl rfl).trans (congrArg Value.bool (decide_eq_true g114))) (fun f' L' w' hc => Op1.fieldAddr fld69_0 (hc.det (j := 5) rfl rfl rfl rfl) ⟨[], ⟨rfl, rfl⟩, hc.st⟩) <| RunD.take (det _) tab113 8 rfl (fun f' L' w' hc => (hc.det (j := 3) rfl rfl rfl rfl).trans (congrArg Value.bool (decide_eq_true g114))) (fun f' L' w' hc => Op1.load1 (v := .slice _ _ _) ty23 rfl (hc.det (j := 6) rfl rfl rfl rfl) (hc.st.cellL (List.mem_append_right _ (.head _)) rfl) ⟨[], ⟨rfl, rfl⟩, hc.st⟩) <| RunD.take (det _) tab113 9 rfl (fun f' L' w' hc => (hc.det (j := 3) rfl rfl rfl rfl).trans (congrArg Value.bool (decide_eq_true g114))) (fun f' L' w' hc => Op1.move (v := .pointer (some ⟨_, _, none⟩)) (hc.old (v := .pointer (some ⟨_, _, none⟩)) rfl rfl rfl) ⟨[], ⟨rfl, rfl⟩, hc.st⟩) <| RunD.take (det _) tab113 10 rfl (fun f' L' w' hc => (hc.det (j := 3) rfl rfl rfl rfl).trans (congrArg Value.bool (decide_eq_true g114))) (fun f' L' w' hc => Op1.nilCheckP (hc.det (j := 8) rfl rfl rfl rfl) ⟨[], ⟨rfl, rfl⟩, hc.st⟩) <| RunD.take (det _) tab113 11 rfl (fun f' L' w' hc => (hc.det (j := 3) rfl rfl rfl rfl).trans (congrArg Value.bool (decide_eq_true g114))) (fun f' L' w' hc => Op1.fieldAddr fld69_1 (hc.det (j := 9) rfl rfl rfl rfl) ⟨[], ⟨rfl, rfl⟩, hc.st⟩) <| RunD.take (det _) tab113 12 rfl (fun f' L' w' hc => (hc.det (j := 3) rfl rfl rfl rfl).trans (congrArg Value.bool (decide_eq_true g114))) (fun f' L' w' hc => Op1.load1 (v := .int .i64 _) ty3 rfl (hc.det (j := 10) rfl rfl rfl rfl) (hc.st.cellL (List.mem_append_right _ (.head _)) rfl) ⟨[], ⟨rfl, rfl⟩, hc.st⟩) <| RunD.take (det _) tab113 13 rfl (fun f' L' w' hc => (hc.det (j := 3) rfl rfl rfl rfl).trans (congrArg Value.bool (decide_eq_true g114))) (fun f' L' w' hc => Op1.indexRs ty23 ty39 (Res.rmod_insts (hc.st.hD _ (.head _))) (hc.det (j := 7) rfl rfl rfl rfl) (hc.det (j := 11) rfl rfl rfl rfl) (by omega) (by omega) ⟨[], ⟨rfl, rfl⟩, hc.st⟩) <| RunD.take (det _) tab113 14 rfl (fun f' L' w' hc => (hc.det (j := 3) rfl rfl rfl rfl).trans (congrArg Value.bool (decide_eq_true g114))) (fun f' L' w' hc => Op1.loadA (vs := [.int .u16 _, .int .u32 _, .int .u32 _, .slice _ _ _]) ty39 rfl (hc.det (j := 12) rfl rfl rfl rfl) rfl (Res.rs2_cells (m := 4) (Res.rmod_insts (hc.st.hD _ (.head _))) _ (flat_seg (g := instC) (d := zeroI) instC_len _ _ (by omega))) ⟨[], ⟨rfl, rfl⟩, hc.st⟩) <| RunD.take (det _) tab113 15 rfl (fun f' L' w' hc => (hc.det (j := 3) rfl rfl rfl rfl).trans (congrArg Value.bool (decide_eq_true g114))) (fun f' L' w' hc => Op1.call1 (v1 := .agg #[.int .u16 _, .int .u32 _, .int .u32 _, .slice _ _ _]) ent51 rfl (hc.det (j := 13) rfl rfl rfl rfl) ((R5ly_part (l.getD (a5 + i) zeroI) (hop _ (getD_memD (by omega))) _ (Res.rmod_argsI (hc.st.hD _ (.head _)) (i := a5 + i) (by omega)) (hla _ (getD_memD (by omega)))).mono fun v w hp => ⟨[], ⟨hp.1, rfl⟩, hc.st.keepc hp.2⟩)) <| RunD.take (det _) tab113 16 rfl (fun f' L' w' hc => (hc.det (j := 3) rfl rfl rfl rfl).trans (congrArg Value.bool (decide_eq_true g114))) (fun f' L' w' hc => Op1.move (v := .int .u8 _) (hc.old (v := .int .u8 _) rfl rfl rfl) ⟨[], ⟨rfl, rfl⟩, hc.st⟩) <| RunD.fin followsMixed tab113 hst rfl (fun f115 w R118 hs116 hd117 hr119 hst => ?_)
                 obtain ⟨h12_, r0⟩ := hd117 0 12 rfl rfl
                 obtain ⟨h13_, r1⟩ := hd117 1 13 rfl rfl
                 obtain ⟨h14_, r2⟩ := hd117 2 14 rfl rfl
                 obtain ⟨h15_, r3⟩ := hd117 3 15 rfl rfl
                 obtain ⟨h16_, r4⟩ := hd117 4 16 rfl rfl
                 obtain ⟨h17_, r5⟩ := hd117 5 17 rfl rfl
                 obtain ⟨h18_, r6⟩ := hd117 6 18 rfl rfl
                 obtain ⟨h19_, r7⟩ := hd117 7 19 rfl rfl
                 obtain ⟨h20_, r8⟩ := hd117 8 20 rfl rfl
                 obtain ⟨h21_, r9⟩ := hd117 9 21 rfl rfl
                 obtain ⟨h22_, r10⟩ := hd117 10 22 rfl rfl
                 obtain ⟨h23_, r11⟩ := hd117 11 23 rfl rfl
                 obtain ⟨h24_, r12⟩ := hd117 12 24 rfl rfl
                 obtain ⟨h25_, r13⟩ := hd117 13 25 rfl rfl
                 obtain ⟨h26_, r14⟩ := hd117 14 26 rfl rfl
                 obtain ⟨h27_, r15⟩ := hd117 15 27 rfl rfl
                 simp only [show List.range 16 = [0, 1, 2, 3, 4, 5, 6, 7, 8, 9, 10, 11, 12, 13, 14, 15] from rfl, List.flatMap_cons, List.flatMap_nil, List.map_cons, List.map_nil, r0, r1, r2, r3, r4, r5, r6, r7, r8, r9, r10, r11, r12, r13, r14, r15, List.nil_append, List.append_nil, List.cons_append] at hst
                 refine RunL.slots (sl := [(0, .pointer (some ⟨_, _, none⟩)), (3, .int .u8 _), (4, .int .i64 _), (5, .int .u8 _), (15, .bool _), (26, .int .u8 _), (27, .int .u8 _)]) ⟨(hs116 0 rfl).trans rfl, (hs116 3 rfl).trans rfl, (hs116 4 rfl).trans rfl, (hs116 5 rfl).trans rfl, h15_, h26_, h27_, trivial⟩ ?_
                 clear hs116 hd117 hr119 tab113
                 refine TK (t := 15) rfl (congrArg Value.bool (decide_eq_true g114)) <| Op1.eql rfl rfl <| CN <| Op1.pickT (u := .bool _) (congrArg Value.bool (decide_eq_true g114)) rfl <| NL <| run_cond_dec rfl (fun g120 => ?_) (fun g120 => ?_)
                 · skip
                   have hpm := ptA_map l (a5 + i)
                   have hlt := (top_nx (l := (l.map InstP.L)) (p := 5) (a := a5) (i := i) (by omega) (by omega)).1 ⟨g114, by rw [hpm]; exact g120⟩
                   refine run_skip <| run_block <| SR <| MP rfl <| CN <| Op1.nilCheckP rfl <| CN <| Op1.fieldAddr fld69_1 rfl <| CN <| Op1.load1 (v := .int .i64 _) ty3 rfl rfl (hst.cellL (.head _) rfl) <| CN <| Op1.addN rfl rfl rfl (wrap_i64 (by omega) (by omega)) <| CN <| Op1.nilCheckP rfl <| CN <| Op1.fieldAddr fld69_1 rfl <| CN (SO (v := .int .i64 _) hst ty3 rfl rfl (.here) fun w hst => ?_)
                   refine NL <| Run.forget [(0, .pointer (some ⟨_, _, none⟩)), (3, .int .u8 _), (4, .int .i64 _), (5, .int .u8 _)] ⟨rfl, rfl, rfl, rfl, trivial⟩ fun f => SR <| MC rfl <| CN <| Op1.eql rfl rfl <| NL <| run_cond_dec rfl (fun g121 => ?_) (fun g121 => ?_)
                   · skip
                     exfalso
                     exact absurd g121 (by decide)
                   refine run_skip <| run_inBlock <| run_inLoop ?_
                   exact ih112 (i + 1) _ w (by omega) hst (by omega) ⟨rfl, rfl, rfl, rfl, trivial⟩ trivial
                 have hpm := ptA_map l (a5 + i)
                 have hge := (not_congr (top_nx (l := (l.map InstP.L)) (p := 5) (a := a5) (i := i) (by omega) (by omega))).1 (fun h => g120 (by rw [← hpm]; exact h.2))
                 have htn : topN (l.map InstP.L) 5 a5 = topR (l.map InstP.L) 5 a5 := if_neg (by decide)
                 have he : a5 + i = a6 := by omega
                 rw [he] at hst
                 refine run_exit (id := 2) rfl ?_
                 exact cut52 (()) _ w (hst) (trivial) ⟨rfl, rfl, rfl, rfl, trivial⟩ trivial
               refine RunD.omit tab113 5 rfl rfl (fun f' L' w' hc => (hc.det (j := 3) rfl rfl rfl rfl).trans (congrArg Value.bool (decide_eq_false g114))) <| RunD.omit tab113 6 rfl rfl (fun f' L' w' hc => (hc.det (j := 3) rfl rfl rfl rfl).trans (congrArg Value.bool (decide_eq_false g114))) <| RunD.omit tab113 7 rfl rfl (fun f' L' w' hc => (hc.det (j := 3) rfl rfl rfl rfl).trans (congrArg Value.bool (decide_eq_false g114))) <| RunD.omit tab113 8 rfl rfl (fun f' L' w' hc => (hc.det (j := 3) rfl rfl rfl rfl).trans (congrArg Value.bool (decide_eq_false g114))) <| RunD.omit tab113 9 rfl rfl (fun f' L' w' hc => (hc.det (j := 3) rfl rfl rfl rfl).trans (congrArg Value.bool (decide_eq_false g114))) <| RunD.omit tab113 10 rfl rfl (fun f' L' w' hc => (hc.det (j := 3) rfl rfl rfl rfl).trans (congrArg Value.bool (decide_eq_false g114))) <| RunD.omit tab113 11 rfl rfl (fun f' L' w' hc => (hc.det (j := 3) rfl rfl rfl rfl).trans (congrArg Value.bool (decide_eq_false g114))) <| RunD.omit tab113 12 rfl rfl (fun f' L' w' hc => (hc.det (j := 3) rfl rfl rfl rfl).trans (congrArg Value.bool (decide_eq_false g114))) <| RunD.omit tab113 13 rfl rfl (fun f' L' w' hc => (hc.det (j := 3) rfl rfl rfl rfl).trans (congrArg Value.bool (decide_eq_false g114))) <| RunD.omit tab113 14 rfl rfl (fun f' L' w' hc => (hc.det (j := 3) rfl rfl rfl rfl).trans (congrArg Value.bool (decide_eq_false g114))) <| RunD.omit tab113 15 rfl rfl (fun f' L' w' hc => (hc.det (j := 3) rfl rfl rfl rfl).trans (congrArg Value.bool (decide_eq_false g114))) <| RunD.omit tab113 16 rfl rfl (fun f' L' w' hc => (hc.det (j := 3) rfl rfl rfl rfl).trans (congrArg Value.bool (decide_eq_false g114))) <| RunD.fin followsMixed tab113 hst rfl (fun f122 w R125 hs123 hd124 hr126 hst => ?_)
               obtain ⟨h12_, r0⟩ := hd124 0 12 rfl rfl
               obtain ⟨h13_, r1⟩ := hd124 1 13 rfl rfl
               obtain ⟨h14_, r2⟩ := hd124 2 14 rfl rfl
               obtain ⟨h15_, r3⟩ := hd124 3 15 rfl rfl
               obtain ⟨h16_, r4⟩ := hd124 4 16 rfl rfl
               obtain ⟨h17_, r5⟩ := hd124 5 17 rfl rfl
               obtain ⟨h18_, r6⟩ := hd124 6 18 rfl rfl
               obtain ⟨h19_, r7⟩ := hd124 7 19 rfl rfl
               obtain ⟨h20_, r8⟩ := hd124 8 20 rfl rfl
               obtain ⟨h21_, r9⟩ := hd124 9 21 rfl rfl
               obtain ⟨h22_, r10⟩ := hd124 10 22 rfl rfl
               obtain ⟨h23_, r11⟩ := hd124 11 23 rfl rfl
               obtain ⟨h24_, r12⟩ := hd124 12 24 rfl rfl
               obtain ⟨h25_, r13⟩ := hd124 13 25 rfl rfl
               obtain ⟨h26_, r14⟩ := hd124 14 26 rfl rfl
               obtain ⟨h27_, r15⟩ := hd124 15 27 rfl rfl
               simp only [show List.range 16 = [0, 1, 2, 3, 4, 5, 6, 7, 8, 9, 10, 11, 12, 13, 14, 15] from rfl, List.flatMap_cons, List.flatMap_nil, List.map_cons, List.map_nil, r0, r1, r2, r3, r4, r5, r6, r7, r8, r9, r10, r11, r12, r13, r14, r15, List.nil_append, List.append_nil, List.cons_append] at hst
               refine RunL.slots (sl := [(0, .pointer (some ⟨_, _, none⟩)), (3, .int .u8 _), (4, .int .i64 _), (5, .int .u8 _), (15, .bool _), (26, _), (27, _)]) ⟨(hs123 0 rfl).trans rfl, (hs123 3 rfl).trans rfl, (hs123 4 rfl).trans rfl, (hs123 5 rfl).trans rfl, h15_, h26_, h27_, trivial⟩ ?_
               clear hs123 hd124 hr126 tab113
               refine OM (t := 15) rfl (congrArg Value.bool (decide_eq_false g114)) rfl <| CN <| Op1.pickF (u := .bool _) (congrArg Value.bool (decide_eq_false g114)) rfl <| NL ?_
               have hpm := ptA_map l (a5 + i)
               have hge := (not_congr (top_nx (l := (l.map InstP.L)) (p := 5) (a := a5) (i := i) (by omega) (by omega))).1 (fun h => g114 h.1)
               have htn : topN (l.map InstP.L) 5 a5 = topR (l.map InstP.L) 5 a5 := if_neg (by decide)
               have he : a5 + i = a6 := by omega
               rw [he] at hst
               refine run_cond_false (congrArg Value.bool (rfl : false = _)) <| run_exit (id := 2) rfl ?_
               exact cut52 (()) _ w (hst) (trivial) ⟨rfl, rfl, rfl, rfl, trivial⟩ trivial
           · skip
             refine run_block <| run_loop <| Run.indW [(0, .pointer (some ⟨_, _, none⟩)), (3, .int .u8 _), (4, .int .i64 _), (5, .int .u8 _)] ⟨rfl, rfl, rfl, rfl, trivial⟩ (fun (i : Nat) => []) (fun (i : Nat) => [CutR 69 bq ao l.length cp (a4 + i) [.int .i64 ((0 : Nat) : Int), .int .i64 (a1 : Int), .int .i64 (a1 : Int), .int .i64 (a2 : Int), .int .i64 (a2 : Int), .int .i64 (a3 : Int), .int .i64 (a3 : Int), .int .i64 (a4 : Int), .int .i64 0, .int .i64 0, .int .i64 0, .int .i64 0, .int .i64 0, .int .i64 0, .int .i64 0, .int .i64 0, .int .i64 0, .int .i64 0, .int .i64 0, .int .i64 0, .slice none 0 0]]) (fun (i : Nat) => i ≤ topR (l.map InstP.L) 4 a4) (fun (i : Nat) => topR (l.map InstP.L) 4 a4 - i) (0) hst (Nat.zero_le _) trivial ?_
             intro i f w hst hJ ih127
             have hti := topR_le (l := (l.map InstP.L)) (p := 4) (k := a4) (by omega)
             refine SQ <| SQ <| RunD.start [] hst (bs := [0, 1, 3, 7, 15, 31, 63, 127, 15, 271, 783, 1807, 4095, 8191, 16383, 15, 65535, 131071]) (ds := [some 12, some 13, some 14, some 15, some 16, some 17, some 18, some 19, some 20, some 21, some 22, some 23, some 24, some 25, some 26, some 27, some 28, some 29]) ⟨by kernel_rfl, by kernel_rfl, by kernel_rfl⟩ (fun tab128 => ?_)
             refine RunD.op (det _) tab128 1 (fun f' L' w' hc => Op1.move (v := .pointer (some ⟨_, _, none⟩)) (hc.old (v := .pointer (some ⟨_, _, none⟩)) rfl rfl rfl) ⟨[], ⟨rfl, rfl⟩, hc.st⟩) <| RunD.op (det _) tab128 2 (fun f' L' w' hc => Op1.call1 (v1 := .pointer (some ⟨_, _, none⟩)) ent40 rfl (hc.det (j := 0) rfl rfl rfl rfl) ((R5ly_next bq l ao cp (a4 + i) [.int .i64 ((0 : Nat) : Int), .int .i64 (a1 : Int), .int .i64 (a1 : Int), .int .i64 (a2 : Int), .int .i64 (a2 : Int), .int .i64 (a3 : Int), .int .i64 (a3 : Int), .int .i64 (a4 : Int), .int .i64 0, .int .i64 0, .int .i64 0, .int .i64 0, .int .i64 0, .int .i64 0, .int .i64 0, .int .i64 0, .int .i64 0, .int .i64 0, .int .i64 0, .int .i64 0, .slice none 0 0] _ (hc.st.hL _ (List.mem_append_right _ (.head _))) (hc.st.hD _ (.head _)) (by omega) hl hla hop).mono fun v w hp => ⟨[], ⟨hp.1, rfl⟩, hc.st.keepc hp.2⟩)) <| RunD.op (det _) tab128 3 (fun f' L' w' hc => Op1.eql (hc.det (j := 1) rfl rfl rfl rfl) rfl ⟨[], ⟨rfl, rfl⟩, hc.st⟩) <| RunD.op (det _) tab128 4 (fun f' L' w' hc => Op1.move (v := .bool _) (hc.det (j := 2) rfl rfl rfl rfl) ⟨[], ⟨rfl, rfl⟩, hc.st⟩) <| RunD.splitD (j := 3) rfl (fun g129 => ?_) (fun g129 => ?_)
             · skip
               have hin := nx_in g129
               refine RunD.take (det _) tab128 5 rfl (fun f' L' w' hc => (hc.det (j := 3) rfl rfl rfl rfl).trans (congrArg Value.bool (decide_eq_true g129))) (fun f' L' w' hc => Op1.move (v := .pointer (some ⟨_, _, none⟩)) (hc.old (v := .pointer (some ⟨_, _, none⟩)) rfl rfl rfl) ⟨[], ⟨rfl, rfl⟩, hc.st⟩) <| RunD.take (det _) tab128 6 rfl (fun f' L' w' hc => (hc.det (j := 3) rfl rfl rfl rfl).trans (congrArg Value.bool (decide_eq_true g129))) (fun f' L' w' hc => Op1.nilCheckP (hc.det (j := 4) rfl rfl rfl rfl) ⟨[], ⟨rfl, rfl⟩, hc.st⟩) <| RunD.take (det _) tab128 7 rfl (fun f' L' w' hc => (hc.det (j := 3) rfl rfl rfl rfl).trans (congrArg Value.bool (decide_eq_true g129))) (fun f' L' w' hc => Op1.fieldAddr fld69_0 (hc.det (j := 5) rfl rfl rfl rfl) ⟨[], ⟨rfl, rfl⟩, hc.st⟩) <| RunD.take (det _) tab128 8 rfl (fun f' L' w' hc => (hc.det (j := 3) rfl rfl rfl rfl).trans (congrArg Value.bool (decide_eq_true g129))) (fun f' L' w' hc => Op1.load1 (v := .slice _ _ _) ty23 rfl (hc.det (j := 6) rfl rfl rfl rfl) (hc.st.cellL (List.mem_append_right _ (.head _)) rfl) ⟨[], ⟨rfl, rfl⟩, hc.st⟩) <| RunD.take (det _) tab128 9 rfl (fun f' L' w' hc => (hc.det (j := 3) rfl rfl rfl rfl).trans (congrArg Value.bool (decide_eq_true g129))) (fun f' L' w' hc => Op1.move (v := .pointer (some ⟨_, _, none⟩)) (hc.old (v := .pointer (some ⟨_, _, none⟩)) rfl rfl rfl) ⟨[], ⟨rfl, rfl⟩, hc.st⟩) <| RunD.take (det _) tab128 10 rfl (fun f' L' w' hc => (hc.det (j := 3) rfl rfl rfl rfl).trans (congrArg Value.bool (decide_eq_true g129))) (fun f' L' w' hc => Op1.nilCheckP (hc.det (j := 8) rfl rfl rfl rfl) ⟨[], ⟨rfl, rfl⟩, hc.st⟩) <| RunD.take (det _) tab128 11 rfl (fun f' L' w' hc => (hc.det (j := 3) rfl rfl rfl rfl).trans (congrArg Value.bool (decide_eq_true g129))) (fun f' L' w' hc => Op1.fieldAddr fld69_1 (hc.det (j := 9) rfl rfl rfl rfl) ⟨[], ⟨rfl, rfl⟩, hc.st⟩) <| RunD.take (det _) tab128 12 rfl (fun f' L' w' hc => (hc.det (j := 3) rfl rfl rfl rfl).trans (congrArg Value.bool (decide_eq_true g129))) (fun f' L' w' hc => Op1.load1 (v := .int .i64 _) ty3 rfl (hc.det (j := 10) rfl rfl rfl rfl) (hc.st.cellL (List.mem_append_right _ (.head _)) rfl) ⟨[], ⟨rfl, rfl⟩, hc.st⟩) <| RunD.take (det _) tab128 13 rfl (fun f' L' w' hc => (hc.det (j := 3) rfl rfl rfl rfl).trans (congrArg Value.bool (decide_eq_true g129))) (fun f' L' w' hc => Op1.indexRs ty23 ty39 (Res.rmod_insts (hc.st.hD _ (.head _))) (hc.det (j := 7) rfl rfl rfl rfl) (hc.det (j := 11) rfl rfl rfl rfl) (by omega) (by omega) ⟨[], ⟨rfl, rfl⟩, hc.st⟩) <| RunD.take (det _) tab128 14 rfl (fun f' L' w' hc => (hc.det (j := 3) rfl rfl rfl rfl).trans (congrArg Value.bool (decide_eq_true g129))) (fun f' L' w' hc => Op1.loadA (vs := [.int .u16 _, .int .u32 _, .int .u32 _, .slice _ _ _]) ty39 rfl (hc.det (j := 12) rfl rfl rfl rfl) rfl (Res.rs2_cells (m := 4) (Res.rmod_insts (hc.st.hD _ (.head _))) _ (flat_seg (g := instC) (d := zeroI) instC_len _ _ (by omega))) ⟨[], ⟨rfl, rfl⟩, hc.st⟩) <| RunD.take (det _) tab128 15 rfl (fun f' L' w' hc => (hc.det (j := 3) rfl rfl rfl rfl).trans (congrArg Value.bool (decide_eq_true g129))) (fun f' L' w' hc => Op1.call1 (v1 := .agg #[.int .u16 _, .int .u32 _, .int .u32 _, .slice _ _ _]) ent51 rfl (hc.det (j := 13) rfl rfl rfl rfl) ((R5ly_part (l.getD (a4 + i) zeroI) (hop _ (getD_memD (by omega))) _ (Res.rmod_argsI (hc.st.hD _ (.head _)) (i := a4 + i) (by omega)) (hla _ (getD_memD (by omega)))).mono fun v w hp => ⟨[], ⟨hp.1, rfl⟩, hc.st.keepc hp.2⟩)) <| RunD.take (det _) tab128 16 rfl (fun f' L' w' hc => (hc.det (j := 3) rfl rfl rfl rfl).trans (congrArg Value.bool (decide_eq_true g129))) (fun f' L' w' hc => Op1.move (v := .int .u8 _) (hc.old (v := .int .u8 _) rfl rfl rfl) ⟨[], ⟨rfl, rfl⟩, hc.st⟩) <| RunD.fin followsMixed tab128 hst rfl (fun f130 w R133 hs131 hd132 hr134 hst => ?_)
               obtain ⟨h12_, r0⟩ := hd132 0 12 rfl rfl
               obtain ⟨h13_, r1⟩ := hd132 1 13 rfl rfl
               obtain ⟨h14_, r2⟩ := hd132 2 14 rfl rfl
               obtain ⟨h15_, r3⟩ := hd132 3 15 rfl rfl
               obtain ⟨h16_, r4⟩ := hd132 4 16 rfl rfl
               obtain ⟨h17_, r5⟩ := hd132 5 17 rfl rfl
               obtain ⟨h18_, r6⟩ := hd132 6 18 rfl rfl
               obtain ⟨h19_, r7⟩ := hd132 7 19 rfl rfl
               obtain ⟨h20_, r8⟩ := hd132 8 20 rfl rfl
               obtain ⟨h21_, r9⟩ := hd132 9 21 rfl rfl
               obtain ⟨h22_, r10⟩ := hd132 10 22 rfl rfl
               obtain ⟨h23_, r11⟩ := hd132 11 23 rfl rfl
               obtain ⟨h24_, r12⟩ := hd132 12 24 rfl rfl
               obtain ⟨h25_, r13⟩ := hd132 13 25 rfl rfl
               obtain ⟨h26_, r14⟩ := hd132 14 26 rfl rfl
               obtain ⟨h27_, r15⟩ := hd132 15 27 rfl rfl
               simp only [show List.range 16 = [0, 1, 2, 3, 4, 5, 6, 7, 8, 9, 10, 11, 12, 13, 14, 15] from rfl, List.flatMap_cons, List.flatMap_nil, List.map_cons, List.map_nil, r0, r1, r2, r3, r4, r5, r6, r7, r8, r9, r10, r11, r12, r13, r14, r15, List.nil_append, List.append_nil, List.cons_append] at hst
               refine RunL.slots (sl := [(0, .pointer (some ⟨_, _, none⟩)), (3, .int .u8 _), (4, .int .i64 _), (5, .int .u8 _), (15, .bool _), (26, .int .u8 _), (27, .int .u8 _)]) ⟨(hs131 0 rfl).trans rfl, (hs131 3 rfl).trans rfl, (hs131 4 rfl).trans rfl, (hs131 5 rfl).trans rfl, h15_, h26_, h27_, trivial⟩ ?_
               clear hs131 hd132 hr134 tab128
               refine TK (t := 15) rfl (congrArg Value.bool (decide_eq_true g129)) <| Op1.eql rfl rfl <| CN <| Op1.pickT (u := .bool _) (congrArg Value.bool (decide_eq_true g129)) rfl <| NL <| run_cond_dec rfl (fun g135 => ?_) (fun g135 => ?_)
               · skip
                 have hpm := ptA_map l (a4 + i)
                 have hlt := (top_nx (l := (l.map InstP.L)) (p := 4) (a := a4) (i := i) (by omega) (by omega)).1 ⟨g129, by rw [hpm]; exact g135⟩
                 refine run_skip <| run_block <| SR <| MP rfl <| CN <| Op1.nilCheckP rfl <| CN <| Op1.fieldAddr fld69_1 rfl <| CN <| Op1.load1 (v := .int .i64 _) ty3 rfl rfl (hst.cellL (.head _) rfl) <| CN <| Op1.addN rfl rfl rfl (wrap_i64 (by omega) (by omega)) <| CN <| Op1.nilCheckP rfl <| CN <| Op1.fieldAddr fld69_1 rfl <| CN (SO (v := .int .i64 _) hst ty3 rfl rfl (.here) fun w hst => ?_)
                 refine NL <| Run.forget [(0, .pointer (some ⟨_, _, none⟩)), (3, .int .u8 _), (4, .int .i64 _), (5, .int .u8 _)] ⟨rfl, rfl, rfl, rfl, trivial⟩ fun f => SR <| MC rfl <| CN <| Op1.eql rfl rfl <| NL <| run_cond_dec rfl (fun g136 => ?_) (fun g136 => ?_)
                 · skip
                   exfalso
                   exact absurd g136 (by decide)
                 refine run_skip <| run_inBlock <| run_inLoop ?_
                 exact ih127 (i + 1) _ w (by omega) hst (by omega) ⟨rfl, rfl, rfl, rfl, trivial⟩ trivial
               have hpm := ptA_map l (a4 + i)
               have hge := (not_congr (top_nx (l := (l.map InstP.L)) (p := 4) (a := a4) (i := i) (by omega) (by omega))).1 (fun h => g135 (by rw [← hpm]; exact h.2))
               have htn : topN (l.map InstP.L) 4 a4 = topR (l.map InstP.L) 4 a4 := if_neg (by decide)
               have he : a4 + i = a5 := by omega
               rw [he] at hst
               refine run_exit (id := 2) rfl ?_
               exact cut42 (()) _ w (hst) (trivial) ⟨rfl, rfl, rfl, rfl, trivial⟩ trivial
             refine RunD.omit tab128 5 rfl rfl (fun f' L' w' hc => (hc.det (j := 3) rfl rfl rfl rfl).trans (congrArg Value.bool (decide_eq_false g129))) <| RunD.omit tab128 6 rfl rfl (fun f' L' w' hc => (hc.det (j := 3) rfl rfl rfl rfl).trans (congrArg Value.bool (decide_eq_false g129))) <| RunD.omit tab128 7 rfl rfl (fun f' L' w' hc => (hc.det (j := 3) rfl rfl rfl rfl).trans (congrArg Value.bool (decide_eq_false g129))) <| RunD.omit tab128 8 rfl rfl (fun f' L' w' hc => (hc.det (j := 3) rfl rfl rfl rfl).trans (congrArg Value.bool (decide_eq_false g129))) <| RunD.omit tab128 9 rfl rfl (fun f' L' w' hc => (hc.det (j := 3) rfl rfl rfl rfl).trans (congrArg Value.bool (decide_eq_false g129))) <| RunD.omit tab128 10 rfl rfl (fun f' L' w' hc => (hc.det (j := 3) rfl rfl rfl rfl).trans (congrArg Value.bool (decide_eq_false g129))) <| RunD.omit tab128 11 rfl rfl (fun f' L' w' hc => (hc.det (j := 3) rfl rfl rfl rfl).trans (congrArg Value.bool (decide_eq_false g129))) <| RunD.omit tab128 12 rfl rfl (fun f' L' w' hc => (hc.det (j := 3) rfl rfl rfl rfl).trans (congrArg Value.bool (decide_eq_false g129))) <| RunD.omit tab128 13 rfl rfl (fun f' L' w' hc => (hc.det (j := 3) rfl rfl rfl rfl).trans (congrArg Value.bool (decide_eq_false g129))) <| RunD.omit tab128 14 rfl rfl (fun f' L' w' hc => (hc.det (j := 3) rfl rfl rfl rfl).trans (congrArg Value.bool (decide_eq_false g129))) <| RunD.omit tab128 15 rfl rfl (fun f' L' w' hc => (hc.det (j := 3) rfl rfl rfl rfl).trans (congrArg Value.bool (decide_eq_false g129))) <| RunD.omit tab128 16 rfl rfl (fun f' L' w' hc => (hc.det (j := 3) rfl rfl rfl rfl).trans (congrArg Value.bool (decide_eq_false g129))) <| RunD.fin followsMixed tab128 hst rfl (fun f137 w R140 hs138 hd139 hr141 hst => ?_)
             obtain ⟨h12_, r0⟩ := hd139 0 12 rfl rfl
             obtain ⟨h13_, r1⟩ := hd139 1 13 rfl rfl
             obtain ⟨h14_, r2⟩ := hd139 2 14 rfl rfl
             obtain ⟨h15_, r3⟩ := hd139 3 15 rfl rfl
             obtain ⟨h16_, r4⟩ := hd139 4 16 rfl rfl
             obtain ⟨h17_, r5⟩ := hd139 5 17 rfl rfl
             obtain ⟨h18_, r6⟩ := hd139 6 18 rfl rfl
             obtain ⟨h19_, r7⟩ := hd139 7 19 rfl rfl
             obtain ⟨h20_, r8⟩ := hd139 8 20 rfl rfl
             obtain ⟨h21_, r9⟩ := hd139 9 21 rfl rfl
             obtain ⟨h22_, r10⟩ := hd139 10 22 rfl rfl
             obtain ⟨h23_, r11⟩ := hd139 11 23 rfl rfl
             obtain ⟨h24_, r12⟩ := hd139 12 24 rfl rfl
             obtain ⟨h25_, r13⟩ := hd139 13 25 rfl rfl
             obtain ⟨h26_, r14⟩ := hd139 14 26 rfl rfl
             obtain ⟨h27_, r15⟩ := hd139 15 27 rfl rfl
             simp only [show List.range 16 = [0, 1, 2, 3, 4, 5, 6, 7, 8, 9, 10, 11, 12, 13, 14, 15] from rfl, List.flatMap_cons, List.flatMap_nil, List.map_cons, List.map_nil, r0, r1, r2, r3, r4, r5, r6, r7, r8, r9, r10, r11, r12, r13, r14, r15, List.nil_append, List.append_nil, List.cons_append] at hst
             refine RunL.slots (sl := [(0, .pointer (some ⟨_, _, none⟩)), (3, .int .u8 _), (4, .int .i64 _), (5, .int .u8 _), (15, .bool _), (26, _), (27, _)]) ⟨(hs138 0 rfl).trans rfl, (hs138 3 rfl).trans rfl, (hs138 4 rfl).trans rfl, (hs138 5 rfl).trans rfl, h15_, h26_, h27_, trivial⟩ ?_
             clear hs138 hd139 hr141 tab128
             refine OM (t := 15) rfl (congrArg Value.bool (decide_eq_false g129)) rfl <| CN <| Op1.pickF (u := .bool _) (congrArg Value.bool (decide_eq_false g129)) rfl <| NL ?_
             have hpm := ptA_map l (a4 + i)
             have hge := (not_congr (top_nx (l := (l.map InstP.L)) (p := 4) (a := a4) (i := i) (by omega) (by omega))).1 (fun h => g129 h.1)
             have htn : topN (l.map InstP.L) 4 a4 = topR (l.map InstP.L) 4 a4 := if_neg (by decide)
             have he : a4 + i = a5 := by omega
             rw [he] at hst
             refine run_cond_false (congrArg Value.bool (rfl : false = _)) <| run_exit (id := 2) rfl ?_
             exact cut42 (()) _ w (hst) (trivial) ⟨rfl, rfl, rfl, rfl, trivial⟩ trivial
         · skip
           refine run_block <| run_loop <| Run.indW [(0, .pointer (some ⟨_, _, none⟩)), (3, .int .u8 _), (4, .int .i64 _), (5, .int .u8 _)] ⟨rfl, rfl, rfl, rfl, trivial⟩ (fun (i : Nat) => []) (fun (i : Nat) => [CutR 69 bq ao l.length cp (a3 + i) [.int .i64 ((0 : Nat) : Int), .int .i64 (a1 : Int), .int .i64 (a1 : Int), .int .i64 (a2 : Int), .int .i64 (a2 : Int), .int .i64 (a3 : Int), .int .i64 0, .int .i64 0, .int .i64 0, .int .i64 0, .int .i64 0, .int .i64 0, .int .i64 0, .int .i64 0, .int .i64 0, .int .i64 0, .int .i64 0, .int .i64 0, .int .i64 0, .int .i64 0, .slice none 0 0]]) (fun (i : Nat) => i ≤ topR (l.map InstP.L) 3 a3) (fun (i : Nat) => topR (l.map InstP.L) 3 a3 - i) (0) hst (Nat.zero_le _) trivial ?_
           intro i f w hst hJ ih142
           have hti := topR_le (l := (l.map InstP.L)) (p := 3) (k := a3) (by omega)
           refine SQ <| SQ <| RunD.start [] hst (bs := [0, 1, 3, 7, 15, 31, 63, 127, 15, 271, 783, 1807, 4095, 8191, 16383, 15, 65535, 131071]) (ds := [some 12, some 13, some 14, some 15, some 16, some 17, some 18, some 19, some 20, some 21, some 22, some 23, some 24, some 25, some 26, some 27, some 28, some 29]) ⟨by kernel_rfl, by kernel_rfl, by kernel_rfl⟩ (fun tab143 => ?_)
           refine RunD.op (det _) tab143 1 (fun f' L' w' hc => Op1.move (v := .pointer (some ⟨_, _, none⟩)) (hc.old (v := .pointer (some ⟨_, _, none⟩)) rfl rfl rfl) ⟨[], ⟨rfl, rfl⟩, hc.st⟩) <| RunD.op (det _) tab143 2 (fun f' L' w' hc => Op1.call1 (v1 := .pointer (some ⟨_, _, none⟩)) ent40 rfl (hc.det (j := 0) rfl rfl rfl rfl) ((R5ly_next bq l ao cp (a3 + i) [.int .i64 ((0 : Nat) : Int), .int .i64 (a1 : Int), .int .i64 (a1 : Int), .int .i64 (a2 : Int), .int .i64 (a2 : Int), .int .i64 (a3 : Int), .int .i64 0, .int .i64 0, .int .i64 0, .int .i64 0, .int .i64 0, .int .i64 0, .int .i64 0, .int .i64 0, .int .i64 0, .int .i64 0, .int .i64 0, .int .i64 0, .int .i64 0, .int .i64 0, .slice none 0 0] _ (hc.st.hL _ (List.mem_append_right _ (.head _))) (hc.st.hD _ (.head _)) (by omega) hl hla hop).mono fun v w hp => ⟨[], ⟨hp.1, rfl⟩, hc.st.keepc hp.2⟩)) <| RunD.op (det _) tab143 3 (fun f' L' w' hc => Op1.eql (hc.det (j := 1) rfl rfl rfl rfl) rfl ⟨[], ⟨rfl, rfl⟩, hc.st⟩) <| RunD.op (det _) tab143 4 (fun f' L' w' hc => Op1.move (v := .bool _) (hc.det (j := 2) rfl rfl rfl rfl) ⟨[], ⟨rfl, rfl⟩, hc.st⟩) <| RunD.splitD (j := 3) rfl (fun g144 => ?_) (fun g144 => ?_)
           · skip
             have hin := nx_in g144
             refine RunD.take (det _) tab143 5 rfl (fun f' L' w' hc => (hc.det (j := 3) rfl rfl rfl rfl).trans (congrArg Value.bool (decide_eq_true g144))) (fun f' L' w' hc => Op1.move (v := .pointer (some ⟨_, _, none⟩)) (hc.old (v := .pointer (some ⟨_, _, none⟩)) rfl rfl rfl) ⟨[], ⟨rfl, rfl⟩, hc.st⟩) <| RunD.take (det _) tab143 6 rfl (fun f' L' w' hc => (hc.det (j := 3) rfl rfl rfl rfl).trans (congrArg Value.bool (decide_eq_true g144))) (fun f' L' w' hc => Op1.nilCheckP (hc.det (j := 4) rfl rfl rfl rfl) ⟨[], ⟨rfl, rfl⟩, hc.st⟩) <| RunD.take (det _) tab143 7 rfl (fun f' L' w' hc => (hc.det (j := 3) rfl rfl rfl rfl).trans (congrArg Value.bool (decide_eq_true g144))) (fun f' L' w' hc => Op1.fieldAddr fld69_0 (hc.det (j := 5) rfl rfl rfl rfl) ⟨[], ⟨rfl, rfl⟩, hc.st⟩) <| RunD.take (det _) tab143 8 rfl (fun f' L' w' hc => (hc.det (j := 3) rfl rfl rfl rfl).trans (congrArg Value.bool (decide_eq_true g144))) (fun f' L' w' hc => Op1.load1 (v := .slice _ _ _) ty23 rfl (hc.det (j := 6) rfl rfl rfl rfl) (hc.st.cellL (List.mem_append_right _ (.head _)) rfl) ⟨[], ⟨rfl, rfl⟩, hc.st⟩) <| RunD.take (det _) tab143 9 rfl (fun f' L' w' hc => (hc.det (j := 3) rfl rfl rfl rfl).trans (congrArg Value.bool (decide_eq_true g144))) (fun f' L' w' hc => Op1.move (v := .pointer (some ⟨_, _, none⟩)) (hc.old (v := .pointer (some ⟨_, _, none⟩)) rfl rfl rfl) ⟨[], ⟨rfl, rfl⟩, hc.st⟩) <| RunD.take (det _) tab143 10 rfl (fun f' L' w' hc => (hc.det (j := 3) rfl rfl rfl rfl).trans (congrArg Value.bool (decide_eq_true g144))) (fun f' L' w' hc => Op1.nilCheckP (hc.det (j := 8) rfl rfl rfl rfl) ⟨[], ⟨rfl, rfl⟩, hc.st⟩) <| RunD.take (det _) tab143 11 rfl (fun f' L' w' hc => (hc.det (j := 3) rfl rfl rfl rfl).trans (congrArg Value.bool (decide_eq_true g144))) (fun f' L' w' hc => Op1.fieldAddr fld69_1 (hc.det (j := 9) rfl rfl rfl rfl) ⟨[], ⟨rfl, rfl⟩, hc.st⟩) <| RunD.take (det _) tab143 12 rfl (fun f' L' w' hc => (hc.det (j := 3) rfl rfl rfl rfl).trans (congrArg Value.bool (decide_eq_true g144))) (fun f' L' w' hc => Op1.load1 (v := .int .i64 _) ty3 rfl (hc.det (j := 10) rfl rfl rfl rfl) (hc.st.cellL (List.mem_append_right _ (.head _)) rfl) ⟨[], ⟨rfl, rfl⟩, hc.st⟩) <| RunD.take (det _) tab143 13 rfl (fun f' L' w' hc => (hc.det (j := 3) rfl rfl rfl rfl).trans (congrArg Value.bool (decide_eq_true g144))) (fun f' L' w' hc => Op1.indexRs ty23 ty39 (Res.rmod_insts (hc.st.hD _ (.head _))) (hc.det (j := 7) rfl rfl rfl rfl) (hc.det (j := 11) rfl rfl rfl rfl) (by omega) (by omega) ⟨[], ⟨rfl, rfl⟩, hc.st⟩) <| RunD.take (det _) tab143 14 rfl (fun f' L' w' hc => (hc.det (j := 3) rfl rfl rfl rfl).trans (congrArg Value.bool (decide_eq_true g144))) (fun f' L' w' hc => Op1.loadA (vs := [.int .u16 _, .int .u32 _, .int .u32 _, .slice _ _ _]) ty39 rfl (hc.det (j := 12) rfl rfl rfl rfl) rfl (Res.rs2_cells (m := 4) (Res.rmod_insts (hc.st.hD _ (.head _))) _ (flat_seg (g := instC) (d := zeroI) instC_len _ _ (by omega))) ⟨[], ⟨rfl, rfl⟩, hc.st⟩) <| RunD.take (det _) tab143 15 rfl (fun f' L' w' hc => (hc.det (j := 3) rfl rfl rfl rfl).trans (congrArg Value.bool (decide_eq_true g144))) (fun f' L' w' hc => Op1.call1 (v1 := .agg #[.int .u16 _, .int .u32 _, .int .u32 _, .slice _ _ _]) ent51 rfl (hc.det (j := 13) rfl rfl rfl rfl) ((R5ly_part (l.getD (a3 + i) zeroI) (hop _ (getD_memD (by omega))) _ (Res.rmod_argsI (hc.st.hD _ (.head _)) (i := a3 + i) (by omega)) (hla _ (getD_memD (by omega)))).mono fun v w hp => ⟨[], ⟨hp.1, rfl⟩, hc.st.keepc hp.2⟩)) <| RunD.take (det _) tab143 16 rfl (fun f' L' w' hc => (hc.det (j := 3) rfl rfl rfl rfl).trans (congrArg Value.bool (decide_eq_true g144))) (fun f' L' w' hc => Op1.move (v := .int .u8 _) (hc.old (v := .int .u8 _) rfl rfl rfl) ⟨[], ⟨rfl, rfl⟩, hc.st⟩) <| RunD.fin followsMixed tab143 hst rfl (fun f145 w R148 hs146 hd147 hr149 hst => ?_)
             obtain ⟨h12_, r0⟩ := hd147 0 12 rfl rfl
             obtain ⟨h13_, r1⟩ := hd147 1 13 rfl rfl
             obtain ⟨h14_, r2⟩ := hd147 2 14 rfl rfl
             obtain ⟨h15_, r3⟩ := hd147 3 15 rfl rfl
             obtain ⟨h16_, r4⟩ := hd147 4 16 rfl rfl
             obtain ⟨h17_, r5⟩ := hd147 5 17 rfl rfl
             obtain ⟨h18_, r6⟩ := hd147 6 18 rfl rfl
             obtain ⟨h19_, r7⟩ := hd147 7 19 rfl rfl
             obtain ⟨h20_, r8⟩ := hd147 8 20 rfl rfl
             obtain ⟨h21_, r9⟩ := hd147 9 21 rfl rfl
             obtain ⟨h22_, r10⟩ := hd147 10 22 rfl rfl
             obtain ⟨h23_, r11⟩ := hd147 11 23 rfl rfl
             obtain ⟨h24_, r12⟩ := hd147 12 24 rfl rfl
             obtain ⟨h25_, r13⟩ := hd147 13 25 rfl rfl
             obtain ⟨h26_, r14⟩ := hd147 14 26 rfl rfl
             obtain ⟨h27_, r15⟩ := hd147 15 27 rfl rfl
             simp only [show List.range 16 = [0, 1, 2, 3, 4, 5, 6, 7, 8, 9, 10, 11, 12, 13, 14, 15] from rfl, List.flatMap_cons, List.flatMap_nil, List.map_cons, List.map_nil, r0, r1, r2, r3, r4, r5, r6, r7, r8, r9, r10, r11, r12, r13, r14, r15, List.nil_append, List.append_nil, List.cons_append] at hst
             refine RunL.slots (sl := [(0, .pointer (some ⟨_, _, none⟩)), (3, .int .u8 _), (4, .int .i64 _), (5, .int .u8 _), (15, .bool _), (26, .int .u8 _), (27, .int .u8 _)]) ⟨(hs146 0 rfl).trans rfl, (hs146 3 rfl).trans rfl, (hs146 4 rfl).trans rfl, (hs146 5 rfl).trans rfl, h15_, h26_, h27_, trivial⟩ ?_
             clear hs146 hd147 hr149 tab143
             refine TK (t := 15) rfl (congrArg Value.bool (decide_eq_true g144)) <| Op1.eql rfl rfl <| CN <| Op1.pickT (u := .bool _) (congrArg Value.bool (decide_eq_true g144)) rfl <| NL <| run_cond_dec rfl (fun g150 => ?_) (fun g150 => ?_)
             · skip
               have hpm := ptA_map l (a3 + i)
               have hlt := (top_nx (l := (l.map InstP.L)) (p := 3) (a := a3) (i := i) (by omega) (by omega)).1 ⟨g144, by rw [hpm]; exact g150⟩
               refine run_skip <| run_block <| SR <| MP rfl <| CN <| Op1.nilCheckP rfl <| CN <| Op1.fieldAddr fld69_1 rfl <| CN <| Op1.load1 (v := .int .i64 _) ty3 rfl rfl (hst.cellL (.head _) rfl) <| CN <| Op1.addN rfl rfl rfl (wrap_i64 (by omega) (by omega)) <| CN <| Op1.nilCheckP rfl <| CN <| Op1.fieldAddr fld69_1 rfl <| CN (SO (v := .int .i64 _) hst ty3 rfl rfl (.here) fun w hst => ?_)
               refine NL <| Run.forget [(0, .pointer (some ⟨_, _, none⟩)), (3, .int .u8 _), (4, .int .i64 _), (5, .int .u8 _)] ⟨rfl, rfl, rfl, rfl, trivial⟩ fun f => SR <| MC rfl <| CN <| Op1.eql rfl rfl <| NL <| run_cond_dec rfl (fun g151 => ?_) (fun g151 => ?_)
               · skip
                 exfalso
                 exact absurd g151 (by decide)
               refine run_skip <| run_inBlock <| run_inLoop ?_
               exact ih142 (i + 1) _ w (by omega) hst (by omega) ⟨rfl, rfl, rfl, rfl, trivial⟩ trivial
             have hpm := ptA_map l (a3 + i)
             have hge := (not_congr (top_nx (l := (l.map InstP.L)) (p := 3) (a := a3) (i := i) (by omega) (by omega))).1 (fun h => g150 (by rw [← hpm]; exact h.2))
             have htn : topN (l.map InstP.L) 3 a3 = topR (l.map InstP.L) 3 a3 := if_neg (by decide)
             have he : a3 + i = a4 := by omega
             rw [he] at hst
             refine run_exit (id := 2) rfl ?_
             exact cut32 (()) _ w (hst) (trivial) ⟨rfl, rfl, rfl, rfl, trivial⟩ trivial
           refine RunD.omit tab143 5 rfl rfl (fun f' L' w' hc => (hc.det (j := 3) rfl rfl rfl rfl).trans (congrArg Value.bool (decide_eq_false g144))) <| RunD.omit tab143 6 rfl rfl (fun f' L' w' hc => (hc.det (j := 3) rfl rfl rfl rfl).trans (congrArg Value.bool (decide_eq_false g144))) <| RunD.omit tab143 7 rfl rfl (fun f' L' w' hc => (hc.det (j := 3) rfl rfl rfl rfl).trans (congrArg Value.bool (decide_eq_false g144))) <| RunD.omit tab143 8 rfl rfl (fun f' L' w' hc => (hc.det (j := 3) rfl rfl rfl rfl).trans (congrArg Value.bool (decide_eq_false g144))) <| RunD.omit tab143 9 rfl rfl (fun f' L' w' hc => (hc.det (j := 3) rfl rfl rfl rfl).trans (congrArg Value.bool (decide_eq_false g144))) <| RunD.omit tab143 10 rfl rfl (fun f' L' w' hc => (hc.det (j := 3) rfl rfl rfl rfl).trans (congrArg Value.bool (decide_eq_false g144))) <| RunD.omit tab143 11 rfl rfl (fun f' L' w' hc => (hc.det (j := 3) rfl rfl rfl rfl).trans (congrArg Value.bool (decide_eq_false g144))) <| RunD.omit tab143 12 rfl rfl (fun f' L' w' hc => (hc.det (j := 3) rfl rfl rfl rfl).trans (congrArg Value.bool (decide_eq_false g144))) <| RunD.omit tab143 13 rfl rfl (fun f' L' w' hc => (hc.det (j := 3) rfl rfl rfl rfl).trans (congrArg Value.bool (decide_eq_false g144))) <| RunD.omit tab143 14 rfl rfl (fun f' L' w' hc => (hc.det (j := 3) rfl rfl rfl rfl).trans (congrArg Value.bool (decide_eq_false g144))) <| RunD.omit tab143 15 rfl rfl (fun f' L' w' hc => (hc.det (j := 3) rfl rfl rfl rfl).trans (congrArg Value.bool (decide_eq_false g144))) <| RunD.omit tab143 16 rfl rfl (fun f' L' w' hc => (hc.det (j := 3) rfl rfl rfl rfl).trans (congrArg Value.bool (decide_eq_false g144))) <| RunD.fin followsMixed tab143 hst rfl (fun f152 w R155 hs153 hd154 hr156 hst => ?_)
           obtain ⟨h12_, r0⟩ := hd154 0 12 rfl rfl
           obtain ⟨h13_, r1⟩ := hd154 1 13 rfl rfl
           obtain ⟨h14_, r2⟩ := hd154 2 14 rfl rfl
           obtain ⟨h15_, r3⟩ := hd154 3 15 rfl rfl
           obtain ⟨h16_, r4⟩ := hd154 4 16 rfl rfl
           obtain ⟨h17_, r5⟩ := hd154 5 17 rfl rfl
           obtain ⟨h18_, r6⟩ := hd154 6 18 rfl rfl
           obtain ⟨h19_, r7⟩ := hd154 7 19 rfl rfl
           obtain ⟨h20_, r8⟩ := hd154 8 20 rfl rfl
           obtain ⟨h21_, r9⟩ := hd154 9 21 rfl rfl
           obtain ⟨h22_, r10⟩ := hd154 10 22 rfl rfl
           obtain ⟨h23_, r11⟩ := hd154 11 23 rfl rfl
           obtain ⟨h24_, r12⟩ := hd154 12 24 rfl rfl
           obtain ⟨h25_, r13⟩ := hd154 13 25 rfl rfl
           obtain ⟨h26_, r14⟩ := hd154 14 26 rfl rfl
           obtain ⟨h27_, r15⟩ := hd154 15 27 rfl rfl
           simp only [show List.range 16 = [0, 1, 2, 3, 4, 5, 6, 7, 8, 9, 10, 11, 12, 13, 14, 15] from rfl, List.flatMap_cons, List.flatMap_nil, List.map_cons, List.map_nil, r0, r1, r2, r3, r4, r5, r6, r7, r8, r9, r10, r11, r12, r13, r14, r15, List.nil_append, List.append_nil, List.cons_append] at hst
           refine RunL.slots (sl := [(0, .pointer (some ⟨_, _, none⟩)), (3, .int .u8 _), (4, .int .i64 _), (5, .int .u8 _), (15, .bool _), (26, _), (27, _)]) ⟨(hs153 0 rfl).trans rfl, (hs153 3 rfl).trans rfl, (hs153 4 rfl).trans rfl, (hs153 5 rfl).trans rfl, h15_, h26_, h27_, trivial⟩ ?_
           clear hs153 hd154 hr156 tab143
           refine OM (t := 15) rfl (congrArg Value.bool (decide_eq_false g144)) rfl <| CN <| Op1.pickF (u := .bool _) (congrArg Value.bool (decide_eq_false g144)) rfl <| NL ?_
           have hpm := ptA_map l (a3 + i)
           have hge := (not_congr (top_nx (l := (l.map InstP.L)) (p := 3) (a := a3) (i := i) (by omega) (by omega))).1 (fun h => g144 h.1)
           have htn : topN (l.map InstP.L) 3 a3 = topR (l.map InstP.L) 3 a3 := if_neg (by decide)
           have he : a3 + i = a4 := by omega
           rw [he] at hst
           refine run_cond_false (congrArg Value.bool (rfl : false = _)) <| run_exit (id := 2) rfl ?_
           exact cut32 (()) _ w (hst) (trivial) ⟨rfl, rfl, rfl, rfl, trivial⟩ trivial
       · skip
         refine run_block <| run_loop <| Run.indW [(0, .pointer (some ⟨_, _, none⟩)), (3, .int .u8 _), (4, .int .i64 _), (5, .int .u8 _)] ⟨rfl, rfl, rfl, rfl, trivial⟩ (fun (i : Nat) => []) (fun (i : Nat) => [CutR 69 bq ao l.length cp (a2 + i) [.int .i64 ((0 : Nat) : Int), .int .i64 (a1 : Int), .int .i64 (a1 : Int), .int .i64 (a2 : Int), .int .i64 0, .int .i64 0, .int .i64 0, .int .i64 0, .int .i64 0, .int .i64 0, .int .i64 0, .int .i64 0, .int .i64 0, .int .i64 0, .int .i64 0, .int .i64 0, .int .i64 0, .int .i64 0, .int .i64 0, .int .i64 0, .slice none 0 0]]) (fun (i : Nat) => i ≤ topR (l.map InstP.L) 2 a2) (fun (i : Nat) => topR (l.map InstP.L) 2 a2 - i) (0) hst (Nat.zero_le _) trivial ?_
         intro i f w hst hJ ih157
         have hti := topR_le (l := (l.map InstP.L)) (p := 2) (k := a2) (by omega)
         refine SQ <| SQ <| RunD.start [] hst (bs := [0, 1, 3, 7, 15, 31, 63, 127, 15, 271, 783, 1807, 4095, 8191, 16383, 15, 65535, 131071]) (ds := [some 12, some 13, some 14, some 15, some 16, some 17, some 18, some 19, some 20, some 21, some 22, some 23, some 24, some 25, some 26, some 27, some 28, some 29]) ⟨by kernel_rfl, by kernel_rfl, by kernel_rfl⟩ (fun tab158 => ?_)
         refine RunD.op (det _) tab158 1 (fun f' L' w' hc => Op1.move (v := .pointer (some ⟨_, _, none⟩)) (hc.old (v := .pointer (some ⟨_, _, none⟩)) rfl rfl rfl) ⟨[], ⟨rfl, rfl⟩, hc.st⟩) <| RunD.op (det _) tab158 2 (fun f' L' w' hc => Op1.call1 (v1 := .pointer (some ⟨_, _, none⟩)) ent40 rfl (hc.det (j := 0) rfl rfl rfl rfl) ((R5ly_next bq l ao cp (a2 + i) [.int .i64 ((0 : Nat) : Int), .int .i64 (a1 : Int), .int .i64 (a1 : Int), .int .i64 (a2 : Int), .int .i64 0, .int .i64 0, .int .i64 0, .int .i64 0, .int .i64 0, .int .i64 0, .int .i64 0, .int .i64 0, .int .i64 0, .int .i64 0, .int .i64 0, .int .i64 0, .int .i64 0, .int .i64 0, .int .i64 0, .int .i64 0, .slice none 0 0] _ (hc.st.hL _ (List.mem_append_right _ (.head _))) (hc.st.hD _ (.head _)) (by omega) hl hla hop).mono fun v w hp => ⟨[], ⟨hp.1, rfl⟩, hc.st.keepc hp.2⟩)) <| RunD.op (det _) tab158 3 (fun f' L' w' hc => Op1.eql (hc.det (j := 1) rfl rfl rfl rfl) rfl ⟨[], ⟨rfl, rfl⟩, hc.st⟩) <| RunD.op (det _) tab158 4 (fun f' L' w' hc => Op1.move (v := .bool _) (hc.det (j := 2) rfl rfl rfl rfl) ⟨[], ⟨rfl, rfl⟩, hc.st⟩) <| RunD.splitD (j := 3) rfl (fun g159 => ?_) (fun g159 => ?_)
         · skip
           have hin := nx_in g159
           refine RunD.take (det _) tab158 5 rfl (fun f' L' w' hc => (hc.det (j := 3) rfl rfl rfl rfl).trans (congrArg Value.bool (decide_eq_true g159))) (fun f' L' w' hc => Op1.move (v := .pointer (some ⟨_, _, none⟩)) (hc.old (v := .pointer (some ⟨_, _, none⟩)) rfl rfl rfl) ⟨[], ⟨rfl, rfl⟩, hc.st⟩) <| RunD.take (det _) tab158 6 rfl (fun f' L' w' hc => (hc.det (j := 3) rfl rfl rfl rfl).trans (congrArg Value.bool (decide_eq_true g159))) (fun f' L' w' hc => Op1.nilCheckP (hc.det (j := 4) rfl rfl rfl rfl) ⟨[], ⟨rfl, rfl⟩, hc.st⟩) <| RunD.take (det _) tab158 7 rfl (fun f' L' w' hc => (hc.det (j := 3) rfl rfl rfl rfl).trans (congrArg Value.bool (decide_eq_true g159))) (fun f' L' w' hc => Op1.fieldAddr fld69_0 (hc.det (j := 5) rfl rfl rfl rfl) ⟨[], ⟨rfl, rfl⟩, hc.st⟩) <| RunD.take (det _) tab158 8 rfl (fun f' L' w' hc => (hc.det (j := 3) rfl rfl rfl rfl).trans (congrArg Value.bool (decide_eq_true g159))) (fun f' L' w' hc => Op1.load1 (v := .slice _ _ _) ty23 rfl (hc.det (j := 6) rfl rfl rfl rfl) (hc.st.cellL (List.mem_append_right _ (.head _)) rfl) ⟨[], ⟨rfl, rfl⟩, hc.st⟩) <| RunD.take (det _) tab158 9 rfl (fun f' L' w' hc => (hc.det (j := 3) rfl rfl rfl rfl).trans (congrArg Value.bool (decide_eq_true g159))) (fun f' L' w' hc => Op1.move (v := .pointer (some ⟨_, _, none⟩)) (hc.old (v := .pointer (some ⟨_, _, none⟩)) rfl rfl rfl) ⟨[], ⟨rfl, rfl⟩, hc.st⟩) <| RunD.take (det _) tab158 10 rfl (fun f' L' w' hc => (hc.det (j := 3) rfl rfl rfl rfl).trans (congrArg Value.bool (decide_eq_true g159))) (fun f' L' w' hc => Op1.nilCheckP (hc.det (j := 8) rfl rfl rfl rfl) ⟨[], ⟨rfl, rfl⟩, hc.st⟩) <| RunD.take (det _) tab158 11 rfl (fun f' L' w' hc => (hc.det (j := 3) rfl rfl rfl rfl).trans (congrArg Value.bool (decide_eq_true g159))) (fun f' L' w' hc => Op1.fieldAddr fld69_1 (hc.det (j := 9) rfl rfl rfl rfl) ⟨[], ⟨rfl, rfl⟩, hc.st⟩) <| RunD.take (det _) tab158 12 rfl (fun f' L' w' hc => (hc.det (j := 3) rfl rfl rfl rfl).trans (congrArg Value.bool (decide_eq_true g159))) (fun f' L' w' hc => Op1.load1 (v := .int .i64 _) ty3 rfl (hc.det (j := 10) rfl rfl rfl rfl) (hc.st.cellL (List.mem_append_right _ (.head _)) rfl) ⟨[], ⟨rfl, rfl⟩, hc.st⟩) <| RunD.take (det _) tab158 13 rfl (fun f' L' w' hc => (hc.det (j := 3) rfl rfl rfl rfl).trans (congrArg Value.bool (decide_eq_true g159))) (fun f' L' w' hc => Op1.indexRs ty23 ty39 (Res.rmod_insts (hc.st.hD _ (.head _))) (hc.det (j := 7) rfl rfl rfl rfl) (hc.det (j := 11) rfl rfl rfl rfl) (by omega) (by omega) ⟨[], ⟨rfl, rfl⟩, hc.st⟩) <| RunD.take (det _) tab158 14 rfl (fun f' L' w' hc => (hc.det (j := 3) rfl rfl rfl rfl).trans (congrArg Value.bool (decide_eq_true g159))) (fun f' L' w' hc => Op1.loadA (vs := [.int .u16 _, .int .u32 _, .int .u32 _, .slice _ _ _]) ty39 rfl (hc.det (j := 12) rfl rfl rfl rfl) rfl (Res.rs2_cells (m := 4) (Res.rmod_insts (hc.st.hD _ (.head _))) _ (flat_seg (g := instC) (d := zeroI) instC_len _ _ (by omega))) ⟨[], ⟨rfl, rfl⟩, hc.st⟩) <| RunD.take (det _) tab158 15 rfl (fun f' L' w' hc => (hc.det (j := 3) rfl rfl rfl rfl).trans (congrArg Value.bool (decide_eq_true g159))) (fun f' L' w' hc => Op1.call1 (v1 := .agg #[.int .u16 _, .int .u32 _, .int .u32 _, .slice _ _ _]) ent51 rfl (hc.det (j := 13) rfl rfl rfl rfl) ((R5ly_part (l.getD (a2 + i) zeroI) (hop _ (getD_memD (by omega))) _ (Res.rmod_argsI (hc.st.hD _ (.head _)) (i := a2 + i) (by omega)) (hla _ (getD_memD (by omega)))).mono fun v w hp => ⟨[], ⟨hp.1, rfl⟩, hc.st.keepc hp.2⟩)) <| RunD.take (det _) tab158 16 rfl (fun f' L' w' hc => (hc.det (j := 3) rfl rfl rfl rfl).trans (congrArg Value.bool (decide_eq_true g159))) (fun f' L' w' hc => Op1.move (v := .int .u8 _) (hc.old (v := .int .u8 _) rfl rfl rfl) ⟨[], ⟨rfl, rfl⟩, hc.st⟩) <| RunD.fin followsMixed tab158 hst rfl (fun f160 w R163 hs161 hd162 hr164 hst => ?_)
           obtain ⟨h12_, r0⟩ := hd162 0 12 rfl rfl
           obtain ⟨h13_, r1⟩ := hd162 1 13 rfl rfl
           obtain ⟨h14_, r2⟩ := hd162 2 14 rfl rfl
           obtain ⟨h15_, r3⟩ := hd162 3 15 rfl rfl
           obtain ⟨h16_, r4⟩ := hd162 4 16 rfl rfl
           obtain ⟨h17_, r5⟩ := hd162 5 17 rfl rfl
           obtain ⟨h18_, r6⟩ := hd162 6 18 rfl rfl
           obtain ⟨h19_, r7⟩ := hd162 7 19 rfl rfl
           obtain ⟨h20_, r8⟩ := hd162 8 20 rfl rfl
           obtain ⟨h21_, r9⟩ := hd162 9 21 rfl rfl
           obtain ⟨h22_, r10⟩ := hd162 10 22 rfl rfl
           obtain ⟨h23_, r11⟩ := hd162 11 23 rfl rfl
           obtain ⟨h24_, r12⟩ := hd162 12 24 rfl rfl
           obtain ⟨h25_, r13⟩ := hd162 13 25 rfl rfl
           obtain ⟨h26_, r14⟩ := hd162 14 26 rfl rfl
           obtain ⟨h27_, r15⟩ := hd162 15 27 rfl rfl
           simp only [show List.range 16 = [0, 1, 2, 3, 4, 5, 6, 7, 8, 9, 10, 11, 12, 13, 14, 15] from rfl, List.flatMap_cons, List.flatMap_nil, List.map_cons, List.map_nil, r0, r1, r2, r3, r4, r5, r6, r7, r8, r9, r10, r11, r12, r13, r14, r15, List.nil_append, List.append_nil, List.cons_append] at hst
           refine RunL.slots (sl := [(0, .pointer (some ⟨_, _, none⟩)), (3, .int .u8 _), (4, .int .i64 _), (5, .int .u8 _), (15, .bool _), (26, .int .u8 _), (27, .int .u8 _)]) ⟨(hs161 0 rfl).trans rfl, (hs161 3 rfl).trans rfl, (hs161 4 rfl).trans rfl, (hs161 5 rfl).trans rfl, h15_, h26_, h27_, trivial⟩ ?_
           clear hs161 hd162 hr164 tab158
           refine TK (t := 15) rfl (congrArg Value.bool (decide_eq_true g159)) <| Op1.eql rfl rfl <| CN <| Op1.pickT (u := .bool _) (congrArg Value.bool (decide_eq_true g159)) rfl <| NL <| run_cond_dec rfl (fun g165 => ?_) (fun g165 => ?_)
           · skip
             have hpm := ptA_map l (a2 + i)
             have hlt := (top_nx (l := (l.map InstP.L)) (p := 2) (a := a2) (i := i) (by omega) (by omega)).1 ⟨g159, by rw [hpm]; exact g165⟩
             refine run_skip <| run_block <| SR <| MP rfl <| CN <| Op1.nilCheckP rfl <| CN <| Op1.fieldAddr fld69_1 rfl <| CN <| Op1.load1 (v := .int .i64 _) ty3 rfl rfl (hst.cellL (.head _) rfl) <| CN <| Op1.addN rfl rfl rfl (wrap_i64 (by omega) (by omega)) <| CN <| Op1.nilCheckP rfl <| CN <| Op1.fieldAddr fld69_1 rfl <| CN (SO (v := .int .i64 _) hst ty3 rfl rfl (.here) fun w hst => ?_)
             refine NL <| Run.forget [(0, .pointer (some ⟨_, _, none⟩)), (3, .int .u8 _), (4, .int .i64 _), (5, .int .u8 _)] ⟨rfl, rfl, rfl, rfl, trivial⟩ fun f => SR <| MC rfl <| CN <| Op1.eql rfl rfl <| NL <| run_cond_dec rfl (fun g166 => ?_) (fun g166 => ?_)
             · skip
               exfalso
               exact absurd g166 (by decide)
             refine run_skip <| run_inBlock <| run_inLoop ?_
             exact ih157 (i + 1) _ w (by omega) hst (by omega) ⟨rfl, rfl, rfl, rfl, trivial⟩ trivial
           have hpm := ptA_map l (a2 + i)
           have hge := (not_congr (top_nx (l := (l.map InstP.L)) (p := 2) (a := a2) (i := i) (by omega) (by omega))).1 (fun h => g165 (by rw [← hpm]; exact h.2))
           have htn : topN (l.map InstP.L) 2 a2 = topR (l.map InstP.L) 2 a2 := if_neg (by decide)
           have he : a2 + i = a3 := by omega
           rw [he] at hst
           refine run_exit (id := 2) rfl ?_
           exact cut22 (()) _ w (hst) (trivial) ⟨rfl, rfl, rfl, rfl, trivial⟩ trivial
         refine RunD.omit tab158 5 rfl rfl (fun f' L' w' hc => (hc.det (j := 3) rfl rfl rfl rfl).trans (congrArg Value.bool (decide_eq_false g159))) <| RunD.omit tab158 6 rfl rfl (fun f' L' w' hc => (hc.det (j := 3) rfl rfl rfl rfl).trans (congrArg Value.bool (decide_eq_false g159))) <| RunD.omit tab158 7 rfl rfl (fun f' L' w' hc => (hc.det (j := 3) rfl rfl rfl rfl).trans (congrArg Value.bool (decide_eq_false g159))) <| RunD.omit tab158 8 rfl rfl (fun f' L' w' hc => (hc.det (j := 3) rfl rfl rfl rfl).trans (congrArg Value.bool (decide_eq_false g159))) <| RunD.omit tab158 9 rfl rfl (fun f' L' w' hc => (hc.det (j := 3) rfl rfl rfl rfl).trans (congrArg Value.bool (decide_eq_false g159))) <| RunD.omit tab158 10 rfl rfl (fun f' L' w' hc => (hc.det (j := 3) rfl rfl rfl rfl).trans (congrArg Value.bool (decide_eq_false g159))) <| RunD.omit tab158 11 rfl rfl (fun f' L' w' hc => (hc.det (j := 3) rfl rfl rfl rfl).trans (congrArg Value.bool (decide_eq_false g159))) <| RunD.omit tab158 12 rfl rfl (fun f' L' w' hc => (hc.det (j := 3) rfl rfl rfl rfl).trans (congrArg Value.bool (decide_eq_false g159))) <| RunD.omit tab158 13 rfl rfl (fun f' L' w' hc => (hc.det (j := 3) rfl rfl rfl rfl).trans (congrArg Value.bool (decide_eq_false g159))) <| RunD.omit tab158 14 rfl rfl (fun f' L' w' hc => (hc.det (j := 3) rfl rfl rfl rfl).trans (congrArg Value.bool (decide_eq_false g159))) <| RunD.omit tab158 15 rfl rfl (fun f' L' w' hc => (hc.det (j := 3) rfl rfl rfl rfl).trans (congrArg Value.bool (decide_eq_false g159))) <| RunD.omit tab158 16 rfl rfl (fun f' L' w' hc => (hc.det (j := 3) rfl rfl rfl rfl).trans (congrArg Value.bool (decide_eq_false g159))) <| RunD.fin followsMixed tab158 hst rfl (fun f167 w R170 hs168 hd169 hr171 hst => ?_)
         obtain ⟨h12_, r0⟩ := hd169 0 12 rfl rfl
         obtain ⟨h13_, r1⟩ := hd169 1 13 rfl rfl
         obtain ⟨h14_, r2⟩ := hd169 2 14 rfl rfl
         obtain ⟨h15_, r3⟩ := hd169 3 15 rfl rfl
         obtain ⟨h16_, r4⟩ := hd169 4 16 rfl rfl
         obtain ⟨h17_, r5⟩ := hd169 5 17 rfl rfl
         obtain ⟨h18_, r6⟩ := hd169 6 18 rfl rfl
         obtain ⟨h19_, r7⟩ := hd169 7 19 rfl rfl
         obtain ⟨h20_, r8⟩ := hd169 8 20 rfl rfl
         obtain ⟨h21_, r9⟩ := hd169 9 21 rfl rfl
         obtain ⟨h22_, r10⟩ := hd169 10 22 rfl rfl
         obtain ⟨h23_, r11⟩ := hd169 11 23 rfl rfl
         obtain ⟨h24_, r12⟩ := hd169 12 24 rfl rfl
         obtain ⟨h25_, r13⟩ := hd169 13 25 rfl rfl
         obtain ⟨h26_, r14⟩ := hd169 14 26 rfl rfl
         obtain ⟨h27_, r15⟩ := hd169 15 27 rfl rfl
         simp only [show List.range 16 = [0, 1, 2, 3, 4, 5, 6, 7, 8, 9, 10, 11, 12, 13, 14, 15] from rfl, List.flatMap_cons, List.flatMap_nil, List.map_cons, List.map_nil, r0, r1, r2, r3, r4, r5, r6, r7, r8, r9, r10, r11, r12, r13, r14, r15, List.nil_append, List.append_nil, List.cons_append] at hst
         refine RunL.slots (sl := [(0, .pointer (some ⟨_, _, none⟩)), (3, .int .u8 _), (4, .int .i64 _), (5, .int .u8 _), (15, .bool _), (26, _), (27, _)]) ⟨(hs168 0 rfl).trans rfl, (hs168 3 rfl).trans rfl, (hs168 4 rfl).trans rfl, (hs168 5 rfl).trans rfl, h15_, h26_, h27_, trivial⟩ ?_
         clear hs168 hd169 hr171 tab158
         refine OM (t := 15) rfl (congrArg Value.bool (decide_eq_false g159)) rfl <| CN <| Op1.pickF (u := .bool _) (congrArg Value.bool (decide_eq_false g159)) rfl <| NL ?_
         have hpm := ptA_map l (a2 + i)
         have hge := (not_congr (top_nx (l := (l.map InstP.L)) (p := 2) (a := a2) (i := i) (by omega) (by omega))).1 (fun h => g159 h.1)
         have htn : topN (l.map InstP.L) 2 a2 = topR (l.map InstP.L) 2 a2 := if_neg (by decide)
         have he : a2 + i = a3 := by omega
         rw [he] at hst
         refine run_cond_false (congrArg Value.bool (rfl : false = _)) <| run_exit (id := 2) rfl ?_
         exact cut22 (()) _ w (hst) (trivial) ⟨rfl, rfl, rfl, rfl, trivial⟩ trivial
     exfalso
     exact g20 rfl
   · skip
     refine run_block <| run_loop <| Run.indW [(0, .pointer (some ⟨_, _, none⟩)), (3, .int .u8 _), (4, .int .i64 _), (5, .int .u8 _)] ⟨rfl, rfl, rfl, rfl, trivial⟩ (fun (i : Nat) => []) (fun (i : Nat) => [CutR 69 bq ao l.length cp (a1 + i) [.int .i64 ((0 : Nat) : Int), .int .i64 (a1 : Int), .int .i64 0, .int .i64 0, .int .i64 0, .int .i64 0, .int .i64 0, .int .i64 0, .int .i64 0, .int .i64 0, .int .i64 0, .int .i64 0, .int .i64 0, .int .i64 0, .int .i64 0, .int .i64 0, .int .i64 0, .int .i64 0, .int .i64 0, .int .i64 0, .slice none 0 0]]) (fun (i : Nat) => i = 0) (fun (i : Nat) => 0) (0) hst rfl trivial ?_
     intro i f w hst hJ ih172
     refine SQ <| SQ <| RunD.start [] hst (bs := [0, 1, 3, 7, 15, 31, 63, 127, 15, 271, 783, 1807, 4095, 8191, 16383, 15, 65535, 131071]) (ds := [some 12, some 13, some 14, some 15, some 16, some 17, some 18, some 19, some 20, some 21, some 22, some 23, some 24, some 25, some 26, some 27, some 28, some 29]) ⟨by kernel_rfl, by kernel_rfl, by kernel_rfl⟩ (fun tab173 => ?_)
     refine RunD.op (det _) tab173 1 (fun f' L' w' hc => Op1.move (v := .pointer (some ⟨_, _, none⟩)) (hc.old (v := .pointer (some ⟨_, _, none⟩)) rfl rfl rfl) ⟨[], ⟨rfl, rfl⟩, hc.st⟩) <| RunD.op (det _) tab173 2 (fun f' L' w' hc => Op1.call1 (v1 := .pointer (some ⟨_, _, none⟩)) ent40 rfl (hc.det (j := 0) rfl rfl rfl rfl) ((R5ly_next bq l ao cp (a1 + i) [.int .i64 ((0 : Nat) : Int), .int .i64 (a1 : Int), .int .i64 0, .int .i64 0, .int .i64 0, .int .i64 0, .int .i64 0, .int .i64 0, .int .i64 0, .int .i64 0, .int .i64 0, .int .i64 0, .int .i64 0, .int .i64 0, .int .i64 0, .int .i64 0, .int .i64 0, .int .i64 0, .int .i64 0, .int .i64 0, .slice none 0 0] _ (hc.st.hL _ (List.mem_append_right _ (.head _))) (hc.st.hD _ (.head _)) (by omega) hl hla hop).mono fun v w hp => ⟨[], ⟨hp.1, rfl⟩, hc.st.keepc hp.2⟩)) <| RunD.op (det _) tab173 3 (fun f' L' w' hc => Op1.eql (hc.det (j := 1) rfl rfl rfl rfl) rfl ⟨[], ⟨rfl, rfl⟩, hc.st⟩) <| RunD.op (det _) tab173 4 (fun f' L' w' hc => Op1.move (v := .bool _) (hc.det (j := 2) rfl rfl rfl rfl) ⟨[], ⟨rfl, rfl⟩, hc.st⟩) <| RunD.splitD (j := 3) rfl (fun g174 => ?_) (fun g174 => ?_)
     · skip
       have hin := nx_in g174
       refine RunD.take (det _) tab173 5 rfl (fun f' L' w' hc => (hc.det (j := 3) rfl rfl rfl rfl).trans (congrArg Value.bool (decide_eq_true g174))) (fun f' L' w' hc => Op1.move (v := .pointer (some ⟨_, _, none⟩)) (hc.old (v := .pointer (some ⟨_, _, none⟩)) rfl rfl rfl) ⟨[], ⟨rfl, rfl⟩, hc.st⟩) <| RunD.take (det _) tab173 6 rfl (fun f' L' w' hc => (hc.det (j := 3) rfl rfl rfl rfl).trans (congrArg Value.bool (decide_eq_true g174))) (fun f' L' w' hc => Op1.nilCheckP (hc.det (j := 4) rfl rfl rfl rfl) ⟨[], ⟨rfl, rfl⟩, hc.st⟩) <| RunD.take (det _) tab173 7 rfl (fun f' L' w' hc => (hc.det (j := 3) rfl rfl rfl rfl).trans (congrArg Value.bool (decide_eq_true g174))) (fun f' L' w' hc => Op1.fieldAddr fld69_0 (hc.det (j := 5) rfl rfl rfl rfl) ⟨[], ⟨rfl, rfl⟩, hc.st⟩) <| RunD.take (det _) tab173 8 rfl (fun f' L' w' hc => (hc.det (j := 3) rfl rfl rfl rfl).trans (congrArg Value.bool (decide_eq_true g174))) (fun f' L' w' hc => Op1.load1 (v := .slice _ _ _) ty23 rfl (hc.det (j := 6) rfl rfl rfl rfl) (hc.st.cellL (List.mem_append_right _ (.head _)) rfl) ⟨[], ⟨rfl, rfl⟩, hc.st⟩) <| RunD.take (det _) tab173 9 rfl (fun f' L' w' hc => (hc.det (j := 3) rfl rfl rfl rfl).trans (congrArg Value.bool (decide_eq_true g174))) (fun f' L' w' hc => Op1.move (v := .pointer (some ⟨_, _, none⟩)) (hc.old (v := .pointer (some ⟨_, _, none⟩)) rfl rfl rfl) ⟨[], ⟨rfl, rfl⟩, hc.st⟩) <| RunD.take (det _) tab173 10 rfl (fun f' L' w' hc => (hc.det (j := 3) rfl rfl rfl rfl).trans (congrArg Value.bool (decide_eq_true g174))) (fun f' L' w' hc => Op1.nilCheckP (hc.det (j := 8) rfl rfl rfl rfl) ⟨[], ⟨rfl, rfl⟩, hc.st⟩) <| RunD.take (det _) tab173 11 rfl (fun f' L' w' hc => (hc.det (j := 3) rfl rfl rfl rfl).trans (congrArg Value.bool (decide_eq_true g174))) (fun f' L' w' hc => Op1.fieldAddr fld69_1 (hc.det (j := 9) rfl rfl rfl rfl) ⟨[], ⟨rfl, rfl⟩, hc.st⟩) <| RunD.take (det _) tab173 12 rfl (fun f' L' w' hc => (hc.det (j := 3) rfl rfl rfl rfl).trans (congrArg Value.bool (decide_eq_true g174))) (fun f' L' w' hc => Op1.load1 (v := .int .i64 _) ty3 rfl (hc.det (j := 10) rfl rfl rfl rfl) (hc.st.cellL (List.mem_append_right _ (.head _)) rfl) ⟨[], ⟨rfl, rfl⟩, hc.st⟩) <| RunD.take (det _) tab173 13 rfl (fun f' L' w' hc => (hc.det (j := 3) rfl rfl rfl rfl).trans (congrArg Value.bool (decide_eq_true g174))) (fun f' L' w' hc => Op1.indexRs ty23 ty39 (Res.rmod_insts (hc.st.hD _ (.head _))) (hc.det (j := 7) rfl rfl rfl rfl) (hc.det (j := 11) rfl rfl rfl rfl) (by omega) (by omega) ⟨[], ⟨rfl, rfl⟩, hc.st⟩) <| RunD.take (det _) tab173 14 rfl (fun f' L' w' hc => (hc.det (j := 3) rfl rfl rfl rfl).trans (congrArg Value.bool (decide_eq_true g174))) (fun f' L' w' hc => Op1.loadA (vs := [.int .u16 _, .int .u32 _, .int .u32 _, .slice _ _ _]) ty39 rfl (hc.det (j := 12) rfl rfl rfl rfl) rfl (Res.rs2_cells (m := 4) (Res.rmod_insts (hc.st.hD _ (.head _))) _ (flat_seg (g := instC) (d := zeroI) instC_len _ _ (by omega))) ⟨[], ⟨rfl, rfl⟩, hc.st⟩) <| RunD.take (det _) tab173 15 rfl (fun f' L' w' hc => (hc.det (j := 3) rfl rfl rfl rfl).trans (congrArg Value.bool (decide_eq_true g174))) (fun f' L' w' hc => Op1.call1 (v1 := .agg #[.int .u16 _, .int .u32 _, .int .u32 _, .slice _ _ _]) ent51 rfl (hc.det (j := 13) rfl rfl rfl rfl) ((R5ly_part (l.getD (a1 + i) zeroI) (hop _ (getD_memD (by omega))) _ (Res.rmod_argsI (hc.st.hD _ (.head _)) (i := a1 + i) (by omega)) (hla _ (getD_memD (by omega)))).mono fun v w hp => ⟨[], ⟨hp.1, rfl⟩, hc.st.keepc hp.2⟩)) <| RunD.take (det _) tab173 16 rfl (fun f' L' w' hc => (hc.det (j := 3) rfl rfl rfl rfl).trans (congrArg Value.bool (decide_eq_true g174))) (fun f' L' w' hc => Op1.move (v := .int .u8 _) (hc.old (v := .int .u8 _) rfl rfl rfl) ⟨[], ⟨rfl, rfl⟩, hc.st⟩) <| RunD.fin followsMixed tab173 hst rfl (fun f175 w R178 hs176 hd177 hr179 hst => ?_)
       obtain ⟨h12_, r0⟩ := hd177 0 12 rfl rfl
       obtain ⟨h13_, r1⟩ := hd177 1 13 rfl rfl
       obtain ⟨h14_, r2⟩ := hd177 2 14 rfl rfl
       obtain ⟨h15_, r3⟩ := hd177 3 15 rfl rfl
       obtain ⟨h16_, r4⟩ := hd177 4 16 rfl rfl
       obtain ⟨h17_, r5⟩ := hd177 5 17 rfl rfl
       obtain ⟨h18_, r6⟩ := hd177 6 18 rfl rfl
       obtain ⟨h19_, r7⟩ := hd177 7 19 rfl rfl
       obtain ⟨h20_, r8⟩ := hd177 8 20 rfl rfl
       obtain ⟨h21_, r9⟩ := hd177 9 21 rfl rfl
       obtain ⟨h22_, r10⟩ := hd177 10 22 rfl rfl
       obtain ⟨h23_, r11⟩ := hd177 11 23 rfl rfl
       obtain ⟨h24_, r12⟩ := hd177 12 24 rfl rfl
       obtain ⟨h25_, r13⟩ := hd177 13 25 rfl rfl
       obtain ⟨h26_, r14⟩ := hd177 14 26 rfl rfl
       obtain ⟨h27_, r15⟩ := hd177 15 27 rfl rfl
       simp only [show List.range 16 = [0, 1, 2, 3, 4, 5, 6, 7, 8, 9, 10, 11, 12, 13, 14, 15] from rfl, List.flatMap_cons, List.flatMap_nil, List.map_cons, List.map_nil, r0, r1, r2, r3, r4, r5, r6, r7, r8, r9, r10, r11, r12, r13, r14, r15, List.nil_append, List.append_nil, List.cons_append] at hst
       refine RunL.slots (sl := [(0, .pointer (some ⟨_, _, none⟩)), (3, .int .u8 _), (4, .int .i64 _), (5, .int .u8 _), (15, .bool _), (26, .int .u8 _), (27, .int .u8 _)]) ⟨(hs176 0 rfl).trans rfl, (hs176 3 rfl).trans rfl, (hs176 4 rfl).trans rfl, (hs176 5 rfl).trans rfl, h15_, h26_, h27_, trivial⟩ ?_
       clear hs176 hd177 hr179 tab173
       refine TK (t := 15) rfl (congrArg Value.bool (decide_eq_true g174)) <| Op1.eql rfl rfl <| CN <| Op1.pickT (u := .bool _) (congrArg Value.bool (decide_eq_true g174)) rfl <| NL <| run_cond_dec rfl (fun g180 => ?_) (fun g180 => ?_)
       · skip
         have hpm := ptA_map l (a1 + i)
         have hlt := (top_nx (l := (l.map InstP.L)) (p := 1) (a := a1) (i := i) (by omega) (by omega)).1 ⟨g174, by rw [hpm]; exact g180⟩
         refine run_skip <| run_block <| SR <| MP rfl <| CN <| Op1.nilCheckP rfl <| CN <| Op1.fieldAddr fld69_1 rfl <| CN <| Op1.load1 (v := .int .i64 _) ty3 rfl rfl (hst.cellL (.head _) rfl) <| CN <| Op1.addN rfl rfl rfl (wrap_i64 (by omega) (by omega)) <| CN <| Op1.nilCheckP rfl <| CN <| Op1.fieldAddr fld69_1 rfl <| CN (SO (v := .int .i64 _) hst ty3 rfl rfl (.here) fun w hst => ?_)
         refine NL <| Run.forget [(0, .pointer (some ⟨_, _, none⟩)), (3, .int .u8 _), (4, .int .i64 _), (5, .int .u8 _)] ⟨rfl, rfl, rfl, rfl, trivial⟩ fun f => SR <| MC rfl <| CN <| Op1.eql rfl rfl <| NL <| run_cond_dec rfl (fun g181 => ?_) (fun g181 => ?_)
         · skip
           have htn : topN (l.map InstP.L) 1 a1 = 1 := by unfold topN; rw [if_pos rfl]; omega
           have he : ((a1 + i : Nat) : Int) + 1 = (a2 : Int) := by omega
           rw [he] at hst
           refine run_exit (id := 2) rfl ?_
           exact cut11 (()) _ w (hst) (trivial) ⟨rfl, rfl, rfl, rfl, trivial⟩ trivial
         exfalso
         exact g181 rfl
       have hpm := ptA_map l (a1 + i)
       have hge := (not_congr (top_nx (l := (l.map InstP.L)) (p := 1) (a := a1) (i := i) (by omega) (by omega))).1 (fun h => g180 (by rw [← hpm]; exact h.2))
       have htn : topN (l.map InstP.L) 1 a1 = 0 := by unfold topN; rw [if_pos rfl]; omega
       have he : a1 + i = a2 := by omega
       rw [he] at hst
       refine run_exit (id := 2) rfl ?_
       exact cut11 (()) _ w (hst) (trivial) ⟨rfl, rfl, rfl, rfl, trivial⟩ trivial
     refine RunD.omit tab173 5 rfl rfl (fun f' L' w' hc => (hc.det (j := 3) rfl rfl rfl rfl).trans (congrArg Value.bool (decide_eq_false g174))) <| RunD.omit tab173 6 rfl rfl (fun f' L' w' hc => (hc.det (j := 3) rfl rfl rfl rfl).trans (congrArg Value.bool (decide_eq_false g174))) <| RunD.omit tab173 7 rfl rfl (fun f' L' w' hc => (hc.det (j := 3) rfl rfl rfl rfl).trans (congrArg Value.bool (decide_eq_false g174))) <| RunD.omit tab173 8 rfl rfl (fun f' L' w' hc => (hc.det (j := 3) rfl rfl rfl rfl).trans (congrArg Value.bool (decide_eq_false g174))) <| RunD.omit tab173 9 rfl rfl (fun f' L' w' hc => (hc.det (j := 3) rfl rfl rfl rfl).trans (congrArg Value.bool (decide_eq_false g174))) <| RunD.omit tab173 10 rfl rfl (fun f' L' w' hc => (hc.det (j := 3) rfl rfl rfl rfl).trans (congrArg Value.bool (decide_eq_false g174))) <| RunD.omit tab173 11 rfl rfl (fun f' L' w' hc => (hc.det (j := 3) rfl rfl rfl rfl).trans (congrArg Value.bool (decide_eq_false g174))) <| RunD.omit tab173 12 rfl rfl (fun f' L' w' hc => (hc.det (j := 3) rfl rfl rfl rfl).trans (congrArg Value.bool (decide_eq_false g174))) <| RunD.omit tab173 13 rfl rfl (fun f' L' w' hc => (hc.det (j := 3) rfl rfl rfl rfl).trans (congrArg Value.bool (decide_eq_false g174))) <| RunD.omit tab173 14 rfl rfl (fun f' L' w' hc => (hc.det (j := 3) rfl rfl rfl rfl).trans (congrArg Value.bool (decide_eq_false g174))) <| RunD.omit tab173 15 rfl rfl (fun f' L' w' hc => (hc.det (j := 3) rfl rfl rfl rfl).trans (congrArg Value.bool (decide_eq_false g174))) <| RunD.omit tab173 16 rfl rfl (fun f' L' w' hc => (hc.det (j := 3) rfl rfl rfl rfl).trans (congrArg Value.bool (decide_eq_false g174))) <| RunD.fin followsMixed tab173 hst rfl (fun f182 w R185 hs183 hd184 hr186 hst => ?_)
     obtain ⟨h12_, r0⟩ := hd184 0 12 rfl rfl
     obtain ⟨h13_, r1⟩ := hd184 1 13 rfl rfl
     obtain ⟨h14_, r2⟩ := hd184 2 14 rfl rfl
     obtain ⟨h15_, r3⟩ := hd184 3 15 rfl rfl
     obtain ⟨h16_, r4⟩ := hd184 4 16 rfl rfl
     obtain ⟨h17_, r5⟩ := hd184 5 17 rfl rfl
     obtain ⟨h18_, r6⟩ := hd184 6 18 rfl rfl
     obtain ⟨h19_, r7⟩ := hd184 7 19 rfl rfl
     obtain ⟨h20_, r8⟩ := hd184 8 20 rfl rfl
     obtain ⟨h21_, r9⟩ := hd184 9 21 rfl rfl
     obtain ⟨h22_, r10⟩ := hd184 10 22 rfl rfl
     obtain ⟨h23_, r11⟩ := hd184 11 23 rfl rfl
     obtain ⟨h24_, r12⟩ := hd184 12 24 rfl rfl
     obtain ⟨h25_, r13⟩ := hd184 13 25 rfl rfl
     obtain ⟨h26_, r14⟩ := hd184 14 26 rfl rfl
     obtain ⟨h27_, r15⟩ := hd184 15 27 rfl rfl
     simp only [show List.range 16 = [0, 1, 2, 3, 4, 5, 6, 7, 8, 9, 10, 11, 12, 13, 14, 15] from rfl, List.flatMap_cons, List.flatMap_nil, List.map_cons, List.map_nil, r0, r1, r2, r3, r4, r5, r6, r7, r8, r9, r10, r11, r12, r13, r14, r15, List.nil_append, List.append_nil, List.cons_append] at hst
     refine RunL.slots (sl := [(0, .pointer (some ⟨_, _, none⟩)), (3, .int .u8 _), (4, .int .i64 _), (5, .int .u8 _), (15, .bool _), (26, _), (27, _)]) ⟨(hs183 0 rfl).trans rfl, (hs183 3 rfl).trans rfl, (hs183 4 rfl).trans rfl, (hs183 5 rfl).trans rfl, h15_, h26_, h27_, trivial⟩ ?_
     clear hs183 hd184 hr186 tab173
     refine OM (t := 15) rfl (congrArg Value.bool (decide_eq_false g174)) rfl <| CN <| Op1.pickF (u := .bool _) (congrArg Value.bool (decide_eq_false g174)) rfl <| NL ?_
     have hpm := ptA_map l (a1 + i)
     have hge := (not_congr (top_nx (l := (l.map InstP.L)) (p := 1) (a := a1) (i := i) (by omega) (by omega))).1 (fun h => g174 h.1)
     have htn : topN (l.map InstP.L) 1 a1 = 0 := by unfold topN; rw [if_pos rfl]; omega
     have he : a1 + i = a2 := by omega
     rw [he] at hst
     refine run_cond_false (congrArg Value.bool (rfl : false = _)) <| run_exit (id := 2) rfl ?_
     exact cut11 (()) _ w (hst) (trivial) ⟨rfl, rfl, rfl, rfl, trivial⟩ trivial
 · skip
   refine run_block <| run_loop <| Run.indW [(0, .pointer (some ⟨_, _, none⟩)), (3, .int .u8 _), (4, .int .i64 _), (5, .int .u8 _)] ⟨rfl, rfl, rfl, rfl, trivial⟩ (fun (i : Nat) => []) (fun (i : Nat) => [CutR 69 bq ao l.length cp ((0 : Nat) + i) [.int .i64 0, .int .i64 0, .int .i64 0, .int .i64 0, .int .i64 0, .int .i64 0, .int .i64 0, .int .i64 0, .int .i64 0, .int .i64 0, .int .i64 0, .int .i64 0, .int .i64 0, .int .i64 0, .int .i64 0, .int .i64 0, .int .i64 0, .int .i64 0, .int .i64 0, .int .i64 0, .slice none 0 0]]) (fun (i : Nat) => i ≤ topR (l.map InstP.L) 0 (0 : Nat)) (fun (i : Nat) => topR (l.map InstP.L) 0 (0 : Nat) - i) (0) hst (Nat.zero_le _) trivial ?_
   intro i f w hst hJ ih187
   have hti := topR_le (l := (l.map InstP.L)) (p := 0) (k := (0 : Nat)) (by omega)
   refine SQ <| SQ <| RunD.start [] hst (bs := [0, 1, 3, 7, 15, 31, 63, 127, 15, 271, 783, 1807, 4095, 8191, 16383, 15, 65535, 131071]) (ds := [some 12, some 13, some 14, some 15, some 16, some 17, some 18, some 19, some 20, some 21, some 22, some 23, some 24, some 25, some 26, some 27, some 28, some 29]) ⟨by kernel_rfl, by kernel_rfl, by kernel_rfl⟩ (fun tab188 => ?_)
   refine RunD.op (det _) tab188 1 (fun f' L' w' hc => Op1.move (v := .pointer (some ⟨_, _, none⟩)) (hc.old (v := .pointer (some ⟨_, _, none⟩)) rfl rfl rfl) ⟨[], ⟨rfl, rfl⟩, hc.st⟩) <| RunD.op (det _) tab188 2 (fun f' L' w' hc => Op1.call1 (v1 := .pointer (some ⟨_, _, none⟩)) ent40 rfl (hc.det (j := 0) rfl rfl rfl rfl) ((R5ly_next bq l ao cp ((0 : Nat) + i) [.int .i64 0, .int .i64 0, .int .i64 0, .int .i64 0, .int .i64 0, .int .i64 0, .int .i64 0, .int .i64 0, .int .i64 0, .int .i64 0, .int .i64 0, .int .i64 0, .int .i64 0, .int .i64 0, .int .i64 0, .int .i64 0, .int .i64 0, .int .i64 0, .int .i64 0, .int .i64 0, .slice none 0 0] _ (hc.st.hL _ (List.mem_append_right _ (.head _))) (hc.st.hD _ (.head _)) (by omega) hl hla hop).mono fun v w hp => ⟨[], ⟨hp.1, rfl⟩, hc.st.keepc hp.2⟩)) <| RunD.op (det _) tab188 3 (fun f' L' w' hc => Op1.eql (hc.det (j := 1) rfl rfl rfl rfl) rfl ⟨[], ⟨rfl, rfl⟩, hc.st⟩) <| RunD.op (det _) tab188 4 (fun f' L' w' hc => Op1.move (v := .bool _) (hc.det (j := 2) rfl rfl rfl rfl) ⟨[], ⟨rfl, rfl⟩, hc.st⟩) <| RunD.splitD (j := 3) rfl (fun g189 => ?_) (fun g189 => ?_)
   · skip
     have hin := nx_in g189
     refine RunD.take (det _) tab188 5 rfl (fun f' L' w' hc => (hc.det (j := 3) rfl rfl rfl rfl).trans (congrArg Value.bool (decide_eq_true g189))) (fun f' L' w' hc => Op1.move (v := .pointer (some ⟨_, _, none⟩)) (hc.old (v := .pointer (some ⟨_, _, none⟩)) rfl rfl rfl) ⟨[], ⟨rfl, rfl⟩, hc.st⟩) <| RunD.take (det _) tab188 6 rfl (fun f' L' w' hc => (hc.det (j := 3) rfl rfl rfl rfl).trans (congrArg Value.bool (decide_eq_true g189))) (fun f' L' w' hc => Op1.nilCheckP (hc.det (j := 4) rfl rfl rfl rfl) ⟨[], ⟨rfl, rfl⟩, hc.st⟩) <| RunD.take (det _) tab188 7 rfl (fun f' L' w' hc => (hc.det (j := 3) rfl rfl rfl rfl).trans (congrArg Value.bool (decide_eq_true g189))) (fun f' L' w' hc => Op1.fieldAddr fld69_0 (hc.det (j := 5) rfl rfl rfl rfl) ⟨[], ⟨rfl, rfl⟩, hc.st⟩) <| RunD.take (det _) tab188 8 rfl (fun f' L' w' hc => (hc.det (j := 3) rfl rfl rfl rfl).trans (congrArg Value.bool (decide_eq_true g189))) (fun f' L' w' hc => Op1.load1 (v := .slice _ _ _) ty23 rfl (hc.det (j := 6) rfl rfl rfl rfl) (hc.st.cellL (List.mem_append_right _ (.head _)) rfl) ⟨[], ⟨rfl, rfl⟩, hc.st⟩) <| RunD.take (det _) tab188 9 rfl (fun f' L' w' hc => (hc.det (j := 3) rfl rfl rfl rfl).trans (congrArg Value.bool (decide_eq_true g189))) (fun f' L' w' hc => Op1.move (v := .pointer (some ⟨_, _, none⟩)) (hc.old (v := .pointer (some ⟨_, _, none⟩)) rfl rfl rfl) ⟨[], ⟨rfl, rfl⟩, hc.st⟩) <| RunD.take (det _) tab188 10 rfl (fun f' L' w' hc => (hc.det (j := 3) rfl rfl rfl rfl).trans (congrArg Value.bool (decide_eq_true g189))) (fun f' L' w' hc => Op1.nilCheckP (hc.det (j := 8) rfl rfl rfl rfl) ⟨[], ⟨rfl, rfl⟩, hc.st⟩) <| RunD.take (det _) tab188 11 rfl (fun f' L' w' hc => (hc.det (j := 3) rfl rfl rfl rfl).trans (congrArg Value.bool (decide_eq_true g189))) (fun f' L' w' hc => Op1.fieldAddr fld69_1 (hc.det (j := 9) rfl rfl rfl rfl) ⟨[], ⟨rfl, rfl⟩, hc.st⟩) <| RunD.take (det _) tab188 12 rfl (fun f' L' w' hc => (hc.det (j := 3) rfl rfl rfl rfl).trans (congrArg Value.bool (decide_eq_true g189))) (fun f' L' w' hc => Op1.load1 (v := .int .i64 _) ty3 rfl (hc.det (j := 10) rfl rfl rfl rfl) (hc.st.cellL (List.mem_append_right _ (.head _)) rfl) ⟨[], ⟨rfl, rfl⟩, hc.st⟩) <| RunD.take (det _) tab188 13 rfl (fun f' L' w' hc => (hc.det (j := 3) rfl rfl rfl rfl).trans (congrArg Value.bool (decide_eq_true g189))) (fun f' L' w' hc => Op1.indexRs ty23 ty39 (Res.rmod_insts (hc.st.hD _ (.head _))) (hc.det (j := 7) rfl rfl rfl rfl) (hc.det (j := 11) rfl rfl rfl rfl) (by omega) (by omega) ⟨[], ⟨rfl, rfl⟩, hc.st⟩) <| RunD.take (det _) tab188 14 rfl (fun f' L' w' hc => (hc.det (j := 3) rfl rfl rfl rfl).trans (congrArg Value.bool (decide_eq_true g189))) (fun f' L' w' hc => Op1.loadA (vs := [.int .u16 _, .int .u32 _, .int .u32 _, .slice _ _ _]) ty39 rfl (hc.det (j := 12) rfl rfl rfl rfl) rfl (Res.rs2_cells (m := 4) (Res.rmod_insts (hc.st.hD _ (.head _))) _ (flat_seg (g := instC) (d := zeroI) instC_len _ _ (by omega))) ⟨[], ⟨rfl, rfl⟩, hc.st⟩) <| RunD.take (det _) tab188 15 rfl (fun f' L' w' hc => (hc.det (j := 3) rfl rfl rfl rfl).trans (congrArg Value.bool (decide_eq_true g189))) (fun f' L' w' hc => Op1.call1 (v1 := .agg #[.int .u16 _, .int .u32 _, .int .u32 _, .slice _ _ _]) ent51 rfl (hc.det (j := 13) rfl rfl rfl rfl) ((R5ly_part (l.getD ((0 : Nat) + i) zeroI) (hop _ (getD_memD (by omega))) _ (Res.rmod_argsI (hc.st.hD _ (.head _)) (i := (0 : Nat) + i) (by omega)) (hla _ (getD_memD (by omega)))).mono fun v w hp => ⟨[], ⟨hp.1, rfl⟩, hc.st.keepc hp.2⟩)) <| RunD.take (det _) tab188 16 rfl (fun f' L' w' hc => (hc.det (j := 3) rfl rfl rfl rfl).trans (congrArg Value.bool (decide_eq_true g189))) (fun f' L' w' hc => Op1.move (v := .int .u8 _) (hc.old (v := .int .u8 _) rfl rfl rfl) ⟨[], ⟨rfl, rfl⟩, hc.st⟩) <| RunD.fin followsMixed tab188 hst rfl (fun f190 w R193 hs191 hd192 hr194 hst => ?_)
     obtain ⟨h12_, r0⟩ := hd192 0 12 rfl rfl
     obtain ⟨h13_, r1⟩ := hd192 1 13 rfl rfl
     obtain ⟨h14_, r2⟩ := hd192 2 14 rfl rfl
     obtain ⟨h15_, r3⟩ := hd192 3 15 rfl rfl
     obtain ⟨h16_, r4⟩ := hd192 4 16 rfl rfl
     obtain ⟨h17_, r5⟩ := hd192 5 17 rfl rfl
     obtain ⟨h18_, r6⟩ := hd192 6 18 rfl rfl
     obtain ⟨h19_, r7⟩ := hd192 7 19 rfl rfl
     obtain ⟨h20_, r8⟩ := hd192 8 20 rfl rfl
     obtain ⟨h21_, r9⟩ := hd192 9 21 rfl rfl
     obtain ⟨h22_, r10⟩ := hd192 10 22 rfl rfl
     obtain ⟨h23_, r11⟩ := hd192 11 23 rfl rfl
     obtain ⟨h24_, r12⟩ := hd192 12 24 rfl rfl
     obtain ⟨h25_, r13⟩ := hd192 13 25 rfl rfl
     obtain ⟨h26_, r14⟩ := hd192 14 26 rfl rfl
     obtain ⟨h27_, r15⟩ := hd192 15 27 rfl rfl
     simp only [show List.range 16 = [0, 1, 2, 3, 4, 5, 6, 7, 8, 9, 10, 11, 12, 13, 14, 15] from rfl, List.flatMap_cons, List.flatMap_nil, List.map_cons, List.map_nil, r0, r1, r2, r3, r4, r5, r6, r7, r8, r9, r10, r11, r12, r13, r14, r15, List.nil_append, List.append_nil, List.cons_append] at hst
     refine RunL.slots (sl := [(0, .pointer (some ⟨_, _, none⟩)), (3, .int .u8 _), (4, .int .i64 _), (5, .int .u8 _), (15, .bool _), (26, .int .u8 _), (27, .int .u8 _)]) ⟨(hs191 0 rfl).trans rfl, (hs191 3 rfl).trans rfl, (hs191 4 rfl).trans rfl, (hs191 5 rfl).trans rfl, h15_, h26_, h27_, trivial⟩ ?_
     clear hs191 hd192 hr194 tab188
     refine TK (t := 15) rfl (congrArg Value.bool (decide_eq_true g189)) <| Op1.eql rfl rfl <| CN <| Op1.pickT (u := .bool _) (congrArg Value.bool (decide_eq_true g189)) rfl <| NL <| run_cond_dec rfl (fun g195 => ?_) (fun g195 => ?_)
     · skip
       have hpm := ptA_map l ((0 : Nat) + i)
       have hlt := (top_nx (l := (l.map InstP.L)) (p := 0) (a := (0 : Nat)) (i := i) (by omega) (by omega)).1 ⟨g189, by rw [hpm]; exact g195⟩
       refine run_skip <| run_block <| SR <| MP rfl <| CN <| Op1.nilCheckP rfl <| CN <| Op1.fieldAddr fld69_1 rfl <| CN <| Op1.load1 (v := .int .i64 _) ty3 rfl rfl (hst.cellL (.head _) rfl) <| CN <| Op1.addN rfl rfl rfl (wrap_i64 (by omega) (by omega)) <| CN <| Op1.nilCheckP rfl <| CN <| Op1.fieldAddr fld69_1 rfl <| CN (SO (v := .int .i64 _) hst ty3 rfl rfl (.here) fun w hst => ?_)
       refine NL <| Run.forget [(0, .pointer (some ⟨_, _, none⟩)), (3, .int .u8 _), (4, .int .i64 _), (5, .int .u8 _)] ⟨rfl, rfl, rfl, rfl, trivial⟩ fun f => SR <| MC rfl <| CN <| Op1.eql rfl rfl <| NL <| run_cond_dec rfl (fun g196 => ?_) (fun g196 => ?_)
       · skip
         exfalso
         exact absurd g196 (by decide)
       refine run_skip <| run_inBlock <| run_inLoop ?_
       exact ih187 (i + 1) _ w (by omega) hst (by omega) ⟨rfl, rfl, rfl, rfl, trivial⟩ trivial
     have hpm := ptA_map l ((0 : Nat) + i)
     have hge := (not_congr (top_nx (l := (l.map InstP.L)) (p := 0) (a := (0 : Nat)) (i := i) (by omega) (by omega))).1 (fun h => g195 (by rw [← hpm]; exact h.2))
     have htn : topN (l.map InstP.L) 0 (0 : Nat) = topR (l.map InstP.L) 0 (0 : Nat) := if_neg (by decide)
     have he : (0 : Nat) + i = a1 := by omega
     rw [he] at hst
     refine run_exit (id := 2) rfl ?_
     exact cut1 (()) _ w (hst) (trivial) ⟨rfl, rfl, rfl, rfl, trivial⟩ trivial
   refine RunD.omit tab188 5 rfl rfl (fun f' L' w' hc => (hc.det (j := 3) rfl rfl rfl rfl).trans (congrArg Value.bool (decide_eq_false g189))) <| RunD.omit tab188 6 rfl rfl (fun f' L' w' hc => (hc.det (j := 3) rfl rfl rfl rfl).trans (congrArg Value.bool (decide_eq_false g189))) <| RunD.omit tab188 7 rfl rfl (fun f' L' w' hc => (hc.det (j := 3) rfl rfl rfl rfl).trans (congrArg Value.bool (decide_eq_false g189))) <| RunD.omit tab188 8 rfl rfl (fun f' L' w' hc => (hc.det (j := 3) rfl rfl rfl rfl).trans (congrArg Value.bool (decide_eq_false g189))) <| RunD.omit tab188 9 rfl rfl (fun f' L' w' hc => (hc.det (j := 3) rfl rfl rfl rfl).trans (congrArg Value.bool (decide_eq_false g189))) <| RunD.omit tab188 10 rfl rfl (fun f' L' w' hc => (hc.det (j := 3) rfl rfl rfl rfl).trans (congrArg Value.bool (decide_eq_false g189))) <| RunD.omit tab188 11 rfl rfl (fun f' L' w' hc => (hc.det (j := 3) rfl rfl rfl rfl).trans (congrArg Value.bool (decide_eq_false g189))) <| RunD.omit tab188 12 rfl rfl (fun f' L' w' hc => (hc.det (j := 3) rfl rfl rfl rfl).trans (congrArg Value.bool (decide_eq_false g189))) <| RunD.omit tab188 13 rfl rfl (fun f' L' w' hc => (hc.det (j := 3) rfl rfl rfl rfl).trans (congrArg Value.bool (decide_eq_false g189))) <| RunD.omit tab188 14 rfl rfl (fun f' L' w' hc => (hc.det (j := 3) rfl rfl rfl rfl).trans (congrArg Value.bool (decide_eq_false g189))) <| RunD.omit tab188 15 rfl rfl (fun f' L' w' hc => (hc.det (j := 3) rfl rfl rfl rfl).trans (congrArg Value.bool (decide_eq_false g189))) <| RunD.omit tab188 16 rfl rfl (fun f' L' w' hc => (hc.det (j := 3) rfl rfl rfl rfl).trans (congrArg Value.bool (decide_eq_false g189))) <| RunD.fin followsMixed tab188 hst rfl (fun f197 w R200 hs198 hd199 hr201 hst => ?_)
   obtain ⟨h12_, r0⟩ := hd199 0 12 rfl rfl
   obtain ⟨h13_, r1⟩ := hd199 1 13 rfl rfl
   obtain ⟨h14_, r2⟩ := hd199 2 14 rfl rfl
   obtain ⟨h15_, r3⟩ := hd199 3 15 rfl rfl
   obtain ⟨h16_, r4⟩ := hd199 4 16 rfl rfl
   obtain ⟨h17_, r5⟩ := hd199 5 17 rfl rfl
   obtain ⟨h18_, r6⟩ := hd199 6 18 rfl rfl
   obtain ⟨h19_, r7⟩ := hd199 7 19 rfl rfl
   obtain ⟨h20_, r8⟩ := hd199 8 20 rfl rfl
   obtain ⟨h21_, r9⟩ := hd199 9 21 rfl rfl
   obtain ⟨h22_, r10⟩ := hd199 10 22 rfl rfl
   obtain ⟨h23_, r11⟩ := hd199 11 23 rfl rfl
   obtain ⟨h24_, r12⟩ := hd199 12 24 rfl rfl
   obtain ⟨h25_, r13⟩ := hd199 13 25 rfl rfl
   obtain ⟨h26_, r14⟩ := hd199 14 26 rfl rfl
   obtain ⟨h27_, r15⟩ := hd199 15 27 rfl rfl
   simp only [show List.range 16 = [0, 1, 2, 3, 4, 5, 6, 7, 8, 9, 10, 11, 12, 13, 14, 15] from rfl, List.flatMap_cons, List.flatMap_nil, List.map_cons, List.map_nil, r0, r1, r2, r3, r4, r5, r6, r7, r8, r9, r10, r11, r12, r13, r14, r15, List.nil_append, List.append_nil, List.cons_append] at hst
   refine RunL.slots (sl := [(0, .pointer (some ⟨_, _, none⟩)), (3, .int .u8 _), (4, .int .i64 _), (5, .int .u8 _), (15, .bool _), (26, _), (27, _)]) ⟨(hs198 0 rfl).trans rfl, (hs198 3 rfl).trans rfl, (hs198 4 rfl).trans rfl, (hs198 5 rfl).trans rfl, h15_, h26_, h27_, trivial⟩ ?_
   clear hs198 hd199 hr201 tab188
   refine OM (t := 15) rfl (congrArg Value.bool (decide_eq_false g189)) rfl <| CN <| Op1.pickF (u := .bool _) (congrArg Value.bool (decide_eq_false g189)) rfl <| NL ?_
   have hpm := ptA_map l ((0 : Nat) + i)
   have hge := (not_congr (top_nx (l := (l.map InstP.L)) (p := 0) (a := (0 : Nat)) (i := i) (by omega) (by omega))).1 (fun h => g189 h.1)
   have htn : topN (l.map InstP.L) 0 (0 : Nat) = topR (l.map InstP.L) 0 (0 : Nat) := if_neg (by decide)
   have he : (0 : Nat) + i = a1 := by omega
   rw [he] at hst
   refine run_cond_false (congrArg Value.bool (rfl : false = _)) <| run_exit (id := 2) rfl ?_
   exact cut1 (()) _ w (hst) (trivial) ⟨rfl, rfl, rfl, rfl, trivial⟩ trivial
end Go.SK
namespace Go.SK
open Go Go.Proofs
open Go.RowKit
end Go.SK
namespace Go.SK
open Go Go.Proofs
theorem ty56 : TyF Try.prog 56 (.struct (fieldsOf Try.prog 56)) 3 24 [.int .u32 0, .int .i64 0, .int .i64 0] := TyF.of (by kernel_rfl) (by kernel_rfl)
theorem stf56 : StructF Try.prog 56 [(0, 1), (1, 1), (2, 1)] := ⟨fieldsOf Try.prog 56, by kernel_rfl, fun w => by kernel_rfl⟩
theorem ent41 : Enters Try.prog 41 := ⟨Try.f41, _, Try.func41, by kernel_rfl, rfl⟩
theorem ent53 : Enters Try.prog 53 := ⟨Try.f53, _, Try.func53, by kernel_rfl, rfl⟩
theorem fld56_2 : FldF Try.prog 56 2 2 := FldF.of (n := 0) (by kernel_rfl)
theorem fld54_3 : FldF Try.prog 54 3 3 := FldF.of (n := 0) (by kernel_rfl)
theorem ty52 : TyF Try.prog 52 (.slice 56) 1 24 [.slice none 0 0] := TyF.of (by kernel_rfl) (by kernel_rfl)
end Go.SK
namespace Go.SK
open Go Go.Proofs
open Go.RowKit
theorem R5ly_block (bq : Nat) (l : List InstP) (ao : Option Addr) (cp : Nat) (k : Nat) (tail : List Value) (bf : Nat) (fu : FunL) (po : Option Addr) (pc : Nat) (bo : Option Addr) (bc : Nat) {fs : List FunL} (hkm : ∀ i ∈ (l.map InstP.L), i.Known) (hp : BlkPre (l.map InstP.L) k fs fu) (w : World) (hR : (Res.star [CutR 69 bq ao l.length cp k tail, FunR 54 bf fu po pc bo bc, Res.sl bo (FunL.blocks fu).length bc 56 3 ((FunL.blocks fu).flatMap bkC)]).holds w) (hA : (Res.rmod ao l).holds w) (hap : Apart (Res.star [CutR 69 bq ao l.length cp k tail, FunR 54 bf fu po pc bo bc, Res.sl bo (FunL.blocks fu).length bc 56 3 ((FunL.blocks fu).flatMap bkC)]) (Res.rmod ao l)) (hnb : fu.blocks.length ≤ k) (hk : k ≤ l.length) (hl : l.length ≤ 3000000000000) (hla : ∀ i ∈ l, i.args.length ≤ 9000000000000000000) (hop : ∀ i ∈ l, 0 ≤ i.op) : Ret Try.prog 42 #[.pointer (some ⟨bq, 0, none⟩), .pointer (some ⟨bf, 0, none⟩)] w (fun v w' => (∃ (e : Nat) (bo2 : Option Addr) (bc2 : Nat), k < e ∧ Done (l.map InstP.L) k e fs fu ∧ v = .bool true ∧ St w (Res.star [CutR 69 bq ao l.length cp k tail, FunR 54 bf fu po pc bo bc, Res.sl bo (FunL.blocks fu).length bc 56 3 ((FunL.blocks fu).flatMap bkC)]).foot [Res.star [CutR 69 bq ao l.length cp e tail, FunR 54 bf { fu with blocks := fu.blocks ++ [⟨(l.getD k zeroI).res, (k : Int), (e : Int)⟩] } po pc bo2 bc2, Res.sl bo2 (FunL.blocks { fu with blocks := fu.blocks ++ [⟨(l.getD k zeroI).res, (k : Int), (e : Int)⟩] }).length bc2 56 3 ((FunL.blocks { fu with blocks := fu.blocks ++ [⟨(l.getD k zeroI).res, (k : Int), (e : Int)⟩] }).flatMap bkC)]] [] w') ∨ (∃ e, Stuck (l.map InstP.L) e ∧ v = .bool false ∧ St w (Res.star [CutR 69 bq ao l.length cp k tail, FunR 54 bf fu po pc bo bc, Res.sl bo (FunL.blocks fu).length bc 56 3 ((FunL.blocks fu).flatMap bkC)]).foot [CutR 69 bq ao l.length cp e tail] [] w')) := by
 refine Ret.enter (args := [.pointer (some ⟨bq, 0, none⟩), .pointer (some ⟨bf, 0, none⟩)]) Try.func42 rfl rfl rfl ?_
 have hst : St w (Res.star [CutR 69 bq ao l.length cp k tail, FunR 54 bf fu po pc bo bc, Res.sl bo (FunL.blocks fu).length bc 56 3 ((FunL.blocks fu).flatMap bkC)]).foot [Res.star [CutR 69 bq ao l.length cp k tail, FunR 54 bf fu po pc bo bc, Res.sl bo (FunL.blocks fu).length bc 56 3 ((FunL.blocks fu).flatMap bkC)]] [Res.rmod ao l] w := St.enter1 hR (fun d hd => by cases hd with | head => exact hA | tail _ h => cases h) (fun d hd => by cases hd with | head => exact hap | tail _ h => cases h)
 replace hst : St _ _ [_, _, _] _ _ := hst.unpack
 have hL : (l.map InstP.L).length = l.length := List.length_map _
 obtain ⟨hZ, hA2, hlt, h6, h7, hN⟩ := blk_go hkm hp
 refine SR <| AB rfl <| NL <| SQ <| RunD.start [] hst (bs := [0, 1, 3, 7, 0, 16, 48, 112, 255, 511, 1023, 0, 2048, 6144, 14336, 32767, 0, 131071]) (ds := [some 6, some 7, some 8, some 9, some 10, some 11, some 12, some 13, some 14, some 15, some 16, some 17, some 18, some 19, some 20, some 21, some 5, none]) ⟨by kernel_rfl, by kernel_rfl, by kernel_rfl⟩ (fun tab1 => ?_)
 refine RunD.op (det _) tab1 1 (fun f' L' w' hc => Op1.move (v := .pointer (some ⟨_, _, none⟩)) (hc.old (v := .pointer (some ⟨_, _, none⟩)) rfl rfl rfl) ⟨[], ⟨rfl, rfl⟩, hc.st⟩) <| RunD.op (det _) tab1 2 (fun f' L' w' hc => Op1.nilCheckP (hc.det (j := 0) rfl rfl rfl rfl) ⟨[], ⟨rfl, rfl⟩, hc.st⟩) <| RunD.op (det _) tab1 3 (fun f' L' w' hc => Op1.fieldAddr fld69_0 (hc.det (j := 1) rfl rfl rfl rfl) ⟨[], ⟨rfl, rfl⟩, hc.st⟩) <| RunD.op (det _) tab1 4 (fun f' L' w' hc => Op1.load1 (v := .slice _ _ _) ty23 rfl (hc.det (j := 2) rfl rfl rfl rfl) (hc.st.cellL (List.mem_append_right _ (.head _)) rfl) ⟨[], ⟨rfl, rfl⟩, hc.st⟩) <| RunD.op (det _) tab1 5 (fun f' L' w' hc => Op1.move (v := .pointer (some ⟨_, _, none⟩)) (hc.old (v := .pointer (some ⟨_, _, none⟩)) rfl rfl rfl) ⟨[], ⟨rfl, rfl⟩, hc.st⟩) <| RunD.op (det _) tab1 6 (fun f' L' w' hc => Op1.nilCheckP (hc.det (j := 4) rfl rfl rfl rfl) ⟨[], ⟨rfl, rfl⟩, hc.st⟩) <| RunD.op (det _) tab1 7 (fun f' L' w' hc => Op1.fieldAddr fld69_1 (hc.det (j := 5) rfl rfl rfl rfl) ⟨[], ⟨rfl, rfl⟩, hc.st⟩) <| RunD.op (det _) tab1 8 (fun f' L' w' hc => Op1.load1 (v := .int .i64 _) ty3 rfl (hc.det (j := 6) rfl rfl rfl rfl) (hc.st.cellL (List.mem_append_right _ (.head _)) rfl) ⟨[], ⟨rfl, rfl⟩, hc.st⟩) <| RunD.op (det _) tab1 9 (fun f' L' w' hc => Op1.indexRs ty23 ty39 (Res.rmod_insts (hc.st.hD _ (.head _))) (hc.det (j := 3) rfl rfl rfl rfl) (hc.det (j := 7) rfl rfl rfl rfl) (by omega) (by omega) ⟨[], ⟨rfl, rfl⟩, hc.st⟩) <| RunD.op (det _) tab1 10 (fun f' L' w' hc => Op1.fieldAddr fld39_2 (hc.det (j := 8) rfl rfl rfl rfl) ⟨[], ⟨rfl, rfl⟩, hc.st⟩) <| RunD.op (det _) tab1 11 (fun f' L' w' hc => Op1.load1 (v := .int .u32 _) ty22 rfl (hc.det (j := 9) rfl rfl rfl rfl) (Res.rs2_cellF (Res.rmod_insts (hc.st.hD _ (.head _))) (flat_cell (g := instC) (d := zeroI) instC_len rfl (by omega))) ⟨[], ⟨rfl, rfl⟩, hc.st⟩) <| RunD.op (det _) tab1 12 (fun f' L' w' hc => Op1.move (v := .pointer (some ⟨_, _, none⟩)) (hc.old (v := .pointer (some ⟨_, _, none⟩)) rfl rfl rfl) ⟨[], ⟨rfl, rfl⟩, hc.st⟩) <| RunD.op (det _) tab1 13 (fun f' L' w' hc => Op1.nilCheckP (hc.det (j := 11) rfl rfl rfl rfl) ⟨[], ⟨rfl, rfl⟩, hc.st⟩) <| RunD.op (det _) tab1 14 (fun f' L' w' hc => Op1.fieldAddr fld69_1 (hc.det (j := 12) rfl rfl rfl rfl) ⟨[], ⟨rfl, rfl⟩, hc.st⟩) <| RunD.op (det _) tab1 15 (fun f' L' w' hc => Op1.load1 (v := .int .i64 _) ty3 rfl (hc.det (j := 13) rfl rfl rfl rfl) (hc.st.cellL (List.mem_append_right _ (.head _)) rfl) ⟨[], ⟨rfl, rfl⟩, hc.st⟩) ?_
 refine RunD.op (det _) tab1 16 (fun f' L' w' hc => Op1.buildStruct ty56 stf56 (.c (v := .int .u32 _) (hc.det (j := 10) rfl rfl rfl rfl) (h := (.c (v := .int .i64 _) (hc.det (j := 14) rfl rfl rfl rfl) (h := .nil)))) ⟨[], ⟨rfl, rfl⟩, hc.st⟩) ?_
 refine RunD.op (fun v rs => ∃ b, v = .pointer (some ⟨b, 0, none⟩) ∧ rs = [Res.row b 56 [.int .u32 0, .int .i64 0, .int .i64 0]]) tab1 17 (fun f' L' w' hc => Op1.alloc hc.st ty56 fun w b hst => ⟨[_], ⟨b, rfl, rfl⟩, hst⟩) <| RunD.fin followsMixed tab1 hst rfl (fun f2 w R5 hs3 hd4 hr6 hst => ?_)
 obtain ⟨h6_, r0⟩ := hd4 0 6 rfl rfl
 obtain ⟨h7_, r1⟩ := hd4 1 7 rfl rfl
 obtain ⟨h8_, r2⟩ := hd4 2 8 rfl rfl
 obtain ⟨h9_, r3⟩ := hd4 3 9 rfl rfl
 obtain ⟨h10_, r4⟩ := hd4 4 10 rfl rfl
 obtain ⟨h11_, r5⟩ := hd4 5 11 rfl rfl
 obtain ⟨h12_, r6⟩ := hd4 6 12 rfl rfl
 obtain ⟨h13_, r7⟩ := hd4 7 13 rfl rfl
 obtain ⟨h14_, r8⟩ := hd4 8 14 rfl rfl
 obtain ⟨h15_, r9⟩ := hd4 9 15 rfl rfl
 obtain ⟨h16_, r10⟩ := hd4 10 16 rfl rfl
 obtain ⟨h17_, r11⟩ := hd4 11 17 rfl rfl
 obtain ⟨h18_, r12⟩ := hd4 12 18 rfl rfl
 obtain ⟨h19_, r13⟩ := hd4 13 19 rfl rfl
 obtain ⟨h20_, r14⟩ := hd4 14 20 rfl rfl
 obtain ⟨h21_, r15⟩ := hd4 15 21 rfl rfl
 obtain ⟨b5, h5_, r16⟩ := hd4 16 5 rfl rfl
 simp only [show List.range 17 = [0, 1, 2, 3, 4, 5, 6, 7, 8, 9, 10, 11, 12, 13, 14, 15, 16] from rfl, List.flatMap_cons, List.flatMap_nil, List.map_cons, List.map_nil, r0, r1, r2, r3, r4, r5, r6, r7, r8, r9, r10, r11, r12, r13, r14, r15, r16, List.nil_append, List.append_nil, List.cons_append] at hst
 refine RunL.slots (sl := [(0, .pointer (some ⟨_, _, none⟩)), (1, .pointer (some ⟨_, _, none⟩)), (5, .pointer (some ⟨_, _, none⟩)), (21, .agg #[.int .u32 _, .int .i64 _, .int .i64 _])]) ⟨(hs3 0 rfl).trans rfl, (hs3 1 rfl).trans rfl, h5_, h21_, trivial⟩ ?_
 clear hs3 hd4 hr6 tab1
 refine CN (SO (v := .agg #[.int .u32 _, .int .i64 _, .int .i64 _]) hst ty56 rfl rfl (.here) fun w hst => ?_)
 refine NSR <| MP rfl <| CN <| Op1.nilCheckP rfl <| CN <| Op1.fieldAddr fld69_1 rfl <| CN <| Op1.load1 (v := .int .i64 _) ty3 rfl rfl (hst.cellL (.tail _ (.head _)) rfl) <| CN <| Op1.addN rfl rfl rfl (wrap_i64 (by omega) (by omega)) <| CN <| Op1.nilCheckP rfl <| CN <| Op1.fieldAddr fld69_1 rfl <| CN (SO (v := .int .i64 _) hst ty3 rfl rfl (.there (.here)) fun w hst => ?_)
 refine NL <| Run.forget [(0, .pointer (some ⟨_, _, none⟩)), (1, .pointer (some ⟨_, _, none⟩)), (5, .pointer (some ⟨_, _, none⟩))] ⟨rfl, rfl, rfl, trivial⟩ fun f => SQ ?_
 replace hst := hst.pick (.cons (.there (.here)) (.cons (.here) (.cons (.here) (.cons (.here) .nil))))
 refine Run.cutW (L1 := [_]) [(0, .pointer (some ⟨_, _, none⟩)), (1, .pointer (some ⟨_, _, none⟩)), (5, .pointer (some ⟨_, _, none⟩))] hst ⟨rfl, rfl, rfl, trivial⟩ (fun (_u : Unit) => []) (fun (_u : Unit) => [CutR 69 bq ao l.length cp ((blkA (l.map InstP.L) k fu)) tail]) (fun (_u : Unit) => True) (fun _u f w hst hJ8 => ?_) (fun cut7 => ?_)
 · skip
   refine SR <| MP rfl ?_
   replace hst := hst.pick (.cons (.here) (.cons (.here) (.cons (.here) (.cons (.here) .nil))))
   refine CN (Op1.call2 (v1 := .pointer (some ⟨_, _, none⟩)) (v2 := .int .i64 _) ent41 rfl rfl rfl ((R5ly_row bq l ao cp (blkA (l.map InstP.L) k fu) tail 0 (by decide) _ (hst.hL _ (.head _)) (hst.hD _ (.head _)) (hst.sepD _ (.head _) _ (.head _)) (by omega) hl hla hop).mono fun v w hp => ?_))
   obtain ⟨ro, rc, rfl, hp⟩ := hp
   replace hst : St _ _ (CutR 69 bq ao l.length cp (blkZ (l.map InstP.L) k fu) tail :: _ :: _) _ _ := hst.call1 hp
   clear hp
   refine NL <| SQ <| SR <| MP rfl <| CN <| Op1.call1 (v1 := .pointer (some ⟨_, _, none⟩)) ent40 rfl rfl <| Ret.det (R5ly_next bq l ao cp (blkZ (l.map InstP.L) k fu) tail _ (hst.hL _ (.head _)) (hst.hD _ (.head _)) (by omega) hl hla hop) hst fun w hst => NL <| run_block <| SQ <| run_block <| SQ <| run_block <| SQ <| SQ <| SQ ?_
   refine RG <| CN <| Op1.eql rfl rfl <| AB rfl <| NL <| run_cond_dec rfl (fun g10 => ?_) (fun g10 => ?_)
   · skip
     have hc6 : nxF (l.map InstP.L) (blkZ (l.map InstP.L) k fu) = 6 := g10
     have hz6 := nx_in hc6
     refine run_exit (id := 1) rfl <| SR <| MP rfl <| CN <| Op1.nilCheckP rfl <| CN <| Op1.fieldAddr fld69_1 rfl <| CN <| Op1.load1 (v := .int .i64 _) ty3 rfl rfl (hst.cellL (.head _) rfl) <| CN <| Op1.addN rfl rfl rfl (wrap_i64 (by omega) (by omega)) <| CN <| Op1.nilCheckP rfl <| CN <| Op1.fieldAddr fld69_1 rfl <| CN (SO (v := .int .i64 _) hst ty3 rfl rfl (.here) fun w hst => ?_)
     refine NL <| SQ <| RunD.start [] hst (bs := [0, 1, 3, 7, 15, 31, 63, 127, 15, 271, 783, 1807, 3855, 8191, 16383, 32767, 15, 65551, 196623, 458767, 15, 1048591, 3145743, 7340047, 16711695, 33488911, 67043343, 134217727, 268435455, 536870911]) (ds := [some 54, some 55, some 56, some 57, some 58, some 59, some 60, some 61, some 62, some 63, some 64, some 65, some 66, some 67, some 68, some 69, some 70, some 71, some 72, some 73, some 74, some 75, some 76, some 77, some 78, some 79, some 80, some 81, some 82, some 83]) ⟨by kernel_rfl, by kernel_rfl, by kernel_rfl⟩ (fun tab11 => ?_)
     refine RunD.op (det _) tab11 1 (fun f' L' w' hc => Op1.move (v := .pointer (some ⟨_, _, none⟩)) (hc.old (v := .pointer (some ⟨_, _, none⟩)) rfl rfl rfl) ⟨[], ⟨rfl, rfl⟩, hc.st⟩) <| RunD.op (det _) tab11 2 (fun f' L' w' hc => Op1.call1 (v1 := .pointer (some ⟨_, _, none⟩)) ent40 rfl (hc.det (j := 0) rfl rfl rfl rfl) ((R5ly_next bq l ao cp ((blkZ (l.map InstP.L) k fu) + 1) tail _ (hc.st.hL _ (List.mem_append_right _ (.head _))) (hc.st.hD _ (.head _)) (by omega) hl hla hop).mono fun v w hp => ⟨[], ⟨hp.1, rfl⟩, hc.st.keepc hp.2⟩)) <| RunD.op (det _) tab11 3 (fun f' L' w' hc => Op1.neq (hc.det (j := 1) rfl rfl rfl rfl) rfl ⟨[], ⟨rfl, rfl⟩, hc.st⟩) <| RunD.op (det _) tab11 4 (fun f' L' w' hc => Op1.move (v := .bool _) (hc.det (j := 2) rfl rfl rfl rfl) ⟨[], ⟨rfl, rfl⟩, hc.st⟩) <| RunD.splitD (j := 3) rfl (fun g12 => ?_) (fun g12 => ?_)
     · skip
       refine RunD.omit tab11 5 rfl rfl (fun f' L' w' hc => (hc.det (j := 3) rfl rfl rfl rfl).trans (congrArg Value.bool (decide_eq_true g12))) <| RunD.omit tab11 6 rfl rfl (fun f' L' w' hc => (hc.det (j := 3) rfl rfl rfl rfl).trans (congrArg Value.bool (decide_eq_true g12))) <| RunD.omit tab11 7 rfl rfl (fun f' L' w' hc => (hc.det (j := 3) rfl rfl rfl rfl).trans (congrArg Value.bool (decide_eq_true g12))) <| RunD.omit tab11 8 rfl rfl (fun f' L' w' hc => (hc.det (j := 3) rfl rfl rfl rfl).trans (congrArg Value.bool (decide_eq_true g12))) <| RunD.omit tab11 9 rfl rfl (fun f' L' w' hc => (hc.det (j := 3) rfl rfl rfl rfl).trans (congrArg Value.bool (decide_eq_true g12))) <| RunD.omit tab11 10 rfl rfl (fun f' L' w' hc => (hc.det (j := 3) rfl rfl rfl rfl).trans (congrArg Value.bool (decide_eq_true g12))) <| RunD.omit tab11 11 rfl rfl (fun f' L' w' hc => (hc.det (j := 3) rfl rfl rfl rfl).trans (congrArg Value.bool (decide_eq_true g12))) <| RunD.omit tab11 12 rfl rfl (fun f' L' w' hc => (hc.det (j := 3) rfl rfl rfl rfl).trans (congrArg Value.bool (decide_eq_true g12))) <| RunD.omit tab11 13 rfl rfl (fun f' L' w' hc => (hc.det (j := 3) rfl rfl rfl rfl).trans (congrArg Value.bool (decide_eq_true g12))) <| RunD.omit tab11 14 rfl rfl (fun f' L' w' hc => (hc.det (j := 3) rfl rfl rfl rfl).trans (congrArg Value.bool (decide_eq_true g12))) <| RunD.omit tab11 15 rfl rfl (fun f' L' w' hc => (hc.det (j := 3) rfl rfl rfl rfl).trans (congrArg Value.bool (decide_eq_true g12))) <| RunD.omit tab11 16 rfl rfl (fun f' L' w' hc => (hc.det (j := 3) rfl rfl rfl rfl).trans (congrArg Value.bool (decide_eq_true g12))) <| RunD.omit tab11 17 rfl rfl (fun f' L' w' hc => (hc.det (j := 3) rfl rfl rfl rfl).trans (congrArg Value.bool (decide_eq_true g12))) <| RunD.omit tab11 18 rfl rfl (fun f' L' w' hc => (hc.det (j := 3) rfl rfl rfl rfl).trans (congrArg Value.bool (decide_eq_true g12))) <| RunD.omit tab11 19 rfl rfl (fun f' L' w' hc => (hc.det (j := 3) rfl rfl rfl rfl).trans (congrArg Value.bool (decide_eq_true g12))) ?_
       refine RunD.omit tab11 20 rfl rfl (fun f' L' w' hc => (hc.det (j := 3) rfl rfl rfl rfl).trans (congrArg Value.bool (decide_eq_true g12))) <| RunD.omit tab11 21 rfl rfl (fun f' L' w' hc => (hc.det (j := 3) rfl rfl rfl rfl).trans (congrArg Value.bool (decide_eq_true g12))) <| RunD.omit tab11 22 rfl rfl (fun f' L' w' hc => (hc.det (j := 3) rfl rfl rfl rfl).trans (congrArg Value.bool (decide_eq_true g12))) <| RunD.omit tab11 23 rfl rfl (fun f' L' w' hc => (hc.det (j := 3) rfl rfl rfl rfl).trans (congrArg Value.bool (decide_eq_true g12))) <| RunD.omit tab11 24 rfl rfl (fun f' L' w' hc => (hc.det (j := 3) rfl rfl rfl rfl).trans (congrArg Value.bool (decide_eq_true g12))) <| RunD.omit tab11 25 rfl rfl (fun f' L' w' hc => (hc.det (j := 3) rfl rfl rfl rfl).trans (congrArg Value.bool (decide_eq_true g12))) <| RunD.omit tab11 26 rfl rfl (fun f' L' w' hc => (hc.det (j := 3) rfl rfl rfl rfl).trans (congrArg Value.bool (decide_eq_true g12))) <| RunD.omit tab11 27 rfl rfl (fun f' L' w' hc => (hc.det (j := 3) rfl rfl rfl rfl).trans (congrArg Value.bool (decide_eq_true g12))) <| RunD.fin followsMixed tab11 hst rfl (fun f13 w R16 hs14 hd15 hr17 hst => ?_)
       obtain ⟨h54_, r0⟩ := hd15 0 54 rfl rfl
       obtain ⟨h55_, r1⟩ := hd15 1 55 rfl rfl
       obtain ⟨h56_, r2⟩ := hd15 2 56 rfl rfl
       obtain ⟨h57_, r3⟩ := hd15 3 57 rfl rfl
       obtain ⟨h58_, r4⟩ := hd15 4 58 rfl rfl
       obtain ⟨h59_, r5⟩ := hd15 5 59 rfl rfl
       obtain ⟨h60_, r6⟩ := hd15 6 60 rfl rfl
       obtain ⟨h61_, r7⟩ := hd15 7 61 rfl rfl
       obtain ⟨h62_, r8⟩ := hd15 8 62 rfl rfl
       obtain ⟨h63_, r9⟩ := hd15 9 63 rfl rfl
       obtain ⟨h64_, r10⟩ := hd15 10 64 rfl rfl
       obtain ⟨h65_, r11⟩ := hd15 11 65 rfl rfl
       obtain ⟨h66_, r12⟩ := hd15 12 66 rfl rfl
       obtain ⟨h67_, r13⟩ := hd15 13 67 rfl rfl
       obtain ⟨h68_, r14⟩ := hd15 14 68 rfl rfl
       obtain ⟨h69_, r15⟩ := hd15 15 69 rfl rfl
       obtain ⟨h70_, r16⟩ := hd15 16 70 rfl rfl
       obtain ⟨h71_, r17⟩ := hd15 17 71 rfl rfl
       obtain ⟨h72_, r18⟩ := hd15 18 72 rfl rfl
       obtain ⟨h73_, r19⟩ := hd15 19 73 rfl rfl
       obtain ⟨h74_, r20⟩ := hd15 20 74 rfl rfl
       obtain ⟨h75_, r21⟩ := hd15 21 75 rfl rfl
       obtain ⟨h76_, r22⟩ := hd15 22 76 rfl rfl
       obtain ⟨h77_, r23⟩ := hd15 23 77 rfl rfl
       obtain ⟨h78_, r24⟩ := hd15 24 78 rfl rfl
       obtain ⟨h79_, r25⟩ := hd15 25 79 rfl rfl
       obtain ⟨h80_, r26⟩ := hd15 26 80 rfl rfl
       simp only [show List.range 27 = [0, 1, 2, 3, 4, 5, 6, 7, 8, 9, 10, 11, 12, 13, 14, 15, 16, 17, 18, 19, 20, 21, 22, 23, 24, 25, 26] from rfl, List.flatMap_cons, List.flatMap_nil, List.map_cons, List.map_nil, r0, r1, r2, r3, r4, r5, r6, r7, r8, r9, r10, r11, r12, r13, r14, r15, r16, r17, r18, r19, r20, r21, r22, r23, r24, r25, r26, List.nil_append, List.append_nil, List.cons_append] at hst
       refine RunL.slots (sl := [(0, .pointer (some ⟨_, _, none⟩)), (1, .pointer (some ⟨_, _, none⟩)), (5, .pointer (some ⟨_, _, none⟩)), (57, .bool _), (69, _), (80, _)]) ⟨(hs14 0 rfl).trans rfl, (hs14 1 rfl).trans rfl, (hs14 5 rfl).trans rfl, h57_, h69_, h80_, trivial⟩ ?_
       clear hs14 hd15 hr17 tab11
       refine OM (t := 57) rfl (congrArg Value.bool (decide_eq_true g12)) rfl <| OM (t := 57) rfl (congrArg Value.bool (decide_eq_true g12)) rfl <| CN <| Op1.pickT (u := .bool _) (congrArg Value.bool (decide_eq_true g12)) rfl <| NL ?_
       have ho0 : opA (l.map InstP.L) (blkZ (l.map InstP.L) k fu) = (l.getD ((((blkZ (l.map InstP.L) k fu) + 1 : Nat) : Int) - 1).toNat zeroI).op := by rw [opA_map, show ((((blkZ (l.map InstP.L) k fu) + 1 : Nat) : Int) - 1).toNat = (blkZ (l.map InstP.L) k fu) by omega]
       have ho1 : opA (l.map InstP.L) ((blkZ (l.map InstP.L) k fu) + 1) = (l.getD (((blkZ (l.map InstP.L) k fu) + 1 : Nat) : Int).toNat zeroI).op := opA_map _ _
       have hst1 := (h6 hc6).2 (fun e => g12 e.1)
       refine run_cond_true (congrArg Value.bool (rfl : true = _)) <| SR <| AB rfl <| NL <| run_ret1 Try.func42 rfl (TP (v := .bool _) rfl) ?_
       replace hst := hst.pick (.cons (.here) .nil)
       exact .inr ⟨_, hst1, rfl, hst.noD⟩
     have hin1 := nx_in (Classical.not_not.1 g12)
     refine RunD.take (det _) tab11 5 rfl (fun f' L' w' hc => (hc.det (j := 3) rfl rfl rfl rfl).trans (congrArg Value.bool (decide_eq_false g12))) (fun f' L' w' hc => Op1.move (v := .pointer (some ⟨_, _, none⟩)) (hc.old (v := .pointer (some ⟨_, _, none⟩)) rfl rfl rfl) ⟨[], ⟨rfl, rfl⟩, hc.st⟩) <| RunD.take (det _) tab11 6 rfl (fun f' L' w' hc => (hc.det (j := 3) rfl rfl rfl rfl).trans (congrArg Value.bool (decide_eq_false g12))) (fun f' L' w' hc => Op1.nilCheckP (hc.det (j := 4) rfl rfl rfl rfl) ⟨[], ⟨rfl, rfl⟩, hc.st⟩) <| RunD.take (det _) tab11 7 rfl (fun f' L' w' hc => (hc.det (j := 3) rfl rfl rfl rfl).trans (congrArg Value.bool (decide_eq_false g12))) (fun f' L' w' hc => Op1.fieldAddr fld69_0 (hc.det (j := 5) rfl rfl rfl rfl) ⟨[], ⟨rfl, rfl⟩, hc.st⟩) <| RunD.take (det _) tab11 8 rfl (fun f' L' w' hc => (hc.det (j := 3) rfl rfl rfl rfl).trans (congrArg Value.bool (decide_eq_false g12))) (fun f' L' w' hc => Op1.load1 (v := .slice _ _ _) ty23 rfl (hc.det (j := 6) rfl rfl rfl rfl) (hc.st.cellL (List.mem_append_right _ (.head _)) rfl) ⟨[], ⟨rfl, rfl⟩, hc.st⟩) <| RunD.take (det _) tab11 9 rfl (fun f' L' w' hc => (hc.det (j := 3) rfl rfl rfl rfl).trans (congrArg Value.bool (decide_eq_false g12))) (fun f' L' w' hc => Op1.move (v := .pointer (some ⟨_, _, none⟩)) (hc.old (v := .pointer (some ⟨_, _, none⟩)) rfl rfl rfl) ⟨[], ⟨rfl, rfl⟩, hc.st⟩) <| RunD.take (det _) tab11 10 rfl (fun f' L' w' hc => (hc.det (j := 3) rfl rfl rfl rfl).trans (congrArg Value.bool (decide_eq_false g12))) (fun f' L' w' hc => Op1.nilCheckP (hc.det (j := 8) rfl rfl rfl rfl) ⟨[], ⟨rfl, rfl⟩, hc.st⟩) <| RunD.take (det _) tab11 11 rfl (fun f' L' w' hc => (hc.det (j := 3) rfl rfl rfl rfl).trans (congrArg Value.bool (decide_eq_false g12))) (fun f' L' w' hc => Op1.fieldAddr fld69_1 (hc.det (j := 9) rfl rfl rfl rfl) ⟨[], ⟨rfl, rfl⟩, hc.st⟩) <| RunD.take (det _) tab11 12 rfl (fun f' L' w' hc => (hc.det (j := 3) rfl rfl rfl rfl).trans (congrArg Value.bool (decide_eq_false g12))) (fun f' L' w' hc => Op1.load1 (v := .int .i64 _) ty3 rfl (hc.det (j := 10) rfl rfl rfl rfl) (hc.st.cellL (List.mem_append_right _ (.head _)) rfl) ⟨[], ⟨rfl, rfl⟩, hc.st⟩) <| RunD.take (det _) tab11 13 rfl (fun f' L' w' hc => (hc.det (j := 3) rfl rfl rfl rfl).trans (congrArg Value.bool (decide_eq_false g12))) (fun f' L' w' hc => Op1.subN (hc.det (j := 11) rfl rfl rfl rfl) rfl rfl (wrap_i64 (by omega) (by omega)) ⟨[], ⟨rfl, rfl⟩, hc.st⟩) <| RunD.take (det _) tab11 14 rfl (fun f' L' w' hc => (hc.det (j := 3) rfl rfl rfl rfl).trans (congrArg Value.bool (decide_eq_false g12))) (fun f' L' w' hc => Op1.indexRs ty23 ty39 (Res.rmod_insts (hc.st.hD _ (.head _))) (hc.det (j := 7) rfl rfl rfl rfl) (hc.det (j := 12) rfl rfl rfl rfl) (by omega) (by omega) ⟨[], ⟨rfl, rfl⟩, hc.st⟩) <| RunD.take (det _) tab11 15 rfl (fun f' L' w' hc => (hc.det (j := 3) rfl rfl rfl rfl).trans (congrArg Value.bool (decide_eq_false g12))) (fun f' L' w' hc => Op1.fieldAddr fld39_0 (hc.det (j := 13) rfl rfl rfl rfl) ⟨[], ⟨rfl, rfl⟩, hc.st⟩) <| RunD.take (det _) tab11 16 rfl (fun f' L' w' hc => (hc.det (j := 3) rfl rfl rfl rfl).trans (congrArg Value.bool (decide_eq_false g12))) (fun f' L' w' hc => Op1.load1 (v := .int .u16 _) ty33 rfl (hc.det (j := 14) rfl rfl rfl rfl) (Res.rs2_cellF (Res.rmod_insts (hc.st.hD _ (.head _))) (flat_cell (g := instC) (d := zeroI) instC_len rfl (by omega))) ⟨[], ⟨rfl, rfl⟩, hc.st⟩) <| RunD.take (det _) tab11 17 rfl (fun f' L' w' hc => (hc.det (j := 3) rfl rfl rfl rfl).trans (congrArg Value.bool (decide_eq_false g12))) (fun f' L' w' hc => Op1.move (v := .pointer (some ⟨_, _, none⟩)) (hc.old (v := .pointer (some ⟨_, _, none⟩)) rfl rfl rfl) ⟨[], ⟨rfl, rfl⟩, hc.st⟩) <| RunD.take (det _) tab11 18 rfl (fun f' L' w' hc => (hc.det (j := 3) rfl rfl rfl rfl).trans (congrArg Value.bool (decide_eq_false g12))) (fun f' L' w' hc => Op1.nilCheckP (hc.det (j := 16) rfl rfl rfl rfl) ⟨[], ⟨rfl, rfl⟩, hc.st⟩) <| RunD.take (det _) tab11 19 rfl (fun f' L' w' hc => (hc.det (j := 3) rfl rfl rfl rfl).trans (congrArg Value.bool (decide_eq_false g12))) (fun f' L' w' hc => Op1.fieldAddr fld69_0 (hc.det (j := 17) rfl rfl rfl rfl) ⟨[], ⟨rfl, rfl⟩, hc.st⟩) ?_
     refine RunD.take (det _) tab11 20 rfl (fun f' L' w' hc => (hc.det (j := 3) rfl rfl rfl rfl).trans (congrArg Value.bool (decide_eq_false g12))) (fun f' L' w' hc => Op1.load1 (v := .slice _ _ _) ty23 rfl (hc.det (j := 18) rfl rfl rfl rfl) (hc.st.cellL (List.mem_append_right _ (.head _)) rfl) ⟨[], ⟨rfl, rfl⟩, hc.st⟩) <| RunD.take (det _) tab11 21 rfl (fun f' L' w' hc => (hc.det (j := 3) rfl rfl rfl rfl).trans (congrArg Value.bool (decide_eq_false g12))) (fun f' L' w' hc => Op1.move (v := .pointer (some ⟨_, _, none⟩)) (hc.old (v := .pointer (some ⟨_, _, none⟩)) rfl rfl rfl) ⟨[], ⟨rfl, rfl⟩, hc.st⟩) <| RunD.take (det _) tab11 22 rfl (fun f' L' w' hc => (hc.det (j := 3) rfl rfl rfl rfl).trans (congrArg Value.bool (decide_eq_false g12))) (fun f' L' w' hc => Op1.nilCheckP (hc.det (j := 20) rfl rfl rfl rfl) ⟨[], ⟨rfl, rfl⟩, hc.st⟩) <| RunD.take (det _) tab11 23 rfl (fun f' L' w' hc => (hc.det (j := 3) rfl rfl rfl rfl).trans (congrArg Value.bool (decide_eq_false g12))) (fun f' L' w' hc => Op1.fieldAddr fld69_1 (hc.det (j := 21) rfl rfl rfl rfl) ⟨[], ⟨rfl, rfl⟩, hc.st⟩) <| RunD.take (det _) tab11 24 rfl (fun f' L' w' hc => (hc.det (j := 3) rfl rfl rfl rfl).trans (congrArg Value.bool (decide_eq_false g12))) (fun f' L' w' hc => Op1.load1 (v := .int .i64 _) ty3 rfl (hc.det (j := 22) rfl rfl rfl rfl) (hc.st.cellL (List.mem_append_right _ (.head _)) rfl) ⟨[], ⟨rfl, rfl⟩, hc.st⟩) <| RunD.take (det _) tab11 25 rfl (fun f' L' w' hc => (hc.det (j := 3) rfl rfl rfl rfl).trans (congrArg Value.bool (decide_eq_false g12))) (fun f' L' w' hc => Op1.indexRs ty23 ty39 (Res.rmod_insts (hc.st.hD _ (.head _))) (hc.det (j := 19) rfl rfl rfl rfl) (hc.det (j := 23) rfl rfl rfl rfl) (by omega) (by omega) ⟨[], ⟨rfl, rfl⟩, hc.st⟩) <| RunD.take (det _) tab11 26 rfl (fun f' L' w' hc => (hc.det (j := 3) rfl rfl rfl rfl).trans (congrArg Value.bool (decide_eq_false g12))) (fun f' L' w' hc => Op1.fieldAddr fld39_0 (hc.det (j := 24) rfl rfl rfl rfl) ⟨[], ⟨rfl, rfl⟩, hc.st⟩) <| RunD.take (det _) tab11 27 rfl (fun f' L' w' hc => (hc.det (j := 3) rfl rfl rfl rfl).trans (congrArg Value.bool (decide_eq_false g12))) (fun f' L' w' hc => Op1.load1 (v := .int .u16 _) ty33 rfl (hc.det (j := 25) rfl rfl rfl rfl) (Res.rs2_cellF (Res.rmod_insts (hc.st.hD _ (.head _))) (flat_cell (g := instC) (d := zeroI) instC_len rfl (by omega))) ⟨[], ⟨rfl, rfl⟩, hc.st⟩) <| RunD.fin followsMixed tab11 hst rfl (fun f18 w R21 hs19 hd20 hr22 hst => ?_)
     obtain ⟨h54_, r0⟩ := hd20 0 54 rfl rfl
     obtain ⟨h55_, r1⟩ := hd20 1 55 rfl rfl
     obtain ⟨h56_, r2⟩ := hd20 2 56 rfl rfl
     obtain ⟨h57_, r3⟩ := hd20 3 57 rfl rfl
     obtain ⟨h58_, r4⟩ := hd20 4 58 rfl rfl
     obtain ⟨h59_, r5⟩ := hd20 5 59 rfl rfl
     obtain ⟨h60_, r6⟩ := hd20 6 60 rfl rfl
     obtain ⟨h61_, r7⟩ := hd20 7 61 rfl rfl
     obtain ⟨h62_, r8⟩ := hd20 8 62 rfl rfl
     obtain ⟨h63_, r9⟩ := hd20 9 63 rfl rfl
     obtain ⟨h64_, r10⟩ := hd20 10 64 rfl rfl
     obtain ⟨h65_, r11⟩ := hd20 11 65 rfl rfl
     obtain ⟨h66_, r12⟩ := hd20 12 66 rfl rfl
     obtain ⟨h67_, r13⟩ := hd20 13 67 rfl rfl
     obtain ⟨h68_, r14⟩ := hd20 14 68 rfl rfl
     obtain ⟨h69_, r15⟩ := hd20 15 69 rfl rfl
     obtain ⟨h70_, r16⟩ := hd20 16 70 rfl rfl
     obtain ⟨h71_, r17⟩ := hd20 17 71 rfl rfl
     obtain ⟨h72_, r18⟩ := hd20 18 72 rfl rfl
     obtain ⟨h73_, r19⟩ := hd20 19 73 rfl rfl
     obtain ⟨h74_, r20⟩ := hd20 20 74 rfl rfl
     obtain ⟨h75_, r21⟩ := hd20 21 75 rfl rfl
     obtain ⟨h76_, r22⟩ := hd20 22 76 rfl rfl
     obtain ⟨h77_, r23⟩ := hd20 23 77 rfl rfl
     obtain ⟨h78_, r24⟩ := hd20 24 78 rfl rfl
     obtain ⟨h79_, r25⟩ := hd20 25 79 rfl rfl
     obtain ⟨h80_, r26⟩ := hd20 26 80 rfl rfl
     simp only [show List.range 27 = [0, 1, 2, 3, 4, 5, 6, 7, 8, 9, 10, 11, 12, 13, 14, 15, 16, 17, 18, 19, 20, 21, 22, 23, 24, 25, 26] from rfl, List.flatMap_cons, List.flatMap_nil, List.map_cons, List.map_nil, r0, r1, r2, r3, r4, r5, r6, r7, r8, r9, r10, r11, r12, r13, r14, r15, r16, r17, r18, r19, r20, r21, r22, r23, r24, r25, r26, List.nil_append, List.append_nil, List.cons_append] at hst
     refine RunL.slots (sl := [(0, .pointer (some ⟨_, _, none⟩)), (1, .pointer (some ⟨_, _, none⟩)), (5, .pointer (some ⟨_, _, none⟩)), (57, .bool _), (69, .int .u16 _), (80, .int .u16 _)]) ⟨(hs19 0 rfl).trans rfl, (hs19 1 rfl).trans rfl, (hs19 5 rfl).trans rfl, h57_, h69_, h80_, trivial⟩ ?_
     clear hs19 hd20 hr22 tab11
     refine TK (t := 57) rfl (congrArg Value.bool (decide_eq_false g12)) (Op1.call2 (v1 := .int .u16 _) (v2 := .int .u16 _) ent53 rfl rfl rfl ((R5ly_may _ _ _).mono fun v w hp => ?_))
     obtain ⟨rfl, hp⟩ := hp
     replace hst := hst.keepc hp
     clear hp
     refine TK (t := 57) rfl (congrArg Value.bool (decide_eq_false g12)) <| Op1.not rfl <| CN <| Op1.pickF (u := .bool _) (congrArg Value.bool (decide_eq_false g12)) rfl <| NL <| Run.forget [(0, .pointer (some ⟨_, _, none⟩)), (1, .pointer (some ⟨_, _, none⟩)), (5, .pointer (some ⟨_, _, none⟩)), (83, .bool _)] ⟨rfl, rfl, rfl, rfl, trivial⟩ fun f => run_cond_split rfl (fun g23 => ?_) (fun g23 => ?_)
     · skip
       have ho0 : opA (l.map InstP.L) (blkZ (l.map InstP.L) k fu) = (l.getD ((((blkZ (l.map InstP.L) k fu) + 1 : Nat) : Int) - 1).toNat zeroI).op := by rw [opA_map, show ((((blkZ (l.map InstP.L) k fu) + 1 : Nat) : Int) - 1).toNat = (blkZ (l.map InstP.L) k fu) by omega]
       have ho1 : opA (l.map InstP.L) ((blkZ (l.map InstP.L) k fu) + 1) = (l.getD (((blkZ (l.map InstP.L) k fu) + 1 : Nat) : Int).toNat zeroI).op := opA_map _ _
       have hn1 : nxF (l.map InstP.L) ((blkZ (l.map InstP.L) k fu) + 1) = 7 := Classical.not_not.1 g12
       have hst1 := (h6 hc6).2 (fun e => by have h := e.2; rw [ho0, ho1] at h; exact Bool.noConfusion (h.symm.trans (not_t g23)))
       refine SR <| AB rfl <| NL <| run_ret1 Try.func42 rfl (TP (v := .bool _) rfl) ?_
       replace hst := hst.pick (.cons (.here) .nil)
       exact .inr ⟨_, hst1, rfl, hst.noD⟩
     have ho0 : opA (l.map InstP.L) (blkZ (l.map InstP.L) k fu) = (l.getD ((((blkZ (l.map InstP.L) k fu) + 1 : Nat) : Int) - 1).toNat zeroI).op := by rw [opA_map, show ((((blkZ (l.map InstP.L) k fu) + 1 : Nat) : Int) - 1).toNat = (blkZ (l.map InstP.L) k fu) by omega]
     have ho1 : opA (l.map InstP.L) ((blkZ (l.map InstP.L) k fu) + 1) = (l.getD (((blkZ (l.map InstP.L) k fu) + 1 : Nat) : Int).toNat zeroI).op := opA_map _ _
     have hn1 : nxF (l.map InstP.L) ((blkZ (l.map InstP.L) k fu) + 1) = 7 := Classical.not_not.1 g12
     have hdn := (h6 hc6).1 ⟨hn1, by rw [ho0, ho1]; exact not_f g23⟩
     refine run_skip <| run_inBlock <| SQ <| SR <| MP rfl <| CN <| Op1.nilCheckP rfl <| CN <| Op1.fieldAddr fld69_1 rfl <| CN <| Op1.load1 (v := .int .i64 _) ty3 rfl rfl (hst.cellL (.head _) rfl) <| CN <| Op1.addN rfl rfl rfl (wrap_i64 (by omega) (by omega)) <| CN <| Op1.nilCheckP rfl <| CN <| Op1.fieldAddr fld69_1 rfl <| CN (SO (v := .int .i64 _) hst ty3 rfl rfl (.here) fun w hst => ?_)
     refine NSR <| MP rfl <| CN <| Op1.nilCheckP rfl <| CN <| Op1.fieldAddr fld69_1 rfl <| CN <| Op1.load1 (v := .int .i64 _) ty3 rfl rfl (hst.cellL (.head _) rfl) <| CN <| Op1.fieldAddr fld56_2 rfl <| CN (SO (v := .int .i64 _) hst ty3 rfl rfl (.there (.there (.here))) fun w hst => ?_)
     refine NL <| SQ ?_
     replace hst := hst.pick (.cons (.there (.there (.here))) (.cons (.here) (.cons (.here) (.cons (.here) (.cons (.here) .nil)))))
     replace hst : St _ _ (Res.row b5 56 [.int .u32 (l.getD k zeroI).res, .int .i64 (k : Int), .int .i64 ((((blkZ (l.map InstP.L) k fu) + 2) : Nat) : Int)] :: CutR 69 bq ao l.length cp ((blkZ (l.map InstP.L) k fu) + 2) tail :: _) _ _ := hst
     replace hst := hst.pick (.cons (.there (.there (.there (.there (.here))))) (.cons (.here) (.cons (.here) (.cons (.here) (.cons (.here) .nil)))))
     apply RunD.start [(7, Res.sl _ _ _ _ _ _, Res.emp)] hst (bs := [0, 0, 2, 6, 14, 0, 32, 126, 255, 511, 1023]) (ds := [some 96, some 97, some 98, some 99, some 100, some 101, some 102, some 103, some 104, some 105, none]) (htab := ⟨by kernel_rfl, by kernel_rfl, by kernel_rfl⟩)
     intro tab24
     refine RunD.op (det _) tab24 1 (fun f' L' w' hc => Op1.move (v := .pointer (some ⟨_, _, none⟩)) (hc.old (v := .pointer (some ⟨_, _, none⟩)) rfl rfl rfl) ⟨[], ⟨rfl, rfl⟩, hc.st⟩) <| RunD.op (det _) tab24 2 (fun f' L' w' hc => Op1.move (v := .pointer (some ⟨_, _, none⟩)) (hc.old (v := .pointer (some ⟨_, _, none⟩)) rfl rfl rfl) ⟨[], ⟨rfl, rfl⟩, hc.st⟩) <| RunD.op (det _) tab24 3 (fun f' L' w' hc => Op1.nilCheckP (hc.det (j := 1) rfl rfl rfl rfl) ⟨[], ⟨rfl, rfl⟩, hc.st⟩) <| RunD.op (det _) tab24 4 (fun f' L' w' hc => Op1.fieldAddr fld54_3 (hc.det (j := 2) rfl rfl rfl rfl) ⟨[], ⟨rfl, rfl⟩, hc.st⟩) <| RunD.op (det _) tab24 5 (fun f' L' w' hc => Op1.load1 (v := .slice _ _ _) ty52 rfl (hc.det (j := 3) rfl rfl rfl rfl) (hc.st.cellL (List.mem_append_right _ (.tail _ (.tail _ (.tail _ (.head _))))) rfl) ⟨[], ⟨rfl, rfl⟩, hc.st⟩) <| RunD.op (det _) tab24 6 (fun f' L' w' hc => Op1.loadA (vs := [.int .u32 _, .int .i64 _, .int .i64 _]) ty56 rfl (hc.old (v := .pointer (some ⟨_, _, none⟩)) rfl rfl rfl) rfl (cells_of_obj (n := 3) (hc.st.objL (List.mem_append_right _ (.head _))) _ rfl) ⟨[], ⟨rfl, rfl⟩, hc.st⟩) <| RunD.op (fun v rs => ∃ b, v = .slice (some ⟨b, 0, none⟩) 1 1 ∧ rs = [Res.row b 56 ([.int .u32 (l.getD k zeroI).res, .int .i64 (k : Int), .int .i64 ((((blkZ (l.map InstP.L) k fu) + 2) : Nat) : Int)])]) tab24 7 (fun f' L' w' hc => Op1.buildSl (z0 := [.int .u32 0, .int .i64 0, .int .i64 0]) hc.st ty52 ty56 rfl rfl (by kernel_rfl) (.c (v := .agg #[.int .u32 _, .int .i64 _, .int .i64 _]) (hc.det (j := 5) rfl rfl rfl rfl) (h := .nil)) fun w b hst => ⟨[_], ⟨b, rfl, rfl⟩, hst⟩) ?_
     refine RunD.ownC (fun g v rs => ∃ ao2 cp2, v = .slice ao2 (fu.blocks.length + 1) cp2 ∧ rs = [Res.sl ao2 (fu.blocks.length + 1) cp2 56 3 (fu.blocks.flatMap bkC ++ [.int .u32 (l.getD k zeroI).res, .int .i64 (k : Int), .int .i64 ((((blkZ (l.map InstP.L) k fu) + 2) : Nat) : Int)])]) tab24 8 (.head _) (fun f' L' L'' w' hc ⟨X, hrem, hX⟩ => by obtain ⟨_, rs, ⟨b102, h102, hrs⟩, _, hm⟩ := hc.dep 6 102 rfl rfl; subst hrs; exact Op1.append (news := [.int .u32 (l.getD k zeroI).res, .int .i64 (k : Int), .int .i64 ((((blkZ (l.map InstP.L) k fu) + 2) : Nat) : Int)]) hc.st ty52 ty56 rfl rfl hrem (hc.det (j := 4) rfl rfl rfl rfl) (evs h102 rfl) rfl (cells_of_obj (n := 3) (hc.st.objL (List.mem_append_left _ (hm rfl _ (.head _)))) _ rfl) rfl rfl (by omega) fun w ao2 cp2 hst => ⟨[_], fun g hg => ⟨_, _, rfl, rfl⟩, hX _ _ hst⟩) <| RunD.fin followsMixed tab24 hst rfl (fun f25 w R28 hs26 hd27 hr29 hst => ?_)
     obtain ⟨h96_, r0⟩ := hd27 0 96 rfl rfl
     obtain ⟨h97_, r1⟩ := hd27 1 97 rfl rfl
     obtain ⟨h98_, r2⟩ := hd27 2 98 rfl rfl
     obtain ⟨h99_, r3⟩ := hd27 3 99 rfl rfl
     obtain ⟨h100_, r4⟩ := hd27 4 100 rfl rfl
     obtain ⟨h101_, r5⟩ := hd27 5 101 rfl rfl
     obtain ⟨b102, h102_, r6⟩ := hd27 6 102 rfl rfl
     obtain ⟨ao2, cp2, h103_, r7⟩ := hd27 7 103 rfl rfl
     simp only [show List.range 8 = [0, 1, 2, 3, 4, 5, 6, 7] from rfl, List.flatMap_cons, List.flatMap_nil, List.map_cons, List.map_nil, r0, r1, r2, r3, r4, r5, r6, r7, List.nil_append, List.append_nil, List.cons_append] at hst
     refine RunL.slots (sl := [(96, .pointer (some ⟨_, _, none⟩)), (103, .slice _ _ _)]) ⟨h96_, h103_, trivial⟩ ?_
     clear hs26 hd27 hr29 tab24
     refine CN <| Op1.nilCheckP rfl <| CN <| Op1.fieldAddr fld54_3 rfl <| CN (SO (v := .slice _ _ _) hst ty52 rfl rfl (.there (.there (.there (.there (.there (.there (.here))))))) fun w hst => ?_)
     refine NL <| Run.forget [] trivial fun f => SR <| AB rfl <| NL <| run_ret1 Try.func42 rfl (TP (v := .bool _) rfl) ?_
     replace hst := hst.pick (.cons (.there (.there (.there (.there (.here))))) (.cons (.there (.there (.there (.there (.there (.here)))))) (.cons (.there (.here)) .nil)))
     have e1 : fu.blocks.length + 1 = (fu.blocks ++ [(⟨(l.getD k zeroI).res, (k : Int), ((((blkZ (l.map InstP.L) k fu) + 2) : Nat) : Int)⟩ : BlkL)]).length := by simp
     have e2 : fu.blocks.flatMap bkC ++ [.int .u32 (l.getD k zeroI).res, .int .i64 (k : Int), .int .i64 ((((blkZ (l.map InstP.L) k fu) + 2) : Nat) : Int)] = (fu.blocks ++ [(⟨(l.getD k zeroI).res, (k : Int), ((((blkZ (l.map InstP.L) k fu) + 2) : Nat) : Int)⟩ : BlkL)]).flatMap bkC := by simp
     rw [e1, e2] at hst
     exact .inl ⟨((blkZ (l.map InstP.L) k fu) + 2), ao2, cp2, (by have := blkZ_gt (l.map InstP.L) k fu; omega), hdn, rfl, (St.pack (L1 := [_, _, _]) (L2 := []) hst).noD⟩
   refine run_skip <| SR <| CN <| Op1.eql rfl rfl <| AB rfl <| NL <| run_cond_dec rfl (fun g30 => ?_) (fun g30 => ?_)
   · skip
     have hc7 : nxF (l.map InstP.L) (blkZ (l.map InstP.L) k fu) = 7 := g30
     have hz7 := nx_in hc7
     refine run_exit (id := 2) rfl <| SQ <| SR <| MP rfl <| CN <| Op1.nilCheckP rfl <| CN <| Op1.fieldAddr fld69_1 rfl <| CN <| Op1.load1 (v := .int .i64 _) ty3 rfl rfl (hst.cellL (.head _) rfl) <| CN <| Op1.addN rfl rfl rfl (wrap_i64 (by omega) (by omega)) <| CN <| Op1.nilCheckP rfl <| CN <| Op1.fieldAddr fld69_1 rfl <| CN (SO (v := .int .i64 _) hst ty3 rfl rfl (.here) fun w hst => ?_)
     refine NSR <| MP rfl <| CN <| Op1.nilCheckP rfl <| CN <| Op1.fieldAddr fld69_1 rfl <| CN <| Op1.load1 (v := .int .i64 _) ty3 rfl rfl (hst.cellL (.head _) rfl) <| CN <| Op1.fieldAddr fld56_2 rfl <| CN (SO (v := .int .i64 _) hst ty3 rfl rfl (.there (.there (.here))) fun w hst => ?_)
     refine NL <| Run.forget [(1, .pointer (some ⟨_, _, none⟩)), (5, .pointer (some ⟨_, _, none⟩))] ⟨rfl, rfl, trivial⟩ fun f => SQ ?_
     replace hst := hst.pick (.cons (.there (.there (.here))) (.cons (.here) (.cons (.here) (.cons (.here) (.cons (.here) .nil)))))
     replace hst : St _ _ (Res.row b5 56 [.int .u32 (l.getD k zeroI).res, .int .i64 (k : Int), .int .i64 ((((blkZ (l.map InstP.L) k fu) + 1) : Nat) : Int)] :: CutR 69 bq ao l.length cp ((blkZ (l.map InstP.L) k fu) + 1) tail :: _) _ _ := hst
     replace hst := hst.pick (.cons (.there (.there (.there (.there (.here))))) (.cons (.here) (.cons (.here) (.cons (.here) (.cons (.here) .nil)))))
     apply RunD.start [(7, Res.sl _ _ _ _ _ _, Res.emp)] hst (bs := [0, 0, 2, 6, 14, 0, 32, 126, 255, 511, 1023]) (ds := [some 96, some 97, some 98, some 99, some 100, some 101, some 102, some 103, some 104, some 105, none]) (htab := ⟨by kernel_rfl, by kernel_rfl, by kernel_rfl⟩)
     intro tab31
     refine RunD.op (det _) tab31 1 (fun f' L' w' hc => Op1.move (v := .pointer (some ⟨_, _, none⟩)) (hc.old (v := .pointer (some ⟨_, _, none⟩)) rfl rfl rfl) ⟨[], ⟨rfl, rfl⟩, hc.st⟩) <| RunD.op (det _) tab31 2 (fun f' L' w' hc => Op1.move (v := .pointer (some ⟨_, _, none⟩)) (hc.old (v := .pointer (some ⟨_, _, none⟩)) rfl rfl rfl) ⟨[], ⟨rfl, rfl⟩, hc.st⟩) <| RunD.op (det _) tab31 3 (fun f' L' w' hc => Op1.nilCheckP (hc.det (j := 1) rfl rfl rfl rfl) ⟨[], ⟨rfl, rfl⟩, hc.st⟩) <| RunD.op (det _) tab31 4 (fun f' L' w' hc => Op1.fieldAddr fld54_3 (hc.det (j := 2) rfl rfl rfl rfl) ⟨[], ⟨rfl, rfl⟩, hc.st⟩) <| RunD.op (det _) tab31 5 (fun f' L' w' hc => Op1.load1 (v := .slice _ _ _) ty52 rfl (hc.det (j := 3) rfl rfl rfl rfl) (hc.st.cellL (List.mem_append_right _ (.tail _ (.tail _ (.tail _ (.head _))))) rfl) ⟨[], ⟨rfl, rfl⟩, hc.st⟩) <| RunD.op (det _) tab31 6 (fun f' L' w' hc => Op1.loadA (vs := [.int .u32 _, .int .i64 _, .int .i64 _]) ty56 rfl (hc.old (v := .pointer (some ⟨_, _, none⟩)) rfl rfl rfl) rfl (cells_of_obj (n := 3) (hc.st.objL (List.mem_append_right _ (.head _))) _ rfl) ⟨[], ⟨rfl, rfl⟩, hc.st⟩) <| RunD.op (fun v rs => ∃ b, v = .slice (some ⟨b, 0, none⟩) 1 1 ∧ rs = [Res.row b 56 ([.int .u32 (l.getD k zeroI).res, .int .i64 (k : Int), .int .i64 ((((blkZ (l.map InstP.L) k fu) + 1) : Nat) : Int)])]) tab31 7 (fun f' L' w' hc => Op1.buildSl (z0 := [.int .u32 0, .int .i64 0, .int .i64 0]) hc.st ty52 ty56 rfl rfl (by kernel_rfl) (.c (v := .agg #[.int .u32 _, .int .i64 _, .int .i64 _]) (hc.det (j := 5) rfl rfl rfl rfl) (h := .nil)) fun w b hst => ⟨[_], ⟨b, rfl, rfl⟩, hst⟩) ?_
     refine RunD.ownC (fun g v rs => ∃ ao2 cp2, v = .slice ao2 (fu.blocks.length + 1) cp2 ∧ rs = [Res.sl ao2 (fu.blocks.length + 1) cp2 56 3 (fu.blocks.flatMap bkC ++ [.int .u32 (l.getD k zeroI).res, .int .i64 (k : Int), .int .i64 ((((blkZ (l.map InstP.L) k fu) + 1) : Nat) : Int)])]) tab31 8 (.head _) (fun f' L' L'' w' hc ⟨X, hrem, hX⟩ => by obtain ⟨_, rs, ⟨b102, h102, hrs⟩, _, hm⟩ := hc.dep 6 102 rfl rfl; subst hrs; exact Op1.append (news := [.int .u32 (l.getD k zeroI).res, .int .i64 (k : Int), .int .i64 ((((blkZ (l.map InstP.L) k fu) + 1) : Nat) : Int)]) hc.st ty52 ty56 rfl rfl hrem (hc.det (j := 4) rfl rfl rfl rfl) (evs h102 rfl) rfl (cells_of_obj (n := 3) (hc.st.objL (List.mem_append_left _ (hm rfl _ (.head _)))) _ rfl) rfl rfl (by omega) fun w ao2 cp2 hst => ⟨[_], fun g hg => ⟨_, _, rfl, rfl⟩, hX _ _ hst⟩) <| RunD.fin followsMixed tab31 hst rfl (fun f32 w R35 hs33 hd34 hr36 hst => ?_)
     obtain ⟨h96_, r0⟩ := hd34 0 96 rfl rfl
     obtain ⟨h97_, r1⟩ := hd34 1 97 rfl rfl
     obtain ⟨h98_, r2⟩ := hd34 2 98 rfl rfl
     obtain ⟨h99_, r3⟩ := hd34 3 99 rfl rfl
     obtain ⟨h100_, r4⟩ := hd34 4 100 rfl rfl
     obtain ⟨h101_, r5⟩ := hd34 5 101 rfl rfl
     obtain ⟨b102, h102_, r6⟩ := hd34 6 102 rfl rfl
     obtain ⟨ao2, cp2, h103_, r7⟩ := hd34 7 103 rfl rfl
     simp only [show List.range 8 = [0, 1, 2, 3, 4, 5, 6, 7] from rfl, List.flatMap_cons, List.flatMap_nil, List.map_cons, List.map_nil, r0, r1, r2, r3, r4, r5, r6, r7, List.nil_append, List.append_nil, List.cons_append] at hst
     refine RunL.slots (sl := [(96, .pointer (some ⟨_, _, none⟩)), (103, .slice _ _ _)]) ⟨h96_, h103_, trivial⟩ ?_
     clear hs33 hd34 hr36 tab31
     refine CN <| Op1.nilCheckP rfl <| CN <| Op1.fieldAddr fld54_3 rfl <| CN (SO (v := .slice _ _ _) hst ty52 rfl rfl (.there (.there (.there (.there (.there (.there (.here))))))) fun w hst => ?_)
     refine NSR <| AB rfl <| NL <| run_ret1 Try.func42 rfl (TP (v := .bool _) rfl) ?_
     replace hst := hst.pick (.cons (.there (.there (.there (.there (.here))))) (.cons (.there (.there (.there (.there (.there (.here)))))) (.cons (.there (.here)) .nil)))
     have e1 : fu.blocks.length + 1 = (fu.blocks ++ [(⟨(l.getD k zeroI).res, (k : Int), ((((blkZ (l.map InstP.L) k fu) + 1) : Nat) : Int)⟩ : BlkL)]).length := by simp
     have e2 : fu.blocks.flatMap bkC ++ [.int .u32 (l.getD k zeroI).res, .int .i64 (k : Int), .int .i64 ((((blkZ (l.map InstP.L) k fu) + 1) : Nat) : Int)] = (fu.blocks ++ [(⟨(l.getD k zeroI).res, (k : Int), ((((blkZ (l.map InstP.L) k fu) + 1) : Nat) : Int)⟩ : BlkL)]).flatMap bkC := by simp
     rw [e1, e2] at hst
     exact .inl ⟨((blkZ (l.map InstP.L) k fu) + 1), ao2, cp2, (by have := blkZ_gt (l.map InstP.L) k fu; omega), (h7 hc7), rfl, (St.pack (L1 := [_, _, _]) (L2 := []) hst).noD⟩
   refine run_skip <| run_exit (id := 0) rfl <| SR <| AB rfl <| NL <| run_ret1 Try.func42 rfl (TP (v := .bool _) rfl) ?_
   replace hst := hst.pick (.cons (.here) .nil)
   exact .inr ⟨_, hN g10 g30, rfl, hst.noD⟩
 · skip
   refine SR <| MP rfl <| CN <| Op1.nilCheckP rfl <| CN <| Op1.fieldAddr fld54_3 rfl <| CN <| Op1.load1 (v := .slice _ _ _) ty52 rfl rfl (hst.cellL (.tail _ (.tail _ (.head _))) rfl) <| CN <| Op1.lenSl (rest := []) ty52 rfl <| CN <| Op1.eql rfl rfl <| NL <| run_cond_dec rfl (fun g37 => ?_) (fun g37 => ?_)
   · skip
     refine RG <| MP rfl ?_
     replace hst := hst.pick (.cons (.here) (.cons (.here) (.cons (.here) (.cons (.here) .nil))))
     refine CN (Op1.call2 (v1 := .pointer (some ⟨_, _, none⟩)) (v2 := .int .i64 _) ent41 rfl rfl rfl ((R5ly_row bq l ao cp (k + 1) tail 5 (by decide) _ (hst.hL _ (.head _)) (hst.hD _ (.head _)) (hst.sepD _ (.head _) _ (.head _)) (by omega) hl hla hop).mono fun v w hp => ?_))
     obtain ⟨ro, rc, rfl, hp⟩ := hp
     replace hst : St _ _ (_ :: _ :: _) _ _ := hst.call1 hp
     clear hp
     refine NL ?_
     rw [blkA_first (l := (l.map InstP.L)) (a := k) (f := fu) (by omega)] at hst
     replace hst := hst.pick (.cons (.here) (.cons (.there (.here)) (.cons (.there (.here)) (.cons (.there (.here)) .nil))))
     exact cut7 (()) _ w (hst) (trivial) ⟨rfl, rfl, rfl, trivial⟩ trivial
   refine RG <| MP rfl ?_
   replace hst := hst.pick (.cons (.here) (.cons (.here) (.cons (.here) (.cons (.here) .nil))))
   refine CN (Op1.call2 (v1 := .pointer (some ⟨_, _, none⟩)) (v2 := .int .i64 _) ent41 rfl rfl rfl ((R5ly_row bq l ao cp (k + 1) tail 4 (by decide) _ (hst.hL _ (.head _)) (hst.hD _ (.head _)) (hst.sepD _ (.head _) _ (.head _)) (by omega) hl hla hop).mono fun v w hp => ?_))
   obtain ⟨ro, rc, rfl, hp⟩ := hp
   replace hst : St _ _ (_ :: _ :: _) _ _ := hst.call1 hp
   clear hp
   refine NL ?_
   rw [blkA_next (l := (l.map InstP.L)) (a := k) (f := fu) (by omega)] at hst
   replace hst := hst.pick (.cons (.here) (.cons (.there (.here)) (.cons (.there (.here)) (.cons (.there (.here)) .nil))))
   exact cut7 (()) _ w (hst) (trivial) ⟨rfl, rfl, rfl, trivial⟩ trivial
end Go.SK
namespace Go.SK
open Go Go.Proofs
theorem ent39 : Enters Try.prog 39 := ⟨Try.f39, _, Try.func39, by kernel_rfl, rfl⟩
theorem ty54 : TyF Try.prog 54 (.struct (fieldsOf Try.prog 54)) 5 72 [.int .u32 0, .int .i64 0, .slice none 0 0, .slice none 0 0, .int .i64 0] := TyF.of (by kernel_rfl) (by kernel_rfl)
theorem stf54 : StructF Try.prog 54 [(0, 1), (1, 1), (2, 1), (3, 1), (4, 1)] := ⟨fieldsOf Try.prog 54, by kernel_rfl, fun w => by kernel_rfl⟩
theorem fld54_2 : FldF Try.prog 54 2 2 := FldF.of (n := 0) (by kernel_rfl)
theorem ent42 : Enters Try.prog 42 := ⟨Try.f42, _, Try.func42, by kernel_rfl, rfl⟩
theorem fld54_4 : FldF Try.prog 54 4 4 := FldF.of (n := 0) (by kernel_rfl)
theorem fld69_3 : FldF Try.prog 69 3 22 := FldF.of (n := 0) (by kernel_rfl)
theorem ty45 : TyF Try.prog 45 (.slice 54) 1 24 [.slice none 0 0] := TyF.of (by kernel_rfl) (by kernel_rfl)
end Go.SK
namespace Go.SK
open Go Go.Proofs
open Go.RowKit
set_option maxHeartbeats 4000000 in
theorem R5ly_cut (bq : Nat) (l : List InstP) (ao : Option Addr) (cp : Nat) (hkm : ∀ i ∈ (l.map InstP.L), i.Known) (w : World) (hR : (CutR 69 bq ao l.length cp 0 [.int .i64 0, .int .i64 0, .int .i64 0, .int .i64 0, .int .i64 0, .int .i64 0, .int .i64 0, .int .i64 0, .int .i64 0, .int .i64 0, .int .i64 0, .int .i64 0, .int .i64 0, .int .i64 0, .int .i64 0, .int .i64 0, .int .i64 0, .int .i64 0, .int .i64 0, .int .i64 0, .slice none 0 0]).holds w) (hA : (Res.rmod ao l).holds w) (hap : Apart (CutR 69 bq ao l.length cp 0 [.int .i64 0, .int .i64 0, .int .i64 0, .int .i64 0, .int .i64 0, .int .i64 0, .int .i64 0, .int .i64 0, .int .i64 0, .int .i64 0, .int .i64 0, .int .i64 0, .int .i64 0, .int .i64 0, .int .i64 0, .int .i64 0, .int .i64 0, .int .i64 0, .int .i64 0, .int .i64 0, .slice none 0 0]) (Res.rmod ao l)) (hl : l.length ≤ 1048576) (hla : ∀ i ∈ l, i.args.length ≤ 9000000000000000000) (hop : ∀ i ∈ l, 0 ≤ i.op) : Ret Try.prog 33 #[.pointer (some ⟨bq, 0, none⟩)] w (fun v w' => (∃ fo fc xs, topA (l.map InstP.L) 2 ≠ topA (l.map InstP.L) 1 ∧ orderF (l.map InstP.L) = (0, 0) ∧ xs.map FunP.fu = funsK (l.map InstP.L) l.length ∧ v = .bool true ∧ St w (CutR 69 bq ao l.length cp 0 [.int .i64 0, .int .i64 0, .int .i64 0, .int .i64 0, .int .i64 0, .int .i64 0, .int .i64 0, .int .i64 0, .int .i64 0, .int .i64 0, .int .i64 0, .int .i64 0, .int .i64 0, .int .i64 0, .int .i64 0, .int .i64 0, .int .i64 0, .int .i64 0, .int .i64 0, .int .i64 0, .slice none 0 0]).foot [CutR 69 bq ao l.length cp l.length [.int .i64 ((topA (l.map InstP.L) 0) : Int), .int .i64 ((topA (l.map InstP.L) 1) : Int), .int .i64 ((topA (l.map InstP.L) 1) : Int), .int .i64 ((topA (l.map InstP.L) 2) : Int), .int .i64 ((topA (l.map InstP.L) 2) : Int), .int .i64 ((topA (l.map InstP.L) 3) : Int), .int .i64 ((topA (l.map InstP.L) 3) : Int), .int .i64 ((topA (l.map InstP.L) 4) : Int), .int .i64 ((topA (l.map InstP.L) 4) : Int), .int .i64 ((topA (l.map InstP.L) 5) : Int), .int .i64 ((topA (l.map InstP.L) 5) : Int), .int .i64 ((topA (l.map InstP.L) 6) : Int), .int .i64 ((topA (l.map InstP.L) 6) : Int), .int .i64 ((topA (l.map InstP.L) 7) : Int), .int .i64 ((topA (l.map InstP.L) 7) : Int), .int .i64 ((topA (l.map InstP.L) 8) : Int), .int .i64 ((topA (l.map InstP.L) 8) : Int), .int .i64 (l.length : Int), .int .i64 (l.length : Int), .int .i64 (l.length : Int), .slice fo xs.length fc], Res.ofuns 54 3 56 fo fc xs] [] w') ∨ (∃ (e : Nat) (tail : List Value), Stuck (l.map InstP.L) e ∧ v = .bool false ∧ St w (CutR 69 bq ao l.length cp 0 [.int .i64 0, .int .i64 0, .int .i64 0, .int .i64 0, .int .i64 0, .int .i64 0, .int .i64 0, .int .i64 0, .int .i64 0, .int .i64 0, .int .i64 0, .int .i64 0, .int .i64 0, .int .i64 0, .int .i64 0, .int .i64 0, .int .i64 0, .int .i64 0, .int .i64 0, .int .i64 0, .slice none 0 0]).foot [CutR 69 bq ao l.length cp e tail] [] w')) := by
 refine Ret.enter (args := [.pointer (some ⟨bq, 0, none⟩)]) Try.func33 rfl rfl rfl ?_
 have hst : St w (CutR 69 bq ao l.length cp 0 [.int .i64 0, .int .i64 0, .int .i64 0, .int .i64 0, .int .i64 0, .int .i64 0, .int .i64 0, .int .i64 0, .int .i64 0, .int .i64 0, .int .i64 0, .int .i64 0, .int .i64 0, .int .i64 0, .int .i64 0, .int .i64 0, .int .i64 0, .int .i64 0, .int .i64 0, .int .i64 0, .slice none 0 0]).foot [CutR 69 bq ao l.length cp 0 [.int .i64 0, .int .i64 0, .int .i64 0, .int .i64 0, .int .i64 0, .int .i64 0, .int .i64 0, .int .i64 0, .int .i64 0, .int .i64 0, .int .i64 0, .int .i64 0, .int .i64 0, .int .i64 0, .int .i64 0, .int .i64 0, .int .i64 0, .int .i64 0, .int .i64 0, .int .i64 0, .slice none 0 0]] [Res.rmod ao l] w := St.enter1 hR (fun d hd => by cases hd with | head => exact hA | tail _ h => cases h) (fun d hd => by cases hd with | head => exact hap | tail _ h => cases h)
 have hL : (l.map InstP.L).length = l.length := List.length_map _
 have ht8 : topA (l.map InstP.L) 8 ≤ (l.map InstP.L).length := topA_le 8
 refine SR <| AB rfl <| NL <| run_scope <| SQ <| SR <| MP rfl ?_
 replace hst := hst.pick (.cons (.here) .nil)
 refine CN (Op1.call1 (v1 := .pointer (some ⟨_, _, none⟩)) ent39 rfl rfl ((R5ly_top bq l ao cp _ (hst.hL _ (.head _)) (hst.hD _ (.head _)) (hst.sepD _ (.head _) _ (.head _)) (by omega) hla hop).mono fun v w hp => ?_))
 rcases hp with ⟨htp, rfl, hp⟩ | ⟨htp, rfl, tl, hp⟩
 · skip
   replace hst : St _ _ (_ :: _) _ _ := hst.call1 hp
   clear hp
   refine CN <| Op1.not rfl <| NL <| run_cond_false (congrArg Value.bool (congrArg not (rfl : true = _))) <| run_skip <| SQ <| RunD.start [] hst (bs := [0, 0, 2, 6, 14, 0, 32, 96, 224, 480, 1022, 1, 2049, 8191, 16383]) (ds := [some 7, some 8, some 9, some 10, some 11, some 12, some 13, some 14, some 15, some 16, some 17, some 18, some 19, some 20, none]) ⟨by kernel_rfl, by kernel_rfl, by kernel_rfl⟩ (fun tab1 => ?_)
   refine RunD.op (det _) tab1 1 (fun f' L' w' hc => Op1.move (v := .pointer (some ⟨_, _, none⟩)) (hc.old (v := .pointer (some ⟨_, _, none⟩)) rfl rfl rfl) ⟨[], ⟨rfl, rfl⟩, hc.st⟩) <| RunD.op (det _) tab1 2 (fun f' L' w' hc => Op1.move (v := .pointer (some ⟨_, _, none⟩)) (hc.old (v := .pointer (some ⟨_, _, none⟩)) rfl rfl rfl) ⟨[], ⟨rfl, rfl⟩, hc.st⟩) <| RunD.op (det _) tab1 3 (fun f' L' w' hc => Op1.nilCheckP (hc.det (j := 1) rfl rfl rfl rfl) ⟨[], ⟨rfl, rfl⟩, hc.st⟩) <| RunD.op (det _) tab1 4 (fun f' L' w' hc => Op1.fieldAddr fld69_1 (hc.det (j := 2) rfl rfl rfl rfl) ⟨[], ⟨rfl, rfl⟩, hc.st⟩) <| RunD.op (det _) tab1 5 (fun f' L' w' hc => Op1.load1 (v := .int .i64 _) ty3 rfl (hc.det (j := 3) rfl rfl rfl rfl) (hc.st.cellL (List.mem_append_right _ (.head _)) rfl) ⟨[], ⟨rfl, rfl⟩, hc.st⟩) <| RunD.op (det _) tab1 6 (fun f' L' w' hc => Op1.move (v := .pointer (some ⟨_, _, none⟩)) (hc.old (v := .pointer (some ⟨_, _, none⟩)) rfl rfl rfl) ⟨[], ⟨rfl, rfl⟩, hc.st⟩) <| RunD.op (det _) tab1 7 (fun f' L' w' hc => Op1.nilCheckP (hc.det (j := 5) rfl rfl rfl rfl) ⟨[], ⟨rfl, rfl⟩, hc.st⟩) <| RunD.op (det _) tab1 8 (fun f' L' w' hc => Op1.fieldAddr fld69_0 (hc.det (j := 6) rfl rfl rfl rfl) ⟨[], ⟨rfl, rfl⟩, hc.st⟩) <| RunD.op (det _) tab1 9 (fun f' L' w' hc => Op1.load1 (v := .slice _ _ _) ty23 rfl (hc.det (j := 7) rfl rfl rfl rfl) (hc.st.cellL (List.mem_append_right _ (.head _)) rfl) ⟨[], ⟨rfl, rfl⟩, hc.st⟩) <| RunD.op (det _) tab1 10 (fun f' L' w' hc => Op1.lenSl (rest := []) ty23 (hc.det (j := 8) rfl rfl rfl rfl) ⟨[], ⟨rfl, rfl⟩, hc.st⟩) <| RunD.op (det _) tab1 11 (fun f' L' w' hc => Op1.buildStruct ty41 stf41 (.c (v := .int .i64 _) (hc.det (j := 4) rfl rfl rfl rfl) (h := (.c (v := .int .i64 _) (hc.det (j := 9) rfl rfl rfl rfl) (h := .nil)))) ⟨[], ⟨rfl, rfl⟩, hc.st⟩) ?_
   refine RunD.op (det _) tab1 12 (fun f' L' w' hc => Op1.nilCheckP (hc.det (j := 0) rfl rfl rfl rfl) ⟨[], ⟨rfl, rfl⟩, hc.st⟩) <| RunD.op (det _) tab1 13 (fun f' L' w' hc => Op1.fieldAddr fld69_2 (hc.det (j := 11) rfl rfl rfl rfl) ⟨[], ⟨rfl, rfl⟩, hc.st⟩) <| RunD.fin followsMixed tab1 hst rfl (fun f2 w R5 hs3 hd4 hr6 hst => ?_)
   obtain ⟨h7_, r0⟩ := hd4 0 7 rfl rfl
   obtain ⟨h8_, r1⟩ := hd4 1 8 rfl rfl
   obtain ⟨h9_, r2⟩ := hd4 2 9 rfl rfl
   obtain ⟨h10_, r3⟩ := hd4 3 10 rfl rfl
   obtain ⟨h11_, r4⟩ := hd4 4 11 rfl rfl
   obtain ⟨h12_, r5⟩ := hd4 5 12 rfl rfl
   obtain ⟨h13_, r6⟩ := hd4 6 13 rfl rfl
   obtain ⟨h14_, r7⟩ := hd4 7 14 rfl rfl
   obtain ⟨h15_, r8⟩ := hd4 8 15 rfl rfl
   obtain ⟨h16_, r9⟩ := hd4 9 16 rfl rfl
   obtain ⟨h17_, r10⟩ := hd4 10 17 rfl rfl
   obtain ⟨h18_, r11⟩ := hd4 11 18 rfl rfl
   obtain ⟨h19_, r12⟩ := hd4 12 19 rfl rfl
   simp only [show List.range 13 = [0, 1, 2, 3, 4, 5, 6, 7, 8, 9, 10, 11, 12] from rfl, List.flatMap_cons, List.flatMap_nil, List.map_cons, List.map_nil, r0, r1, r2, r3, r4, r5, r6, r7, r8, r9, r10, r11, r12, List.nil_append, List.append_nil, List.cons_append] at hst
   refine RunL.slots (sl := [(0, .pointer (some ⟨_, _, none⟩)), (17, .agg #[.int .i64 _, .int .i64 _]), (19, .pointer (some ⟨_, _, none⟩))]) ⟨(hs3 0 rfl).trans rfl, h17_, h19_, trivial⟩ ?_
   clear hs3 hd4 hr6 tab1
   refine CN <| Op1.indexArr ty42 ty41 rfl rfl (by decide) (by decide) <| RunL.slots (sl := [(20, .pointer (some ⟨bq, 18, none⟩)), (17, .agg #[.int .i64 _, .int .i64 _])]) ⟨rfl, rfl, trivial⟩ <| CN (SO (v := .agg #[.int .i64 _, .int .i64 _]) hst ty41 rfl rfl (.here) fun w hst => ?_)
   refine NL <| SQ ?_
   replace hst := hst.pushNil 54 5
   replace hst := hst.starNil
   refine RunD.start [] hst (bs := [0, 0, 2, 6, 14, 30, 0, 64, 192, 448, 960, 2046, 1, 4097, 16383, 32767]) (ds := [some 21, some 22, some 23, some 24, some 25, some 26, some 27, some 28, some 29, some 30, some 31, some 32, some 33, some 34, some 35, none]) ⟨by kernel_rfl, by kernel_rfl, by kernel_rfl⟩ (fun tab7 => ?_)
   refine RunD.op (det _) tab7 1 (fun f' L' w' hc => Op1.move (v := .pointer (some ⟨_, _, none⟩)) (hc.old (v := .pointer (some ⟨_, _, none⟩)) rfl rfl rfl) ⟨[], ⟨rfl, rfl⟩, hc.st⟩) <| RunD.op (det _) tab7 2 (fun f' L' w' hc => Op1.move (v := .pointer (some ⟨_, _, none⟩)) (hc.old (v := .pointer (some ⟨_, _, none⟩)) rfl rfl rfl) ⟨[], ⟨rfl, rfl⟩, hc.st⟩) <| RunD.op (det _) tab7 3 (fun f' L' w' hc => Op1.nilCheckP (hc.det (j := 1) rfl rfl rfl rfl) ⟨[], ⟨rfl, rfl⟩, hc.st⟩) <| RunD.op (det _) tab7 4 (fun f' L' w' hc => Op1.fieldAddr fld69_0 (hc.det (j := 2) rfl rfl rfl rfl) ⟨[], ⟨rfl, rfl⟩, hc.st⟩) <| RunD.op (det _) tab7 5 (fun f' L' w' hc => Op1.load1 (v := .slice _ _ _) ty23 rfl (hc.det (j := 3) rfl rfl rfl rfl) (hc.st.cellL (List.mem_append_right _ (.tail _ (.tail _ (.head _)))) rfl) ⟨[], ⟨rfl, rfl⟩, hc.st⟩) <| RunD.op (det _) tab7 6 (fun f' L' w' hc => Op1.lenSl (rest := []) ty23 (hc.det (j := 4) rfl rfl rfl rfl) ⟨[], ⟨rfl, rfl⟩, hc.st⟩) <| RunD.op (det _) tab7 7 (fun f' L' w' hc => Op1.move (v := .pointer (some ⟨_, _, none⟩)) (hc.old (v := .pointer (some ⟨_, _, none⟩)) rfl rfl rfl) ⟨[], ⟨rfl, rfl⟩, hc.st⟩) <| RunD.op (det _) tab7 8 (fun f' L' w' hc => Op1.nilCheckP (hc.det (j := 6) rfl rfl rfl rfl) ⟨[], ⟨rfl, rfl⟩, hc.st⟩) <| RunD.op (det _) tab7 9 (fun f' L' w' hc => Op1.fieldAddr fld69_0 (hc.det (j := 7) rfl rfl rfl rfl) ⟨[], ⟨rfl, rfl⟩, hc.st⟩) <| RunD.op (det _) tab7 10 (fun f' L' w' hc => Op1.load1 (v := .slice _ _ _) ty23 rfl (hc.det (j := 8) rfl rfl rfl rfl) (hc.st.cellL (List.mem_append_right _ (.tail _ (.tail _ (.head _)))) rfl) ⟨[], ⟨rfl, rfl⟩, hc.st⟩) <| RunD.op (det _) tab7 11 (fun f' L' w' hc => Op1.lenSl (rest := []) ty23 (hc.det (j := 9) rfl rfl rfl rfl) ⟨[], ⟨rfl, rfl⟩, hc.st⟩) <| RunD.op (det _) tab7 12 (fun f' L' w' hc => Op1.buildStruct ty41 stf41 (.c (v := .int .i64 _) (hc.det (j := 5) rfl rfl rfl rfl) (h := (.c (v := .int .i64 _) (hc.det (j := 10) rfl rfl rfl rfl) (h := .nil)))) ⟨[], ⟨rfl, rfl⟩, hc.st⟩) ?_
   refine RunD.op (det _) tab7 13 (fun f' L' w' hc => Op1.nilCheckP (hc.det (j := 0) rfl rfl rfl rfl) ⟨[], ⟨rfl, rfl⟩, hc.st⟩) <| RunD.op (det _) tab7 14 (fun f' L' w' hc => Op1.fieldAddr fld69_2 (hc.det (j := 12) rfl rfl rfl rfl) ⟨[], ⟨rfl, rfl⟩, hc.st⟩) <| RunD.fin followsMixed tab7 hst rfl (fun f8 w R11 hs9 hd10 hr12 hst => ?_)
   obtain ⟨h21_, r0⟩ := hd10 0 21 rfl rfl
   obtain ⟨h22_, r1⟩ := hd10 1 22 rfl rfl
   obtain ⟨h23_, r2⟩ := hd10 2 23 rfl rfl
   obtain ⟨h24_, r3⟩ := hd10 3 24 rfl rfl
   obtain ⟨h25_, r4⟩ := hd10 4 25 rfl rfl
   obtain ⟨h26_, r5⟩ := hd10 5 26 rfl rfl
   obtain ⟨h27_, r6⟩ := hd10 6 27 rfl rfl
   obtain ⟨h28_, r7⟩ := hd10 7 28 rfl rfl
   obtain ⟨h29_, r8⟩ := hd10 8 29 rfl rfl
   obtain ⟨h30_, r9⟩ := hd10 9 30 rfl rfl
   obtain ⟨h31_, r10⟩ := hd10 10 31 rfl rfl
   obtain ⟨h32_, r11⟩ := hd10 11 32 rfl rfl
   obtain ⟨h33_, r12⟩ := hd10 12 33 rfl rfl
   obtain ⟨h34_, r13⟩ := hd10 13 34 rfl rfl
   simp only [show List.range 14 = [0, 1, 2, 3, 4, 5, 6, 7, 8, 9, 10, 11, 12, 13] from rfl, List.flatMap_cons, List.flatMap_nil, List.map_cons, List.map_nil, r0, r1, r2, r3, r4, r5, r6, r7, r8, r9, r10, r11, r12, r13, List.nil_append, List.append_nil, List.cons_append] at hst
   refine RunL.slots (sl := [(0, .pointer (some ⟨_, _, none⟩)), (32, .agg #[.int .i64 _, .int .i64 _]), (34, .pointer (some ⟨_, _, none⟩))]) ⟨(hs9 0 rfl).trans rfl, h32_, h34_, trivial⟩ ?_
   clear hs9 hd10 hr12 tab7
   refine CN <| Op1.indexArr ty42 ty41 rfl rfl (by decide) (by decide) <| RunL.slots (sl := [(35, .pointer (some ⟨bq, 20, none⟩)), (32, .agg #[.int .i64 _, .int .i64 _])]) ⟨rfl, rfl, trivial⟩ <| CN (SO (v := .agg #[.int .i64 _, .int .i64 _]) hst ty41 rfl rfl (.there (.there (.here))) fun w hst => ?_)
   refine NL <| Run.forget [(0, .pointer (some ⟨_, _, none⟩))] ⟨rfl, trivial⟩ fun f => SQ <| run_label <| Run.indW [(0, .pointer (some ⟨_, _, none⟩))] ⟨rfl, trivial⟩ (fun (q : Nat × List FunP × Option Addr × Nat) => []) (fun (q : Nat × List FunP × Option Addr × Nat) => [Res.star ((q.2.1).map (Res.ofun 3 56)), Res.sl q.2.2.1 (q.2.1).length q.2.2.2 54 5 ((q.2.1).flatMap funC), CutR 69 bq ao l.length cp q.1 [.int .i64 ((topA (l.map InstP.L) 0) : Int), .int .i64 ((topA (l.map InstP.L) 1) : Int), .int .i64 ((topA (l.map InstP.L) 1) : Int), .int .i64 ((topA (l.map InstP.L) 2) : Int), .int .i64 ((topA (l.map InstP.L) 2) : Int), .int .i64 ((topA (l.map InstP.L) 3) : Int), .int .i64 ((topA (l.map InstP.L) 3) : Int), .int .i64 ((topA (l.map InstP.L) 4) : Int), .int .i64 ((topA (l.map InstP.L) 4) : Int), .int .i64 ((topA (l.map InstP.L) 5) : Int), .int .i64 ((topA (l.map InstP.L) 5) : Int), .int .i64 ((topA (l.map InstP.L) 6) : Int), .int .i64 ((topA (l.map InstP.L) 6) : Int), .int .i64 ((topA (l.map InstP.L) 7) : Int), .int .i64 ((topA (l.map InstP.L) 7) : Int), .int .i64 ((topA (l.map InstP.L) 8) : Int), .int .i64 ((topA (l.map InstP.L) 8) : Int), .int .i64 (l.length : Int), .int .i64 (l.length : Int), .int .i64 (l.length : Int), .slice q.2.2.1 q.2.1.length q.2.2.2]]) (fun (q : Nat × List FunP × Option Addr × Nat) => FunI (l.map InstP.L) q.1 (q.2.1.map FunP.fu) ∧ q.2.1.length ≤ q.1) (fun (q : Nat × List FunP × Option Addr × Nat) => l.length + 1 - q.1) ((topA (l.map InstP.L) 8, [], none, 0)) hst ⟨FunI.top hkm htp, Nat.zero_le _⟩ trivial ?_
   intro ⟨a, xs, fo, fc⟩ f w hst hJ ih13
   replace hst : St _ _ ([Res.star ((xs).map (Res.ofun 3 56)), Res.sl fo (xs).length fc 54 5 ((xs).flatMap funC), CutR 69 bq ao l.length cp a [.int .i64 ((topA (l.map InstP.L) 0) : Int), .int .i64 ((topA (l.map InstP.L) 1) : Int), .int .i64 ((topA (l.map InstP.L) 1) : Int), .int .i64 ((topA (l.map InstP.L) 2) : Int), .int .i64 ((topA (l.map InstP.L) 2) : Int), .int .i64 ((topA (l.map InstP.L) 3) : Int), .int .i64 ((topA (l.map InstP.L) 3) : Int), .int .i64 ((topA (l.map InstP.L) 4) : Int), .int .i64 ((topA (l.map InstP.L) 4) : Int), .int .i64 ((topA (l.map InstP.L) 5) : Int), .int .i64 ((topA (l.map InstP.L) 5) : Int), .int .i64 ((topA (l.map InstP.L) 6) : Int), .int .i64 ((topA (l.map InstP.L) 6) : Int), .int .i64 ((topA (l.map InstP.L) 7) : Int), .int .i64 ((topA (l.map InstP.L) 7) : Int), .int .i64 ((topA (l.map InstP.L) 8) : Int), .int .i64 ((topA (l.map InstP.L) 8) : Int), .int .i64 (l.length : Int), .int .i64 (l.length : Int), .int .i64 (l.length : Int), .slice fo xs.length fc]] ++ []) _ _ := hst
   replace hJ : FunI (l.map InstP.L) a (xs.map FunP.fu) ∧ xs.length ≤ a := hJ
   have hJa := hJ.1.1
   have hJl := hJ.2
   refine SQ <| SR <| MP rfl <| CN <| Op1.call1 (v1 := .pointer (some ⟨_, _, none⟩)) ent40 rfl rfl <| Ret.det (R5ly_next bq l ao cp a [.int .i64 ((topA (l.map InstP.L) 0) : Int), .int .i64 ((topA (l.map InstP.L) 1) : Int), .int .i64 ((topA (l.map InstP.L) 1) : Int), .int .i64 ((topA (l.map InstP.L) 2) : Int), .int .i64 ((topA (l.map InstP.L) 2) : Int), .int .i64 ((topA (l.map InstP.L) 3) : Int), .int .i64 ((topA (l.map InstP.L) 3) : Int), .int .i64 ((topA (l.map InstP.L) 4) : Int), .int .i64 ((topA (l.map InstP.L) 4) : Int), .int .i64 ((topA (l.map InstP.L) 5) : Int), .int .i64 ((topA (l.map InstP.L) 5) : Int), .int .i64 ((topA (l.map InstP.L) 6) : Int), .int .i64 ((topA (l.map InstP.L) 6) : Int), .int .i64 ((topA (l.map InstP.L) 7) : Int), .int .i64 ((topA (l.map InstP.L) 7) : Int), .int .i64 ((topA (l.map InstP.L) 8) : Int), .int .i64 ((topA (l.map InstP.L) 8) : Int), .int .i64 (l.length : Int), .int .i64 (l.length : Int), .int .i64 (l.length : Int), .slice fo xs.length fc] _ (hst.hL _ (.tail _ (.tail _ (.head _)))) (hst.hD _ (.head _)) (by omega) (by omega) hla hop) hst fun w hst => CN <| Op1.lss rfl rfl <| NL <| run_cond_dec rfl (fun g14 => ?_) (fun g14 => ?_)
   · skip
     have hout := nx_neg g14
     obtain rfl : l.length = a := by have := hJ.1.1; omega
     refine SR <| AB rfl <| NL <| run_ret1 Try.func33 rfl (TP (v := .bool _) rfl) ?_
     replace hst := hst.pick (.cons (.there (.here)) (.cons (.here) (.cons (.here) .nil)))
     replace hst := St.starCons hst
     obtain ⟨ho, hf⟩ := (by have h := hJ.1; rw [← hL] at h; exact h.good : orderF (l.map InstP.L) = (0, 0) ∧ funsK (l.map InstP.L) (l.map InstP.L).length = xs.map FunP.fu)
     exact .inl ⟨fo, fc, xs, htp, ho, (by rw [← hL]; exact hf.symm), rfl, (hst.perm (List.Perm.swap _ _ _)).noD⟩
   have hin := nx_pos g14
   refine run_skip <| SQ <| SR <| MP rfl <| CN <| Op1.call1 (v1 := .pointer (some ⟨_, _, none⟩)) ent40 rfl rfl <| Ret.det (R5ly_next bq l ao cp a [.int .i64 ((topA (l.map InstP.L) 0) : Int), .int .i64 ((topA (l.map InstP.L) 1) : Int), .int .i64 ((topA (l.map InstP.L) 1) : Int), .int .i64 ((topA (l.map InstP.L) 2) : Int), .int .i64 ((topA (l.map InstP.L) 2) : Int), .int .i64 ((topA (l.map InstP.L) 3) : Int), .int .i64 ((topA (l.map InstP.L) 3) : Int), .int .i64 ((topA (l.map InstP.L) 4) : Int), .int .i64 ((topA (l.map InstP.L) 4) : Int), .int .i64 ((topA (l.map InstP.L) 5) : Int), .int .i64 ((topA (l.map InstP.L) 5) : Int), .int .i64 ((topA (l.map InstP.L) 6) : Int), .int .i64 ((topA (l.map InstP.L) 6) : Int), .int .i64 ((topA (l.map InstP.L) 7) : Int), .int .i64 ((topA (l.map InstP.L) 7) : Int), .int .i64 ((topA (l.map InstP.L) 8) : Int), .int .i64 ((topA (l.map InstP.L) 8) : Int), .int .i64 (l.length : Int), .int .i64 (l.length : Int), .int .i64 (l.length : Int), .slice fo xs.length fc] _ (hst.hL _ (.tail _ (.tail _ (.head _)))) (hst.hD _ (.head _)) (by omega) (by omega) hla hop) hst fun w hst => CN <| Op1.neq rfl rfl <| NL <| run_cond_dec rfl (fun g15 => ?_) (fun g15 => ?_)
   · skip
     have hs1 := hJ.1.stuck hin g15
     refine SR <| AB rfl <| NL <| run_ret1 Try.func33 rfl (TP (v := .bool _) rfl) ?_
     replace hst := hst.pick (.cons (.there (.there (.here))) .nil)
     exact .inr ⟨_, _, hs1, rfl, hst.noD⟩
   have h1 : nxF (l.map InstP.L) a = 1 := Classical.not_not.1 g15
   obtain ⟨_, hpl, hpf, hpd, hpn⟩ := hJ.1.par h1
   refine run_skip <| SQ <| RunD.start [] hst (bs := [0, 1, 3, 7, 0, 16, 48, 112, 255, 511, 1023, 0, 2048, 6144, 14336, 32767, 0, 131071]) (ds := [some 42, some 43, some 44, some 45, some 46, some 47, some 48, some 49, some 50, some 51, some 52, some 53, some 54, some 55, some 56, some 57, some 3, none]) ⟨by kernel_rfl, by kernel_rfl, by kernel_rfl⟩ (fun tab16 => ?_)
   refine RunD.op (det _) tab16 1 (fun f' L' w' hc => Op1.move (v := .pointer (some ⟨_, _, none⟩)) (hc.old (v := .pointer (some ⟨_, _, none⟩)) rfl rfl rfl) ⟨[], ⟨rfl, rfl⟩, hc.st⟩) <| RunD.op (det _) tab16 2 (fun f' L' w' hc => Op1.nilCheckP (hc.det (j := 0) rfl rfl rfl rfl) ⟨[], ⟨rfl, rfl⟩, hc.st⟩) <| RunD.op (det _) tab16 3 (fun f' L' w' hc => Op1.fieldAddr fld69_0 (hc.det (j := 1) rfl rfl rfl rfl) ⟨[], ⟨rfl, rfl⟩, hc.st⟩) <| RunD.op (det _) tab16 4 (fun f' L' w' hc => Op1.load1 (v := .slice _ _ _) ty23 rfl (hc.det (j := 2) rfl rfl rfl rfl) (hc.st.cellL (List.mem_append_right _ (.tail _ (.tail _ (.head _)))) rfl) ⟨[], ⟨rfl, rfl⟩, hc.st⟩) <| RunD.op (det _) tab16 5 (fun f' L' w' hc => Op1.move (v := .pointer (some ⟨_, _, none⟩)) (hc.old (v := .pointer (some ⟨_, _, none⟩)) rfl rfl rfl) ⟨[], ⟨rfl, rfl⟩, hc.st⟩) <| RunD.op (det _) tab16 6 (fun f' L' w' hc => Op1.nilCheckP (hc.det (j := 4) rfl rfl rfl rfl) ⟨[], ⟨rfl, rfl⟩, hc.st⟩) <| RunD.op (det _) tab16 7 (fun f' L' w' hc => Op1.fieldAddr fld69_1 (hc.det (j := 5) rfl rfl rfl rfl) ⟨[], ⟨rfl, rfl⟩, hc.st⟩) <| RunD.op (det _) tab16 8 (fun f' L' w' hc => Op1.load1 (v := .int .i64 _) ty3 rfl (hc.det (j := 6) rfl rfl rfl rfl) (hc.st.cellL (List.mem_append_right _ (.tail _ (.tail _ (.head _)))) rfl) ⟨[], ⟨rfl, rfl⟩, hc.st⟩) <| RunD.op (det _) tab16 9 (fun f' L' w' hc => Op1.indexRs ty23 ty39 (Res.rmod_insts (hc.st.hD _ (.head _))) (hc.det (j := 3) rfl rfl rfl rfl) (hc.det (j := 7) rfl rfl rfl rfl) (by omega) (by omega) ⟨[], ⟨rfl, rfl⟩, hc.st⟩) <| RunD.op (det _) tab16 10 (fun f' L' w' hc => Op1.fieldAddr fld39_2 (hc.det (j := 8) rfl rfl rfl rfl) ⟨[], ⟨rfl, rfl⟩, hc.st⟩) <| RunD.op (det _) tab16 11 (fun f' L' w' hc => Op1.load1 (v := .int .u32 _) ty22 rfl (hc.det (j := 9) rfl rfl rfl rfl) (Res.rs2_cellF (Res.rmod_insts (hc.st.hD _ (.head _))) (flat_cell (g := instC) (d := zeroI) instC_len rfl (by omega))) ⟨[], ⟨rfl, rfl⟩, hc.st⟩) <| RunD.op (det _) tab16 12 (fun f' L' w' hc => Op1.move (v := .pointer (some ⟨_, _, none⟩)) (hc.old (v := .pointer (some ⟨_, _, none⟩)) rfl rfl rfl) ⟨[], ⟨rfl, rfl⟩, hc.st⟩) <| RunD.op (det _) tab16 13 (fun f' L' w' hc => Op1.nilCheckP (hc.det (j := 11) rfl rfl rfl rfl) ⟨[], ⟨rfl, rfl⟩, hc.st⟩) <| RunD.op (det _) tab16 14 (fun f' L' w' hc => Op1.fieldAddr fld69_1 (hc.det (j := 12) rfl rfl rfl rfl) ⟨[], ⟨rfl, rfl⟩, hc.st⟩) <| RunD.op (det _) tab16 15 (fun f' L' w' hc => Op1.load1 (v := .int .i64 _) ty3 rfl (hc.det (j := 13) rfl rfl rfl rfl) (hc.st.cellL (List.mem_append_right _ (.tail _ (.tail _ (.head _)))) rfl) ⟨[], ⟨rfl, rfl⟩, hc.st⟩) ?_
   refine RunD.op (det _) tab16 16 (fun f' L' w' hc => Op1.buildStruct ty54 stf54 (.c (v := .int .u32 _) (hc.det (j := 10) rfl rfl rfl rfl) (h := (.c (v := .int .i64 _) (hc.det (j := 14) rfl rfl rfl rfl) (h := .nil)))) ⟨[], ⟨rfl, rfl⟩, hc.st⟩) ?_
   refine RunD.op (fun v rs => ∃ b, v = .pointer (some ⟨b, 0, none⟩) ∧ rs = [Res.row b 54 [.int .u32 0, .int .i64 0, .slice none 0 0, .slice none 0 0, .int .i64 0]]) tab16 17 (fun f' L' w' hc => Op1.alloc hc.st ty54 fun w b hst => ⟨[_], ⟨b, rfl, rfl⟩, hst⟩) <| RunD.fin followsMixed tab16 hst rfl (fun f17 w R20 hs18 hd19 hr21 hst => ?_)
   obtain ⟨h42_, r0⟩ := hd19 0 42 rfl rfl
   obtain ⟨h43_, r1⟩ := hd19 1 43 rfl rfl
   obtain ⟨h44_, r2⟩ := hd19 2 44 rfl rfl
   obtain ⟨h45_, r3⟩ := hd19 3 45 rfl rfl
   obtain ⟨h46_, r4⟩ := hd19 4 46 rfl rfl
   obtain ⟨h47_, r5⟩ := hd19 5 47 rfl rfl
   obtain ⟨h48_, r6⟩ := hd19 6 48 rfl rfl
   obtain ⟨h49_, r7⟩ := hd19 7 49 rfl rfl
   obtain ⟨h50_, r8⟩ := hd19 8 50 rfl rfl
   obtain ⟨h51_, r9⟩ := hd19 9 51 rfl rfl
   obtain ⟨h52_, r10⟩ := hd19 10 52 rfl rfl
   obtain ⟨h53_, r11⟩ := hd19 11 53 rfl rfl
   obtain ⟨h54_, r12⟩ := hd19 12 54 rfl rfl
   obtain ⟨h55_, r13⟩ := hd19 13 55 rfl rfl
   obtain ⟨h56_, r14⟩ := hd19 14 56 rfl rfl
   obtain ⟨h57_, r15⟩ := hd19 15 57 rfl rfl
   obtain ⟨b3, h3_, r16⟩ := hd19 16 3 rfl rfl
   simp only [show List.range 17 = [0, 1, 2, 3, 4, 5, 6, 7, 8, 9, 10, 11, 12, 13, 14, 15, 16] from rfl, List.flatMap_cons, List.flatMap_nil, List.map_cons, List.map_nil, r0, r1, r2, r3, r4, r5, r6, r7, r8, r9, r10, r11, r12, r13, r14, r15, r16, List.nil_append, List.append_nil, List.cons_append] at hst
   refine RunL.slots (sl := [(0, .pointer (some ⟨_, _, none⟩)), (3, .pointer (some ⟨_, _, none⟩)), (57, .agg #[.int .u32 _, .int .i64 _, .slice _ _ _, .slice _ _ _, .int .i64 _])]) ⟨(hs18 0 rfl).trans rfl, h3_, h57_, trivial⟩ ?_
   clear hs18 hd19 hr21 tab16
   refine CN (SO (v := .agg #[.int .u32 _, .int .i64 _, .slice _ _ _, .slice _ _ _, .int .i64 _]) hst ty54 rfl rfl (.here) fun w hst => ?_)
   refine NL <| Run.forget [(0, .pointer (some ⟨_, _, none⟩)), (3, .pointer (some ⟨_, _, none⟩))] ⟨rfl, rfl, trivial⟩ fun f => SR <| MP rfl <| CN <| Op1.nilCheckP rfl <| CN <| Op1.fieldAddr fld69_1 rfl <| CN <| Op1.load1 (v := .int .i64 _) ty3 rfl rfl (hst.cellL (.tail _ (.tail _ (.tail _ (.head _)))) rfl) <| CN <| Op1.addN rfl rfl rfl (wrap_i64 (by omega) (by omega)) <| CN <| Op1.nilCheckP rfl <| CN <| Op1.fieldAddr fld69_1 rfl <| CN (SO (v := .int .i64 _) hst ty3 rfl rfl (.there (.there (.there (.here)))) fun w hst => ?_)
   refine NSR <| MP rfl ?_
   replace hst := hst.pick (.cons (.there (.there (.there (.here)))) (.cons (.here) (.cons (.here) (.cons (.here) .nil))))
   refine CN (Op1.call2 (v1 := .pointer (some ⟨_, _, none⟩)) (v2 := .int .i64 _) ent41 rfl rfl rfl ((R5ly_row bq l ao cp (a + 1) [.int .i64 ((topA (l.map InstP.L) 0) : Int), .int .i64 ((topA (l.map InstP.L) 1) : Int), .int .i64 ((topA (l.map InstP.L) 1) : Int), .int .i64 ((topA (l.map InstP.L) 2) : Int), .int .i64 ((topA (l.map InstP.L) 2) : Int), .int .i64 ((topA (l.map InstP.L) 3) : Int), .int .i64 ((topA (l.map InstP.L) 3) : Int), .int .i64 ((topA (l.map InstP.L) 4) : Int), .int .i64 ((topA (l.map InstP.L) 4) : Int), .int .i64 ((topA (l.map InstP.L) 5) : Int), .int .i64 ((topA (l.map InstP.L) 5) : Int), .int .i64 ((topA (l.map InstP.L) 6) : Int), .int .i64 ((topA (l.map InstP.L) 6) : Int), .int .i64 ((topA (l.map InstP.L) 7) : Int), .int .i64 ((topA (l.map InstP.L) 7) : Int), .int .i64 ((topA (l.map InstP.L) 8) : Int), .int .i64 ((topA (l.map InstP.L) 8) : Int), .int .i64 (l.length : Int), .int .i64 (l.length : Int), .int .i64 (l.length : Int), .slice fo xs.length fc] 2 (by decide) _ (hst.hL _ (.head _)) (hst.hD _ (.head _)) (hst.sepD _ (.head _) _ (.head _)) (by omega) (by omega) hla hop).mono fun v w hp => ?_))
   obtain ⟨ro, rc, rfl, hp⟩ := hp
   replace hst : St _ _ (_ :: _ :: _) _ _ := hst.call1 hp
   clear hp
   refine CN <| Op1.fieldAddr fld54_2 rfl <| CN (SO (v := .slice _ _ _) hst ty51 rfl rfl (.there (.there (.here))) fun w hst => ?_)
   refine NL <| SQ <| run_label <| SQ <| run_block <| run_loop ?_
   replace hst := hst.pushNil 56 3
   replace hst := hst.pick (.cons (.there (.here)) (.cons (.there (.there (.here))) (.cons (.here) (.cons (.here) (.cons (.here) (.cons (.here) .nil))))))
   replace hst : St _ _ (CutR 69 bq ao l.length cp (a + 1 + runN (l.map InstP.L) 2 (a + 1)) [.int .i64 ((topA (l.map InstP.L) 0) : Int), .int .i64 ((topA (l.map InstP.L) 1) : Int), .int .i64 ((topA (l.map InstP.L) 1) : Int), .int .i64 ((topA (l.map InstP.L) 2) : Int), .int .i64 ((topA (l.map InstP.L) 2) : Int), .int .i64 ((topA (l.map InstP.L) 3) : Int), .int .i64 ((topA (l.map InstP.L) 3) : Int), .int .i64 ((topA (l.map InstP.L) 4) : Int), .int .i64 ((topA (l.map InstP.L) 4) : Int), .int .i64 ((topA (l.map InstP.L) 5) : Int), .int .i64 ((topA (l.map InstP.L) 5) : Int), .int .i64 ((topA (l.map InstP.L) 6) : Int), .int .i64 ((topA (l.map InstP.L) 6) : Int), .int .i64 ((topA (l.map InstP.L) 7) : Int), .int .i64 ((topA (l.map InstP.L) 7) : Int), .int .i64 ((topA (l.map InstP.L) 8) : Int), .int .i64 ((topA (l.map InstP.L) 8) : Int), .int .i64 (l.length : Int), .int .i64 (l.length : Int), .int .i64 (l.length : Int), .slice fo xs.length fc] :: FunR 54 b3 (⟨(l.getD a zeroI).res, (a : Int), (places (a + 1) (runN (l.map InstP.L) 2 (a + 1))), [], 0⟩ : FunL) ro rc none 0 :: Res.sl none (FunL.blocks (⟨(l.getD a zeroI).res, (a : Int), (places (a + 1) (runN (l.map InstP.L) 2 (a + 1))), [], 0⟩ : FunL)).length 0 56 3 ((FunL.blocks (⟨(l.getD a zeroI).res, (a : Int), (places (a + 1) (runN (l.map InstP.L) 2 (a + 1))), [], 0⟩ : FunL)).flatMap bkC) :: _) _ _ := hst
   have hbi : BlkI (l.map InstP.L) (a + 1 + runN (l.map InstP.L) 2 (a + 1)) (xs.map FunP.fu) (⟨(l.getD a zeroI).res, (a : Int), (places (a + 1) (runN (l.map InstP.L) 2 (a + 1))), [], 0⟩ : FunL) := ⟨hpl, by rw [hpf, getD_map], rfl, .inl ⟨rfl, hpd, hpn⟩⟩
   refine Run.indW [(0, .pointer (some ⟨_, _, none⟩)), (3, .pointer (some ⟨_, _, none⟩))] ⟨rfl, rfl, trivial⟩ (fun (r : Nat × List BlkL × Option Addr × Nat) => []) (fun (r : Nat × List BlkL × Option Addr × Nat) => [CutR 69 bq ao l.length cp r.1 [.int .i64 ((topA (l.map InstP.L) 0) : Int), .int .i64 ((topA (l.map InstP.L) 1) : Int), .int .i64 ((topA (l.map InstP.L) 1) : Int), .int .i64 ((topA (l.map InstP.L) 2) : Int), .int .i64 ((topA (l.map InstP.L) 2) : Int), .int .i64 ((topA (l.map InstP.L) 3) : Int), .int .i64 ((topA (l.map InstP.L) 3) : Int), .int .i64 ((topA (l.map InstP.L) 4) : Int), .int .i64 ((topA (l.map InstP.L) 4) : Int), .int .i64 ((topA (l.map InstP.L) 5) : Int), .int .i64 ((topA (l.map InstP.L) 5) : Int), .int .i64 ((topA (l.map InstP.L) 6) : Int), .int .i64 ((topA (l.map InstP.L) 6) : Int), .int .i64 ((topA (l.map InstP.L) 7) : Int), .int .i64 ((topA (l.map InstP.L) 7) : Int), .int .i64 ((topA (l.map InstP.L) 8) : Int), .int .i64 ((topA (l.map InstP.L) 8) : Int), .int .i64 (l.length : Int), .int .i64 (l.length : Int), .int .i64 (l.length : Int), .slice fo xs.length fc], FunR 54 b3 (⟨(l.getD a zeroI).res, (a : Int), (places (a + 1) (runN (l.map InstP.L) 2 (a + 1))), r.2.1, 0⟩ : FunL) ro rc r.2.2.1 r.2.2.2, Res.sl r.2.2.1 r.2.1.length r.2.2.2 56 3 (r.2.1.flatMap bkC)]) (fun (r : Nat × List BlkL × Option Addr × Nat) => BlkI (l.map InstP.L) r.1 (xs.map FunP.fu) (⟨(l.getD a zeroI).res, (a : Int), (places (a + 1) (runN (l.map InstP.L) 2 (a + 1))), r.2.1, 0⟩ : FunL) ∧ r.2.1.length ≤ r.1 ∧ a < r.1) (fun (r : Nat × List BlkL × Option Addr × Nat) => l.length + 1 - r.1) (((a + 1 + runN (l.map InstP.L) 2 (a + 1)), [], none, 0)) hst ⟨hbi, Nat.zero_le _, (by (try dsimp only); omega)⟩ trivial ?_
   intro ⟨c, bs, bo, bc⟩ f w hst hK ih22
   replace hst : St _ _ ([CutR 69 bq ao l.length cp c [.int .i64 ((topA (l.map InstP.L) 0) : Int), .int .i64 ((topA (l.map InstP.L) 1) : Int), .int .i64 ((topA (l.map InstP.L) 1) : Int), .int .i64 ((topA (l.map InstP.L) 2) : Int), .int .i64 ((topA (l.map InstP.L) 2) : Int), .int .i64 ((topA (l.map InstP.L) 3) : Int), .int .i64 ((topA (l.map InstP.L) 3) : Int), .int .i64 ((topA (l.map InstP.L) 4) : Int), .int .i64 ((topA (l.map InstP.L) 4) : Int), .int .i64 ((topA (l.map InstP.L) 5) : Int), .int .i64 ((topA (l.map InstP.L) 5) : Int), .int .i64 ((topA (l.map InstP.L) 6) : Int), .int .i64 ((topA (l.map InstP.L) 6) : Int), .int .i64 ((topA (l.map InstP.L) 7) : Int), .int .i64 ((topA (l.map InstP.L) 7) : Int), .int .i64 ((topA (l.map InstP.L) 8) : Int), .int .i64 ((topA (l.map InstP.L) 8) : Int), .int .i64 (l.length : Int), .int .i64 (l.length : Int), .int .i64 (l.length : Int), .slice fo xs.length fc], FunR 54 b3 (⟨(l.getD a zeroI).res, (a : Int), (places (a + 1) (runN (l.map InstP.L) 2 (a + 1))), bs, 0⟩ : FunL) ro rc bo bc, Res.sl bo bs.length bc 56 3 (bs.flatMap bkC)] ++ [_, _, _]) _ _ := hst
   replace hK : BlkI (l.map InstP.L) c (xs.map FunP.fu) (⟨(l.getD a zeroI).res, (a : Int), (places (a + 1) (runN (l.map InstP.L) 2 (a + 1))), bs, 0⟩ : FunL) ∧ bs.length ≤ c ∧ a < c := hK
   have hKc := hK.1.1
   have hKa := hK.2
   refine SQ <| SR <| MP rfl <| CN <| Op1.call1 (v1 := .pointer (some ⟨_, _, none⟩)) ent40 rfl rfl <| Ret.det (R5ly_next bq l ao cp c [.int .i64 ((topA (l.map InstP.L) 0) : Int), .int .i64 ((topA (l.map InstP.L) 1) : Int), .int .i64 ((topA (l.map InstP.L) 1) : Int), .int .i64 ((topA (l.map InstP.L) 2) : Int), .int .i64 ((topA (l.map InstP.L) 2) : Int), .int .i64 ((topA (l.map InstP.L) 3) : Int), .int .i64 ((topA (l.map InstP.L) 3) : Int), .int .i64 ((topA (l.map InstP.L) 4) : Int), .int .i64 ((topA (l.map InstP.L) 4) : Int), .int .i64 ((topA (l.map InstP.L) 5) : Int), .int .i64 ((topA (l.map InstP.L) 5) : Int), .int .i64 ((topA (l.map InstP.L) 6) : Int), .int .i64 ((topA (l.map InstP.L) 6) : Int), .int .i64 ((topA (l.map InstP.L) 7) : Int), .int .i64 ((topA (l.map InstP.L) 7) : Int), .int .i64 ((topA (l.map InstP.L) 8) : Int), .int .i64 ((topA (l.map InstP.L) 8) : Int), .int .i64 (l.length : Int), .int .i64 (l.length : Int), .int .i64 (l.length : Int), .slice fo xs.length fc] _ (hst.hL _ (.head _)) (hst.hD _ (.head _)) (by omega) (by omega) hla hop) hst fun w hst => CN <| Op1.eql rfl rfl <| NL <| run_cond_dec rfl (fun g23 => ?_) (fun g23 => ?_)
   · skip
     have h3 : nxF (l.map InstP.L) c = 3 := g23
     refine run_skip <| run_block <| SQ <| SR <| MP rfl ?_
     replace hst := hst.pick (.cons (.here) (.cons (.here) (.cons (.here) (.cons (.here) (.cons (.here) (.cons (.here) .nil))))))
     replace hst : St _ _ (Res.star [_, _, _] :: _) _ _ := hst.pack (L1 := [_, _, _])
     refine CN (Op1.call2 (v1 := .pointer (some ⟨_, _, none⟩)) (v2 := .pointer (some ⟨_, _, none⟩)) ent42 rfl rfl rfl ((R5ly_block bq l ao cp c [.int .i64 ((topA (l.map InstP.L) 0) : Int), .int .i64 ((topA (l.map InstP.L) 1) : Int), .int .i64 ((topA (l.map InstP.L) 1) : Int), .int .i64 ((topA (l.map InstP.L) 2) : Int), .int .i64 ((topA (l.map InstP.L) 2) : Int), .int .i64 ((topA (l.map InstP.L) 3) : Int), .int .i64 ((topA (l.map InstP.L) 3) : Int), .int .i64 ((topA (l.map InstP.L) 4) : Int), .int .i64 ((topA (l.map InstP.L) 4) : Int), .int .i64 ((topA (l.map InstP.L) 5) : Int), .int .i64 ((topA (l.map InstP.L) 5) : Int), .int .i64 ((topA (l.map InstP.L) 6) : Int), .int .i64 ((topA (l.map InstP.L) 6) : Int), .int .i64 ((topA (l.map InstP.L) 7) : Int), .int .i64 ((topA (l.map InstP.L) 7) : Int), .int .i64 ((topA (l.map InstP.L) 8) : Int), .int .i64 ((topA (l.map InstP.L) 8) : Int), .int .i64 (l.length : Int), .int .i64 (l.length : Int), .int .i64 (l.length : Int), .slice fo xs.length fc] b3 (⟨(l.getD a zeroI).res, (a : Int), (places (a + 1) (runN (l.map InstP.L) 2 (a + 1))), bs, 0⟩ : FunL) ro rc bo bc hkm (hK.1.pre h3) _ (hst.hL _ (.head _)) (hst.hD _ (.head _)) ((hst.sepD _ (.head _) _ (.head _))) (by (try dsimp only); omega) (by have := hK.1.1; omega) (by omega) hla hop).mono fun v w hp => ?_))
     rcases hp with ⟨e, bo2, bc2, hce, hdn, rfl, hp⟩ | ⟨e, hs1, rfl, hp⟩
     · skip
       replace hst : St _ _ (Res.star [_, _, _] :: _) _ _ := hst.call1 hp
       replace hst : St _ _ (_ :: _ :: _ :: _) _ _ := hst.unpack
       clear hp
       refine CN <| Op1.not rfl <| NL <| run_cond_false (congrArg Value.bool (congrArg not (rfl : true = _))) <| run_skip <| run_exit (id := 1) rfl <| run_inLoop ?_
       exact ih22 ((e, (bs ++ [(⟨(l.getD c zeroI).res, (c : Int), (e : Int)⟩ : BlkL)]), bo2, bc2)) _ w (by (try dsimp only); have := hdn.1; omega) hst (⟨by have h := hdn.blk rfl; rw [getD_map] at h; exact h, by (try dsimp only); rw [List.length_append]; simp only [List.length_cons, List.length_nil]; omega, by (try dsimp only); omega⟩) ⟨rfl, rfl, trivial⟩ trivial
     · skip
       replace hst : St _ _ (_ :: _) _ _ := hst.call1 hp
       clear hp
       refine CN <| Op1.not rfl <| NL <| run_cond_true (congrArg Value.bool (congrArg not (rfl : false = _))) <| SR <| AB rfl <| NL <| run_ret1 Try.func33 rfl (TP (v := .bool _) rfl) ?_
       replace hst := hst.pick (.cons (.here) .nil)
       exact .inr ⟨_, _, hs1, rfl, hst.noD⟩
   refine run_exit (id := 0) rfl <| SQ <| SR <| CN <| Op1.fieldAddr fld54_3 rfl <| CN <| Op1.load1 (v := .slice _ _ _) ty52 rfl rfl (hst.cellL (.tail _ (.head _)) rfl) <| CN <| Op1.lenSl (rest := []) ty52 rfl <| CN <| Op1.eql rfl rfl <| MB rfl <| RunL.splitD (d := 78) rfl (fun g24 => ?_) (fun g24 => ?_)
   · skip
     refine OM (t := 78) rfl (congrArg Value.bool (decide_eq_true g24)) rfl <| OM (t := 78) rfl (congrArg Value.bool (decide_eq_true g24)) rfl <| OM (t := 78) rfl (congrArg Value.bool (decide_eq_true g24)) rfl <| CN <| Op1.pickT (u := .bool _) (congrArg Value.bool (decide_eq_true g24)) rfl <| NL ?_
     have hs1 := hK.1.stuck g23 (.inl (List.length_eq_zero_iff.1 (by omega)))
     refine run_cond_true (congrArg Value.bool (rfl : true = _)) <| SR <| AB rfl <| NL <| run_ret1 Try.func33 rfl (TP (v := .bool _) rfl) ?_
     replace hst := hst.pick (.cons (.here) .nil)
     exact .inr ⟨_, _, hs1, rfl, hst.noD⟩
   refine TK (t := 78) rfl (congrArg Value.bool (decide_eq_false g24)) <| Op1.move (v := .pointer (some ⟨_, _, none⟩)) rfl <| TK (t := 78) rfl (congrArg Value.bool (decide_eq_false g24)) (Op1.call1 (v1 := .pointer (some ⟨_, _, none⟩)) ent40 rfl rfl ((R5ly_next bq l ao cp c [.int .i64 ((topA (l.map InstP.L) 0) : Int), .int .i64 ((topA (l.map InstP.L) 1) : Int), .int .i64 ((topA (l.map InstP.L) 1) : Int), .int .i64 ((topA (l.map InstP.L) 2) : Int), .int .i64 ((topA (l.map InstP.L) 2) : Int), .int .i64 ((topA (l.map InstP.L) 3) : Int), .int .i64 ((topA (l.map InstP.L) 3) : Int), .int .i64 ((topA (l.map InstP.L) 4) : Int), .int .i64 ((topA (l.map InstP.L) 4) : Int), .int .i64 ((topA (l.map InstP.L) 5) : Int), .int .i64 ((topA (l.map InstP.L) 5) : Int), .int .i64 ((topA (l.map InstP.L) 6) : Int), .int .i64 ((topA (l.map InstP.L) 6) : Int), .int .i64 ((topA (l.map InstP.L) 7) : Int), .int .i64 ((topA (l.map InstP.L) 7) : Int), .int .i64 ((topA (l.map InstP.L) 8) : Int), .int .i64 ((topA (l.map InstP.L) 8) : Int), .int .i64 (l.length : Int), .int .i64 (l.length : Int), .int .i64 (l.length : Int), .slice fo xs.length fc] _ (hst.hL _ (.head _)) (hst.hD _ (.head _)) (by omega) (by omega) hla hop).mono fun v w hp => ?_))
   obtain ⟨rfl, hp⟩ := hp
   replace hst := hst.keepc hp
   clear hp
   refine TK (t := 78) rfl (congrArg Value.bool (decide_eq_false g24)) <| Op1.neq rfl rfl <| CN <| Op1.pickF (u := .bool _) (congrArg Value.bool (decide_eq_false g24)) rfl <| NL <| run_cond_dec rfl (fun g25 => ?_) (fun g25 => ?_)
   · skip
     have hs1 := hK.1.stuck g23 (.inr g25)
     refine SR <| AB rfl <| NL <| run_ret1 Try.func33 rfl (TP (v := .bool _) rfl) ?_
     replace hst := hst.pick (.cons (.here) .nil)
     exact .inr ⟨_, _, hs1, rfl, hst.noD⟩
   have hbne : bs ≠ [] := fun e => by subst e; exact absurd rfl (by omega)
   have h8 : nxF (l.map InstP.L) c = 8 := Classical.not_not.1 g25
   have hfi := hK.1.fin hbne h8
   have hin8 := nx_in h8
   refine run_skip <| SR <| MP rfl <| CN <| Op1.nilCheckP rfl <| CN <| Op1.fieldAddr fld69_1 rfl <| CN <| Op1.load1 (v := .int .i64 _) ty3 rfl rfl (hst.cellL (.head _) rfl) <| CN <| Op1.fieldAddr fld54_4 rfl <| CN (SO (v := .int .i64 _) hst ty3 rfl rfl (.there (.here)) fun w hst => ?_)
   refine NSR <| MP rfl <| CN <| Op1.nilCheckP rfl <| CN <| Op1.fieldAddr fld69_1 rfl <| CN <| Op1.load1 (v := .int .i64 _) ty3 rfl rfl (hst.cellL (.head _) rfl) <| CN <| Op1.addN rfl rfl rfl (wrap_i64 (by omega) (by omega)) <| CN <| Op1.nilCheckP rfl <| CN <| Op1.fieldAddr fld69_1 rfl <| CN (SO (v := .int .i64 _) hst ty3 rfl rfl (.here) fun w hst => ?_)
   refine NL <| Run.forget [(0, .pointer (some ⟨_, _, none⟩)), (3, .pointer (some ⟨_, _, none⟩))] ⟨rfl, rfl, trivial⟩ fun f => SQ ?_
   replace hst := hst.pick (.cons (.there (.here)) (.cons (.here) (.cons (.here) (.cons (.here) (.cons (.here) (.cons (.here) .nil))))))
   replace hst : St _ _ (Res.row b3 54 [.int .u32 (l.getD a zeroI).res, .int .i64 (a : Int), .slice ro (places (a + 1) (runN (l.map InstP.L) 2 (a + 1))).length rc, .slice bo bs.length bc, .int .i64 (c : Int)] :: CutR 69 bq ao l.length cp (c + 1) [.int .i64 ((topA (l.map InstP.L) 0) : Int), .int .i64 ((topA (l.map InstP.L) 1) : Int), .int .i64 ((topA (l.map InstP.L) 1) : Int), .int .i64 ((topA (l.map InstP.L) 2) : Int), .int .i64 ((topA (l.map InstP.L) 2) : Int), .int .i64 ((topA (l.map InstP.L) 3) : Int), .int .i64 ((topA (l.map InstP.L) 3) : Int), .int .i64 ((topA (l.map InstP.L) 4) : Int), .int .i64 ((topA (l.map InstP.L) 4) : Int), .int .i64 ((topA (l.map InstP.L) 5) : Int), .int .i64 ((topA (l.map InstP.L) 5) : Int), .int .i64 ((topA (l.map InstP.L) 6) : Int), .int .i64 ((topA (l.map InstP.L) 6) : Int), .int .i64 ((topA (l.map InstP.L) 7) : Int), .int .i64 ((topA (l.map InstP.L) 7) : Int), .int .i64 ((topA (l.map InstP.L) 8) : Int), .int .i64 ((topA (l.map InstP.L) 8) : Int), .int .i64 (l.length : Int), .int .i64 (l.length : Int), .int .i64 (l.length : Int), .slice fo xs.length fc] :: _) _ _ := hst
   replace hst := hst.pick (.cons (.there (.there (.there (.there (.there (.here)))))) (.cons (.here) (.cons (.here) (.cons (.here) (.cons (.here) (.cons (.here) .nil))))))
   apply RunD.start [(7, Res.sl _ _ _ _ _ _, Res.emp)] hst (bs := [0, 0, 2, 6, 14, 0, 32, 126, 255, 511, 1023]) (ds := [some 95, some 96, some 97, some 98, some 99, some 100, some 101, some 102, some 103, some 104, none]) (htab := ⟨by kernel_rfl, by kernel_rfl, by kernel_rfl⟩)
   intro tab26
   refine RunD.op (det _) tab26 1 (fun f' L' w' hc => Op1.move (v := .pointer (some ⟨_, _, none⟩)) (hc.old (v := .pointer (some ⟨_, _, none⟩)) rfl rfl rfl) ⟨[], ⟨rfl, rfl⟩, hc.st⟩) <| RunD.op (det _) tab26 2 (fun f' L' w' hc => Op1.move (v := .pointer (some ⟨_, _, none⟩)) (hc.old (v := .pointer (some ⟨_, _, none⟩)) rfl rfl rfl) ⟨[], ⟨rfl, rfl⟩, hc.st⟩) <| RunD.op (det _) tab26 3 (fun f' L' w' hc => Op1.nilCheckP (hc.det (j := 1) rfl rfl rfl rfl) ⟨[], ⟨rfl, rfl⟩, hc.st⟩) <| RunD.op (det _) tab26 4 (fun f' L' w' hc => Op1.fieldAddr fld69_3 (hc.det (j := 2) rfl rfl rfl rfl) ⟨[], ⟨rfl, rfl⟩, hc.st⟩) <| RunD.op (det _) tab26 5 (fun f' L' w' hc => Op1.load1 (v := .slice _ _ _) ty45 rfl (hc.det (j := 3) rfl rfl rfl rfl) (hc.st.cellL (List.mem_append_right _ (.tail _ (.head _))) rfl) ⟨[], ⟨rfl, rfl⟩, hc.st⟩) <| RunD.op (det _) tab26 6 (fun f' L' w' hc => Op1.loadA (vs := [.int .u32 _, .int .i64 _, .slice _ _ _, .slice _ _ _, .int .i64 _]) ty54 rfl (hc.old (v := .pointer (some ⟨_, _, none⟩)) rfl rfl rfl) rfl (cells_of_obj (n := 5) (hc.st.objL (List.mem_append_right _ (.head _))) _ rfl) ⟨[], ⟨rfl, rfl⟩, hc.st⟩) <| RunD.op (fun v rs => ∃ b, v = .slice (some ⟨b, 0, none⟩) 1 1 ∧ rs = [Res.row b 54 ([.int .u32 (l.getD a zeroI).res, .int .i64 (a : Int), .slice ro (places (a + 1) (runN (l.map InstP.L) 2 (a + 1))).length rc, .slice bo bs.length bc, .int .i64 (c : Int)])]) tab26 7 (fun f' L' w' hc => Op1.buildSl (z0 := [.int .u32 0, .int .i64 0, .slice none 0 0, .slice none 0 0, .int .i64 0]) hc.st ty45 ty54 rfl rfl (by kernel_rfl) (.c (v := .agg #[.int .u32 _, .int .i64 _, .slice _ _ _, .slice _ _ _, .int .i64 _]) (hc.det (j := 5) rfl rfl rfl rfl) (h := .nil)) fun w b hst => ⟨[_], ⟨b, rfl, rfl⟩, hst⟩) ?_
   refine RunD.ownC (fun g v rs => ∃ ao2 cp2, v = .slice ao2 (xs.length + 1) cp2 ∧ rs = [Res.sl ao2 (xs.length + 1) cp2 54 5 (xs.flatMap funC ++ [.int .u32 (l.getD a zeroI).res, .int .i64 (a : Int), .slice ro (places (a + 1) (runN (l.map InstP.L) 2 (a + 1))).length rc, .slice bo bs.length bc, .int .i64 (c : Int)])]) tab26 8 (.head _) (fun f' L' L'' w' hc ⟨X, hrem, hX⟩ => by obtain ⟨_, rs, ⟨b101, h101, hrs⟩, _, hm⟩ := hc.dep 6 101 rfl rfl; subst hrs; exact Op1.append (news := [.int .u32 (l.getD a zeroI).res, .int .i64 (a : Int), .slice ro (places (a + 1) (runN (l.map InstP.L) 2 (a + 1))).length rc, .slice bo bs.length bc, .int .i64 (c : Int)]) hc.st ty45 ty54 rfl rfl hrem (hc.det (j := 4) rfl rfl rfl rfl) (evs h101 rfl) rfl (cells_of_obj (n := 5) (hc.st.objL (List.mem_append_left _ (hm rfl _ (.head _)))) _ rfl) rfl rfl (by omega) fun w ao2 cp2 hst => ⟨[_], fun g hg => ⟨_, _, rfl, rfl⟩, hX _ _ hst⟩) <| RunD.fin followsMixed tab26 hst rfl (fun f27 w R30 hs28 hd29 hr31 hst => ?_)
   obtain ⟨h95_, r0⟩ := hd29 0 95 rfl rfl
   obtain ⟨h96_, r1⟩ := hd29 1 96 rfl rfl
   obtain ⟨h97_, r2⟩ := hd29 2 97 rfl rfl
   obtain ⟨h98_, r3⟩ := hd29 3 98 rfl rfl
   obtain ⟨h99_, r4⟩ := hd29 4 99 rfl rfl
   obtain ⟨h100_, r5⟩ := hd29 5 100 rfl rfl
   obtain ⟨b101, h101_, r6⟩ := hd29 6 101 rfl rfl
   obtain ⟨ao2, cp2, h102_, r7⟩ := hd29 7 102 rfl rfl
   simp only [show List.range 8 = [0, 1, 2, 3, 4, 5, 6, 7] from rfl, List.flatMap_cons, List.flatMap_nil, List.map_cons, List.map_nil, r0, r1, r2, r3, r4, r5, r6, r7, List.nil_append, List.append_nil, List.cons_append] at hst
   refine RunL.slots (sl := [(0, .pointer (some ⟨_, _, none⟩)), (95, .pointer (some ⟨_, _, none⟩)), (102, .slice _ _ _)]) ⟨(hs28 0 rfl).trans rfl, h95_, h102_, trivial⟩ ?_
   clear hs28 hd29 hr31 tab26
   refine CN <| Op1.nilCheckP rfl <| CN <| Op1.fieldAddr fld69_3 rfl <| CN (SO (v := .slice _ _ _) hst ty45 rfl rfl (.there (.there (.there (.there (.here))))) fun w hst => ?_)
   refine NL ?_
   replace hst := hst.pick (.cons (.there (.there (.there (.there (.there (.there (.here))))))) (.cons (.there (.there (.there (.there (.there (.here)))))) (.cons (.here) (.cons (.here) (.cons (.here) (.cons (.here) (.cons (.here) (.cons (.here) .nil))))))))
   replace hst : St _ _ (Res.star [_, _] :: _) _ _ := hst.pack (L1 := [_, _])
   replace hst := hst.pick (.cons (.here) (.cons (.there (.there (.there (.there (.there (.here)))))) (.cons (.here) (.cons (.here) (.cons (.here) (.cons (.here) (.cons (.here) .nil)))))))
   replace hst := hst.starSnoc
   have e1 : xs.length + 1 = (xs ++ [(⟨(⟨(l.getD a zeroI).res, (a : Int), (places (a + 1) (runN (l.map InstP.L) 2 (a + 1))), bs, (c : Int)⟩ : FunL), ro, rc, bo, bc⟩ : FunP)]).length := by simp
   have e2 : xs.flatMap funC ++ [.int .u32 (l.getD a zeroI).res, .int .i64 (a : Int), .slice ro (places (a + 1) (runN (l.map InstP.L) 2 (a + 1))).length rc, .slice bo bs.length bc, .int .i64 (c : Int)] = (xs ++ [(⟨(⟨(l.getD a zeroI).res, (a : Int), (places (a + 1) (runN (l.map InstP.L) 2 (a + 1))), bs, (c : Int)⟩ : FunL), ro, rc, bo, bc⟩ : FunP)]).flatMap funC := by simp
   have e3 : xs.map (Res.ofun 3 56) ++ [Res.ofun 3 56 (⟨(⟨(l.getD a zeroI).res, (a : Int), (places (a + 1) (runN (l.map InstP.L) 2 (a + 1))), bs, (c : Int)⟩ : FunL), ro, rc, bo, bc⟩ : FunP)] = (xs ++ [(⟨(⟨(l.getD a zeroI).res, (a : Int), (places (a + 1) (runN (l.map InstP.L) 2 (a + 1))), bs, (c : Int)⟩ : FunL), ro, rc, bo, bc⟩ : FunP)]).map (Res.ofun 3 56) := by simp
   have e4 : xs.map FunP.fu ++ [(⟨(l.getD a zeroI).res, (a : Int), (places (a + 1) (runN (l.map InstP.L) 2 (a + 1))), bs, (c : Int)⟩ : FunL)] = (xs ++ [(⟨(⟨(l.getD a zeroI).res, (a : Int), (places (a + 1) (runN (l.map InstP.L) 2 (a + 1))), bs, (c : Int)⟩ : FunL), ro, rc, bo, bc⟩ : FunP)]).map FunP.fu := by simp
   replace hst : St _ _ (Res.star (xs.map (Res.ofun 3 56) ++ [Res.ofun 3 56 (⟨(⟨(l.getD a zeroI).res, (a : Int), (places (a + 1) (runN (l.map InstP.L) 2 (a + 1))), bs, (c : Int)⟩ : FunL), ro, rc, bo, bc⟩ : FunP)]) :: _) _ _ := hst
   rw [e1, e2, e3] at hst
   have hfi2 : FunI (l.map InstP.L) (c + 1) (xs.map FunP.fu ++ [(⟨(l.getD a zeroI).res, (a : Int), (places (a + 1) (runN (l.map InstP.L) 2 (a + 1))), bs, (c : Int)⟩ : FunL)]) := hfi
   rw [e4] at hfi2
   replace hst := hst.pick (.cons (.here) (.cons (.there (.here)) (.cons (.there (.there (.there (.here)))) .nil)))
   refine run_goto ?_ (SQ (run_skip (ih13 ((c + 1, xs ++ [(⟨(⟨(l.getD a zeroI).res, (a : Int), (places (a + 1) (runN (l.map InstP.L) 2 (a + 1))), bs, (c : Int)⟩ : FunL), ro, rc, bo, bc⟩ : FunP)], ao2, cp2)) _ w (by (try dsimp only); have := hK.2.2; omega) hst (⟨hfi2, by (try dsimp only); rw [← e1]; have := hK.2.2; omega⟩) ⟨rfl, trivial⟩ trivial)))
   rfl
 · skip
   replace hst : St _ _ (_ :: _) _ _ := hst.call1 hp
   clear hp
   refine CN <| Op1.not rfl <| NL <| run_cond_true (congrArg Value.bool (congrArg not (rfl : false = _))) <| SR <| AB rfl <| NL <| run_ret1 Try.func33 rfl (TP (v := .bool _) rfl) ?_
   replace hst := hst.pick (.cons (.here) .nil)
   exact .inr ⟨_, tl, (by rw [htp]; exact top_none hkm htp), rfl, hst.noD⟩
end Go.SK
namespace Go.SK
open Go Go.Proofs
theorem ent32 : Enters Try.prog 32 := ⟨Try.f32, _, Try.func32, by kernel_rfl, rfl⟩
theorem ty69 : TyF Try.prog 69 (.struct (fieldsOf Try.prog 69)) 23 216 [.slice none 0 0, .int .i64 0, .int .i64 0, .int .i64 0, .int .i64 0, .int .i64 0, .int .i64 0, .int .i64 0, .int .i64 0, .int .i64 0, .int .i64 0, .int .i64 0, .int .i64 0, .int .i64 0, .int .i64 0, .int .i64 0, .int .i64 0, .int .i64 0, .int .i64 0, .int .i64 0, .int .i64 0, .int .i64 0, .slice none 0 0] := TyF.of (by kernel_rfl) (by kernel_rfl)
theorem stf69 : StructF Try.prog 69 [(0, 1), (1, 1), (2, 20), (22, 1)] := ⟨fieldsOf Try.prog 69, by kernel_rfl, fun w => by kernel_rfl⟩
theorem ent33 : Enters Try.prog 33 := ⟨Try.f33, _, Try.func33, by kernel_rfl, rfl⟩
end Go.SK
