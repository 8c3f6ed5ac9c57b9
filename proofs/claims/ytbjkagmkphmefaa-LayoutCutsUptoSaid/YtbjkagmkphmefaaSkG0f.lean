/-
  Steps of functions, plain law, and walks of functions: what the laws rest on.
-/
import Derived.Test.YtbjkagmkphmefaaSkG0e
set_option linter.unusedVariables false
set_option linter.unusedSimpArgs false
set_option linter.unusedSectionVars false
namespace Go.SK
open Go Go.Proofs
open Go.RowKit
theorem R5ly_block (bq : Nat) (l : List InstP) (ao : Option Addr) (cp : Nat) (k : Nat) (tail : List Value) (bf : Nat) (fu : FunL) (po : Option Addr) (pc : Nat) (bo : Option Addr) (bc : Nat) {fs : List FunL} (hkm : ∀ i ∈ (l.map InstP.L), i.Known) (hp : BlkPre (l.map InstP.L) k fs fu) (w : World) (hR : (Res.star [CutR 69 bq ao l.length cp k tail, FunR 54 bf fu po pc bo bc, Res.sl bo (FunL.blocks fu).length bc 56 3 ((FunL.blocks fu).flatMap bkC)]).holds w) (hA : (Res.rmod ao l).holds w) (hap : Apart (Res.star [CutR 69 bq ao l.length cp k tail, FunR 54 bf fu po pc bo bc, Res.sl bo (FunL.blocks fu).length bc 56 3 ((FunL.blocks fu).flatMap bkC)]) (Res.rmod ao l)) (hnb : fu.blocks.length ≤ k) (hk : k ≤ l.length) (hl : l.length ≤ 3000000000000) (hla : ∀ i ∈ l, i.args.length ≤ 9000000000000000000) (hop : ∀ i ∈ l, 0 ≤ i.op) : Ret Try.prog 42 #[.pointer (some ⟨bq, 0, none⟩), .pointer (some ⟨bf, 0, none⟩)] w (fun v w' => (∃ (e : Nat) (bo2 : Option Addr) (bc2 : Nat), k < e ∧ Done (l.map InstP.L) k e fs fu ∧ v = .bool true ∧ St w (Res.star [CutR 69 bq ao l.length cp k tail, FunR 54 bf fu po pc bo bc, Res.sl bo (FunL.blocks fu).length bc 56 3 ((FunL.blocks fu).flatMap bkC)]).foot [Res.star [CutR 69 bq ao l.length cp e tail, FunR 54 bf { fu with blocks := fu.blocks ++ [⟨(l.getD k zeroI).res, (k : Int), (e : Int)⟩] } po pc bo2 bc2, Res.sl bo2 (FunL.blocks { fu with blocks := fu.blocks ++ [⟨(l.getD k zeroI).res, (k : Int), (e : Int)⟩] }).length bc2 56 3 ((FunL.blocks { fu with blocks := fu.blocks ++ [⟨(l.getD k zeroI).res, (k : Int), (e : Int)⟩] }).flatMap bkC)]] [] w') ∨ (∃ e, Stuck (l.map InstP.L) e ∧ v = .bool false ∧ St w (Res.star [CutR 69 bq ao l.length cp k tail, FunR 54 bf fu po pc bo bc, Res.sl bo (FunL.blocks fu).length bc 56 3 ((FunL.blocks fu).flatMap bkC)]).foot [CutR 69 bq ao l.length cp e tail] [] w')) := by
 refine Ret.enter (args := [.pointer (some ⟨bq, 0, none⟩), .pointer (some ⟨bf, 0, none⟩)]) Try.func42 rfl rfl rfl ?_
 have hst : St w (Res.star [CutR 69 bq ao l.length cp k tail, FunR 54 bf fu po pc bo bc, Res.sl bo (FunL.blocks fu).length bc 56 3 ((FunL.blocks fu).flatMap bkC)]).foot [Res.star [CutR 69 bq ao l.length cp k tail, FunR 54 bf fu po pc bo bc, Res.sl bo (FunL.blocks fu).length bc 56 3 ((FunL.blocks fu).flatMap bkC)]] [Res.rmod ao l] w := St.enter1 hR (fun d hd => by cases hd with | head => exact hA | tail _ h => cases h) (fun d hd => by cases hd with | head => exact hap | tail _ h => cases h)
 replace hst : St _ _ [_, _, _] _ _ := hst.unpack
 have hL : (l.map InstP.L).length = l.length := List.length_map _
 obtain ⟨hZ, hA2, hlt, h6, h7, hN⟩ := blk_go hkm hp
 refine SR <| AB rfl <| NL <| SQ <| RunD.start [] hst (bs := [0, 1, 3, 7, 0, 16, 48, 112, 255, 511, 1023, 0, 2048, 6144, 14336, 32767, 0, 131071]) (ds := [some 6, some 7, some 8, some 9, some 10, some 11, some 12, some 13, some 14, some 15, some 16, some 17, some 18, some 19, some 20, some 21, some 5, none]) ⟨by kernel_rfl, by kernel_rfl, by kernel_rfl⟩ (fun tab1 => ?_)
 refine RunD.op (det _) tab1 1 (fun f' L' w' hc => Op1.move (v := .pointer (some ⟨_, _, none⟩)) (hc.old (v := .pointer (some ⟨_, _, none⟩)) rfl rfl rfl) ⟨[], ⟨rfl, rfl⟩, hc.st⟩) <| RunD.op (det _) tab1 2 (fun f' L' w' hc => Op1.nilCheckP (hc.det (j := 0) rfl rfl rfl rfl) ⟨[], ⟨rfl, rfl⟩, hc.st⟩) <| RunD.op (det _) tab1 3 (fun f' L' w' hc => Op1.fieldAddr fld69_0 (hc.det (j := 1) rfl rfl rfl rfl) ⟨[], ⟨rfl, rfl⟩, hc.st⟩) <| RunD.op (det _) tab1 4 (fun f' L' w' hc => Op1.load1 (v := .slice _ _ _) ty23 rfl (hc.det (j := 2) rfl rfl rfl rfl) (hc.st.cellL (List.mem_append_right _ (.head _)) rfl) ⟨[], ⟨rfl, rfl⟩, hc.st⟩) <| RunD.op (det _) tab1 5 (fun f' L' w' hc => Op1.move (v := .pointer (some ⟨_, _, none⟩)) (hc.old (v := .pointer (some ⟨_, _, none⟩)) rfl rfl rfl) ⟨[], ⟨rfl, rfl⟩, hc.st⟩) <| RunD.op (det _) tab1 6 (fun f' L' w' hc => Op1.nilCheckP (hc.det (j := 4) rfl rfl rfl rfl) ⟨[], ⟨rfl, rfl⟩, hc.st⟩) <| RunD.op (det _) tab1 7 (fun f' L' w' hc => Op1.fieldAddr fld69_1 (hc.det (j := 5) rfl rfl rfl rfl) ⟨[], ⟨rfl, rfl⟩, hc.st⟩) <| RunD.op (det _) tab1 8 (fun f' L' w' hc => Op1.load1 (v := .int .i64 _) ty3 rfl (hc.det (j := 6) rfl rfl rfl rfl) (hc.st.cellL (List.mem_append_right _ (.head _)) rfl) ⟨[], ⟨rfl, rfl⟩, hc.st⟩) <| RunD.op (det _) tab1 9 (fun f' L' w' hc => Op1.indexRs ty23 ty39 (Res.rmod_insts (hc.st.hD _ (.head _))) (hc.det (j := 3) rfl rfl rfl rfl) (hc.det (j := 7) rfl rfl rfl rfl) (by omega) (by omega) ⟨[], ⟨rfl, rfl⟩, hc.st⟩) <| RunD.op (det _) tab1 10 (fun f' L' w' hc => Op1.fieldAddr fld39_2 (hc.det (j := 8) rfl rfl rfl rfl) ⟨[], ⟨rfl, rfl⟩, hc.st⟩) <| RunD.op (det _) tab1 11 (fun f' L' w' hc => Op1.load1 (v := .int .u32 _) ty22 rfl (hc.det (j := 9) rfl rfl rfl rfl) (Res.rs2_cellF (Res.rmod_insts (hc.st.hD _ (.head _))) (flat_cell (g := instC) (d := zeroI) instC_len rfl (by omega))) ⟨[], ⟨rfl, rfl⟩, hc.st⟩) <| RunD.op (det _) tab1 12 (fun f' L' w' hc => Op1.move (v := .pointer (some ⟨_, _, none⟩)) (hc.old (v := .pointer (some ⟨_, _, none⟩)) rfl rfl rfl) ⟨[], ⟨rfl, rfl⟩, hc.st⟩) <| RunD.op (det _) tab1 13 (fun f' L' w' hc => Op1.nilCheckP (hc.det (j := 11) rfl rfl rfl rfl) ⟨[], ⟨rfl, rfl⟩, hc.st⟩) <| RunD.op (det _) tab1 14 (fun f' L' w' hc => Op1.fieldAddr fld69_1 (hc.det (j := 12) rfl rfl rfl rfl) ⟨[], ⟨rfl, rfl⟩, hc.st⟩) <| RunD.op (det _) tab1 15 (fun f' L' w' hc => Op1.load1 (v := .int .i64 _) ty3 rfl (hc.det (j := 13) rfl rfl rfl rfl) (hc.st.cellL (List.mem_append_right _ (.head _)) rfl) ⟨[], ⟨rfl, rfl⟩, hc.st⟩) ?_
 refine RunD.op (det _) tab1 16 (fun f' L' w' hc => Op1.buildStruct ty56 stf56 (.c (v := .int .u32 _) (hc.det (j := 10) rfl rfl rfl rfl) (h := (.c (v := .int .i64 _) (hc.det (j := 14) rfl rfl rfl rfl) (h := .nil)))) ⟨[], ⟨rfl, rfl⟩, hc.st⟩) ?_
 refine RunD.op (fun v rs => ∃ b, v = .pointer (some ⟨b, 0, none⟩) ∧ rs = [Res.row b 56 [.int .u32 0, .int .i64 0, .int .i64 0]]) tab1 17 (fun f' L' w' hc => Op1.alloc hc.st ty56 fun w b hst => ⟨[_], ⟨b, rfl, rfl⟩, hst⟩) <| RunD.fin followsMixed tab1 hst rfl (fun f2 w R5 hs3 hd4 hr6 hst => ?_)
 obtain ⟨h6_, r0⟩ := hd4 0 6 rfl rfl
 obtain ⟨h7_, r1⟩ := hd4 1 7 rfl rfl
 obtain ⟨h8_, r2⟩ := hd4 2 8 rfl rfl
 obtain ⟨h9_, r3⟩ := hd4 3 9 rfl rfl
 obtain ⟨h10_, r4⟩ := hd4 4 10 rfl rfl
 obtain ⟨h11_, r5⟩ := hd4 5 11 rfl rfl
 obtain ⟨h12_, r6⟩ := hd4 6 12 rfl rfl
 obtain ⟨h13_, r7⟩ := hd4 7 13 rfl rfl
 obtain ⟨h14_, r8⟩ := hd4 8 14 rfl rfl
 obtain ⟨h15_, r9⟩ := hd4 9 15 rfl rfl
 obtain ⟨h16_, r10⟩ := hd4 10 16 rfl rfl
 obtain ⟨h17_, r11⟩ := hd4 11 17 rfl rfl
 obtain ⟨h18_, r12⟩ := hd4 12 18 rfl rfl
 obtain ⟨h19_, r13⟩ := hd4 13 19 rfl rfl
 obtain ⟨h20_, r14⟩ := hd4 14 20 rfl rfl
 obtain ⟨h21_, r15⟩ := hd4 15 21 rfl rfl
 obtain ⟨b5, h5_, r16⟩ := hd4 16 5 rfl rfl
 simp only [show List.range 17 = [0, 1, 2, 3, 4, 5, 6, 7, 8, 9, 10, 11, 12, 13, 14, 15, 16] from rfl, List.flatMap_cons, List.flatMap_nil, List.map_cons, List.map_nil, r0, r1, r2, r3, r4, r5, r6, r7, r8, r9, r10, r11, r12, r13, r14, r15, r16, List.nil_append, List.append_nil, List.cons_append] at hst
 refine RunL.slots (sl := [(0, .pointer (some ⟨_, _, none⟩)), (1, .pointer (some ⟨_, _, none⟩)), (5, .pointer (some ⟨_, _, none⟩)), (21, .agg #[.int .u32 _, .int .i64 _, .int .i64 _])]) ⟨(hs3 0 rfl).trans rfl, (hs3 1 rfl).trans rfl, h5_, h21_, trivial⟩ ?_
 clear hs3 hd4 hr6 tab1
 refine CN (SO (v := .agg #[.int .u32 _, .int .i64 _, .int .i64 _]) hst ty56 rfl rfl (.here) fun w hst => ?_)
 refine NSR <| MP rfl <| CN <| Op1.nilCheckP rfl <| CN <| Op1.fieldAddr fld69_1 rfl <| CN <| Op1.load1 (v := .int .i64 _) ty3 rfl rfl (hst.cellL (.tail _ (.head _)) rfl) <| CN <| Op1.addN rfl rfl rfl (wrap_i64 (by omega) (by omega)) <| CN <| Op1.nilCheckP rfl <| CN <| Op1.fieldAddr fld69_1 rfl <| CN (SO (v := .int .i64 _) hst ty3 rfl rfl (.there (.here)) fun w hst => ?_)
 refine NL <| Run.forget [(0, .pointer (some ⟨_, _, none⟩)), (1, .pointer (some ⟨_, _, none⟩)), (5, .pointer (some ⟨_, _, none⟩))] ⟨rfl, rfl, rfl, trivial⟩ fun f => SQ ?_
 replace hst := hst.pick (.cons (.there (.here)) (.cons (.here) (.cons (.here) (.cons (.here) .nil))))
 refine Run.cutW (L1 := [_]) [(0, .pointer (some ⟨_, _, none⟩)), (1, .pointer (some ⟨_, _, none⟩)), (5, .pointer (some ⟨_, _, none⟩))] hst ⟨rfl, rfl, rfl, trivial⟩ (fun (_u : Unit) => []) (fun (_u : Unit) => [CutR 69 bq ao l.length cp ((blkA (l.map InstP.L) k fu)) tail]) (fun (_u : Unit) => True) (fun _u f w hst hJ8 => ?_) (fun cut7 => ?_)
 · skip
   refine SR <| MP rfl ?_
   replace hst := hst.pick (.cons (.here) (.cons (.here) (.cons (.here) (.cons (.here) .nil))))
   refine CN (Op1.call2 (v1 := .pointer (some ⟨_, _, none⟩)) (v2 := .int .i64 _) ent41 rfl rfl rfl ((R5ly_row bq l ao cp (blkA (l.map InstP.L) k fu) tail 0 (by decide) _ (hst.hL _ (.head _)) (hst.hD _ (.head _)) (hst.sepD _ (.head _) _ (.head _)) (by omega) hl hla hop).mono fun v w hp => ?_))
   obtain ⟨ro, rc, rfl, hp⟩ := hp
   replace hst : St _ _ (CutR 69 bq ao l.length cp (blkZ (l.map InstP.L) k fu) tail :: _ :: _) _ _ := hst.call1 hp
   clear hp
   refine NL <| SQ <| SR <| MP rfl <| CN <| Op1.call1 (v1 := .pointer (some ⟨_, _, none⟩)) ent40 rfl rfl <| Ret.det (R5ly_next bq l ao cp (blkZ (l.map InstP.L) k fu) tail _ (hst.hL _ (.head _)) (hst.hD _ (.head _)) (by omega) hl hla hop) hst fun w hst => NL <| run_block <| SQ <| run_block <| SQ <| run_block <| SQ <| SQ <| SQ ?_
   refine RG <| CN <| Op1.eql rfl rfl <| AB rfl <| NL <| run_cond_dec rfl (fun g10 => ?_) (fun g10 => ?_)
   · skip
     have hc6 : nxF (l.map InstP.L) (blkZ (l.map InstP.L) k fu) = 6 := g10
     have hz6 := nx_in hc6
     refine run_exit (id := 1) rfl <| SR <| MP rfl <| CN <| Op1.nilCheckP rfl <| CN <| Op1.fieldAddr fld69_1 rfl <| CN <| Op1.load1 (v := .int .i64 _) ty3 rfl rfl (hst.cellL (.head _) rfl) <| CN <| Op1.addN rfl rfl rfl (wrap_i64 (by omega) (by omega)) <| CN <| Op1.nilCheckP rfl <| CN <| Op1.fieldAddr fld69_1 rfl <| CN (SO (v := .int .i64 _) hst ty3 rfl rfl (.here) fun w hst => ?_)
     refine NL <| SQ <| RunD.start [] hst (bs := [0, 1, 3, 7, 15, 31, 63, 127, 15, 271, 783, 1807, 3855, 8191, 16383, 32767, 15, 65551, 196623, 458767, 15, 1048591, 3145743, 7340047, 16711695, 33488911, 67043343, 134217727, 268435455, 536870911]) (ds := [some 54, some 55, some 56, some 57, some 58, some 59, some 60, some 61, some 62, some 63, some 64, some 65, some 66, some 67, some 68, some 69, some 70, some 71, some 72, some 73, some 74, some 75, some 76, some 77, some 78, some 79, some 80, some 81, some 82, some 83]) ⟨by kernel_rfl, by kernel_rfl, by kernel_rfl⟩ (fun tab11 => ?_)
     refine RunD.op (det _) tab11 1 (fun f' L' w' hc => Op1.move (v := .pointer (some ⟨_, _, none⟩)) (hc.old (v := .pointer (some ⟨_, _, none⟩)) rfl rfl rfl) ⟨[], ⟨rfl, rfl⟩, hc.st⟩) <| RunD.op (det _) tab11 2 (fun f' L' w' hc => Op1.call1 (v1 := .pointer (some ⟨_, _, none⟩)) ent40 rfl (hc.det (j := 0) rfl rfl rfl rfl) ((R5ly_next bq l ao cp ((blkZ (l.map InstP.L) k fu) + 1) tail _ (hc.st.hL _ (List.mem_append_right _ (.head _))) (hc.st.hD _ (.head _)) (by omega) hl hla hop).mono fun v w hp => ⟨[], ⟨hp.1, rfl⟩, hc.st.keepc hp.2⟩)) <| RunD.op (det _) tab11 3 (fun f' L' w' hc => Op1.neq (hc.det (j := 1) rfl rfl rfl rfl) rfl ⟨[], ⟨rfl, rfl⟩, hc.st⟩) <| RunD.op (det _) tab11 4 (fun f' L' w' hc => Op1.move (v := .bool _) (hc.det (j := 2) rfl rfl rfl rfl) ⟨[], ⟨rfl, rfl⟩, hc.st⟩) <| RunD.splitD (j := 3) rfl (fun g12 => ?_) (fun g12 => ?_)
     · skip
       refine RunD.omit tab11 5 rfl rfl (fun f' L' w' hc => (hc.det (j := 3) rfl rfl rfl rfl).trans (congrArg Value.bool (decide_eq_true g12))) <| RunD.omit tab11 6 rfl rfl (fun f' L' w' hc => (hc.det (j := 3) rfl rfl rfl rfl).trans (congrArg Value.bool (decide_eq_true g12))) <| RunD.omit tab11 7 rfl rfl (fun f' L' w' hc => (hc.det (j := 3) rfl rfl rfl rfl).trans (congrArg Value.bool (decide_eq_true g12))) <| RunD.omit tab11 8 rfl rfl (fun f' L' w' hc => (hc.det (j := 3) rfl rfl rfl rfl).trans (congrArg Value.bool (decide_eq_true g12))) <| RunD.omit tab11 9 rfl rfl (fun f' L' w' hc => (hc.det (j := 3) rfl rfl rfl rfl).trans (congrArg Value.bool (decide_eq_true g12))) <| RunD.omit tab11 10 rfl rfl (fun f' L' w' hc => (hc.det (j := 3) rfl rfl rfl rfl).trans (congrArg Value.bool (decide_eq_true g12))) <| RunD.omit tab11 11 rfl rfl (fun f' L' w' hc => (hc.det (j := 3) rfl rfl rfl rfl).trans (congrArg Value.bool (decide_eq_true g12))) <| RunD.omit tab11 12 rfl rfl (fun f' L' w' hc => (hc.det (j := 3) rfl rfl rfl rfl).trans (congrArg Value.bool (decide_eq_true g12))) <| RunD.omit tab11 13 rfl rfl (fun f' L' w' hc => (hc.det (j := 3) rfl rfl rfl rfl).trans (congrArg Value.bool (decide_eq_true g12))) <| RunD.omit tab11 14 rfl rfl (fun f' L' w' hc => (hc.det (j := 3) rfl rfl rfl rfl).trans (congrArg Value.bool (decide_eq_true g12))) <| RunD.omit tab11 15 rfl rfl (fun f' L' w' hc => (hc.det (j := 3) rfl rfl rfl rfl).trans (congrArg Value.bool (decide_eq_true g12))) <| RunD.omit tab11 16 rfl rfl (fun f' L' w' hc => (hc.det (j := 3) rfl rfl rfl rfl).trans (congrArg Value.bool (decide_eq_true g12))) <| RunD.omit tab11 17 rfl rfl (fun f' L' w' hc => (hc.det (j := 3) rfl rfl rfl rfl).trans (congrArg Value.bool (decide_eq_true g12))) <| RunD.omit tab11 18 rfl rfl (fun f' L' w' hc => (hc.det (j := 3) rfl rfl rfl rfl).trans (congrArg Value.bool (decide_eq_true g12))) <| RunD.omit tab11 19 rfl rfl (fun f' L' w' hc => (hc.det (j := 3) rfl rfl rfl rfl).trans (congrArg Value.bool (decide_eq_true g12))) ?_
       refine RunD.omit tab11 20 rfl rfl (fun f' L' w' hc => (hc.det (j := 3) rfl rfl rfl rfl).trans (congrArg Value.bool (decide_eq_true g12))) <| RunD.omit tab11 21 rfl rfl (fun f' L' w' hc => (hc.det (j := 3) rfl rfl rfl rfl).trans (congrArg Value.bool (decide_eq_true g12))) <| RunD.omit tab11 22 rfl rfl (fun f' L' w' hc => (hc.det (j := 3) rfl rfl rfl rfl).trans (congrArg Value.bool (decide_eq_true g12))) <| RunD.omit tab11 23 rfl rfl (fun f' L' w' hc => (hc.det (j := 3) rfl rfl rfl rfl).trans (congrArg Value.bool (decide_eq_true g12))) <| RunD.omit tab11 24 rfl rfl (fun f' L' w' hc => (hc.det (j := 3) rfl rfl rfl rfl).trans (congrArg Value.bool (decide_eq_true g12))) <| RunD.omit tab11 25 rfl rfl (fun f' L' w' hc => (hc.det (j := 3) rfl rfl rfl rfl).trans (congrArg Value.bool (decide_eq_true g12))) <| RunD.omit tab11 26 rfl rfl (fun f' L' w' hc => (hc.det (j := 3) rfl rfl rfl rfl).trans (congrArg Value.bool (decide_eq_true g12))) <| RunD.omit tab11 27 rfl rfl (fun f' L' w' hc => (hc.det (j := 3) rfl rfl rfl rfl).trans (congrArg Value.bool (decide_eq_true g12))) <| RunD.fin followsMixed tab11 hst rfl (fun f13 w R16 hs14 hd15 hr17 hst => ?_)
       obtain ⟨h54_, r0⟩ := hd15 0 54 rfl rfl
       obtain ⟨h55_, r1⟩ := hd15 1 55 rfl rfl
       obtain ⟨h56_, r2⟩ := hd15 2 56 rfl rfl
       obtain ⟨h57_, r3⟩ := hd15 3 57 rfl rfl
       obtain ⟨h58_, r4⟩ := hd15 4 58 rfl rfl
       obtain ⟨h59_, r5⟩ := hd15 5 59 rfl rfl
       obtain ⟨h60_, r6⟩ := hd15 6 60 rfl rfl
       obtain ⟨h61_, r7⟩ := hd15 7 61 rfl rfl
       obtain ⟨h62_, r8⟩ := hd15 8 62 rfl rfl
       obtain ⟨h63_, r9⟩ := hd15 9 63 rfl rfl
       obtain ⟨h64_, r10⟩ := hd15 10 64 rfl rfl
       obtain ⟨h65_, r11⟩ := hd15 11 65 rfl rfl
       obtain ⟨h66_, r12⟩ := hd15 12 66 rfl rfl
       obtain ⟨h67_, r13⟩ := hd15 13 67 rfl rfl
       obtain ⟨h68_, r14⟩ := hd15 14 68 rfl rfl
       obtain ⟨h69_, r15⟩ := hd15 15 69 rfl rfl
       obtain ⟨h70_, r16⟩ := hd15 16 70 rfl rfl
       obtain ⟨h71_, r17⟩ := hd15 17 71 rfl rfl
       obtain ⟨h72_, r18⟩ := hd15 18 72 rfl rfl
       obtain ⟨h73_, r19⟩ := hd15 19 73 rfl rfl
       obtain ⟨h74_, r20⟩ := hd15 20 74 rfl rfl
       obtain ⟨h75_, r21⟩ := hd15 21 75 rfl rfl
       obtain ⟨h76_, r22⟩ := hd15 22 76 rfl rfl
       obtain ⟨h77_, r23⟩ := hd15 23 77 rfl rfl
       obtain ⟨h78_, r24⟩ := hd15 24 78 rfl rfl
       obtain ⟨h79_, r25⟩ := hd15 25 79 rfl rfl
       obtain ⟨h80_, r26⟩ := hd15 26 80 rfl rfl
       simp only [show List.range 27 = [0, 1, 2, 3, 4, 5, 6, 7, 8, 9, 10, 11, 12, 13, 14, 15, 16, 17, 18, 19, 20, 21, 22, 23, 24, 25, 26] from rfl, List.flatMap_cons, List.flatMap_nil, List.map_cons, List.map_nil, r0, r1, r2, r3, r4, r5, r6, r7, r8, r9, r10, r11, r12, r13, r14, r15, r16, r17, r18, r19, r20, r21, r22, r23, r24, r25, r26, List.nil_append, List.append_nil, List.cons_append] at hst
       refine RunL.slots (sl := [(0, .pointer (some ⟨_, _, none⟩)), (1, .pointer (some ⟨_, _, none⟩)), (5, .pointer (some ⟨_, _, none⟩)), (57, .bool _), (69, _), (80, _)]) ⟨(hs14 0 rfl).trans rfl, (hs14 1 rfl).trans rfl, (hs14 5 rfl).trans rfl, h57_, h69_, h80_, trivial⟩ ?_
       clear hs14 hd15 hr17 tab11
       refine OM (t := 57) rfl (congrArg Value.bool (decide_eq_true g12)) rfl <| OM (t := 57) rfl (congrArg Value.bool (decide_eq_true g12)) rfl <| CN <| Op1.pickT (u := .bool _) (congrArg Value.bool (decide_eq_true g12)) rfl <| NL ?_
       have ho0 : opA (l.map InstP.L) (blkZ (l.map InstP.L) k fu) = (l.getD ((((blkZ (l.map InstP.L) k fu) + 1 : Nat) : Int) - 1).toNat zeroI).op := by rw [opA_map, show ((((blkZ (l.map InstP.L) k fu) + 1 : Nat) : Int) - 1).toNat = (blkZ (l.map InstP.L) k fu) by omega]
       have ho1 : opA (l.map InstP.L) ((blkZ (l.map InstP.L) k fu) + 1) = (l.getD (((blkZ (l.map InstP.L) k fu) + 1 : Nat) : Int).toNat zeroI).op := opA_map _ _
       have hst1 := (h6 hc6).2 (fun e => g12 e.1)
       refine run_cond_true (congrArg Value.bool (rfl : true = _)) <| SR <| AB rfl <| NL <| run_ret1 Try.func42 rfl (TP (v := .bool _) rfl) ?_
       replace hst := hst.pick (.cons (.here) .nil)
       exact .inr ⟨_, hst1, rfl, hst.noD⟩
     have hin1 := nx_in (Classical.not_not.1 g12)
     refine RunD.take (det _) tab11 5 rfl (fun f' L' w' hc => (hc.det (j := 3) rfl rfl rfl rfl).trans (congrArg Value.bool (decide_eq_false g12))) (fun f' L' w' hc => Op1.move (v := .pointer (some ⟨_, _, none⟩)) (hc.old (v := .pointer (some ⟨_, _, none⟩)) rfl rfl rfl) ⟨[], ⟨rfl, rfl⟩, hc.st⟩) <| RunD.take (det _) tab11 6 rfl (fun f' L' w' hc => (hc.det (j := 3) rfl rfl rfl rfl).trans (congrArg Value.bool (decide_eq_false g12))) (fun f' L' w' hc => Op1.nilCheckP (hc.det (j := 4) rfl rfl rfl rfl) ⟨[], ⟨rfl, rfl⟩, hc.st⟩) <| RunD.take (det _) tab11 7 rfl (fun f' L' w' hc => (hc.det (j := 3) rfl rfl rfl rfl).trans (congrArg Value.bool (decide_eq_false g12))) (fun f' L' w' hc => Op1.fieldAddr fld69_0 (hc.det (j := 5) rfl rfl rfl rfl) ⟨[], ⟨rfl, rfl⟩, hc.st⟩) <| RunD.take (det _) tab11 8 rfl (fun f' L' w' hc => (hc.det (j := 3) rfl rfl rfl rfl).trans (congrArg Value.bool (decide_eq_false g12))) (fun f' L' w' hc => Op1.load1 (v := .slice _ _ _) ty23 rfl (hc.det (j := 6) rfl rfl rfl rfl) (hc.st.cellL (List.mem_append_right _ (.head _)) rfl) ⟨[], ⟨rfl, rfl⟩, hc.st⟩) <| RunD.take (det _) tab11 9 rfl (fun f' L' w' hc => (hc.det (j := 3) rfl rfl rfl rfl).trans (congrArg Value.bool (decide_eq_false g12))) (fun f' L' w' hc => Op1.move (v := .pointer (some ⟨_, _, none⟩)) (hc.old (v := .pointer (some ⟨_, _, none⟩)) rfl rfl rfl) ⟨[], ⟨rfl, rfl⟩, hc.st⟩) <| RunD.take (det _) tab11 10 rfl (fun f' L' w' hc => (hc.det (j := 3) rfl rfl rfl rfl).trans (congrArg Value.bool (decide_eq_false g12))) (fun f' L' w' hc => Op1.nilCheckP (hc.det (j := 8) rfl rfl rfl rfl) ⟨[], ⟨rfl, rfl⟩, hc.st⟩) <| RunD.take (det _) tab11 11 rfl (fun f' L' w' hc => (hc.det (j := 3) rfl rfl rfl rfl).trans (congrArg Value.bool (decide_eq_false g12))) (fun f' L' w' hc => Op1.fieldAddr fld69_1 (hc.det (j := 9) rfl rfl rfl rfl) ⟨[], ⟨rfl, rfl⟩, hc.st⟩) <| RunD.take (det _) tab11 12 rfl (fun f' L' w' hc => (hc.det (j := 3) rfl rfl rfl rfl).trans (congrArg Value.bool (decide_eq_false g12))) (fun f' L' w' hc => Op1.load1 (v := .int .i64 _) ty3 rfl (hc.det (j := 10) rfl rfl rfl rfl) (hc.st.cellL (List.mem_append_right _ (.head _)) rfl) ⟨[], ⟨rfl, rfl⟩, hc.st⟩) <| RunD.take (det _) tab11 13 rfl (fun f' L' w' hc => (hc.det (j := 3) rfl rfl rfl rfl).trans (congrArg Value.bool (decide_eq_false g12))) (fun f' L' w' hc => Op1.subN (hc.det (j := 11) rfl rfl rfl rfl) rfl rfl (wrap_i64 (by omega) (by omega)) ⟨[], ⟨rfl, rfl⟩, hc.st⟩) <| RunD.take (det _) tab11 14 rfl (fun f' L' w' hc => (hc.det (j := 3) rfl rfl rfl rfl).trans (congrArg Value.bool (decide_eq_false g12))) (fun f' L' w' hc => Op1.indexRs ty23 ty39 (Res.rmod_insts (hc.st.hD _ (.head _))) (hc.det (j := 7) rfl rfl rfl rfl) (hc.det (j := 12) rfl rfl rfl rfl) (by omega) (by omega) ⟨[], ⟨rfl, rfl⟩, hc.st⟩) <| RunD.take (det _) tab11 15 rfl (fun f' L' w' hc => (hc.det (j := 3) rfl rfl rfl rfl).trans (congrArg Value.bool (decide_eq_false g12))) (fun f' L' w' hc => Op1.fieldAddr fld39_0 (hc.det (j := 13) rfl rfl rfl rfl) ⟨[], ⟨rfl, rfl⟩, hc.st⟩) <| RunD.take (det _) tab11 16 rfl (fun f' L' w' hc => (hc.det (j := 3) rfl rfl rfl rfl).trans (congrArg Value.bool (decide_eq_false g12))) (fun f' L' w' hc => Op1.load1 (v := .int .u16 _) ty33 rfl (hc.det (j := 14) rfl rfl rfl rfl) (Res.rs2_cellF (Res.rmod_insts (hc.st.hD _ (.head _))) (flat_cell (g := instC) (d := zeroI) instC_len rfl (by omega))) ⟨[], ⟨rfl, rfl⟩, hc.st⟩) <| RunD.take (det _) tab11 17 rfl (fun f' L' w' hc => (hc.det (j := 3) rfl rfl rfl rfl).trans (congrArg Value.bool (decide_eq_false g12))) (fun f' L' w' hc => Op1.move (v := .pointer (some ⟨_, _, none⟩)) (hc.old (v := .pointer (some ⟨_, _, none⟩)) rfl rfl rfl) ⟨[], ⟨rfl, rfl⟩, hc.st⟩) <| RunD.take (det _) tab11 18 rfl (fun f' L' w' hc => (hc.det (j := 3) rfl rfl rfl rfl).trans (congrArg Value.bool (decide_eq_false g12))) (fun f' L' w' hc => Op1.nilCheckP (hc.det (j := 16) rfl rfl rfl rfl) ⟨[], ⟨rfl, rfl⟩, hc.st⟩) <| RunD.take (det _) tab11 19 rfl (fun f' L' w' hc => (hc.det (j := 3) rfl rfl rfl rfl).trans (congrArg Value.bool (decide_eq_false g12))) (fun f' L' w' hc => Op1.fieldAddr fld69_0 (hc.det (j := 17) rfl rfl rfl rfl) ⟨[], ⟨rfl, rfl⟩, hc.st⟩) ?_
     refine RunD.take (det _) tab11 20 rfl (fun f' L' w' hc => (hc.det (j := 3) rfl rfl rfl rfl).trans (congrArg Value.bool (decide_eq_false g12))) (fun f' L' w' hc => Op1.load1 (v := .slice _ _ _) ty23 rfl (hc.det (j := 18) rfl rfl rfl rfl) (hc.st.cellL (List.mem_append_right _ (.head _)) rfl) ⟨[], ⟨rfl, rfl⟩, hc.st⟩) <| RunD.take (det _) tab11 21 rfl (fun f' L' w' hc => (hc.det (j := 3) rfl rfl rfl rfl).trans (congrArg Value.bool (decide_eq_false g12))) (fun f' L' w' hc => Op1.move (v := .pointer (some ⟨_, _, none⟩)) (hc.old (v := .pointer (some ⟨_, _, none⟩)) rfl rfl rfl) ⟨[], ⟨rfl, rfl⟩, hc.st⟩) <| RunD.take (det _) tab11 22 rfl (fun f' L' w' hc => (hc.det (j := 3) rfl rfl rfl rfl).trans (congrArg Value.bool (decide_eq_false g12))) (fun f' L' w' hc => Op1.nilCheckP (hc.det (j := 20) rfl rfl rfl rfl) ⟨[], ⟨rfl, rfl⟩, hc.st⟩) <| RunD.take (det _) tab11 23 rfl (fun f' L' w' hc => (hc.det (j := 3) rfl rfl rfl rfl).trans (congrArg Value.bool (decide_eq_false g12))) (fun f' L' w' hc => Op1.fieldAddr fld69_1 (hc.det (j := 21) rfl rfl rfl rfl) ⟨[], ⟨rfl, rfl⟩, hc.st⟩) <| RunD.take (det _) tab11 24 rfl (fun f' L' w' hc => (hc.det (j := 3) rfl rfl rfl rfl).trans (congrArg Value.bool (decide_eq_false g12))) (fun f' L' w' hc => Op1.load1 (v := .int .i64 _) ty3 rfl (hc.det (j := 22) rfl rfl rfl rfl) (hc.st.cellL (List.mem_append_right _ (.head _)) rfl) ⟨[], ⟨rfl, rfl⟩, hc.st⟩) <| RunD.take (det _) tab11 25 rfl (fun f' L' w' hc => (hc.det (j := 3) rfl rfl rfl rfl).trans (congrArg Value.bool (decide_eq_false g12))) (fun f' L' w' hc => Op1.indexRs ty23 ty39 (Res.rmod_insts (hc.st.hD _ (.head _))) (hc.det (j := 19) rfl rfl rfl rfl) (hc.det (j := 23) rfl rfl rfl rfl) (by omega) (by omega) ⟨[], ⟨rfl, rfl⟩, hc.st⟩) <| RunD.take (det _) tab11 26 rfl (fun f' L' w' hc => (hc.det (j := 3) rfl rfl rfl rfl).trans (congrArg Value.bool (decide_eq_false g12))) (fun f' L' w' hc => Op1.fieldAddr fld39_0 (hc.det (j := 24) rfl rfl rfl rfl) ⟨[], ⟨rfl, rfl⟩, hc.st⟩) <| RunD.take (det _) tab11 27 rfl (fun f' L' w' hc => (hc.det (j := 3) rfl rfl rfl rfl).trans (congrArg Value.bool (decide_eq_false g12))) (fun f' L' w' hc => Op1.load1 (v := .int .u16 _) ty33 rfl (hc.det (j := 25) rfl rfl rfl rfl) (Res.rs2_cellF (Res.rmod_insts (hc.st.hD _ (.head _))) (flat_cell (g := instC) (d := zeroI) instC_len rfl (by omega))) ⟨[], ⟨rfl, rfl⟩, hc.st⟩) <| RunD.fin followsMixed tab11 hst rfl (fun f18 w R21 hs19 hd20 hr22 hst => ?_)
     obtain ⟨h54_, r0⟩ := hd20 0 54 rfl rfl
     obtain ⟨h55_, r1⟩ := hd20 1 55 rfl rfl
     obtain ⟨h56_, r2⟩ := hd20 2 56 rfl rfl
     obtain ⟨h57_, r3⟩ := hd20 3 57 rfl rfl
     obtain ⟨h58_, r4⟩ := hd20 4 58 rfl rfl
     obtain ⟨h59_, r5⟩ := hd20 5 59 rfl rfl
     obtain ⟨h60_, r6⟩ := hd20 6 60 rfl rfl
     obtain ⟨h61_, r7⟩ := hd20 7 61 rfl rfl
     obtain ⟨h62_, r8⟩ := hd20 8 62 rfl rfl
     obtain ⟨h63_, r9⟩ := hd20 9 63 rfl rfl
     obtain ⟨h64_, r10⟩ := hd20 10 64 rfl rfl
     obtain ⟨h65_, r11⟩ := hd20 11 65 rfl rfl
     obtain ⟨h66_, r12⟩ := hd20 12 66 rfl rfl
     obtain ⟨h67_, r13⟩ := hd20 13 67 rfl rfl
     obtain ⟨h68_, r14⟩ := hd20 14 68 rfl rfl
     obtain ⟨h69_, r15⟩ := hd20 15 69 rfl rfl
     obtain ⟨h70_, r16⟩ := hd20 16 70 rfl rfl
     obtain ⟨h71_, r17⟩ := hd20 17 71 rfl rfl
     obtain ⟨h72_, r18⟩ := hd20 18 72 rfl rfl
     obtain ⟨h73_, r19⟩ := hd20 19 73 rfl rfl
     obtain ⟨h74_, r20⟩ := hd20 20 74 rfl rfl
     obtain ⟨h75_, r21⟩ := hd20 21 75 rfl rfl
     obtain ⟨h76_, r22⟩ := hd20 22 76 rfl rfl
     obtain ⟨h77_, r23⟩ := hd20 23 77 rfl rfl
     obtain ⟨h78_, r24⟩ := hd20 24 78 rfl rfl
     obtain ⟨h79_, r25⟩ := hd20 25 79 rfl rfl
     obtain ⟨h80_, r26⟩ := hd20 26 80 rfl rfl
     simp only [show List.range 27 = [0, 1, 2, 3, 4, 5, 6, 7, 8, 9, 10, 11, 12, 13, 14, 15, 16, 17, 18, 19, 20, 21, 22, 23, 24, 25, 26] from rfl, List.flatMap_cons, List.flatMap_nil, List.map_cons, List.map_nil, r0, r1, r2, r3, r4, r5, r6, r7, r8, r9, r10, r11, r12, r13, r14, r15, r16, r17, r18, r19, r20, r21, r22, r23, r24, r25, r26, List.nil_append, List.append_nil, List.cons_append] at hst
     refine RunL.slots (sl := [(0, .pointer (some ⟨_, _, none⟩)), (1, .pointer (some ⟨_, _, none⟩)), (5, .pointer (some ⟨_, _, none⟩)), (57, .bool _), (69, .int .u16 _), (80, .int .u16 _)]) ⟨(hs19 0 rfl).trans rfl, (hs19 1 rfl).trans rfl, (hs19 5 rfl).trans rfl, h57_, h69_, h80_, trivial⟩ ?_
     clear hs19 hd20 hr22 tab11
     refine TK (t := 57) rfl (congrArg Value.bool (decide_eq_false g12)) (Op1.call2 (v1 := .int .u16 _) (v2 := .int .u16 _) ent53 rfl rfl rfl ((R5ly_may _ _ _).mono fun v w hp => ?_))
     obtain ⟨rfl, hp⟩ := hp
     replace hst := hst.keepc hp
     clear hp
     refine TK (t := 57) rfl (congrArg Value.bool (decide_eq_false g12)) <| Op1.not rfl <| CN <| Op1.pickF (u := .bool _) (congrArg Value.bool (decide_eq_false g12)) rfl <| NL <| Run.forget [(0, .pointer (some ⟨_, _, none⟩)), (1, .pointer (some ⟨_, _, none⟩)), (5, .pointer (some ⟨_, _, none⟩)), (83, .bool _)] ⟨rfl, rfl, rfl, rfl, trivial⟩ fun f => run_cond_split rfl (fun g23 => ?_) (fun g23 => ?_)
     · skip
       have ho0 : opA (l.map InstP.L) (blkZ (l.map InstP.L) k fu) = (l.getD ((((blkZ (l.map InstP.L) k fu) + 1 : Nat) : Int) - 1).toNat zeroI).op := by rw [opA_map, show ((((blkZ (l.map InstP.L) k fu) + 1 : Nat) : Int) - 1).toNat = (blkZ (l.map InstP.L) k fu) by omega]
       have ho1 : opA (l.map InstP.L) ((blkZ (l.map InstP.L) k fu) + 1) = (l.getD (((blkZ (l.map InstP.L) k fu) + 1 : Nat) : Int).toNat zeroI).op := opA_map _ _
       have hn1 : nxF (l.map InstP.L) ((blkZ (l.map InstP.L) k fu) + 1) = 7 := Classical.not_not.1 g12
       have hst1 := (h6 hc6).2 (fun e => by have h := e.2; rw [ho0, ho1] at h; exact Bool.noConfusion (h.symm.trans (not_t g23)))
       refine SR <| AB rfl <| NL <| run_ret1 Try.func42 rfl (TP (v := .bool _) rfl) ?_
       replace hst := hst.pick (.cons (.here) .nil)
       exact .inr ⟨_, hst1, rfl, hst.noD⟩
     have ho0 : opA (l.map InstP.L) (blkZ (l.map InstP.L) k fu) = (l.getD ((((blkZ (l.map InstP.L) k fu) + 1 : Nat) : Int) - 1).toNat zeroI).op := by rw [opA_map, show ((((blkZ (l.map InstP.L) k fu) + 1 : Nat) : Int) - 1).toNat = (blkZ (l.map InstP.L) k fu) by omega]
     have ho1 : opA (l.map InstP.L) ((blkZ (l.map InstP.L) k fu) + 1) = (l.getD (((blkZ (l.map InstP.L) k fu) + 1 : Nat) : Int).toNat zeroI).op := opA_map _ _
     have hn1 : nxF (l.map InstP.L) ((blkZ (l.map InstP.L) k fu) + 1) = 7 := Classical.not_not.1 g12
     have hdn := (h6 hc6).1 ⟨hn1, by rw [ho0, ho1]; exact not_f g23⟩
     refine run_skip <| run_inBlock <| SQ <| SR <| MP rfl <| CN <| Op1.nilCheckP rfl <| CN <| Op1.fieldAddr fld69_1 rfl <| CN <| Op1.load1 (v := .int .i64 _) ty3 rfl rfl (hst.cellL (.head _) rfl) <| CN <| Op1.addN rfl rfl rfl (wrap_i64 (by omega) (by omega)) <| CN <| Op1.nilCheckP rfl <| CN <| Op1.fieldAddr fld69_1 rfl <| CN (SO (v := .int .i64 _) hst ty3 rfl rfl (.here) fun w hst => ?_)
     refine NSR <| MP rfl <| CN <| Op1.nilCheckP rfl <| CN <| Op1.fieldAddr fld69_1 rfl <| CN <| Op1.load1 (v := .int .i64 _) ty3 rfl rfl (hst.cellL (.head _) rfl) <| CN <| Op1.fieldAddr fld56_2 rfl <| CN (SO (v := .int .i64 _) hst ty3 rfl rfl (.there (.there (.here))) fun w hst => ?_)
     refine NL <| SQ ?_
     replace hst := hst.pick (.cons (.there (.there (.here))) (.cons (.here) (.cons (.here) (.cons (.here) (.cons (.here) .nil)))))
     replace hst : St _ _ (Res.row b5 56 [.int .u32 (l.getD k zeroI).res, .int .i64 (k : Int), .int .i64 ((((blkZ (l.map InstP.L) k fu) + 2) : Nat) : Int)] :: CutR 69 bq ao l.length cp ((blkZ (l.map InstP.L) k fu) + 2) tail :: _) _ _ := hst
     replace hst := hst.pick (.cons (.there (.there (.there (.there (.here))))) (.cons (.here) (.cons (.here) (.cons (.here) (.cons (.here) .nil)))))
     apply RunD.start [(7, Res.sl _ _ _ _ _ _, Res.emp)] hst (bs := [0, 0, 2, 6, 14, 0, 32, 126, 255, 511, 1023]) (ds := [some 96, some 97, some 98, some 99, some 100, some 101, some 102, some 103, some 104, some 105, none]) (htab := ⟨by kernel_rfl, by kernel_rfl, by kernel_rfl⟩)
     intro tab24
     refine RunD.op (det _) tab24 1 (fun f' L' w' hc => Op1.move (v := .pointer (some ⟨_, _, none⟩)) (hc.old (v := .pointer (some ⟨_, _, none⟩)) rfl rfl rfl) ⟨[], ⟨rfl, rfl⟩, hc.st⟩) <| RunD.op (det _) tab24 2 (fun f' L' w' hc => Op1.move (v := .pointer (some ⟨_, _, none⟩)) (hc.old (v := .pointer (some ⟨_, _, none⟩)) rfl rfl rfl) ⟨[], ⟨rfl, rfl⟩, hc.st⟩) <| RunD.op (det _) tab24 3 (fun f' L' w' hc => Op1.nilCheckP (hc.det (j := 1) rfl rfl rfl rfl) ⟨[], ⟨rfl, rfl⟩, hc.st⟩) <| RunD.op (det _) tab24 4 (fun f' L' w' hc => Op1.fieldAddr fld54_3 (hc.det (j := 2) rfl rfl rfl rfl) ⟨[], ⟨rfl, rfl⟩, hc.st⟩) <| RunD.op (det _) tab24 5 (fun f' L' w' hc => Op1.load1 (v := .slice _ _ _) ty52 rfl (hc.det (j := 3) rfl rfl rfl rfl) (hc.st.cellL (List.mem_append_right _ (.tail _ (.tail _ (.tail _ (.head _))))) rfl) ⟨[], ⟨rfl, rfl⟩, hc.st⟩) <| RunD.op (det _) tab24 6 (fun f' L' w' hc => Op1.loadA (vs := [.int .u32 _, .int .i64 _, .int .i64 _]) ty56 rfl (hc.old (v := .pointer (some ⟨_, _, none⟩)) rfl rfl rfl) rfl (cells_of_obj (n := 3) (hc.st.objL (List.mem_append_right _ (.head _))) _ rfl) ⟨[], ⟨rfl, rfl⟩, hc.st⟩) <| RunD.op (fun v rs => ∃ b, v = .slice (some ⟨b, 0, none⟩) 1 1 ∧ rs = [Res.row b 56 ([.int .u32 (l.getD k zeroI).res, .int .i64 (k : Int), .int .i64 ((((blkZ (l.map InstP.L) k fu) + 2) : Nat) : Int)])]) tab24 7 (fun f' L' w' hc => Op1.buildSl (z0 := [.int .u32 0, .int .i64 0, .int .i64 0]) hc.st ty52 ty56 rfl rfl (by kernel_rfl) (.c (v := .agg #[.int .u32 _, .int .i64 _, .int .i64 _]) (hc.det (j := 5) rfl rfl rfl rfl) (h := .nil)) fun w b hst => ⟨[_], ⟨b, rfl, rfl⟩, hst⟩) ?_
     refine RunD.ownC (fun g v rs => ∃ ao2 cp2, v = .slice ao2 (fu.blocks.length + 1) cp2 ∧ rs = [Res.sl ao2 (fu.blocks.length + 1) cp2 56 3 (fu.blocks.flatMap bkC ++ [.int .u32 (l.getD k zeroI).res, .int .i64 (k : Int), .int .i64 ((((blkZ (l.map InstP.L) k fu) + 2) : Nat) : Int)])]) tab24 8 (.head _) (fun f' L' L'' w' hc ⟨X, hrem, hX⟩ => by obtain ⟨_, rs, ⟨b102, h102, hrs⟩, _, hm⟩ := hc.dep 6 102 rfl rfl; subst hrs; exact Op1.append (news := [.int .u32 (l.getD k zeroI).res, .int .i64 (k : Int), .int .i64 ((((blkZ (l.map InstP.L) k fu) + 2) : Nat) : Int)]) hc.st ty52 ty56 rfl rfl hrem (hc.det (j := 4) rfl rfl rfl rfl) (evs h102 rfl) rfl (cells_of_obj (n := 3) (hc.st.objL (List.mem_append_left _ (hm rfl _ (.head _)))) _ rfl) rfl rfl (by omega) fun w ao2 cp2 hst => ⟨[_], fun g hg => ⟨_, _, rfl, rfl⟩, hX _ _ hst⟩) <| RunD.fin followsMixed tab24 hst rfl (fun f25 w R28 hs26 hd27 hr29 hst => ?_)
     obtain ⟨h96_, r0⟩ := hd27 0 96 rfl rfl
     obtain ⟨h97_, r1⟩ := hd27 1 97 rfl rfl
     obtain ⟨h98_, r2⟩ := hd27 2 98 rfl rfl
     obtain ⟨h99_, r3⟩ := hd27 3 99 rfl rfl
     obtain ⟨h100_, r4⟩ := hd27 4 100 rfl rfl
     obtain ⟨h101_, r5⟩ := hd27 5 101 rfl rfl
     obtain ⟨b102, h102_, r6⟩ := hd27 6 102 rfl rfl
     obtain ⟨ao2, cp2, h103_, r7⟩ := hd27 7 103 rfl rfl
     simp only [show List.range 8 = [0, 1, 2, 3, 4, 5, 6, 7] from rfl, List.flatMap_cons, List.flatMap_nil, List.map_cons, List.map_nil, r0, r1, r2, r3, r4, r5, r6, r7, List.nil_append, List.append_nil, List.cons_append] at hst
     refine RunL.slots (sl := [(96, .pointer (some ⟨_, _, none⟩)), (103, .slice _ _ _)]) ⟨h96_, h103_, trivial⟩ ?_
     clear hs26 hd27 hr29 tab24
     refine CN <| Op1.nilCheckP rfl <| CN <| Op1.fieldAddr fld54_3 rfl <| CN (SO (v := .slice _ _ _) hst ty52 rfl rfl (.there (.there (.there (.there (.there (.there (.here))))))) fun w hst => ?_)
     refine NL <| Run.forget [] trivial fun f => SR <| AB rfl <| NL <| run_ret1 Try.func42 rfl (TP (v := .bool _) rfl) ?_
     replace hst := hst.pick (.cons (.there (.there (.there (.there (.here))))) (.cons (.there (.there (.there (.there (.there (.here)))))) (.cons (.there (.here)) .nil)))
     have e1 : fu.blocks.length + 1 = (fu.blocks ++ [(⟨(l.getD k zeroI).res, (k : Int), ((((blkZ (l.map InstP.L) k fu) + 2) : Nat) : Int)⟩ : BlkL)]).length := by simp
     have e2 : fu.blocks.flatMap bkC ++ [.int .u32 (l.getD k zeroI).res, .int .i64 (k : Int), .int .i64 ((((blkZ (l.map InstP.L) k fu) + 2) : Nat) : Int)] = (fu.blocks ++ [(⟨(l.getD k zeroI).res, (k : Int), ((((blkZ (l.map InstP.L) k fu) + 2) : Nat) : Int)⟩ : BlkL)]).flatMap bkC := by simp
     rw [e1, e2] at hst
     exact .inl ⟨((blkZ (l.map InstP.L) k fu) + 2), ao2, cp2, (by have := blkZ_gt (l.map InstP.L) k fu; omega), hdn, rfl, (St.pack (L1 := [_, _, _]) (L2 := []) hst).noD⟩
   refine run_skip <| SR <| CN <| Op1.eql rfl rfl <| AB rfl <| NL <| run_cond_dec rfl (fun g30 => ?_) (fun g30 => ?_)
   · skip
     have hc7 : nxF (l.map InstP.L) (blkZ (l.map InstP.L) k fu) = 7 := g30
     have hz7 := nx_in hc7
     refine run_exit (id := 2) rfl <| SQ <| SR <| MP rfl <| CN <| Op1.nilCheckP rfl <| CN <| Op1.fieldAddr fld69_1 rfl <| CN <| Op1.load1 (v := .int .i64 _) ty3 rfl rfl (hst.cellL (.head _) rfl) <| CN <| Op1.addN rfl rfl rfl (wrap_i64 (by omega) (by omega)) <| CN <| Op1.nilCheckP rfl <| CN <| Op1.fieldAddr fld69_1 rfl <| CN (SO (v := .int .i64 _) hst ty3 rfl rfl (.here) fun w hst => ?_)
     refine NSR <| MP rfl <| CN <| Op1.nilCheckP rfl <| CN <| Op1.fieldAddr fld69_1 rfl <| CN <| Op1.load1 (v := .int .i64 _) ty3 rfl rfl (hst.cellL (.head _) rfl) <| CN <| Op1.fieldAddr fld56_2 rfl <| CN (SO (v := .int .i64 _) hst ty3 rfl rfl (.there (.there (.here))) fun w hst => ?_)
     refine NL <| Run.forget [(1, .pointer (some ⟨_, _, none⟩)), (5, .pointer (some ⟨_, _, none⟩))] ⟨rfl, rfl, trivial⟩ fun f => SQ ?_
     replace hst := hst.pick (.cons (.there (.there (.here))) (.cons (.here) (.cons (.here) (.cons (.here) (.cons (.here) .nil)))))
     replace hst : St _ _ (Res.row b5 56 [.int .u32 (l.getD k zeroI).res, .int .i64 (k : Int), .int .i64 ((((blkZ (l.map InstP.L) k fu) + 1) : Nat) : Int)] :: CutR 69 bq ao l.length cp ((blkZ (l.map InstP.L) k fu) + 1) tail :: _) _ _ := hst
     replace hst := hst.pick (.cons (.there (.there (.there (.there (.here))))) (.cons (.here) (.cons (.here) (.cons (.here) (.cons (.here) .nil)))))
     apply RunD.start [(7, Res.sl _ _ _ _ _ _, Res.emp)] hst (bs := [0, 0, 2, 6, 14, 0, 32, 126, 255, 511, 1023]) (ds := [some 96, some 97, some 98, some 99, some 100, some 101, some 102, some 103, some 104, some 105, none]) (htab := ⟨by kernel_rfl, by kernel_rfl, by kernel_rfl⟩)
     intro tab31
     refine RunD.op (det _) tab31 1 (fun f' L' w' hc => Op1.move (v := .pointer (some ⟨_, _, none⟩)) (hc.old (v := .pointer (some ⟨_, _, none⟩)) rfl rfl rfl) ⟨[], ⟨rfl, rfl⟩, hc.st⟩) <| RunD.op (det _) tab31 2 (fun f' L' w' hc => Op1.move (v := .pointer (some ⟨_, _, none⟩)) (hc.old (v := .pointer (some ⟨_, _, none⟩)) rfl rfl rfl) ⟨[], ⟨rfl, rfl⟩, hc.st⟩) <| RunD.op (det _) tab31 3 (fun f' L' w' hc => Op1.nilCheckP (hc.det (j := 1) rfl rfl rfl rfl) ⟨[], ⟨rfl, rfl⟩, hc.st⟩) <| RunD.op (det _) tab31 4 (fun f' L' w' hc => Op1.fieldAddr fld54_3 (hc.det (j := 2) rfl rfl rfl rfl) ⟨[], ⟨rfl, rfl⟩, hc.st⟩) <| RunD.op (det _) tab31 5 (fun f' L' w' hc => Op1.load1 (v := .slice _ _ _) ty52 rfl (hc.det (j := 3) rfl rfl rfl rfl) (hc.st.cellL (List.mem_append_right _ (.tail _ (.tail _ (.tail _ (.head _))))) rfl) ⟨[], ⟨rfl, rfl⟩, hc.st⟩) <| RunD.op (det _) tab31 6 (fun f' L' w' hc => Op1.loadA (vs := [.int .u32 _, .int .i64 _, .int .i64 _]) ty56 rfl (hc.old (v := .pointer (some ⟨_, _, none⟩)) rfl rfl rfl) rfl (cells_of_obj (n := 3) (hc.st.objL (List.mem_append_right _ (.head _))) _ rfl) ⟨[], ⟨rfl, rfl⟩, hc.st⟩) <| RunD.op (fun v rs => ∃ b, v = .slice (some ⟨b, 0, none⟩) 1 1 ∧ rs = [Res.row b 56 ([.int .u32 (l.getD k zeroI).res, .int .i64 (k : Int), .int .i64 ((((blkZ (l.map InstP.L) k fu) + 1) : Nat) : Int)])]) tab31 7 (fun f' L' w' hc => Op1.buildSl (z0 := [.int .u32 0, .int .i64 0, .int .i64 0]) hc.st ty52 ty56 rfl rfl (by kernel_rfl) (.c (v := .agg #[.int .u32 _, .int .i64 _, .int .i64 _]) (hc.det (j := 5) rfl rfl rfl rfl) (h := .nil)) fun w b hst => ⟨[_], ⟨b, rfl, rfl⟩, hst⟩) ?_
     refine RunD.ownC (fun g v rs => ∃ ao2 cp2, v = .slice ao2 (fu.blocks.length + 1) cp2 ∧ rs = [Res.sl ao2 (fu.blocks.length + 1) cp2 56 3 (fu.blocks.flatMap bkC ++ [.int .u32 (l.getD k zeroI).res, .int .i64 (k : Int), .int .i64 ((((blkZ (l.map InstP.L) k fu) + 1) : Nat) : Int)])]) tab31 8 (.head _) (fun f' L' L'' w' hc ⟨X, hrem, hX⟩ => by obtain ⟨_, rs, ⟨b102, h102, hrs⟩, _, hm⟩ := hc.dep 6 102 rfl rfl; subst hrs; exact Op1.append (news := [.int .u32 (l.getD k zeroI).res, .int .i64 (k : Int), .int .i64 ((((blkZ (l.map InstP.L) k fu) + 1) : Nat) : Int)]) hc.st ty52 ty56 rfl rfl hrem (hc.det (j := 4) rfl rfl rfl rfl) (evs h102 rfl) rfl (cells_of_obj (n := 3) (hc.st.objL (List.mem_append_left _ (hm rfl _ (.head _)))) _ rfl) rfl rfl (by omega) fun w ao2 cp2 hst => ⟨[_], fun g hg => ⟨_, _, rfl, rfl⟩, hX _ _ hst⟩) <| RunD.fin followsMixed tab31 hst rfl (fun f32 w R35 hs33 hd34 hr36 hst => ?_)
     obtain ⟨h96_, r0⟩ := hd34 0 96 rfl rfl
     obtain ⟨h97_, r1⟩ := hd34 1 97 rfl rfl
     obtain ⟨h98_, r2⟩ := hd34 2 98 rfl rfl
     obtain ⟨h99_, r3⟩ := hd34 3 99 rfl rfl
     obtain ⟨h100_, r4⟩ := hd34 4 100 rfl rfl
     obtain ⟨h101_, r5⟩ := hd34 5 101 rfl rfl
     obtain ⟨b102, h102_, r6⟩ := hd34 6 102 rfl rfl
     obtain ⟨ao2, cp2, h103_, r7⟩ := hd34 7 103 rfl rfl
     simp only [show List.range 8 = [0, 1, 2, 3, 4, 5, 6, 7] from rfl, List.flatMap_cons, List.flatMap_nil, List.map_cons, List.map_nil, r0, r1, r2, r3, r4, r5, r6, r7, List.nil_append, List.append_nil, List.cons_append] at hst
     refine RunL.slots (sl := [(96, .pointer (some ⟨_, _, none⟩)), (103, .slice _ _ _)]) ⟨h96_, h103_, trivial⟩ ?_
     clear hs33 hd34 hr36 tab31
     refine CN <| Op1.nilCheckP rfl <| CN <| Op1.fieldAddr fld54_3 rfl <| CN (SO (v := .slice _ _ _) hst ty52 rfl rfl (.there (.there (.there (.there (.there (.there (.here))))))) fun w hst => ?_)
     refine NSR <| AB rfl <| NL <| run_ret1 Try.func42 rfl (TP (v := .bool _) rfl) ?_
     replace hst := hst.pick (.cons (.there (.there (.there (.there (.here))))) (.cons (.there (.there (.there (.there (.there (.here)))))) (.cons (.there (.here)) .nil)))
     have e1 : fu.blocks.length + 1 = (fu.blocks ++ [(⟨(l.getD k zeroI).res, (k : Int), ((((blkZ (l.map InstP.L) k fu) + 1) : Nat) : Int)⟩ : BlkL)]).length := by simp
     have e2 : fu.blocks.flatMap bkC ++ [.int .u32 (l.getD k zeroI).res, .int .i64 (k : Int), .int .i64 ((((blkZ (l.map InstP.L) k fu) + 1) : Nat) : Int)] = (fu.blocks ++ [(⟨(l.getD k zeroI).res, (k : Int), ((((blkZ (l.map InstP.L) k fu) + 1) : Nat) : Int)⟩ : BlkL)]).flatMap bkC := by simp
     rw [e1, e2] at hst
     exact .inl ⟨((blkZ (l.map InstP.L) k fu) + 1), ao2, cp2, (by have := blkZ_gt (l.map InstP.L) k fu; omega), (h7 hc7), rfl, (St.pack (L1 := [_, _, _]) (L2 := []) hst).noD⟩
   refine run_skip <| run_exit (id := 0) rfl <| SR <| AB rfl <| NL <| run_ret1 Try.func42 rfl (TP (v := .bool _) rfl) ?_
   replace hst := hst.pick (.cons (.here) .nil)
   exact .inr ⟨_, hN g10 g30, rfl, hst.noD⟩
 · skip
   refine SR <| MP rfl <| CN <| Op1.nilCheckP rfl <| CN <| Op1.fieldAddr fld54_3 rfl <| CN <| Op1.load1 (v := .slice _ _ _) ty52 rfl rfl (hst.cellL (.tail _ (.tail _ (.head _))) rfl) <| CN <| Op1.lenSl (rest := []) ty52 rfl <| CN <| Op1.eql rfl rfl <| NL <| run_cond_dec rfl (fun g37 => ?_) (fun g37 => ?_)
   · skip
     refine RG <| MP rfl ?_
     replace hst := hst.pick (.cons (.here) (.cons (.here) (.cons (.here) (.cons (.here) .nil))))
     refine CN (Op1.call2 (v1 := .pointer (some ⟨_, _, none⟩)) (v2 := .int .i64 _) ent41 rfl rfl rfl ((R5ly_row bq l ao cp (k + 1) tail 5 (by decide) _ (hst.hL _ (.head _)) (hst.hD _ (.head _)) (hst.sepD _ (.head _) _ (.head _)) (by omega) hl hla hop).mono fun v w hp => ?_))
     obtain ⟨ro, rc, rfl, hp⟩ := hp
     replace hst : St _ _ (_ :: _ :: _) _ _ := hst.call1 hp
     clear hp
     refine NL ?_
     rw [blkA_first (l := (l.map InstP.L)) (a := k) (f := fu) (by omega)] at hst
     replace hst := hst.pick (.cons (.here) (.cons (.there (.here)) (.cons (.there (.here)) (.cons (.there (.here)) .nil))))
     exact cut7 (()) _ w (hst) (trivial) ⟨rfl, rfl, rfl, trivial⟩ trivial
   refine RG <| MP rfl ?_
   replace hst := hst.pick (.cons (.here) (.cons (.here) (.cons (.here) (.cons (.here) .nil))))
   refine CN (Op1.call2 (v1 := .pointer (some ⟨_, _, none⟩)) (v2 := .int .i64 _) ent41 rfl rfl rfl ((R5ly_row bq l ao cp (k + 1) tail 4 (by decide) _ (hst.hL _ (.head _)) (hst.hD _ (.head _)) (hst.sepD _ (.head _) _ (.head _)) (by omega) hl hla hop).mono fun v w hp => ?_))
   obtain ⟨ro, rc, rfl, hp⟩ := hp
   replace hst : St _ _ (_ :: _ :: _) _ _ := hst.call1 hp
   clear hp
   refine NL ?_
   rw [blkA_next (l := (l.map InstP.L)) (a := k) (f := fu) (by omega)] at hst
   replace hst := hst.pick (.cons (.here) (.cons (.there (.here)) (.cons (.there (.here)) (.cons (.there (.here)) .nil))))
   exact cut7 (()) _ w (hst) (trivial) ⟨rfl, rfl, rfl, trivial⟩ trivial
end Go.SK
namespace Go.SK
open Go Go.Proofs
theorem ent39 : Enters Try.prog 39 := ⟨Try.f39, _, Try.func39, by kernel_rfl, rfl⟩
theorem ty54 : TyF Try.prog 54 (.struct (fieldsOf Try.prog 54)) 5 72 [.int .u32 0, .int .i64 0, .slice none 0 0, .slice none 0 0, .int .i64 0] := TyF.of (by kernel_rfl) (by kernel_rfl)
theorem stf54 : StructF Try.prog 54 [(0, 1), (1, 1), (2, 1), (3, 1), (4, 1)] := ⟨fieldsOf Try.prog 54, by kernel_rfl, fun w => by kernel_rfl⟩
theorem fld54_2 : FldF Try.prog 54 2 2 := FldF.of (n := 0) (by kernel_rfl)
theorem ent42 : Enters Try.prog 42 := ⟨Try.f42, _, Try.func42, by kernel_rfl, rfl⟩
theorem fld54_4 : FldF Try.prog 54 4 4 := FldF.of (n := 0) (by kernel_rfl)
theorem fld69_3 : FldF Try.prog 69 3 22 := FldF.of (n := 0) (by kernel_rfl)
theorem ty45 : TyF Try.prog 45 (.slice 54) 1 24 [.slice none 0 0] := TyF.of (by kernel_rfl) (by kernel_rfl)
end Go.SK
namespace Go.SK
open Go Go.Proofs
open Go.RowKit
set_option maxHeartbeats 4000000 in
theorem R5ly_cut (bq : Nat) (l : List InstP) (ao : Option Addr) (cp : Nat) (hkm : ∀ i ∈ (l.map InstP.L), i.Known) (w : World) (hR : (CutR 69 bq ao l.length cp 0 [.int .i64 0, .int .i64 0, .int .i64 0, .int .i64 0, .int .i64 0, .int .i64 0, .int .i64 0, .int .i64 0, .int .i64 0, .int .i64 0, .int .i64 0, .int .i64 0, .int .i64 0, .int .i64 0, .int .i64 0, .int .i64 0, .int .i64 0, .int .i64 0, .int .i64 0, .int .i64 0, .slice none 0 0]).holds w) (hA : (Res.rmod ao l).holds w) (hap : Apart (CutR 69 bq ao l.length cp 0 [.int .i64 0, .int .i64 0, .int .i64 0, .int .i64 0, .int .i64 0, .int .i64 0, .int .i64 0, .int .i64 0, .int .i64 0, .int .i64 0, .int .i64 0, .int .i64 0, .int .i64 0, .int .i64 0, .int .i64 0, .int .i64 0, .int .i64 0, .int .i64 0, .int .i64 0, .int .i64 0, .slice none 0 0]) (Res.rmod ao l)) (hl : l.length ≤ 1048576) (hla : ∀ i ∈ l, i.args.length ≤ 9000000000000000000) (hop : ∀ i ∈ l, 0 ≤ i.op) : Ret Try.prog 33 #[.pointer (some ⟨bq, 0, none⟩)] w (fun v w' => (∃ fo fc xs, topA (l.map InstP.L) 2 ≠ topA (l.map InstP.L) 1 ∧ orderF (l.map InstP.L) = (0, 0) ∧ xs.map FunP.fu = funsK (l.map InstP.L) l.length ∧ v = .bool true ∧ St w (CutR 69 bq ao l.length cp 0 [.int .i64 0, .int .i64 0, .int .i64 0, .int .i64 0, .int .i64 0, .int .i64 0, .int .i64 0, .int .i64 0, .int .i64 0, .int .i64 0, .int .i64 0, .int .i64 0, .int .i64 0, .int .i64 0, .int .i64 0, .int .i64 0, .int .i64 0, .int .i64 0, .int .i64 0, .int .i64 0, .slice none 0 0]).foot [CutR 69 bq ao l.length cp l.length [.int .i64 ((topA (l.map InstP.L) 0) : Int), .int .i64 ((topA (l.map InstP.L) 1) : Int), .int .i64 ((topA (l.map InstP.L) 1) : Int), .int .i64 ((topA (l.map InstP.L) 2) : Int), .int .i64 ((topA (l.map InstP.L) 2) : Int), .int .i64 ((topA (l.map InstP.L) 3) : Int), .int .i64 ((topA (l.map InstP.L) 3) : Int), .int .i64 ((topA (l.map InstP.L) 4) : Int), .int .i64 ((topA (l.map InstP.L) 4) : Int), .int .i64 ((topA (l.map InstP.L) 5) : Int), .int .i64 ((topA (l.map InstP.L) 5) : Int), .int .i64 ((topA (l.map InstP.L) 6) : Int), .int .i64 ((topA (l.map InstP.L) 6) : Int), .int .i64 ((topA (l.map InstP.L) 7) : Int), .int .i64 ((topA (l.map InstP.L) 7) : Int), .int .i64 ((topA (l.map InstP.L) 8) : Int), .int .i64 ((topA (l.map InstP.L) 8) : Int), .int .i64 (l.length : Int), .int .i64 (l.length : Int), .int .i64 (l.length : Int), .slice fo xs.length fc], Res.ofuns 54 3 56 fo fc xs] [] w') ∨ (∃ (e : Nat) (tail : List Value), Stuck (l.map InstP.L) e ∧ v = .bool false ∧ St w (CutR 69 bq ao l.length cp 0 [.int .i64 0, .int .i64 0, .int .i64 0, .int .i64 0, .int .i64 0, .int .i64 0, .int .i64 0, .int .i64 0, .int .i64 0, .int .i64 0, .int .i64 0, .int .i64 0, .int .i64 0, .int .i64 0, .int .i64 0, .int .i64 0, .int .i64 0, .int .i64 0, .int .i64 0, .int .i64 0, .slice none 0 0]).foot [CutR 69 bq ao l.length cp e tail] [] w')) := by
 refine Ret.enter (args := [.pointer (some ⟨bq, 0, none⟩)]) Try.func33 rfl rfl rfl ?_
 have hst : St w (CutR 69 bq ao l.length cp 0 [.int .i64 0, .int .i64 0, .int .i64 0, .int .i64 0, .int .i64 0, .int .i64 0, .int .i64 0, .int .i64 0, .int .i64 0, .int .i64 0, .int .i64 0, .int .i64 0, .int .i64 0, .int .i64 0, .int .i64 0, .int .i64 0, .int .i64 0, .int .i64 0, .int .i64 0, .int .i64 0, .slice none 0 0]).foot [CutR 69 bq ao l.length cp 0 [.int .i64 0, .int .i64 0, .int .i64 0, .int .i64 0, .int .i64 0, .int .i64 0, .int .i64 0, .int .i64 0, .int .i64 0, .int .i64 0, .int .i64 0, .int .i64 0, .int .i64 0, .int .i64 0, .int .i64 0, .int .i64 0, .int .i64 0, .int .i64 0, .int .i64 0, .int .i64 0, .slice none 0 0]] [Res.rmod ao l] w := St.enter1 hR (fun d hd => by cases hd with | head => exact hA | tail _ h => cases h) (fun d hd => by cases hd with | head => exact hap | tail _ h => cases h)
 have hL : (l.map InstP.L).length = l.length := List.length_map _
 have ht8 : topA (l.map InstP.L) 8 ≤ (l.map InstP.L).length := topA_le 8
 refine SR <| AB rfl <| NL <| run_scope <| SQ <| SR <| MP rfl ?_
 replace hst := hst.pick (.cons (.here) .nil)
 refine CN (Op1.call1 (v1 := .pointer (some ⟨_, _, none⟩)) ent39 rfl rfl ((R5ly_top bq l ao cp _ (hst.hL _ (.head _)) (hst.hD _ (.head _)) (hst.sepD _ (.head _) _ (.head _)) (by omega) hla hop).mono fun v w hp => ?_))
 rcases hp with ⟨htp, rfl, hp⟩ | ⟨htp, rfl, tl, hp⟩
 · skip
   replace hst : St _ _ (_ :: _) _ _ := hst.call1 hp
   clear hp
   refine CN <| Op1.not rfl <| NL <| run_cond_false (congrArg Value.bool (congrArg not (rfl : true = _))) <| run_skip <| SQ <| RunD.start [] hst (bs := [0, 0, 2, 6, 14, 0, 32, 96, 224, 480, 1022, 1, 2049, 8191, 16383]) (ds := [some 7, some 8, some 9, some 10, some 11, some 12, some 13, some 14, some 15, some 16, some 17, some 18, some 19, some 20, none]) ⟨by kernel_rfl, by kernel_rfl, by kernel_rfl⟩ (fun tab1 => ?_)
   refine RunD.op (det _) tab1 1 (fun f' L' w' hc => Op1.move (v := .pointer (some ⟨_, _, none⟩)) (hc.old (v := .pointer (some ⟨_, _, none⟩)) rfl rfl rfl) ⟨[], ⟨rfl, rfl⟩, hc.st⟩) <| RunD.op (det _) tab1 2 (fun f' L' w' hc => Op1.move (v := .pointer (some ⟨_, _, none⟩)) (hc.old (v := .pointer (some ⟨_, _, none⟩)) rfl rfl rfl) ⟨[], ⟨rfl, rfl⟩, hc.st⟩) <| RunD.op (det _) tab1 3 (fun f' L' w' hc => Op1.nilCheckP (hc.det (j := 1) rfl rfl rfl rfl) ⟨[], ⟨rfl, rfl⟩, hc.st⟩) <| RunD.op (det _) tab1 4 (fun f' L' w' hc => Op1.fieldAddr fld69_1 (hc.det (j := 2) rfl rfl rfl rfl) ⟨[], ⟨rfl, rfl⟩, hc.st⟩) <| RunD.op (det _) tab1 5 (fun f' L' w' hc => Op1.load1 (v := .int .i64 _) ty3 rfl (hc.det (j := 3) rfl rfl rfl rfl) (hc.st.cellL (List.mem_append_right _ (.head _)) rfl) ⟨[], ⟨rfl, rfl⟩, hc.st⟩) <| RunD.op (det _) tab1 6 (fun f' L' w' hc => Op1.move (v := .pointer (some ⟨_, _, none⟩)) (hc.old (v := .pointer (some ⟨_, _, none⟩)) rfl rfl rfl) ⟨[], ⟨rfl, rfl⟩, hc.st⟩) <| RunD.op (det _) tab1 7 (fun f' L' w' hc => Op1.nilCheckP (hc.det (j := 5) rfl rfl rfl rfl) ⟨[], ⟨rfl, rfl⟩, hc.st⟩) <| RunD.op (det _) tab1 8 (fun f' L' w' hc => Op1.fieldAddr fld69_0 (hc.det (j := 6) rfl rfl rfl rfl) ⟨[], ⟨rfl, rfl⟩, hc.st⟩) <| RunD.op (det _) tab1 9 (fun f' L' w' hc => Op1.load1 (v := .slice _ _ _) ty23 rfl (hc.det (j := 7) rfl rfl rfl rfl) (hc.st.cellL (List.mem_append_right _ (.head _)) rfl) ⟨[], ⟨rfl, rfl⟩, hc.st⟩) <| RunD.op (det _) tab1 10 (fun f' L' w' hc => Op1.lenSl (rest := []) ty23 (hc.det (j := 8) rfl rfl rfl rfl) ⟨[], ⟨rfl, rfl⟩, hc.st⟩) <| RunD.op (det _) tab1 11 (fun f' L' w' hc => Op1.buildStruct ty41 stf41 (.c (v := .int .i64 _) (hc.det (j := 4) rfl rfl rfl rfl) (h := (.c (v := .int .i64 _) (hc.det (j := 9) rfl rfl rfl rfl) (h := .nil)))) ⟨[], ⟨rfl, rfl⟩, hc.st⟩) ?_
   refine RunD.op (det _) tab1 12 (fun f' L' w' hc => Op1.nilCheckP (hc.det (j := 0) rfl rfl rfl rfl) ⟨[], ⟨rfl, rfl⟩, hc.st⟩) <| RunD.op (det _) tab1 13 (fun f' L' w' hc => Op1.fieldAddr fld69_2 (hc.det (j := 11) rfl rfl rfl rfl) ⟨[], ⟨rfl, rfl⟩, hc.st⟩) <| RunD.fin followsMixed tab1 hst rfl (fun f2 w R5 hs3 hd4 hr6 hst => ?_)
   obtain ⟨h7_, r0⟩ := hd4 0 7 rfl rfl
   obtain ⟨h8_, r1⟩ := hd4 1 8 rfl rfl
   obtain ⟨h9_, r2⟩ := hd4 2 9 rfl rfl
   obtain ⟨h10_, r3⟩ := hd4 3 10 rfl rfl
   obtain ⟨h11_, r4⟩ := hd4 4 11 rfl rfl
   obtain ⟨h12_, r5⟩ := hd4 5 12 rfl rfl
   obtain ⟨h13_, r6⟩ := hd4 6 13 rfl rfl
   obtain ⟨h14_, r7⟩ := hd4 7 14 rfl rfl
   obtain ⟨h15_, r8⟩ := hd4 8 15 rfl rfl
   obtain ⟨h16_, r9⟩ := hd4 9 16 rfl rfl
   obtain ⟨h17_, r10⟩ := hd4 10 17 rfl rfl
   obtain ⟨h18_, r11⟩ := hd4 11 18 rfl rfl
   obtain ⟨h19_, r12⟩ := hd4 12 19 rfl rfl
   simp only [show List.range 13 = [0, 1, 2, 3, 4, 5, 6, 7, 8, 9, 10, 11, 12] from rfl, List.flatMap_cons, List.flatMap_nil, List.map_cons, List.map_nil, r0, r1, r2, r3, r4, r5, r6, r7, r8, r9, r10, r11, r12, List.nil_append, List.append_nil, List.cons_append] at hst
   refine RunL.slots (sl := [(0, .pointer (some ⟨_, _, none⟩)), (17, .agg #[.int .i64 _, .int .i64 _]), (19, .pointer (some ⟨_, _, none⟩))]) ⟨(hs3 0 rfl).trans rfl, h17_, h19_, trivial⟩ ?_
   clear hs3 hd4 hr6 tab1
   refine CN <| Op1.indexArr ty42 ty41 rfl rfl (by decide) (by decide) <| RunL.slots (sl := [(20, .pointer (some ⟨bq, 18, none⟩)), (17, .agg #[.int .i64 _, .int .i64 _])]) ⟨rfl, rfl, trivial⟩ <| CN (SO (v := .agg #[.int .i64 _, .int .i64 _]) hst ty41 rfl rfl (.here) fun w hst => ?_)
   refine NL <| SQ ?_
   replace hst := hst.pushNil 54 5
   replace hst := hst.starNil
   refine RunD.start [] hst (bs := [0, 0, 2, 6, 14, 30, 0, 64, 192, 448, 960, 2046, 1, 4097, 16383, 32767]) (ds := [some 21, some 22, some 23, some 24, some 25, some 26, some 27, some 28, some 29, some 30, some 31, some 32, some 33, some 34, some 35, none]) ⟨by kernel_rfl, by kernel_rfl, by kernel_rfl⟩ (fun tab7 => ?_)
   refine RunD.op (det _) tab7 1 (fun f' L' w' hc => Op1.move (v := .pointer (some ⟨_, _, none⟩)) (hc.old (v := .pointer (some ⟨_, _, none⟩)) rfl rfl rfl) ⟨[], ⟨rfl, rfl⟩, hc.st⟩) <| RunD.op (det _) tab7 2 (fun f' L' w' hc => Op1.move (v := .pointer (some ⟨_, _, none⟩)) (hc.old (v := .pointer (some ⟨_, _, none⟩)) rfl rfl rfl) ⟨[], ⟨rfl, rfl⟩, hc.st⟩) <| RunD.op (det _) tab7 3 (fun f' L' w' hc => Op1.nilCheckP (hc.det (j := 1) rfl rfl rfl rfl) ⟨[], ⟨rfl, rfl⟩, hc.st⟩) <| RunD.op (det _) tab7 4 (fun f' L' w' hc => Op1.fieldAddr fld69_0 (hc.det (j := 2) rfl rfl rfl rfl) ⟨[], ⟨rfl, rfl⟩, hc.st⟩) <| RunD.op (det _) tab7 5 (fun f' L' w' hc => Op1.load1 (v := .slice _ _ _) ty23 rfl (hc.det (j := 3) rfl rfl rfl rfl) (hc.st.cellL (List.mem_append_right _ (.tail _ (.tail _ (.head _)))) rfl) ⟨[], ⟨rfl, rfl⟩, hc.st⟩) <| RunD.op (det _) tab7 6 (fun f' L' w' hc => Op1.lenSl (rest := []) ty23 (hc.det (j := 4) rfl rfl rfl rfl) ⟨[], ⟨rfl, rfl⟩, hc.st⟩) <| RunD.op (det _) tab7 7 (fun f' L' w' hc => Op1.move (v := .pointer (some ⟨_, _, none⟩)) (hc.old (v := .pointer (some ⟨_, _, none⟩)) rfl rfl rfl) ⟨[], ⟨rfl, rfl⟩, hc.st⟩) <| RunD.op (det _) tab7 8 (fun f' L' w' hc => Op1.nilCheckP (hc.det (j := 6) rfl rfl rfl rfl) ⟨[], ⟨rfl, rfl⟩, hc.st⟩) <| RunD.op (det _) tab7 9 (fun f' L' w' hc => Op1.fieldAddr fld69_0 (hc.det (j := 7) rfl rfl rfl rfl) ⟨[], ⟨rfl, rfl⟩, hc.st⟩) <| RunD.op (det _) tab7 10 (fun f' L' w' hc => Op1.load1 (v := .slice _ _ _) ty23 rfl (hc.det (j := 8) rfl rfl rfl rfl) (hc.st.cellL (List.mem_append_right _ (.tail _ (.tail _ (.head _)))) rfl) ⟨[], ⟨rfl, rfl⟩, hc.st⟩) <| RunD.op (det _) tab7 11 (fun f' L' w' hc => Op1.lenSl (rest := []) ty23 (hc.det (j := 9) rfl rfl rfl rfl) ⟨[], ⟨rfl, rfl⟩, hc.st⟩) <| RunD.op (det _) tab7 12 (fun f' L' w' hc => Op1.buildStruct ty41 stf41 (.c (v := .int .i64 _) (hc.det (j := 5) rfl rfl rfl rfl) (h := (.c (v := .int .i64 _) (hc.det (j := 10) rfl rfl rfl rfl) (h := .nil)))) ⟨[], ⟨rfl, rfl⟩, hc.st⟩) ?_
   refine RunD.op (det _) tab7 13 (fun f' L' w' hc => Op1.nilCheckP (hc.det (j := 0) rfl rfl rfl rfl) ⟨[], ⟨rfl, rfl⟩, hc.st⟩) <| RunD.op (det _) tab7 14 (fun f' L' w' hc => Op1.fieldAddr fld69_2 (hc.det (j := 12) rfl rfl rfl rfl) ⟨[], ⟨rfl, rfl⟩, hc.st⟩) <| RunD.fin followsMixed tab7 hst rfl (fun f8 w R11 hs9 hd10 hr12 hst => ?_)
   obtain ⟨h21_, r0⟩ := hd10 0 21 rfl rfl
   obtain ⟨h22_, r1⟩ := hd10 1 22 rfl rfl
   obtain ⟨h23_, r2⟩ := hd10 2 23 rfl rfl
   obtain ⟨h24_, r3⟩ := hd10 3 24 rfl rfl
   obtain ⟨h25_, r4⟩ := hd10 4 25 rfl rfl
   obtain ⟨h26_, r5⟩ := hd10 5 26 rfl rfl
   obtain ⟨h27_, r6⟩ := hd10 6 27 rfl rfl
   obtain ⟨h28_, r7⟩ := hd10 7 28 rfl rfl
   obtain ⟨h29_, r8⟩ := hd10 8 29 rfl rfl
   obtain ⟨h30_, r9⟩ := hd10 9 30 rfl rfl
   obtain ⟨h31_, r10⟩ := hd10 10 31 rfl rfl
   obtain ⟨h32_, r11⟩ := hd10 11 32 rfl rfl
   obtain ⟨h33_, r12⟩ := hd10 12 33 rfl rfl
   obtain ⟨h34_, r13⟩ := hd10 13 34 rfl rfl
   simp only [show List.range 14 = [0, 1, 2, 3, 4, 5, 6, 7, 8, 9, 10, 11, 12, 13] from rfl, List.flatMap_cons, List.flatMap_nil, List.map_cons, List.map_nil, r0, r1, r2, r3, r4, r5, r6, r7, r8, r9, r10, r11, r12, r13, List.nil_append, List.append_nil, List.cons_append] at hst
   refine RunL.slots (sl := [(0, .pointer (some ⟨_, _, none⟩)), (32, .agg #[.int .i64 _, .int .i64 _]), (34, .pointer (some ⟨_, _, none⟩))]) ⟨(hs9 0 rfl).trans rfl, h32_, h34_, trivial⟩ ?_
   clear hs9 hd10 hr12 tab7
   refine CN <| Op1.indexArr ty42 ty41 rfl rfl (by decide) (by decide) <| RunL.slots (sl := [(35, .pointer (some ⟨bq, 20, none⟩)), (32, .agg #[.int .i64 _, .int .i64 _])]) ⟨rfl, rfl, trivial⟩ <| CN (SO (v := .agg #[.int .i64 _, .int .i64 _]) hst ty41 rfl rfl (.there (.there (.here))) fun w hst => ?_)
   refine NL <| Run.forget [(0, .pointer (some ⟨_, _, none⟩))] ⟨rfl, trivial⟩ fun f => SQ <| run_label <| Run.indW [(0, .pointer (some ⟨_, _, none⟩))] ⟨rfl, trivial⟩ (fun (q : Nat × List FunP × Option Addr × Nat) => []) (fun (q : Nat × List FunP × Option Addr × Nat) => [Res.star ((q.2.1).map (Res.ofun 3 56)), Res.sl q.2.2.1 (q.2.1).length q.2.2.2 54 5 ((q.2.1).flatMap funC), CutR 69 bq ao l.length cp q.1 [.int .i64 ((topA (l.map InstP.L) 0) : Int), .int .i64 ((topA (l.map InstP.L) 1) : Int), .int .i64 ((topA (l.map InstP.L) 1) : Int), .int .i64 ((topA (l.map InstP.L) 2) : Int), .int .i64 ((topA (l.map InstP.L) 2) : Int), .int .i64 ((topA (l.map InstP.L) 3) : Int), .int .i64 ((topA (l.map InstP.L) 3) : Int), .int .i64 ((topA (l.map InstP.L) 4) : Int), .int .i64 ((topA (l.map InstP.L) 4) : Int), .int .i64 ((topA (l.map InstP.L) 5) : Int), .int .i64 ((topA (l.map InstP.L) 5) : Int), .int .i64 ((topA (l.map InstP.L) 6) : Int), .int .i64 ((topA (l.map InstP.L) 6) : Int), .int .i64 ((topA (l.map InstP.L) 7) : Int), .int .i64 ((topA (l.map InstP.L) 7) : Int), .int .i64 ((topA (l.map InstP.L) 8) : Int), .int .i64 ((topA (l.map InstP.L) 8) : Int), .int .i64 (l.length : Int), .int .i64 (l.length : Int), .int .i64 (l.length : Int), .slice q.2.2.1 q.2.1.length q.2.2.2]]) (fun (q : Nat × List FunP × Option Addr × Nat) => FunI (l.map InstP.L) q.1 (q.2.1.map FunP.fu) ∧ q.2.1.length ≤ q.1) (fun (q : Nat × List FunP × Option Addr × Nat) => l.length + 1 - q.1) ((topA (l.map InstP.L) 8, [], none, 0)) hst ⟨FunI.top hkm htp, Nat.zero_le _⟩ trivial ?_
   intro ⟨a, xs, fo, fc⟩ f w hst hJ ih13
   replace hst : St _ _ ([Res.star ((xs).map (Res.ofun 3 56)), Res.sl fo (xs).length fc 54 5 ((xs).flatMap funC), CutR 69 bq ao l.length cp a [.int .i64 ((topA (l.map InstP.L) 0) : Int), .int .i64 ((topA (l.map InstP.L) 1) : Int), .int .i64 ((topA (l.map InstP.L) 1) : Int), .int .i64 ((topA (l.map InstP.L) 2) : Int), .int .i64 ((topA (l.map InstP.L) 2) : Int), .int .i64 ((topA (l.map InstP.L) 3) : Int), .int .i64 ((topA (l.map InstP.L) 3) : Int), .int .i64 ((topA (l.map InstP.L) 4) : Int), .int .i64 ((topA (l.map InstP.L) 4) : Int), .int .i64 ((topA (l.map InstP.L) 5) : Int), .int .i64 ((topA (l.map InstP.L) 5) : Int), .int .i64 ((topA (l.map InstP.L) 6) : Int), .int .i64 ((topA (l.map InstP.L) 6) : Int), .int .i64 ((topA (l.map InstP.L) 7) : Int), .int .i64 ((topA (l.map InstP.L) 7) : Int), .int .i64 ((topA (l.map InstP.L) 8) : Int), .int .i64 ((topA (l.map InstP.L) 8) : Int), .int .i64 (l.length : Int), .int .i64 (l.length : Int), .int .i64 (l.length : Int), .slice fo xs.length fc]] ++ []) _ _ := hst
   replace hJ : FunI (l.map InstP.L) a (xs.map FunP.fu) ∧ xs.length ≤ a := hJ
   have hJa := hJ.1.1
   have hJl := hJ.2
   refine SQ <| SR <| MP rfl <| CN <| Op1.call1 (v1 := .pointer (some ⟨_, _, none⟩)) ent40 rfl rfl <| Ret.det (R5ly_next bq l ao cp a [.int .i64 ((topA (l.map InstP.L) 0) : Int), .int .i64 ((topA (l.map InstP.L) 1) : Int), .int .i64 ((topA (l.map InstP.L) 1) : Int), .int .i64 ((topA (l.map InstP.L) 2) : Int), .int .i64 ((topA (l.map InstP.L) 2) : Int), .int .i64 ((topA (l.map InstP.L) 3) : Int), .int .i64 ((topA (l.map InstP.L) 3) : Int), .int .i64 ((topA (l.map InstP.L) 4) : Int), .int .i64 ((topA (l.map InstP.L) 4) : Int), .int .i64 ((topA (l.map InstP.L) 5) : Int), .int .i64 ((topA (l.map InstP.L) 5) : Int), .int .i64 ((topA (l.map InstP.L) 6) : Int), .int .i64 ((topA (l.map InstP.L) 6) : Int), .int .i64 ((topA (l.map InstP.L) 7) : Int), .int .i64 ((topA (l.map InstP.L) 7) : Int), .int .i64 ((topA (l.map InstP.L) 8) : Int), .int .i64 ((topA (l.map InstP.L) 8) : Int), .int .i64 (l.length : Int), .int .i64 (l.length : Int), .int .i64 (l.length : Int), .slice fo xs.length fc] _ (hst.hL _ (.tail _ (.tail _ (.head _)))) (hst.hD _ (.head _)) (by omega) (by omega) hla hop) hst fun w hst => CN <| Op1.lss rfl rfl <| NL <| run_cond_dec rfl (fun g14 => ?_) (fun g14 => ?_)
   · skip
     have hout := nx_neg g14
     obtain rfl : l.length = a := by have := hJ.1.1; omega
     refine SR <| AB rfl <| NL <| run_ret1 Try.func33 rfl (TP (v := .bool _) rfl) ?_
     replace hst := hst.pick (.cons (.there (.here)) (.cons (.here) (.cons (.here) .nil)))
     replace hst := St.starCons hst
     obtain ⟨ho, hf⟩ := (by have h := hJ.1; rw [← hL] at h; exact h.good : orderF (l.map InstP.L) = (0, 0) ∧ funsK (l.map InstP.L) (l.map InstP.L).length = xs.map FunP.fu)
     exact .inl ⟨fo, fc, xs, htp, ho, (by rw [← hL]; exact hf.symm), rfl, (hst.perm (List.Perm.swap _ _ _)).noD⟩
   have hin := nx_pos g14
   refine run_skip <| SQ <| SR <| MP rfl <| CN <| Op1.call1 (v1 := .pointer (some ⟨_, _, none⟩)) ent40 rfl rfl <| Ret.det (R5ly_next bq l ao cp a [.int .i64 ((topA (l.map InstP.L) 0) : Int), .int .i64 ((topA (l.map InstP.L) 1) : Int), .int .i64 ((topA (l.map InstP.L) 1) : Int), .int .i64 ((topA (l.map InstP.L) 2) : Int), .int .i64 ((topA (l.map InstP.L) 2) : Int), .int .i64 ((topA (l.map InstP.L) 3) : Int), .int .i64 ((topA (l.map InstP.L) 3) : Int), .int .i64 ((topA (l.map InstP.L) 4) : Int), .int .i64 ((topA (l.map InstP.L) 4) : Int), .int .i64 ((topA (l.map InstP.L) 5) : Int), .int .i64 ((topA (l.map InstP.L) 5) : Int), .int .i64 ((topA (l.map InstP.L) 6) : Int), .int .i64 ((topA (l.map InstP.L) 6) : Int), .int .i64 ((topA (l.map InstP.L) 7) : Int), .int .i64 ((topA (l.map InstP.L) 7) : Int), .int .i64 ((topA (l.map InstP.L) 8) : Int), .int .i64 ((topA (l.map InstP.L) 8) : Int), .int .i64 (l.length : Int), .int .i64 (l.length : Int), .int .i64 (l.length : Int), .slice fo xs.length fc] _ (hst.hL _ (.tail _ (.tail _ (.head _)))) (hst.hD _ (.head _)) (by omega) (by omega) hla hop) hst fun w hst => CN <| Op1.neq rfl rfl <| NL <| run_cond_dec rfl (fun g15 => ?_) (fun g15 => ?_)
   · skip
     have hs1 := hJ.1.stuck hin g15
     refine SR <| AB rfl <| NL <| run_ret1 Try.func33 rfl (TP (v := .bool _) rfl) ?_
     replace hst := hst.pick (.cons (.there (.there (.here))) .nil)
     exact .inr ⟨_, _, hs1, rfl, hst.noD⟩
   have h1 : nxF (l.map InstP.L) a = 1 := Classical.not_not.1 g15
   obtain ⟨_, hpl, hpf, hpd, hpn⟩ := hJ.1.par h1
   refine run_skip <| SQ <| RunD.start [] hst (bs := [0, 1, 3, 7, 0, 16, 48, 112, 255, 511, 1023, 0, 2048, 6144, 14336, 32767, 0, 131071]) (ds := [some 42, some 43, some 44, some 45, some 46, some 47, some 48, some 49, some 50, some 51, some 52, some 53, some 54, some 55, some 56, some 57, some 3, none]) ⟨by kernel_rfl, by kernel_rfl, by kernel_rfl⟩ (fun tab16 => ?_)
   refine RunD.op (det _) tab16 1 (fun f' L' w' hc => Op1.move (v := .pointer (some ⟨_, _, none⟩)) (hc.old (v := .pointer (some ⟨_, _, none⟩)) rfl rfl rfl) ⟨[], ⟨rfl, rfl⟩, hc.st⟩) <| RunD.op (det _) tab16 2 (fun f' L' w' hc => Op1.nilCheckP (hc.det (j := 0) rfl rfl rfl rfl) ⟨[], ⟨rfl, rfl⟩, hc.st⟩) <| RunD.op (det _) tab16 3 (fun f' L' w' hc => Op1.fieldAddr fld69_0 (hc.det (j := 1) rfl rfl rfl rfl) ⟨[], ⟨rfl, rfl⟩, hc.st⟩) <| RunD.op (det _) tab16 4 (fun f' L' w' hc => Op1.load1 (v := .slice _ _ _) ty23 rfl (hc.det (j := 2) rfl rfl rfl rfl) (hc.st.cellL (List.mem_append_right _ (.tail _ (.tail _ (.head _)))) rfl) ⟨[], ⟨rfl, rfl⟩, hc.st⟩) <| RunD.op (det _) tab16 5 (fun f' L' w' hc => Op1.move (v := .pointer (some ⟨_, _, none⟩)) (hc.old (v := .pointer (some ⟨_, _, none⟩)) rfl rfl rfl) ⟨[], ⟨rfl, rfl⟩, hc.st⟩) <| RunD.op (det _) tab16 6 (fun f' L' w' hc => Op1.nilCheckP (hc.det (j := 4) rfl rfl rfl rfl) ⟨[], ⟨rfl, rfl⟩, hc.st⟩) <| RunD.op (det _) tab16 7 (fun f' L' w' hc => Op1.fieldAddr fld69_1 (hc.det (j := 5) rfl rfl rfl rfl) ⟨[], ⟨rfl, rfl⟩, hc.st⟩) <| RunD.op (det _) tab16 8 (fun f' L' w' hc => Op1.load1 (v := .int .i64 _) ty3 rfl (hc.det (j := 6) rfl rfl rfl rfl) (hc.st.cellL (List.mem_append_right _ (.tail _ (.tail _ (.head _)))) rfl) ⟨[], ⟨rfl, rfl⟩, hc.st⟩) <| RunD.op (det _) tab16 9 (fun f' L' w' hc => Op1.indexRs ty23 ty39 (Res.rmod_insts (hc.st.hD _ (.head _))) (hc.det (j := 3) rfl rfl rfl rfl) (hc.det (j := 7) rfl rfl rfl rfl) (by omega) (by omega) ⟨[], ⟨rfl, rfl⟩, hc.st⟩) <| RunD.op (det _) tab16 10 (fun f' L' w' hc => Op1.fieldAddr fld39_2 (hc.det (j := 8) rfl rfl rfl rfl) ⟨[], ⟨rfl, rfl⟩, hc.st⟩) <| RunD.op (det _) tab16 11 (fun f' L' w' hc => Op1.load1 (v := .int .u32 _) ty22 rfl (hc.det (j := 9) rfl rfl rfl rfl) (Res.rs2_cellF (Res.rmod_insts (hc.st.hD _ (.head _))) (flat_cell (g := instC) (d := zeroI) instC_len rfl (by omega))) ⟨[], ⟨rfl, rfl⟩, hc.st⟩) <| RunD.op (det _) tab16 12 (fun f' L' w' hc => Op1.move (v := .pointer (some ⟨_, _, none⟩)) (hc.old (v := .pointer (some ⟨_, _, none⟩)) rfl rfl rfl) ⟨[], ⟨rfl, rfl⟩, hc.st⟩) <| RunD.op (det _) tab16 13 (fun f' L' w' hc => Op1.nilCheckP (hc.det (j := 11) rfl rfl rfl rfl) ⟨[], ⟨rfl, rfl⟩, hc.st⟩) <| RunD.op (det _) tab16 14 (fun f' L' w' hc => Op1.fieldAddr fld69_1 (hc.det (j := 12) rfl rfl rfl rfl) ⟨[], ⟨rfl, rfl⟩, hc.st⟩) <| RunD.op (det _) tab16 15 (fun f' L' w' hc => Op1.load1 (v := .int .i64 _) ty3 rfl (hc.det (j := 13) rfl rfl rfl rfl) (hc.st.cellL (List.mem_append_right _ (.tail _ (.tail _ (.head _)))) rfl) ⟨[], ⟨rfl, rfl⟩, hc.st⟩) ?_
   refine RunD.op (det _) tab16 16 (fun f' L' w' hc => Op1.buildStruct ty54 stf54 (.c (v := .int .u32 _) (hc.det (j := 10) rfl rfl rfl rfl) (h := (.c (v := .int .i64 _) (hc.det (j := 14) rfl rfl rfl rfl) (h := .nil)))) ⟨[], ⟨rfl, rfl⟩, hc.st⟩) ?_
   refine RunD.op (fun v rs => ∃ b, v = .pointer (some ⟨b, 0, none⟩) ∧ rs = [Res.row b 54 [.int .u32 0, .int .i64 0, .slice none 0 0, .slice none 0 0, .int .i64 0]]) tab16 17 (fun f' L' w' hc => Op1.alloc hc.st ty54 fun w b hst => ⟨[_], ⟨b, rfl, rfl⟩, hst⟩) <| RunD.fin followsMixed tab16 hst rfl (fun f17 w R20 hs18 hd19 hr21 hst => ?_)
   obtain ⟨h42_, r0⟩ := hd19 0 42 rfl rfl
   obtain ⟨h43_, r1⟩ := hd19 1 43 rfl rfl
   obtain ⟨h44_, r2⟩ := hd19 2 44 rfl rfl
   obtain ⟨h45_, r3⟩ := hd19 3 45 rfl rfl
   obtain ⟨h46_, r4⟩ := hd19 4 46 rfl rfl
   obtain ⟨h47_, r5⟩ := hd19 5 47 rfl rfl
   obtain ⟨h48_, r6⟩ := hd19 6 48 rfl rfl
   obtain ⟨h49_, r7⟩ := hd19 7 49 rfl rfl
   obtain ⟨h50_, r8⟩ := hd19 8 50 rfl rfl
   obtain ⟨h51_, r9⟩ := hd19 9 51 rfl rfl
   obtain ⟨h52_, r10⟩ := hd19 10 52 rfl rfl
   obtain ⟨h53_, r11⟩ := hd19 11 53 rfl rfl
   obtain ⟨h54_, r12⟩ := hd19 12 54 rfl rfl
   obtain ⟨h55_, r13⟩ := hd19 13 55 rfl rfl
   obtain ⟨h56_, r14⟩ := hd19 14 56 rfl rfl
   obtain ⟨h57_, r15⟩ := hd19 15 57 rfl rfl
   obtain ⟨b3, h3_, r16⟩ := hd19 16 3 rfl rfl
   simp only [show List.range 17 = [0, 1, 2, 3, 4, 5, 6, 7, 8, 9, 10, 11, 12, 13, 14, 15, 16] from rfl, List.flatMap_cons, List.flatMap_nil, List.map_cons, List.map_nil, r0, r1, r2, r3, r4, r5, r6, r7, r8, r9, r10, r11, r12, r13, r14, r15, r16, List.nil_append, List.append_nil, List.cons_append] at hst
   refine RunL.slots (sl := [(0, .pointer (some ⟨_, _, none⟩)), (3, .pointer (some ⟨_, _, none⟩)), (57, .agg #[.int .u32 _, .int .i64 _, .slice _ _ _, .slice _ _ _, .int .i64 _])]) ⟨(hs18 0 rfl).trans rfl, h3_, h57_, trivial⟩ ?_
   clear hs18 hd19 hr21 tab16
   refine CN (SO (v := .agg #[.int .u32 _, .int .i64 _, .slice _ _ _, .slice _ _ _, .int .i64 _]) hst ty54 rfl rfl (.here) fun w hst => ?_)
   refine NL <| Run.forget [(0, .pointer (some ⟨_, _, none⟩)), (3, .pointer (some ⟨_, _, none⟩))] ⟨rfl, rfl, trivial⟩ fun f => SR <| MP rfl <| CN <| Op1.nilCheckP rfl <| CN <| Op1.fieldAddr fld69_1 rfl <| CN <| Op1.load1 (v := .int .i64 _) ty3 rfl rfl (hst.cellL (.tail _ (.tail _ (.tail _ (.head _)))) rfl) <| CN <| Op1.addN rfl rfl rfl (wrap_i64 (by omega) (by omega)) <| CN <| Op1.nilCheckP rfl <| CN <| Op1.fieldAddr fld69_1 rfl <| CN (SO (v := .int .i64 _) hst ty3 rfl rfl (.there (.there (.there (.here)))) fun w hst => ?_)
   refine NSR <| MP rfl ?_
   replace hst := hst.pick (.cons (.there (.there (.there (.here)))) (.cons (.here) (.cons (.here) (.cons (.here) .nil))))
   refine CN (Op1.call2 (v1 := .pointer (some ⟨_, _, none⟩)) (v2 := .int .i64 _) ent41 rfl rfl rfl ((R5ly_row bq l ao cp (a + 1) [.int .i64 ((topA (l.map InstP.L) 0) : Int), .int .i64 ((topA (l.map InstP.L) 1) : Int), .int .i64 ((topA (l.map InstP.L) 1) : Int), .int .i64 ((topA (l.map InstP.L) 2) : Int), .int .i64 ((topA (l.map InstP.L) 2) : Int), .int .i64 ((topA (l.map InstP.L) 3) : Int), .int .i64 ((topA (l.map InstP.L) 3) : Int), .int .i64 ((topA (l.map InstP.L) 4) : Int), .int .i64 ((topA (l.map InstP.L) 4) : Int), .int .i64 ((topA (l.map InstP.L) 5) : Int), .int .i64 ((topA (l.map InstP.L) 5) : Int), .int .i64 ((topA (l.map InstP.L) 6) : Int), .int .i64 ((topA (l.map InstP.L) 6) : Int), .int .i64 ((topA (l.map InstP.L) 7) : Int), .int .i64 ((topA (l.map InstP.L) 7) : Int), .int .i64 ((topA (l.map InstP.L) 8) : Int), .int .i64 ((topA (l.map InstP.L) 8) : Int), .int .i64 (l.length : Int), .int .i64 (l.length : Int), .int .i64 (l.length : Int), .slice fo xs.length fc] 2 (by decide) _ (hst.hL _ (.head _)) (hst.hD _ (.head _)) (hst.sepD _ (.head _) _ (.head _)) (by omega) (by omega) hla hop).mono fun v w hp => ?_))
   obtain ⟨ro, rc, rfl, hp⟩ := hp
   replace hst : St _ _ (_ :: _ :: _) _ _ := hst.call1 hp
   clear hp
   refine CN <| Op1.fieldAddr fld54_2 rfl <| CN (SO (v := .slice _ _ _) hst ty51 rfl rfl (.there (.there (.here))) fun w hst => ?_)
   refine NL <| SQ <| run_label <| SQ <| run_block <| run_loop ?_
   replace hst := hst.pushNil 56 3
   replace hst := hst.pick (.cons (.there (.here)) (.cons (.there (.there (.here))) (.cons (.here) (.cons (.here) (.cons (.here) (.cons (.here) .nil))))))
   replace hst : St _ _ (CutR 69 bq ao l.length cp (a + 1 + runN (l.map InstP.L) 2 (a + 1)) [.int .i64 ((topA (l.map InstP.L) 0) : Int), .int .i64 ((topA (l.map InstP.L) 1) : Int), .int .i64 ((topA (l.map InstP.L) 1) : Int), .int .i64 ((topA (l.map InstP.L) 2) : Int), .int .i64 ((topA (l.map InstP.L) 2) : Int), .int .i64 ((topA (l.map InstP.L) 3) : Int), .int .i64 ((topA (l.map InstP.L) 3) : Int), .int .i64 ((topA (l.map InstP.L) 4) : Int), .int .i64 ((topA (l.map InstP.L) 4) : Int), .int .i64 ((topA (l.map InstP.L) 5) : Int), .int .i64 ((topA (l.map InstP.L) 5) : Int), .int .i64 ((topA (l.map InstP.L) 6) : Int), .int .i64 ((topA (l.map InstP.L) 6) : Int), .int .i64 ((topA (l.map InstP.L) 7) : Int), .int .i64 ((topA (l.map InstP.L) 7) : Int), .int .i64 ((topA (l.map InstP.L) 8) : Int), .int .i64 ((topA (l.map InstP.L) 8) : Int), .int .i64 (l.length : Int), .int .i64 (l.length : Int), .int .i64 (l.length : Int), .slice fo xs.length fc] :: FunR 54 b3 (⟨(l.getD a zeroI).res, (a : Int), (places (a + 1) (runN (l.map InstP.L) 2 (a + 1))), [], 0⟩ : FunL) ro rc none 0 :: Res.sl none (FunL.blocks (⟨(l.getD a zeroI).res, (a : Int), (places (a + 1) (runN (l.map InstP.L) 2 (a + 1))), [], 0⟩ : FunL)).length 0 56 3 ((FunL.blocks (⟨(l.getD a zeroI).res, (a : Int), (places (a + 1) (runN (l.map InstP.L) 2 (a + 1))), [], 0⟩ : FunL)).flatMap bkC) :: _) _ _ := hst
   have hbi : BlkI (l.map InstP.L) (a + 1 + runN (l.map InstP.L) 2 (a + 1)) (xs.map FunP.fu) (⟨(l.getD a zeroI).res, (a : Int), (places (a + 1) (runN (l.map InstP.L) 2 (a + 1))), [], 0⟩ : FunL) := ⟨hpl, by rw [hpf, getD_map], rfl, .inl ⟨rfl, hpd, hpn⟩⟩
   refine Run.indW [(0, .pointer (some ⟨_, _, none⟩)), (3, .pointer (some ⟨_, _, none⟩))] ⟨rfl, rfl, trivial⟩ (fun (r : Nat × List BlkL × Option Addr × Nat) => []) (fun (r : Nat × List BlkL × Option Addr × Nat) => [CutR 69 bq ao l.length cp r.1 [.int .i64 ((topA (l.map InstP.L) 0) : Int), .int .i64 ((topA (l.map InstP.L) 1) : Int), .int .i64 ((topA (l.map InstP.L) 1) : Int), .int .i64 ((topA (l.map InstP.L) 2) : Int), .int .i64 ((topA (l.map InstP.L) 2) : Int), .int .i64 ((topA (l.map InstP.L) 3) : Int), .int .i64 ((topA (l.map InstP.L) 3) : Int), .int .i64 ((topA (l.map InstP.L) 4) : Int), .int .i64 ((topA (l.map InstP.L) 4) : Int), .int .i64 ((topA (l.map InstP.L) 5) : Int), .int .i64 ((topA (l.map InstP.L) 5) : Int), .int .i64 ((topA (l.map InstP.L) 6) : Int), .int .i64 ((topA (l.map InstP.L) 6) : Int), .int .i64 ((topA (l.map InstP.L) 7) : Int), .int .i64 ((topA (l.map InstP.L) 7) : Int), .int .i64 ((topA (l.map InstP.L) 8) : Int), .int .i64 ((topA (l.map InstP.L) 8) : Int), .int .i64 (l.length : Int), .int .i64 (l.length : Int), .int .i64 (l.length : Int), .slice fo xs.length fc], FunR 54 b3 (⟨(l.getD a zeroI).res, (a : Int), (places (a + 1) (runN (l.map InstP.L) 2 (a + 1))), r.2.1, 0⟩ : FunL) ro rc r.2.2.1 r.2.2.2, Res.sl r.2.2.1 r.2.1.length r.2.2.2 56 3 (r.2.1.flatMap bkC)]) (fun (r : Nat × List BlkL × Option Addr × Nat) => BlkI (l.map InstP.L) r.1 (xs.map FunP.fu) (⟨(l.getD a zeroI).res, (a : Int), (places (a + 1) (runN (l.map InstP.L) 2 (a + 1))), r.2.1, 0⟩ : FunL) ∧ r.2.1.length ≤ r.1 ∧ a < r.1) (fun (r : Nat × List BlkL × Option Addr × Nat) => l.length + 1 - r.1) (((a + 1 + runN (l.map InstP.L) 2 (a + 1)), [], none, 0)) hst ⟨hbi, Nat.zero_le _, (by (try dsimp only); omega)⟩ trivial ?_
   intro ⟨c, bs, bo, bc⟩ f w hst hK ih22
   replace hst : St _ _ ([CutR 69 bq ao l.length cp c [.int .i64 ((topA (l.map InstP.L) 0) : Int), .int .i64 ((topA (l.map InstP.L) 1) : Int), .int .i64 ((topA (l.map InstP.L) 1) : Int), .int .i64 ((topA (l.map InstP.L) 2) : Int), .int .i64 ((topA (l.map InstP.L) 2) : Int), .int .i64 ((topA (l.map InstP.L) 3) : Int), .int .i64 ((topA (l.map InstP.L) 3) : Int), .int .i64 ((topA (l.map InstP.L) 4) : Int), .int .i64 ((topA (l.map InstP.L) 4) : Int), .int .i64 ((topA (l.map InstP.L) 5) : Int), .int .i64 ((topA (l.map InstP.L) 5) : Int), .int .i64 ((topA (l.map InstP.L) 6) : Int), .int .i64 ((topA (l.map InstP.L) 6) : Int), .int .i64 ((topA (l.map InstP.L) 7) : Int), .int .i64 ((topA (l.map InstP.L) 7) : Int), .int .i64 ((topA (l.map InstP.L) 8) : Int), .int .i64 ((topA (l.map InstP.L) 8) : Int), .int .i64 (l.length : Int), .int .i64 (l.length : Int), .int .i64 (l.length : Int), .slice fo xs.length fc], FunR 54 b3 (⟨(l.getD a zeroI).res, (a : Int), (places (a + 1) (runN (l.map InstP.L) 2 (a + 1))), bs, 0⟩ : FunL) ro rc bo bc, Res.sl bo bs.length bc 56 3 (bs.flatMap bkC)] ++ [_, _, _]) _ _ := hst
   replace hK : BlkI (l.map InstP.L) c (xs.map FunP.fu) (⟨(l.getD a zeroI).res, (a : Int), (places (a + 1) (runN (l.map InstP.L) 2 (a + 1))), bs, 0⟩ : FunL) ∧ bs.length ≤ c ∧ a < c := hK
   have hKc := hK.1.1
   have hKa := hK.2
   refine SQ <| SR <| MP rfl <| CN <| Op1.call1 (v1 := .pointer (some ⟨_, _, none⟩)) ent40 rfl rfl <| Ret.det (R5ly_next bq l ao cp c [.int .i64 ((topA (l.map InstP.L) 0) : Int), .int .i64 ((topA (l.map InstP.L) 1) : Int), .int .i64 ((topA (l.map InstP.L) 1) : Int), .int .i64 ((topA (l.map InstP.L) 2) : Int), .int .i64 ((topA (l.map InstP.L) 2) : Int), .int .i64 ((topA (l.map InstP.L) 3) : Int), .int .i64 ((topA (l.map InstP.L) 3) : Int), .int .i64 ((topA (l.map InstP.L) 4) : Int), .int .i64 ((topA (l.map InstP.L) 4) : Int), .int .i64 ((topA (l.map InstP.L) 5) : Int), .int .i64 ((topA (l.map InstP.L) 5) : Int), .int .i64 ((topA (l.map InstP.L) 6) : Int), .int .i64 ((topA (l.map InstP.L) 6) : Int), .int .i64 ((topA (l.map InstP.L) 7) : Int), .int .i64 ((topA (l.map InstP.L) 7) : Int), .int .i64 ((topA (l.map InstP.L) 8) : Int), .int .i64 ((topA (l.map InstP.L) 8) : Int), .int .i64 (l.length : Int), .int .i64 (l.length : Int), .int .i64 (l.length : Int), .slice fo xs.length fc] _ (hst.hL _ (.head _)) (hst.hD _ (.head _)) (by omega) (by omega) hla hop) hst fun w hst => CN <| Op1.eql rfl rfl <| NL <| run_cond_dec rfl (fun g23 => ?_) (fun g23 => ?_)
   · skip
     have h3 : nxF (l.map InstP.L) c = 3 := g23
     refine run_skip <| run_block <| SQ <| SR <| MP rfl ?_
     replace hst := hst.pick (.cons (.here) (.cons (.here) (.cons (.here) (.cons (.here) (.cons (.here) (.cons (.here) .nil))))))
     replace hst : St _ _ (Res.star [_, _, _] :: _) _ _ := hst.pack (L1 := [_, _, _])
     refine CN (Op1.call2 (v1 := .pointer (some ⟨_, _, none⟩)) (v2 := .pointer (some ⟨_, _, none⟩)) ent42 rfl rfl rfl ((R5ly_block bq l ao cp c [.int .i64 ((topA (l.map InstP.L) 0) : Int), .int .i64 ((topA (l.map InstP.L) 1) : Int), .int .i64 ((topA (l.map InstP.L) 1) : Int), .int .i64 ((topA (l.map InstP.L) 2) : Int), .int .i64 ((topA (l.map InstP.L) 2) : Int), .int .i64 ((topA (l.map InstP.L) 3) : Int), .int .i64 ((topA (l.map InstP.L) 3) : Int), .int .i64 ((topA (l.map InstP.L) 4) : Int), .int .i64 ((topA (l.map InstP.L) 4) : Int), .int .i64 ((topA (l.map InstP.L) 5) : Int), .int .i64 ((topA (l.map InstP.L) 5) : Int), .int .i64 ((topA (l.map InstP.L) 6) : Int), .int .i64 ((topA (l.map InstP.L) 6) : Int), .int .i64 ((topA (l.map InstP.L) 7) : Int), .int .i64 ((topA (l.map InstP.L) 7) : Int), .int .i64 ((topA (l.map InstP.L) 8) : Int), .int .i64 ((topA (l.map InstP.L) 8) : Int), .int .i64 (l.length : Int), .int .i64 (l.length : Int), .int .i64 (l.length : Int), .slice fo xs.length fc] b3 (⟨(l.getD a zeroI).res, (a : Int), (places (a + 1) (runN (l.map InstP.L) 2 (a + 1))), bs, 0⟩ : FunL) ro rc bo bc hkm (hK.1.pre h3) _ (hst.hL _ (.head _)) (hst.hD _ (.head _)) ((hst.sepD _ (.head _) _ (.head _))) (by (try dsimp only); omega) (by have := hK.1.1; omega) (by omega) hla hop).mono fun v w hp => ?_))
     rcases hp with ⟨e, bo2, bc2, hce, hdn, rfl, hp⟩ | ⟨e, hs1, rfl, hp⟩
     · skip
       replace hst : St _ _ (Res.star [_, _, _] :: _) _ _ := hst.call1 hp
       replace hst : St _ _ (_ :: _ :: _ :: _) _ _ := hst.unpack
       clear hp
       refine CN <| Op1.not rfl <| NL <| run_cond_false (congrArg Value.bool (congrArg not (rfl : true = _))) <| run_skip <| run_exit (id := 1) rfl <| run_inLoop ?_
       exact ih22 ((e, (bs ++ [(⟨(l.getD c zeroI).res, (c : Int), (e : Int)⟩ : BlkL)]), bo2, bc2)) _ w (by (try dsimp only); have := hdn.1; omega) hst (⟨by have h := hdn.blk rfl; rw [getD_map] at h; exact h, by (try dsimp only); rw [List.length_append]; simp only [List.length_cons, List.length_nil]; omega, by (try dsimp only); omega⟩) ⟨rfl, rfl, trivial⟩ trivial
     · skip
       replace hst : St _ _ (_ :: _) _ _ := hst.call1 hp
       clear hp
       refine CN <| Op1.not rfl <| NL <| run_cond_true (congrArg Value.bool (congrArg not (rfl : false = _))) <| SR <| AB rfl <| NL <| run_ret1 Try.func33 rfl (TP (v := .bool _) rfl) ?_
       replace hst := hst.pick (.cons (.here) .nil)
       exact .inr ⟨_, _, hs1, rfl, hst.noD⟩
   refine run_exit (id := 0) rfl <| SQ <| SR <| CN <| Op1.fieldAddr fld54_3 rfl <| CN <| Op1.load1 (v := .slice _ _ _) ty52 rfl rfl (hst.cellL (.tail _ (.head _)) rfl) <| CN <| Op1.lenSl (rest := []) ty52 rfl <| CN <| Op1.eql rfl rfl <| MB rfl <| RunL.splitD (d := 78) rfl (fun g24 => ?_) (fun g24 => ?_)
   · skip
     refine OM (t := 78) rfl (congrArg Value.bool (decide_eq_true g24)) rfl <| OM (t := 78) rfl (congrArg Value.bool (decide_eq_true g24)) rfl <| OM (t := 78) rfl (congrArg Value.bool (decide_eq_true g24)) rfl <| CN <| Op1.pickT (u := .bool _) (congrArg Value.bool (decide_eq_true g24)) rfl <| NL ?_
     have hs1 := hK.1.stuck g23 (.inl (List.length_eq_zero_iff.1 (by omega)))
     refine run_cond_true (congrArg Value.bool (rfl : true = _)) <| SR <| AB rfl <| NL <| run_ret1 Try.func33 rfl (TP (v := .bool _) rfl) ?_
     replace hst := hst.pick (.cons (.here) .nil)
     exact .inr ⟨_, _, hs1, rfl, hst.noD⟩
   refine TK (t := 78) rfl (congrArg Value.bool (decide_eq_false g24)) <| Op1.move (v := .pointer (some ⟨_, _, none⟩)) rfl <| TK (t := 78) rfl (congrArg Value.bool (decide_eq_false g24)) (Op1.call1 (v1 := .pointer (some ⟨_, _, none⟩)) ent40 rfl rfl ((R5ly_next bq l ao cp c [.int .i64 ((topA (l.map InstP.L) 0) : Int), .int .i64 ((topA (l.map InstP.L) 1) : Int), .int .i64 ((topA (l.map InstP.L) 1) : Int), .int .i64 ((topA (l.map InstP.L) 2) : Int), .int .i64 ((topA (l.map InstP.L) 2) : Int), .int .i64 ((topA (l.map InstP.L) 3) : Int), .int .i64 ((topA (l.map InstP.L) 3) : Int), .int .i64 ((topA (l.map InstP.L) 4) : Int), .int .i64 ((topA (l.map InstP.L) 4) : Int), .int .i64 ((topA (l.map InstP.L) 5) : Int), .int .i64 ((topA (l.map InstP.L) 5) : Int), .int .i64 ((topA (l.map InstP.L) 6) : Int), .int .i64 ((topA (l.map InstP.L) 6) : Int), .int .i64 ((topA (l.map InstP.L) 7) : Int), .int .i64 ((topA (l.map InstP.L) 7) : Int), .int .i64 ((topA (l.map InstP.L) 8) : Int), .int .i64 ((topA (l.map InstP.L) 8) : Int), .int .i64 (l.length : Int), .int .i64 (l.length : Int), .int .i64 (l.length : Int), .slice fo xs.length fc] _ (hst.hL _ (.head _)) (hst.hD _ (.head _)) (by omega) (by omega) hla hop).mono fun v w hp => ?_))
   obtain ⟨rfl, hp⟩ := hp
   replace hst := hst.keepc hp
   clear hp
   refine TK (t := 78) rfl (congrArg Value.bool (decide_eq_false g24)) <| Op1.neq rfl rfl <| CN <| Op1.pickF (u := .bool _) (congrArg Value.bool (decide_eq_false g24)) rfl <| NL <| run_cond_dec rfl (fun g25 => ?_) (fun g25 => ?_)
   · skip
     have hs1 := hK.1.stuck g23 (.inr g25)
     refine SR <| AB rfl <| NL <| run_ret1 Try.func33 rfl (TP (v := .bool _) rfl) ?_
     replace hst := hst.pick (.cons (.here) .nil)
     exact .inr ⟨_, _, hs1, rfl, hst.noD⟩
   have hbne : bs ≠ [] := fun e => by subst e; exact absurd rfl (by omega)
   have h8 : nxF (l.map InstP.L) c = 8 := Classical.not_not.1 g25
   have hfi := hK.1.fin hbne h8
   have hin8 := nx_in h8
   refine run_skip <| SR <| MP rfl <| CN <| Op1.nilCheckP rfl <| CN <| Op1.fieldAddr fld69_1 rfl <| CN <| Op1.load1 (v := .int .i64 _) ty3 rfl rfl (hst.cellL (.head _) rfl) <| CN <| Op1.fieldAddr fld54_4 rfl <| CN (SO (v := .int .i64 _) hst ty3 rfl rfl (.there (.here)) fun w hst => ?_)
   refine NSR <| MP rfl <| CN <| Op1.nilCheckP rfl <| CN <| Op1.fieldAddr fld69_1 rfl <| CN <| Op1.load1 (v := .int .i64 _) ty3 rfl rfl (hst.cellL (.head _) rfl) <| CN <| Op1.addN rfl rfl rfl (wrap_i64 (by omega) (by omega)) <| CN <| Op1.nilCheckP rfl <| CN <| Op1.fieldAddr fld69_1 rfl <| CN (SO (v := .int .i64 _) hst ty3 rfl rfl (.here) fun w hst => ?_)
   refine NL <| Run.forget [(0, .pointer (some ⟨_, _, none⟩)), (3, .pointer (some ⟨_, _, none⟩))] ⟨rfl, rfl, trivial⟩ fun f => SQ ?_
   replace hst := hst.pick (.cons (.there (.here)) (.cons (.here) (.cons (.here) (.cons (.here) (.cons (.here) (.cons (.here) .nil))))))
   replace hst : St _ _ (Res.row b3 54 [.int .u32 (l.getD a zeroI).res, .int .i64 (a : Int), .slice ro (places (a + 1) (runN (l.map InstP.L) 2 (a + 1))).length rc, .slice bo bs.length bc, .int .i64 (c : Int)] :: CutR 69 bq ao l.length cp (c + 1) [.int .i64 ((topA (l.map InstP.L) 0) : Int), .int .i64 ((topA (l.map InstP.L) 1) : Int), .int .i64 ((topA (l.map InstP.L) 1) : Int), .int .i64 ((topA (l.map InstP.L) 2) : Int), .int .i64 ((topA (l.map InstP.L) 2) : Int), .int .i64 ((topA (l.map InstP.L) 3) : Int), .int .i64 ((topA (l.map InstP.L) 3) : Int), .int .i64 ((topA (l.map InstP.L) 4) : Int), .int .i64 ((topA (l.map InstP.L) 4) : Int), .int .i64 ((topA (l.map InstP.L) 5) : Int), .int .i64 ((topA (l.map InstP.L) 5) : Int), .int .i64 ((topA (l.map InstP.L) 6) : Int), .int .i64 ((topA (l.map InstP.L) 6) : Int), .int .i64 ((topA (l.map InstP.L) 7) : Int), .int .i64 ((topA (l.map InstP.L) 7) : Int), .int .i64 ((topA (l.map InstP.L) 8) : Int), .int .i64 ((topA (l.map InstP.L) 8) : Int), .int .i64 (l.length : Int), .int .i64 (l.length : Int), .int .i64 (l.length : Int), .slice fo xs.length fc] :: _) _ _ := hst
   replace hst := hst.pick (.cons (.there (.there (.there (.there (.there (.here)))))) (.cons (.here) (.cons (.here) (.cons (.here) (.cons (.here) (.cons (.here) .nil))))))
   apply RunD.start [(7, Res.sl _ _ _ _ _ _, Res.emp)] hst (bs := [0, 0, 2, 6, 14, 0, 32, 126, 255, 511, 1023]) (ds := [some 95, some 96, some 97, some 98, some 99, some 100, some 101, some 102, some 103, some 104, none]) (htab := ⟨by kernel_rfl, by kernel_rfl, by kernel_rfl⟩)
   intro tab26
   refine RunD.op (det _) tab26 1 (fun f' L' w' hc => Op1.move (v := .pointer (some ⟨_, _, none⟩)) (hc.old (v := .pointer (some ⟨_, _, none⟩)) rfl rfl rfl) ⟨[], ⟨rfl, rfl⟩, hc.st⟩) <| RunD.op (det _) tab26 2 (fun f' L' w' hc => Op1.move (v := .pointer (some ⟨_, _, none⟩)) (hc.old (v := .pointer (some ⟨_, _, none⟩)) rfl rfl rfl) ⟨[], ⟨rfl, rfl⟩, hc.st⟩) <| RunD.op (det _) tab26 3 (fun f' L' w' hc => Op1.nilCheckP (hc.det (j := 1) rfl rfl rfl rfl) ⟨[], ⟨rfl, rfl⟩, hc.st⟩) <| RunD.op (det _) tab26 4 (fun f' L' w' hc => Op1.fieldAddr fld69_3 (hc.det (j := 2) rfl rfl rfl rfl) ⟨[], ⟨rfl, rfl⟩, hc.st⟩) <| RunD.op (det _) tab26 5 (fun f' L' w' hc => Op1.load1 (v := .slice _ _ _) ty45 rfl (hc.det (j := 3) rfl rfl rfl rfl) (hc.st.cellL (List.mem_append_right _ (.tail _ (.head _))) rfl) ⟨[], ⟨rfl, rfl⟩, hc.st⟩) <| RunD.op (det _) tab26 6 (fun f' L' w' hc => Op1.loadA (vs := [.int .u32 _, .int .i64 _, .slice _ _ _, .slice _ _ _, .int .i64 _]) ty54 rfl (hc.old (v := .pointer (some ⟨_, _, none⟩)) rfl rfl rfl) rfl (cells_of_obj (n := 5) (hc.st.objL (List.mem_append_right _ (.head _))) _ rfl) ⟨[], ⟨rfl, rfl⟩, hc.st⟩) <| RunD.op (fun v rs => ∃ b, v = .slice (some ⟨b, 0, none⟩) 1 1 ∧ rs = [Res.row b 54 ([.int .u32 (l.getD a zeroI).res, .int .i64 (a : Int), .slice ro (places (a + 1) (runN (l.map InstP.L) 2 (a + 1))).length rc, .slice bo bs.length bc, .int .i64 (c : Int)])]) tab26 7 (fun f' L' w' hc => Op1.buildSl (z0 := [.int .u32 0, .int .i64 0, .slice none 0 0, .slice none 0 0, .int .i64 0]) hc.st ty45 ty54 rfl rfl (by kernel_rfl) (.c (v := .agg #[.int .u32 _, .int .i64 _, .slice _ _ _, .slice _ _ _, .int .i64 _]) (hc.det (j := 5) rfl rfl rfl rfl) (h := .nil)) fun w b hst => ⟨[_], ⟨b, rfl, rfl⟩, hst⟩) ?_
   refine RunD.ownC (fun g v rs => ∃ ao2 cp2, v = .slice ao2 (xs.length + 1) cp2 ∧ rs = [Res.sl ao2 (xs.length + 1) cp2 54 5 (xs.flatMap funC ++ [.int .u32 (l.getD a zeroI).res, .int .i64 (a : Int), .slice ro (places (a + 1) (runN (l.map InstP.L) 2 (a + 1))).length rc, .slice bo bs.length bc, .int .i64 (c : Int)])]) tab26 8 (.head _) (fun f' L' L'' w' hc ⟨X, hrem, hX⟩ => by obtain ⟨_, rs, ⟨b101, h101, hrs⟩, _, hm⟩ := hc.dep 6 101 rfl rfl; subst hrs; exact Op1.append (news := [.int .u32 (l.getD a zeroI).res, .int .i64 (a : Int), .slice ro (places (a + 1) (runN (l.map InstP.L) 2 (a + 1))).length rc, .slice bo bs.length bc, .int .i64 (c : Int)]) hc.st ty45 ty54 rfl rfl hrem (hc.det (j := 4) rfl rfl rfl rfl) (evs h101 rfl) rfl (cells_of_obj (n := 5) (hc.st.objL (List.mem_append_left _ (hm rfl _ (.head _)))) _ rfl) rfl rfl (by omega) fun w ao2 cp2 hst => ⟨[_], fun g hg => ⟨_, _, rfl, rfl⟩, hX _ _ hst⟩) <| RunD.fin followsMixed tab26 hst rfl (fun f27 w R30 hs28 hd29 hr31 hst => ?_)
   obtain ⟨h95_, r0⟩ := hd29 0 95 rfl rfl
   obtain ⟨h96_, r1⟩ := hd29 1 96 rfl rfl
   obtain ⟨h97_, r2⟩ := hd29 2 97 rfl rfl
   obtain ⟨h98_, r3⟩ := hd29 3 98 rfl rfl
   obtain ⟨h99_, r4⟩ := hd29 4 99 rfl rfl
   obtain ⟨h100_, r5⟩ := hd29 5 100 rfl rfl
   obtain ⟨b101, h101_, r6⟩ := hd29 6 101 rfl rfl
   obtain ⟨ao2, cp2, h102_, r7⟩ := hd29 7 102 rfl rfl
   simp only [show List.range 8 = [0, 1, 2, 3, 4, 5, 6, 7] from rfl, List.flatMap_cons, List.flatMap_nil, List.map_cons, List.map_nil, r0, r1, r2, r3, r4, r5, r6, r7, List.nil_append, List.append_nil, List.cons_append] at hst
   refine RunL.slots (sl := [(0, .pointer (some ⟨_, _, none⟩)), (95, .pointer (some ⟨_, _, none⟩)), (102, .slice _ _ _)]) ⟨(hs28 0 rfl).trans rfl, h95_, h102_, trivial⟩ ?_
   clear hs28 hd29 hr31 tab26
   refine CN <| Op1.nilCheckP rfl <| CN <| Op1.fieldAddr fld69_3 rfl <| CN (SO (v := .slice _ _ _) hst ty45 rfl rfl (.there (.there (.there (.there (.here))))) fun w hst => ?_)
   refine NL ?_
   replace hst := hst.pick (.cons (.there (.there (.there (.there (.there (.there (.here))))))) (.cons (.there (.there (.there (.there (.there (.here)))))) (.cons (.here) (.cons (.here) (.cons (.here) (.cons (.here) (.cons (.here) (.cons (.here) .nil))))))))
   replace hst : St _ _ (Res.star [_, _] :: _) _ _ := hst.pack (L1 := [_, _])
   replace hst := hst.pick (.cons (.here) (.cons (.there (.there (.there (.there (.there (.here)))))) (.cons (.here) (.cons (.here) (.cons (.here) (.cons (.here) (.cons (.here) .nil)))))))
   replace hst := hst.starSnoc
   have e1 : xs.length + 1 = (xs ++ [(⟨(⟨(l.getD a zeroI).res, (a : Int), (places (a + 1) (runN (l.map InstP.L) 2 (a + 1))), bs, (c : Int)⟩ : FunL), ro, rc, bo, bc⟩ : FunP)]).length := by simp
   have e2 : xs.flatMap funC ++ [.int .u32 (l.getD a zeroI).res, .int .i64 (a : Int), .slice ro (places (a + 1) (runN (l.map InstP.L) 2 (a + 1))).length rc, .slice bo bs.length bc, .int .i64 (c : Int)] = (xs ++ [(⟨(⟨(l.getD a zeroI).res, (a : Int), (places (a + 1) (runN (l.map InstP.L) 2 (a + 1))), bs, (c : Int)⟩ : FunL), ro, rc, bo, bc⟩ : FunP)]).flatMap funC := by simp
   have e3 : xs.map (Res.ofun 3 56) ++ [Res.ofun 3 56 (⟨(⟨(l.getD a zeroI).res, (a : Int), (places (a + 1) (runN (l.map InstP.L) 2 (a + 1))), bs, (c : Int)⟩ : FunL), ro, rc, bo, bc⟩ : FunP)] = (xs ++ [(⟨(⟨(l.getD a zeroI).res, (a : Int), (places (a + 1) (runN (l.map InstP.L) 2 (a + 1))), bs, (c : Int)⟩ : FunL), ro, rc, bo, bc⟩ : FunP)]).map (Res.ofun 3 56) := by simp
   have e4 : xs.map FunP.fu ++ [(⟨(l.getD a zeroI).res, (a : Int), (places (a + 1) (runN (l.map InstP.L) 2 (a + 1))), bs, (c : Int)⟩ : FunL)] = (xs ++ [(⟨(⟨(l.getD a zeroI).res, (a : Int), (places (a + 1) (runN (l.map InstP.L) 2 (a + 1))), bs, (c : Int)⟩ : FunL), ro, rc, bo, bc⟩ : FunP)]).map FunP.fu := by simp
   replace hst : St _ _ (Res.star (xs.map (Res.ofun 3 56) ++ [Res.ofun 3 56 (⟨(⟨(l.getD a zeroI).res, (a : Int), (places (a + 1) (runN (l.map InstP.L) 2 (a + 1))), bs, (c : Int)⟩ : FunL), ro, rc, bo, bc⟩ : FunP)]) :: _) _ _ := hst
   rw [e1, e2, e3] at hst
   have hfi2 : FunI (l.map InstP.L) (c + 1) (xs.map FunP.fu ++ [(⟨(l.getD a zeroI).res, (a : Int), (places (a + 1) (runN (l.map InstP.L) 2 (a + 1))), bs, (c : Int)⟩ : FunL)]) := hfi
   rw [e4] at hfi2
   replace hst := hst.pick (.cons (.here) (.cons (.there (.here)) (.cons (.there (.there (.there (.here)))) .nil)))
   refine run_goto ?_ (SQ (run_skip (ih13 ((c + 1, xs ++ [(⟨(⟨(l.getD a zeroI).res, (a : Int), (places (a + 1) (runN (l.map InstP.L) 2 (a + 1))), bs, (c : Int)⟩ : FunL), ro, rc, bo, bc⟩ : FunP)], ao2, cp2)) _ w (by (try dsimp only); have := hK.2.2; omega) hst (⟨hfi2, by (try dsimp only); rw [← e1]; have := hK.2.2; omega⟩) ⟨rfl, trivial⟩ trivial)))
   rfl
 · skip
   replace hst : St _ _ (_ :: _) _ _ := hst.call1 hp
   clear hp
   refine CN <| Op1.not rfl <| NL <| run_cond_true (congrArg Value.bool (congrArg not (rfl : false = _))) <| SR <| AB rfl <| NL <| run_ret1 Try.func33 rfl (TP (v := .bool _) rfl) ?_
   replace hst := hst.pick (.cons (.here) .nil)
   exact .inr ⟨_, tl, (by rw [htp]; exact top_none hkm htp), rfl, hst.noD⟩
end Go.SK
namespace Go.SK
open Go Go.Proofs
theorem ent32 : Enters Try.prog 32 := ⟨Try.f32, _, Try.func32, by kernel_rfl, rfl⟩
theorem ty69 : TyF Try.prog 69 (.struct (fieldsOf Try.prog 69)) 23 216 [.slice none 0 0, .int .i64 0, .int .i64 0, .int .i64 0, .int .i64 0, .int .i64 0, .int .i64 0, .int .i64 0, .int .i64 0, .int .i64 0, .int .i64 0, .int .i64 0, .int .i64 0, .int .i64 0, .int .i64 0, .int .i64 0, .int .i64 0, .int .i64 0, .int .i64 0, .int .i64 0, .int .i64 0, .int .i64 0, .slice none 0 0] := TyF.of (by kernel_rfl) (by kernel_rfl)
theorem stf69 : StructF Try.prog 69 [(0, 1), (1, 1), (2, 20), (22, 1)] := ⟨fieldsOf Try.prog 69, by kernel_rfl, fun w => by kernel_rfl⟩
theorem ent33 : Enters Try.prog 33 := ⟨Try.f33, _, Try.func33, by kernel_rfl, rfl⟩
end Go.SK
namespace Go.SK
open Go Go.Proofs
open Go.RowKit
theorem R5ly_read (ga ba : Int) (l : List InstP) (ao : Option Addr) (cp : Nat) (w : World) (hA : (Res.rmod ao l).holds w) (hs : Small l) : Ret Try.prog 25 #[.agg #[.int .u32 ga, .int .u32 ba, .slice ao l.length cp]] w (fun v w' => (∃ bq fo fc xs, topA (l.map InstP.L) 2 ≠ topA (l.map InstP.L) 1 ∧ orderF (l.map InstP.L) = (0, 0) ∧ (checkF ba (l.map InstP.L)) = (0, 0) ∧ xs.map FunP.fu = funsK (l.map InstP.L) l.length ∧ v = .tuple #[.pointer (some ⟨bq, 0, none⟩), .agg #[.int .i64 0, .int .i64 0]] ∧ St w NoM [CutR 69 bq ao l.length cp l.length [.int .i64 ((topA (l.map InstP.L) 0) : Int), .int .i64 ((topA (l.map InstP.L) 1) : Int), .int .i64 ((topA (l.map InstP.L) 1) : Int), .int .i64 ((topA (l.map InstP.L) 2) : Int), .int .i64 ((topA (l.map InstP.L) 2) : Int), .int .i64 ((topA (l.map InstP.L) 3) : Int), .int .i64 ((topA (l.map InstP.L) 3) : Int), .int .i64 ((topA (l.map InstP.L) 4) : Int), .int .i64 ((topA (l.map InstP.L) 4) : Int), .int .i64 ((topA (l.map InstP.L) 5) : Int), .int .i64 ((topA (l.map InstP.L) 5) : Int), .int .i64 ((topA (l.map InstP.L) 6) : Int), .int .i64 ((topA (l.map InstP.L) 6) : Int), .int .i64 ((topA (l.map InstP.L) 7) : Int), .int .i64 ((topA (l.map InstP.L) 7) : Int), .int .i64 ((topA (l.map InstP.L) 8) : Int), .int .i64 ((topA (l.map InstP.L) 8) : Int), .int .i64 (l.length : Int), .int .i64 (l.length : Int), .int .i64 (l.length : Int), .slice fo xs.length fc], Res.ofuns 54 3 56 fo fc xs] [] w') ∨ ((checkF ba (l.map InstP.L)).1 ≠ 0 ∧ v = .tuple #[.pointer none, .agg #[.int .i64 (checkF ba (l.map InstP.L)).1, .int .i64 (checkF ba (l.map InstP.L)).2]] ∧ St w NoM [] [] w')) := by
 refine Ret.enter (args := [.agg #[.int .u32 ga, .int .u32 ba, .slice ao l.length cp]]) Try.func25 rfl rfl rfl ?_
 have hst : St w NoM [] [Res.rmod ao l] w := St.init_D hA
 clear hA
 obtain ⟨se, sa, hS⟩ : ∃ se sa, shapeF ba (l.map InstP.L) = (se, sa) := ⟨_, _, rfl⟩
 have hL : (l.map InstP.L).length = l.length := List.length_map _
 have hl := hs.len
 have hla := hs.la9
 refine SR <| CN <| Op1.box (v := .agg #[.int .u32 _, .int .u32 _, .slice _ _ _]) hst rfl rfl fun w b1 hst => CN <| Op1.assign (v := _) rfl <| CN <| Op1.alloc hst ty29 fun w b3 hst => NL <| SQ <| SR <| CN <| Op1.loadA (vs := [.int .u32 _, .int .u32 _, .slice _ _ _]) ty25 rfl rfl rfl (cells_of_obj (n := 3) (hst.objL (.tail _ (.head _))) _ rfl) <| CN <| Op1.call1 (v1 := .agg #[.int .u32 _, .int .u32 _, .slice _ _ _]) ent32 rfl rfl <| Ret.det (R5cd_Shape2 ga ba l _ _ hS _ (hst.hD _ (.head _)) hs.len hs.op hs.sum hs.txt) hst fun w hst => CN <| Op1.alloc hst ty29 fun w b4 hst => CN (SO (v := .agg #[.int .i64 _, .int .i64 _]) hst ty29 rfl rfl (.here) fun w hst => ?_)
 refine NSR <| CN <| Op1.fieldAddr fld29_0 rfl <| CN <| Op1.load1 (v := .int .i64 _) ty27 rfl rfl (hst.cellL (.head _) rfl) <| CN <| Op1.neq rfl rfl <| NL <| run_cond_dec rfl (fun g1 => ?_) (fun g1 => ?_)
 · skip
   have hC := check_shape (bd := ba) (l := (l.map InstP.L)) (by rw [hS]; exact g1)
   refine SQ <| RunD.start [] hst (bs := [0, 0, 3]) (ds := [some 11, some 2, none]) ⟨by kernel_rfl, by kernel_rfl, by kernel_rfl⟩ (fun tab2 => ?_)
   refine RunD.op (det _) tab2 1 (fun f' L' w' hc => Op1.loadA (vs := [.int .i64 _, .int .i64 _]) ty29 rfl (hc.old (v := .pointer (some ⟨_, _, none⟩)) rfl rfl rfl) rfl (cells_of_obj (n := 2) (hc.st.objL (List.mem_append_right _ (.head _))) _ rfl) ⟨[], ⟨rfl, rfl⟩, hc.st⟩) <| RunD.op (det _) tab2 2 (fun f' L' w' hc => Op1.assign (v := _) rfl ⟨[], ⟨rfl, rfl⟩, hc.st⟩) <| RunD.fin followsMixed tab2 hst rfl (fun f3 w R6 hs4 hd5 hr7 hst => ?_)
   obtain ⟨h11_, r0⟩ := hd5 0 11 rfl rfl
   obtain ⟨h2_, r1⟩ := hd5 1 2 rfl rfl
   simp only [show List.range 2 = [0, 1] from rfl, List.flatMap_cons, List.flatMap_nil, List.map_cons, List.map_nil, r0, r1, List.nil_append, List.append_nil, List.cons_append] at hst
   refine RunL.slots (sl := [(2, _), (3, .pointer (some ⟨_, _, none⟩)), (11, .agg #[.int .i64 _, .int .i64 _])]) ⟨h2_, (hs4 3 rfl).trans rfl, h11_, trivial⟩ ?_
   clear hs4 hd5 hr7 tab2
   refine CN (SO (v := .agg #[.int .i64 _, .int .i64 _]) hst ty29 rfl rfl (.there (.here)) fun w hst => ?_)
   refine NL <| run_ret2 Try.func25 rfl (TP (v := _) rfl) (RV.cellA (vs := [.int .i64 _, .int .i64 _]) rfl ty29 rfl rfl (cells_of_obj (n := 2) (hst.objL (.tail _ (.head _))) _ rfl)) ?_
   replace hst := hst.pick .nil
   have hse : se ≠ 0 := g1
   rw [hC, hS]
   exact .inr ⟨hse, rfl, hst.noD⟩
 have hS0 : (shapeF ba (l.map InstP.L)).1 = 0 := by rw [hS]; exact Classical.not_not.1 g1
 have hkn := shape_known hS0
 have hkm := known_map hkn
 have hl2 := shape_len hS0
 rw [hL] at hl2
 refine run_skip <| SR <| CN <| Op1.fieldAddr fld25_2 rfl <| CN <| Op1.load1 (v := .slice _ _ _) ty23 rfl rfl (hst.cellL (.tail _ (.tail _ (.head _))) rfl) <| CN (Op1.buildStruct ty69 stf69 (.c (v := .slice _ _ _) rfl (h := .nil)) ?_)
 refine CN <| Op1.box (v := .agg #[.slice _ _ _, .int .i64 _, .int .i64 _, .int .i64 _, .int .i64 _, .int .i64 _, .int .i64 _, .int .i64 _, .int .i64 _, .int .i64 _, .int .i64 _, .int .i64 _, .int .i64 _, .int .i64 _, .int .i64 _, .int .i64 _, .int .i64 _, .int .i64 _, .int .i64 _, .int .i64 _, .int .i64 _, .int .i64 _, .slice _ _ _]) hst rfl rfl fun w b15 hst => AP rfl <| NL <| SQ <| run_block <| SR <| MP rfl ?_
 replace hst := hst.pick (.cons (.here) (.cons (.here) (.cons (.here) (.cons (.here) .nil))))
 refine CN (Op1.call1 (v1 := .pointer (some ⟨_, _, none⟩)) ent33 rfl rfl ((R5ly_cut b15 l ao cp hkm _ (hst.hL _ (.head _)) (hst.hD _ (.head _)) (hst.sepD _ (.head _) _ (.head _)) hl2 hla hs.op).mono fun v w hp => ?_))
 rcases hp with ⟨fo, fc, xs, htp, hor, hxs, rfl, hp⟩ | ⟨e, tl, hs1, rfl, hp⟩
 · skip
   replace hst : St _ _ (_ :: _ :: _) _ _ := hst.call1 hp
   clear hp
   refine AB rfl <| NL <| run_cond_true (congrArg Value.bool (rfl : true = _)) <| SR <| MP rfl <| CN (Op1.buildStruct ty29 stf29 .nil ?_)
   refine AP rfl <| CN (SO (v := .agg #[.int .i64 _, .int .i64 _]) hst ty29 rfl rfl (.there (.there (.there (.here)))) fun w hst => ?_)
   refine NL <| run_ret2 Try.func25 rfl (TP (v := .pointer (some ⟨_, _, none⟩)) rfl) (RV.cellA (vs := [.int .i64 _, .int .i64 _]) rfl ty29 rfl rfl (cells_of_obj (n := 2) (hst.objL (.tail _ (.tail _ (.tail _ (.head _))))) _ rfl)) ?_
   replace hst := hst.pick (.cons (.here) (.cons (.here) .nil))
   exact .inl ⟨_, fo, fc, xs, htp, hor, (by rw [check_order hS0, hor]), hxs, rfl, hst.noD⟩
 · skip
   replace hst : St _ _ (_ :: _) _ _ := hst.call1 hp
   have hC := check_stuck hS0 hs1
   rw [hL] at hC
   have hsl := hs1.1
   clear hp
   refine AB rfl <| NL <| run_cond_false (congrArg Value.bool (rfl : false = _)) <| SQ <| RunD.start [] hst (bs := [0, 1, 3, 7, 0, 16, 48, 127, 255]) (ds := [some 22, some 23, some 24, some 25, some 26, some 27, some 28, some 29, some 21]) ⟨by kernel_rfl, by kernel_rfl, by kernel_rfl⟩ (fun tab8 => ?_)
   refine RunD.op (det _) tab8 1 (fun f' L' w' hc => Op1.move (v := .pointer (some ⟨_, _, none⟩)) (hc.old (v := .pointer (some ⟨_, _, none⟩)) rfl rfl rfl) ⟨[], ⟨rfl, rfl⟩, hc.st⟩) <| RunD.op (det _) tab8 2 (fun f' L' w' hc => Op1.nilCheckP (hc.det (j := 0) rfl rfl rfl rfl) ⟨[], ⟨rfl, rfl⟩, hc.st⟩) <| RunD.op (det _) tab8 3 (fun f' L' w' hc => Op1.fieldAddr fld69_1 (hc.det (j := 1) rfl rfl rfl rfl) ⟨[], ⟨rfl, rfl⟩, hc.st⟩) <| RunD.op (det _) tab8 4 (fun f' L' w' hc => Op1.load1 (v := .int .i64 _) ty3 rfl (hc.det (j := 2) rfl rfl rfl rfl) (hc.st.cellL (List.mem_append_right _ (.head _)) rfl) ⟨[], ⟨rfl, rfl⟩, hc.st⟩) <| RunD.op (det _) tab8 5 (fun f' L' w' hc => Op1.fieldAddr fld25_2 (hc.old (v := .pointer (some ⟨_, _, none⟩)) rfl rfl rfl) ⟨[], ⟨rfl, rfl⟩, hc.st⟩) <| RunD.op (det _) tab8 6 (fun f' L' w' hc => Op1.load1 (v := .slice _ _ _) ty23 rfl (hc.det (j := 4) rfl rfl rfl rfl) (hc.st.cellL (List.mem_append_right _ (.tail _ (.tail _ (.tail _ (.head _))))) rfl) ⟨[], ⟨rfl, rfl⟩, hc.st⟩) <| RunD.op (det _) tab8 7 (fun f' L' w' hc => Op1.lenSl (rest := []) ty23 (hc.det (j := 5) rfl rfl rfl rfl) ⟨[], ⟨rfl, rfl⟩, hc.st⟩) <| RunD.fin followsMixed tab8 hst rfl (fun f9 w R12 hs10 hd11 hr13 hst => ?_)
   obtain ⟨h22_, r0⟩ := hd11 0 22 rfl rfl
   obtain ⟨h23_, r1⟩ := hd11 1 23 rfl rfl
   obtain ⟨h24_, r2⟩ := hd11 2 24 rfl rfl
   obtain ⟨h25_, r3⟩ := hd11 3 25 rfl rfl
   obtain ⟨h26_, r4⟩ := hd11 4 26 rfl rfl
   obtain ⟨h27_, r5⟩ := hd11 5 27 rfl rfl
   obtain ⟨h28_, r6⟩ := hd11 6 28 rfl rfl
   simp only [show List.range 7 = [0, 1, 2, 3, 4, 5, 6] from rfl, List.flatMap_cons, List.flatMap_nil, List.map_cons, List.map_nil, r0, r1, r2, r3, r4, r5, r6, List.nil_append, List.append_nil, List.cons_append] at hst
   refine RunL.slots (sl := [(3, .pointer (some ⟨_, _, none⟩)), (5, .pointer (some ⟨_, _, none⟩)), (25, .int .i64 _), (28, .int .i64 _)]) ⟨(hs10 3 rfl).trans rfl, (hs10 5 rfl).trans rfl, h25_, h28_, trivial⟩ ?_
   clear hs10 hd11 hr13 tab8
   refine CN <| Op1.lss rfl rfl <| AB rfl <| NL <| Run.forget [(3, .pointer (some ⟨_, _, none⟩)), (5, .pointer (some ⟨_, _, none⟩)), (21, .bool _)] ⟨rfl, rfl, rfl, trivial⟩ fun f => run_cond_dec rfl (fun g14 => ?_) (fun g14 => ?_)
   · skip
     refine SQ <| RunD.start [] hst (bs := [0, 1, 3, 7, 15, 0, 63]) (ds := [some 30, some 31, some 32, some 33, some 34, some 2, none]) ⟨by kernel_rfl, by kernel_rfl, by kernel_rfl⟩ (fun tab15 => ?_)
     refine RunD.op (det _) tab15 1 (fun f' L' w' hc => Op1.move (v := .pointer (some ⟨_, _, none⟩)) (hc.old (v := .pointer (some ⟨_, _, none⟩)) rfl rfl rfl) ⟨[], ⟨rfl, rfl⟩, hc.st⟩) <| RunD.op (det _) tab15 2 (fun f' L' w' hc => Op1.nilCheckP (hc.det (j := 0) rfl rfl rfl rfl) ⟨[], ⟨rfl, rfl⟩, hc.st⟩) <| RunD.op (det _) tab15 3 (fun f' L' w' hc => Op1.fieldAddr fld69_1 (hc.det (j := 1) rfl rfl rfl rfl) ⟨[], ⟨rfl, rfl⟩, hc.st⟩) <| RunD.op (det _) tab15 4 (fun f' L' w' hc => Op1.load1 (v := .int .i64 _) ty3 rfl (hc.det (j := 2) rfl rfl rfl rfl) (hc.st.cellL (List.mem_append_right _ (.head _)) rfl) ⟨[], ⟨rfl, rfl⟩, hc.st⟩) <| RunD.op (det _) tab15 5 (fun f' L' w' hc => Op1.buildStruct ty29 stf29 (.c (v := .int .i64 _) rfl (h := (.c (v := .int .i64 _) (hc.det (j := 3) rfl rfl rfl rfl) (h := .nil)))) ⟨[], ⟨rfl, rfl⟩, hc.st⟩) ?_
     refine RunD.op (det _) tab15 6 (fun f' L' w' hc => Op1.assign (v := _) rfl ⟨[], ⟨rfl, rfl⟩, hc.st⟩) <| RunD.fin followsMixed tab15 hst rfl (fun f16 w R19 hs17 hd18 hr20 hst => ?_)
     obtain ⟨h30_, r0⟩ := hd18 0 30 rfl rfl
     obtain ⟨h31_, r1⟩ := hd18 1 31 rfl rfl
     obtain ⟨h32_, r2⟩ := hd18 2 32 rfl rfl
     obtain ⟨h33_, r3⟩ := hd18 3 33 rfl rfl
     obtain ⟨h34_, r4⟩ := hd18 4 34 rfl rfl
     obtain ⟨h2_, r5⟩ := hd18 5 2 rfl rfl
     simp only [show List.range 6 = [0, 1, 2, 3, 4, 5] from rfl, List.flatMap_cons, List.flatMap_nil, List.map_cons, List.map_nil, r0, r1, r2, r3, r4, r5, List.nil_append, List.append_nil, List.cons_append] at hst
     refine RunL.slots (sl := [(2, _), (3, .pointer (some ⟨_, _, none⟩)), (34, .agg #[.int .i64 _, .int .i64 _])]) ⟨h2_, (hs17 3 rfl).trans rfl, h34_, trivial⟩ ?_
     clear hs17 hd18 hr20 tab15
     refine CN (SO (v := .agg #[.int .i64 _, .int .i64 _]) hst ty29 rfl rfl (.there (.there (.here))) fun w hst => ?_)
     refine NL <| run_ret2 Try.func25 rfl (TP (v := _) rfl) (RV.cellA (vs := [.int .i64 _, .int .i64 _]) rfl ty29 rfl rfl (cells_of_obj (n := 2) (hst.objL (.tail _ (.tail _ (.head _)))) _ rfl)) ?_
     replace hst := hst.pick .nil
     rw [hC, if_pos (by omega)]
     exact .inr ⟨(by simp), rfl, hst.noD⟩
   refine run_skip <| run_inBlock <| SQ <| RunD.start [] hst (bs := [0, 1, 3, 7, 15, 0, 63]) (ds := [some 35, some 36, some 37, some 38, some 39, some 2, none]) ⟨by kernel_rfl, by kernel_rfl, by kernel_rfl⟩ (fun tab21 => ?_)
   refine RunD.op (det _) tab21 1 (fun f' L' w' hc => Op1.move (v := .pointer (some ⟨_, _, none⟩)) (hc.old (v := .pointer (some ⟨_, _, none⟩)) rfl rfl rfl) ⟨[], ⟨rfl, rfl⟩, hc.st⟩) <| RunD.op (det _) tab21 2 (fun f' L' w' hc => Op1.nilCheckP (hc.det (j := 0) rfl rfl rfl rfl) ⟨[], ⟨rfl, rfl⟩, hc.st⟩) <| RunD.op (det _) tab21 3 (fun f' L' w' hc => Op1.fieldAddr fld69_1 (hc.det (j := 1) rfl rfl rfl rfl) ⟨[], ⟨rfl, rfl⟩, hc.st⟩) <| RunD.op (det _) tab21 4 (fun f' L' w' hc => Op1.load1 (v := .int .i64 _) ty3 rfl (hc.det (j := 2) rfl rfl rfl rfl) (hc.st.cellL (List.mem_append_right _ (.head _)) rfl) ⟨[], ⟨rfl, rfl⟩, hc.st⟩) <| RunD.op (det _) tab21 5 (fun f' L' w' hc => Op1.buildStruct ty29 stf29 (.c (v := .int .i64 _) rfl (h := (.c (v := .int .i64 _) (hc.det (j := 3) rfl rfl rfl rfl) (h := .nil)))) ⟨[], ⟨rfl, rfl⟩, hc.st⟩) ?_
   refine RunD.op (det _) tab21 6 (fun f' L' w' hc => Op1.assign (v := _) rfl ⟨[], ⟨rfl, rfl⟩, hc.st⟩) <| RunD.fin followsMixed tab21 hst rfl (fun f22 w R25 hs23 hd24 hr26 hst => ?_)
   obtain ⟨h35_, r0⟩ := hd24 0 35 rfl rfl
   obtain ⟨h36_, r1⟩ := hd24 1 36 rfl rfl
   obtain ⟨h37_, r2⟩ := hd24 2 37 rfl rfl
   obtain ⟨h38_, r3⟩ := hd24 3 38 rfl rfl
   obtain ⟨h39_, r4⟩ := hd24 4 39 rfl rfl
   obtain ⟨h2_, r5⟩ := hd24 5 2 rfl rfl
   simp only [show List.range 6 = [0, 1, 2, 3, 4, 5] from rfl, List.flatMap_cons, List.flatMap_nil, List.map_cons, List.map_nil, r0, r1, r2, r3, r4, r5, List.nil_append, List.append_nil, List.cons_append] at hst
   refine RunL.slots (sl := [(2, _), (3, .pointer (some ⟨_, _, none⟩)), (39, .agg #[.int .i64 _, .int .i64 _])]) ⟨h2_, (hs23 3 rfl).trans rfl, h39_, trivial⟩ ?_
   clear hs23 hd24 hr26 tab21
   refine CN (SO (v := .agg #[.int .i64 _, .int .i64 _]) hst ty29 rfl rfl (.there (.there (.here))) fun w hst => ?_)
   refine NL <| run_ret2 Try.func25 rfl (TP (v := _) rfl) (RV.cellA (vs := [.int .i64 _, .int .i64 _]) rfl ty29 rfl rfl (cells_of_obj (n := 2) (hst.objL (.tail _ (.tail _ (.head _)))) _ rfl)) ?_
   replace hst := hst.pick .nil
   rw [hC, if_neg (by omega)]
   exact .inr ⟨(by simp), rfl, hst.noD⟩
end Go.SK
namespace Go.SK
open Go Go.Proofs
theorem ent25 : Enters Try.prog 25 := ⟨Try.f25, _, Try.func25, by kernel_rfl, rfl⟩
end Go.SK
namespace Go.SK
open Go Go.Proofs
theorem ty62 : TyF Try.prog 62 (.pointer 69) 1 8 [.pointer none] := TyF.of (by kernel_rfl) (by kernel_rfl)
theorem ent11 : Enters Try.prog 11 := ⟨Try.f11, _, Try.func11, by kernel_rfl, rfl⟩
end Go.SK
namespace Go.SK
open Go Go.Proofs
open Go.RowKit
theorem R5ref5_CheckE {ga ba e a : Int} {l : List InstP} (hC : checkF ba (l.map InstP.L) = (e, a)) (ao : Option Addr) (cp : Nat) (w : World) (hA : (Res.rmod ao l).holds w) (hs : Small l) : Ret Try.prog 11 #[.agg #[.int .u32 ga, .int .u32 ba, .slice ao l.length cp]] w (fun v w' => v = .agg #[.int .i64 e, .int .i64 a] ∧ St w NoM [] [] w') := by
 have h := R5ref5_Check ga ba l ao cp w hA hs
 rw [hC] at h; exact h
end Go.SK
namespace Go.SK
open Go Go.Proofs
theorem fld54_1 : FldF Try.prog 54 1 1 := FldF.of (n := 0) (by kernel_rfl)
end Go.SK
namespace Go.SK
open Go Go.Proofs
open Go.RowKit
theorem R5ly_Cut (ga ba : Int) (l : List InstP) (ao : Option Addr) (cp : Nat) (w : World) (hA : (Res.rmod ao l).holds w) (hs : Small l) : Ret Try.prog 17 #[.agg #[.int .u32 ga, .int .u32 ba, .slice ao l.length cp]] w (fun v w' => (∃ fo fc xs, (checkF ba (l.map InstP.L)) = (0, 0) ∧ xs.map FunP.fu = funsK (l.map InstP.L) l.length ∧ v = .tuple #[.slice fo xs.length fc, .agg #[.int .i64 0, .int .i64 0]] ∧ St w NoM [Res.ofuns 54 3 56 fo fc xs] [] w') ∨ ((checkF ba (l.map InstP.L)).1 ≠ 0 ∧ v = .tuple #[.slice none 0 0, .agg #[.int .i64 (checkF ba (l.map InstP.L)).1, .int .i64 (checkF ba (l.map InstP.L)).2]] ∧ St w NoM [] [] w')) := by
 refine Ret.enter (args := [.agg #[.int .u32 ga, .int .u32 ba, .slice ao l.length cp]]) Try.func17 rfl rfl rfl ?_
 have hst : St w NoM [] [Res.rmod ao l] w := St.init_D hA
 clear hA
 refine SR <| CN <| Op1.box (v := .agg #[.int .u32 _, .int .u32 _, .slice _ _ _]) hst rfl rfl fun w b1 hst => AL rfl <| CN <| Op1.alloc hst ty29 fun w b3 hst => NSR <| CN <| Op1.loadA (vs := [.int .u32 _, .int .u32 _, .slice _ _ _]) ty25 rfl rfl rfl (cells_of_obj (n := 3) (hst.objL (.tail _ (.head _))) _ rfl) <| CN (Op1.call1 (v1 := .agg #[.int .u32 _, .int .u32 _, .slice _ _ _]) ent25 rfl rfl ((R5ly_read ga ba l _ _ _ (hst.hD _ (.head _)) hs).mono fun v w hp => ?_))
 rcases hp with ⟨bqr, fo, fc, xs, htp, hor, hC, hxs, rfl, hp⟩ | ⟨hne, rfl, hp⟩
 · skip
   replace hst : St _ _ (_ :: _ :: _) _ _ := hst.call0 hp
   clear hp
   refine CN <| Op1.move (v := .tuple #[.pointer (some ⟨_, _, none⟩), .agg #[.int .i64 _, .int .i64 _]]) rfl <| CN <| Op1.extract (v := .pointer (some ⟨_, _, none⟩)) rfl rfl <| CN <| Op1.extract (v := .agg #[.int .i64 _, .int .i64 _]) rfl rfl <| CN <| Op1.alloc hst ty29 fun w b5 hst => AP rfl <| CN (SO (v := .agg #[.int .i64 _, .int .i64 _]) hst ty29 rfl rfl (.here) fun w hst => ?_)
   refine NL <| SQ <| SR <| MP rfl <| CN <| Op1.eqlPN ty62 rfl rfl <| NL <| run_cond_false (congrArg Value.bool (rfl : false = _)) <| run_skip <| SQ <| RunD.start [] hst (bs := [0, 1, 3, 7, 0, 15, 63]) (ds := [some 14, some 15, some 16, some 17, some 18, some 2, none]) ⟨by kernel_rfl, by kernel_rfl, by kernel_rfl⟩ (fun tab1 => ?_)
   refine RunD.op (det _) tab1 1 (fun f' L' w' hc => Op1.move (v := .pointer (some ⟨_, _, none⟩)) (hc.old (v := .pointer (some ⟨_, _, none⟩)) rfl rfl rfl) ⟨[], ⟨rfl, rfl⟩, hc.st⟩) <| RunD.op (det _) tab1 2 (fun f' L' w' hc => Op1.nilCheckP (hc.det (j := 0) rfl rfl rfl rfl) ⟨[], ⟨rfl, rfl⟩, hc.st⟩) <| RunD.op (det _) tab1 3 (fun f' L' w' hc => Op1.fieldAddr fld69_3 (hc.det (j := 1) rfl rfl rfl rfl) ⟨[], ⟨rfl, rfl⟩, hc.st⟩) <| RunD.op (det _) tab1 4 (fun f' L' w' hc => Op1.load1 (v := .slice _ _ _) ty45 rfl (hc.det (j := 2) rfl rfl rfl rfl) (hc.st.cellL (List.mem_append_right _ (.tail _ (.head _))) rfl) ⟨[], ⟨rfl, rfl⟩, hc.st⟩) <| RunD.op (det _) tab1 5 (fun f' L' w' hc => Op1.loadA (vs := [.int .i64 _, .int .i64 _]) ty29 rfl (hc.old (v := .pointer (some ⟨_, _, none⟩)) rfl rfl rfl) rfl (cells_of_obj (n := 2) (hc.st.objL (List.mem_append_right _ (.head _))) _ rfl) ⟨[], ⟨rfl, rfl⟩, hc.st⟩) <| RunD.op (det _) tab1 6 (fun f' L' w' hc => Op1.assign (v := .slice _ _ _) (hc.det (j := 3) rfl rfl rfl rfl) ⟨[], ⟨rfl, rfl⟩, hc.st⟩) <| RunD.fin followsMixed tab1 hst rfl (fun f2 w R5 hs3 hd4 hr6 hst => ?_)
   obtain ⟨h14_, r0⟩ := hd4 0 14 rfl rfl
   obtain ⟨h15_, r1⟩ := hd4 1 15 rfl rfl
   obtain ⟨h16_, r2⟩ := hd4 2 16 rfl rfl
   obtain ⟨h17_, r3⟩ := hd4 3 17 rfl rfl
   obtain ⟨h18_, r4⟩ := hd4 4 18 rfl rfl
   obtain ⟨h2_, r5⟩ := hd4 5 2 rfl rfl
   simp only [show List.range 6 = [0, 1, 2, 3, 4, 5] from rfl, List.flatMap_cons, List.flatMap_nil, List.map_cons, List.map_nil, r0, r1, r2, r3, r4, r5, List.nil_append, List.append_nil, List.cons_append] at hst
   refine RunL.slots (sl := [(2, .slice _ _ _), (3, .pointer (some ⟨_, _, none⟩)), (18, .agg #[.int .i64 _, .int .i64 _])]) ⟨h2_, (hs3 3 rfl).trans rfl, h18_, trivial⟩ ?_
   clear hs3 hd4 hr6 tab1
   refine CN (SO (v := .agg #[.int .i64 _, .int .i64 _]) hst ty29 rfl rfl (.there (.there (.there (.here)))) fun w hst => ?_)
   refine NL <| run_ret2 Try.func17 rfl (TP (v := .slice _ _ _) rfl) (RV.cellA (vs := [.int .i64 _, .int .i64 _]) rfl ty29 rfl rfl (cells_of_obj (n := 2) (hst.objL (.tail _ (.tail _ (.tail _ (.head _))))) _ rfl)) ?_
   replace hst := hst.pick (.cons (.there (.there (.here))) .nil)
   exact .inl ⟨fo, fc, xs, hC, hxs, rfl, hst.noD⟩
 · skip
   replace hst : St _ _ _ _ _ := hst.call0 hp
   clear hp
   refine CN <| Op1.move (v := .tuple #[_, .agg #[.int .i64 _, .int .i64 _]]) rfl <| CN <| Op1.extract (v := _) rfl rfl <| CN <| Op1.extract (v := .agg #[.int .i64 _, .int .i64 _]) rfl rfl <| CN <| Op1.alloc hst ty29 fun w b5 hst => CN <| Op1.assign (v := _) rfl <| CN (SO (v := .agg #[.int .i64 _, .int .i64 _]) hst ty29 rfl rfl (.here) fun w hst => ?_)
   refine NL <| SQ <| SR <| CN <| Op1.move (v := _) rfl <| CN <| Op1.eqlNN ty62 rfl rfl <| NL <| run_cond_true (congrArg Value.bool (rfl : true = _)) <| SQ <| RunD.start [] hst (bs := [0, 0, 3]) (ds := [some 13, some 2, none]) ⟨by kernel_rfl, by kernel_rfl, by kernel_rfl⟩ (fun tab7 => ?_)
   refine RunD.op (det _) tab7 1 (fun f' L' w' hc => Op1.loadA (vs := [.int .i64 _, .int .i64 _]) ty29 rfl (hc.old (v := .pointer (some ⟨_, _, none⟩)) rfl rfl rfl) rfl (cells_of_obj (n := 2) (hc.st.objL (List.mem_append_right _ (.head _))) _ rfl) ⟨[], ⟨rfl, rfl⟩, hc.st⟩) <| RunD.op (det _) tab7 2 (fun f' L' w' hc => Op1.assign (v := .slice _ _ _) rfl ⟨[], ⟨rfl, rfl⟩, hc.st⟩) <| RunD.fin followsMixed tab7 hst rfl (fun f8 w R11 hs9 hd10 hr12 hst => ?_)
   obtain ⟨h13_, r0⟩ := hd10 0 13 rfl rfl
   obtain ⟨h2_, r1⟩ := hd10 1 2 rfl rfl
   simp only [show List.range 2 = [0, 1] from rfl, List.flatMap_cons, List.flatMap_nil, List.map_cons, List.map_nil, r0, r1, List.nil_append, List.append_nil, List.cons_append] at hst
   refine RunL.slots (sl := [(2, .slice _ _ _), (3, .pointer (some ⟨_, _, none⟩)), (13, .agg #[.int .i64 _, .int .i64 _])]) ⟨h2_, (hs9 3 rfl).trans rfl, h13_, trivial⟩ ?_
   clear hs9 hd10 hr12 tab7
   refine CN (SO (v := .agg #[.int .i64 _, .int .i64 _]) hst ty29 rfl rfl (.there (.here)) fun w hst => ?_)
   refine NL <| run_ret2 Try.func17 rfl (TP (v := .slice _ _ _) rfl) (RV.cellA (vs := [.int .i64 _, .int .i64 _]) rfl ty29 rfl rfl (cells_of_obj (n := 2) (hst.objL (.tail _ (.head _))) _ rfl)) ?_
   replace hst := hst.pick .nil
   exact .inr ⟨hne, rfl, hst.noD⟩
end Go.SK
namespace Go.SK
open Go Go.Proofs
open Go.RowKit
set_option maxHeartbeats 4000000 in
theorem R5ref5_Cut (ga ba : Int) (l : List InstP) (ao : Option Addr) (cp : Nat) (w : World) (hA : (Res.rmod ao l).holds w) (hs : Small l) : Ret Try.prog 16 #[.agg #[.int .u32 ga, .int .u32 ba, .slice ao l.length cp]] w (fun v w' => (∃ fo fc xs, (checkF ba (l.map InstP.L)) = (0, 0) ∧ xs.map FunP.fu = funsK (l.map InstP.L) l.length ∧ v = .tuple #[.slice fo xs.length fc, .agg #[.int .i64 0, .int .i64 0]] ∧ St w NoM [Res.ofuns 54 3 56 fo fc xs] [] w') ∨ ((checkF ba (l.map InstP.L)).1 ≠ 0 ∧ v = .tuple #[.slice none 0 0, .agg #[.int .i64 (checkF ba (l.map InstP.L)).1, .int .i64 (checkF ba (l.map InstP.L)).2]] ∧ St w NoM [] [] w')) := by
 refine Ret.enter (args := [.agg #[.int .u32 ga, .int .u32 ba, .slice ao l.length cp]]) Try.func16 rfl rfl rfl ?_
 have hst : St w NoM [] [Res.rmod ao l] w := St.init_D hA
 clear hA
 obtain ⟨e, a, hC⟩ : ∃ e a, checkF ba (l.map InstP.L) = (e, a) := ⟨_, _, rfl⟩
 have hL : (l.map InstP.L).length = l.length := List.length_map _
 have hl := hs.len
 have hla := hs.la9
 refine SR <| CN <| Op1.box (v := .agg #[.int .u32 _, .int .u32 _, .slice _ _ _]) hst rfl rfl fun w b1 hst => AL rfl <| CN <| Op1.alloc hst ty29 fun w b3 hst => NSR <| CN <| Op1.loadA (vs := [.int .u32 _, .int .u32 _, .slice _ _ _]) ty25 rfl rfl rfl (cells_of_obj (n := 3) (hst.objL (.tail _ (.head _))) _ rfl) <| CN <| Op1.call1 (v1 := .agg #[.int .u32 _, .int .u32 _, .slice _ _ _]) ent11 rfl rfl <| Ret.det (R5ref5_CheckE (e := e) (a := a) hC _ _ _ (hst.hD _ (.head _)) hs) hst fun w hst => CN <| Op1.alloc hst ty29 fun w b4 hst => CN (SO (v := .agg #[.int .i64 _, .int .i64 _]) hst ty29 rfl rfl (.here) fun w hst => ?_)
 refine NL <| SQ <| SR <| CN <| Op1.fieldAddr fld29_0 rfl <| CN <| Op1.load1 (v := .int .i64 _) ty27 rfl rfl (hst.cellL (.head _) rfl) <| CN <| Op1.neq rfl rfl <| NL <| run_cond_dec rfl (fun g1 => ?_) (fun g1 => ?_)
 · skip
   refine SQ <| RunD.start [] hst (bs := [0, 0, 3]) (ds := [some 14, some 2, none]) ⟨by kernel_rfl, by kernel_rfl, by kernel_rfl⟩ (fun tab2 => ?_)
   refine RunD.op (det _) tab2 1 (fun f' L' w' hc => Op1.loadA (vs := [.int .i64 _, .int .i64 _]) ty29 rfl (hc.old (v := .pointer (some ⟨_, _, none⟩)) rfl rfl rfl) rfl (cells_of_obj (n := 2) (hc.st.objL (List.mem_append_right _ (.head _))) _ rfl) ⟨[], ⟨rfl, rfl⟩, hc.st⟩) <| RunD.op (det _) tab2 2 (fun f' L' w' hc => Op1.assign (v := .slice _ _ _) rfl ⟨[], ⟨rfl, rfl⟩, hc.st⟩) <| RunD.fin followsMixed tab2 hst rfl (fun f3 w R6 hs4 hd5 hr7 hst => ?_)
   obtain ⟨h14_, r0⟩ := hd5 0 14 rfl rfl
   obtain ⟨h2_, r1⟩ := hd5 1 2 rfl rfl
   simp only [show List.range 2 = [0, 1] from rfl, List.flatMap_cons, List.flatMap_nil, List.map_cons, List.map_nil, r0, r1, List.nil_append, List.append_nil, List.cons_append] at hst
   refine RunL.slots (sl := [(2, .slice _ _ _), (3, .pointer (some ⟨_, _, none⟩)), (14, .agg #[.int .i64 _, .int .i64 _])]) ⟨h2_, (hs4 3 rfl).trans rfl, h14_, trivial⟩ ?_
   clear hs4 hd5 hr7 tab2
   refine CN (SO (v := .agg #[.int .i64 _, .int .i64 _]) hst ty29 rfl rfl (.there (.here)) fun w hst => ?_)
   refine NL <| run_ret2 Try.func16 rfl (TP (v := .slice _ _ _) rfl) (RV.cellA (vs := [.int .i64 _, .int .i64 _]) rfl ty29 rfl rfl (cells_of_obj (n := 2) (hst.objL (.tail _ (.head _))) _ rfl)) ?_
   replace hst := hst.pick .nil
   rw [hC]
   exact .inr ⟨g1, rfl, hst.noD⟩
 obtain ⟨hS0, hor⟩ := check_good (bd := ba) (l := (l.map InstP.L)) (by rw [hC]; exact Classical.not_not.1 g1)
 have hl2 := shape_len hS0
 rw [hL] at hl2
 have hkn := shape_known hS0
 have hkm := known_map hkn
 have hor0 : orderF (l.map InstP.L) = (0, 0) := order_zero (by rw [hor, hC]; exact Classical.not_not.1 g1)
 refine run_skip <| SR <| AL rfl <| NL <| SQ <| SQ ?_
 replace hst := hst.pushNil 54 5
 replace hst := hst.starNil
 refine RG <| AI rfl <| NL <| run_block <| run_loop <| Run.indW [(1, .pointer (some ⟨_, _, none⟩)), (3, .pointer (some ⟨_, _, none⟩)), (4, .pointer (some ⟨_, _, none⟩))] ⟨rfl, rfl, rfl, trivial⟩ (fun (q : Nat × List FunP × Option Addr × Nat) => [(5, .slice q.2.2.1 q.2.1.length q.2.2.2), (6, .int .i64 (q.1 : Int))]) (fun (q : Nat × List FunP × Option Addr × Nat) => [Res.star ((q.2.1).map (Res.ofun 3 56)), Res.sl q.2.2.1 (q.2.1).length q.2.2.2 54 5 ((q.2.1).flatMap funC)]) (fun (q : Nat × List FunP × Option Addr × Nat) => q.2.1.map FunP.fu = funsK (l.map InstP.L) q.1 ∧ q.1 ≤ l.length) (fun (q : Nat × List FunP × Option Addr × Nat) => l.length - q.1) ((0, [], none, 0)) hst ⟨rfl, Nat.zero_le _⟩ ⟨rfl, rfl, trivial⟩ ?_
 intro ⟨i, xs, fo, fc⟩ f w hst hJ ih8
 replace hst : St _ _ ([Res.star ((xs).map (Res.ofun 3 56)), Res.sl fo (xs).length fc 54 5 ((xs).flatMap funC)] ++ [_, _, _]) _ _ := hst
 replace hJ : xs.map FunP.fu = funsK (l.map InstP.L) i ∧ i ≤ l.length := hJ
 refine Run.slots (sl := [(5, .slice fo xs.length fc), (6, .int .i64 (i : Int))]) ⟨rfl, rfl, trivial⟩ <| SQ <| SR <| MI rfl <| CN <| Op1.fieldAddr fld25_2 rfl <| CN <| Op1.load1 (v := .slice _ _ _) ty23 rfl rfl (hst.cellL (.tail _ (.tail _ (.tail _ (.tail _ (.head _))))) rfl) <| CN <| Op1.lenSl (rest := []) ty23 rfl <| CN <| Op1.lss rfl rfl <| NL <| run_cond_dec rfl (fun g9 => ?_) (fun g9 => ?_)
 · skip
   have hneed := funs_need hkm hor0 (k := i) (by omega)
   have hsz := (siz_xs hJ.1).1
   have ho : opA (l.map InstP.L) i = (l.getD (i : Int).toNat zeroI).op := opA_map _ _
   have hrs : ((l.map InstP.L).getD i zeroIL).res = (l.getD (i : Int).toNat zeroI).res := by rw [getD_map]; rfl
   refine run_skip <| SQ <| run_block <| SR <| CN <| Op1.fieldAddr fld25_2 rfl <| CN <| Op1.load1 (v := .slice _ _ _) ty23 rfl rfl (hst.cellL (.tail _ (.tail _ (.tail _ (.tail _ (.head _))))) rfl) <| MI rfl <| CN <| Op1.indexRs ty23 ty39 (Res.rmod_insts (hst.hD _ (.head _))) rfl rfl (by omega) (by omega) <| CN <| Op1.loadA (vs := [.int .u16 _, .int .u32 _, .int .u32 _, .slice _ _ _]) ty39 rfl rfl rfl (Res.rs2_cells (m := 4) (Res.rmod_insts (hst.hD _ (.head _))) _ (flat_seg (g := instC) (d := zeroI) instC_len _ _ (by omega))) <| CN <| Op1.alloc hst ty39 fun w b7 hst => CN (SO (v := .agg #[.int .u16 _, .int .u32 _, .int .u32 _, .slice _ _ _]) hst ty39 rfl rfl (.here) fun w hst => ?_)
   refine NSR <| ML rfl <| CN <| Op1.lenSl (rest := []) ty45 rfl <| CN <| Op1.subN rfl rfl rfl (wrap_i64 (by omega) (by omega)) <| AI rfl <| NL <| SQ <| SR <| CN <| Op1.fieldAddr fld39_0 rfl <| CN <| Op1.load1 (v := .int .u16 _) ty33 rfl rfl (hst.cellL (.head _) rfl) <| CN <| Op1.eql rfl rfl <| NL ?_
   refine run_cond_dec rfl (fun g10 => ?_) (fun g10 => ?_)
   · skip
     refine RG <| ML rfl <| CN <| Op1.fieldAddr fld39_2 rfl <| CN <| Op1.load1 (v := .int .u32 _) ty22 rfl rfl (hst.cellL (.head _) rfl) <| MI rfl <| CN (Op1.buildStruct ty54 stf54 (.c (v := .int .u32 _) rfl (h := (.c (v := .int .i64 _) rfl (h := .nil)))) ?_)
     refine CN (Op1.buildSl (z0 := [.int .u32 0, .int .i64 0, .slice none 0 0, .slice none 0 0, .int .i64 0]) hst ty45 ty54 rfl rfl (by kernel_rfl) (.c (v := .agg #[.int .u32 _, .int .i64 _, .slice _ _ _, .slice _ _ _, .int .i64 _]) rfl (h := .nil)) fun w b38 hst => ?_)
     refine CN (Op1.append (news := [.int .u32 _, .int .i64 _, .slice _ _ _, .slice _ _ _, .int .i64 _]) hst ty45 ty54 rfl rfl (.there (.there (.there (.here)))) rfl rfl rfl (cells_of_obj (n := 5) (hst.objL (.head _)) _ rfl) rfl rfl (by omega) fun w ao11 cp12 hst => ?_)
     replace hst := hst.drop (.there (.here))
     refine AL rfl <| NL <| Run.forget [(1, .pointer (some ⟨_, _, none⟩)), (3, .pointer (some ⟨_, _, none⟩)), (4, .pointer (some ⟨_, _, none⟩)), (5, .slice _ _ _), (6, .int .i64 _), (7, .pointer (some ⟨_, _, none⟩)), (8, .int .i64 _)] ⟨rfl, rfl, rfl, rfl, rfl, rfl, rfl, trivial⟩ fun f => SQ <| SR <| CN <| Op1.fieldAddr fld39_0 rfl <| CN <| Op1.load1 (v := .int .u16 _) ty33 rfl rfl (hst.cellL (.tail _ (.head _)) rfl) <| CN <| Op1.eql rfl rfl <| NL <| run_cond_dec rfl (fun g13 => ?_) (fun g13 => ?_)
     · skip
       exfalso
       omega
     refine run_skip <| SQ <| SR <| CN <| Op1.fieldAddr fld39_0 rfl <| CN <| Op1.load1 (v := .int .u16 _) ty33 rfl rfl (hst.cellL (.tail _ (.head _)) rfl) <| CN <| Op1.eql rfl rfl <| NL <| run_cond_dec rfl (fun g14 => ?_) (fun g14 => ?_)
     · skip
       exfalso
       omega
     refine run_skip <| SQ <| SR <| CN <| Op1.fieldAddr fld39_0 rfl <| CN <| Op1.load1 (v := .int .u16 _) ty33 rfl rfl (hst.cellL (.tail _ (.head _)) rfl) <| CN <| Op1.eql rfl rfl <| NL <| run_cond_dec rfl (fun g15 => ?_) (fun g15 => ?_)
     · skip
       exfalso
       omega
     refine run_skip <| SR <| CN <| Op1.fieldAddr fld39_0 rfl <| CN <| Op1.load1 (v := .int .u16 _) ty33 rfl rfl (hst.cellL (.tail _ (.head _)) rfl) <| CN <| Op1.call1 (v1 := .int .u16 _) ent30 rfl rfl <| Ret.det (R5ref5_Ends _ _) hst fun w hst => NL <| run_cond_split rfl (fun g16 => ?_) (fun g16 => ?_)
     · skip
       exfalso
       have hcn := endsB_iff.1 g16; omega
     refine run_skip <| run_inBlock <| RG <| MI rfl <| CN <| Op1.addN rfl rfl rfl (wrap_i64 (by omega) (by omega)) <| AI rfl <| NL <| run_inLoop ?_
     replace hst := hst.pushNil 56 3
     replace hst := hst.pushNil 3 1
     replace hst : St _ _ (Res.star [_, _] :: _) _ _ := hst.pack (L1 := [_, _])
     replace hst := hst.pick (.cons (.here) (.cons (.there (.there (.here))) (.cons (.here) (.cons (.here) (.cons (.here) (.cons (.here) (.cons (.here) .nil)))))))
     replace hst := hst.starSnoc
     have e1 : xs.length + 1 = (xs ++ [(⟨⟨(l.getD (i : Int).toNat zeroI).res, (i : Int), [], [], 0⟩, none, 0, none, 0⟩ : FunP)]).length := by simp
     have e2 : xs.flatMap funC ++ [.int .u32 (l.getD (i : Int).toNat zeroI).res, .int .i64 (i : Int), .slice none 0 0, .slice none 0 0, .int .i64 0] = (xs ++ [(⟨⟨(l.getD (i : Int).toNat zeroI).res, (i : Int), [], [], 0⟩, none, 0, none, 0⟩ : FunP)]).flatMap funC := by simp
     have e3 : xs.map (Res.ofun 3 56) ++ [Res.ofun 3 56 (⟨⟨(l.getD (i : Int).toNat zeroI).res, (i : Int), [], [], 0⟩, none, 0, none, 0⟩ : FunP)] = (xs ++ [(⟨⟨(l.getD (i : Int).toNat zeroI).res, (i : Int), [], [], 0⟩, none, 0, none, 0⟩ : FunP)]).map (Res.ofun 3 56) := by simp
     replace hst : St _ _ (Res.star (xs.map (Res.ofun 3 56) ++ [Res.ofun 3 56 (⟨⟨(l.getD (i : Int).toNat zeroI).res, (i : Int), [], [], 0⟩, none, 0, none, 0⟩ : FunP)]) :: _) _ _ := hst
     rw [e1, e2, e3] at hst
     replace hst := hst.pick (.cons (.here) (.cons (.here) (.cons (.there (.here)) (.cons (.there (.here)) (.cons (.there (.here)) .nil)))))
     exact ih8 ((i + 1, xs ++ [(⟨⟨(l.getD (i : Int).toNat zeroI).res, (i : Int), [], [], 0⟩, none, 0, none, 0⟩ : FunP)], ao11, cp12)) _ w (by (try dsimp only); omega) hst (⟨fx_1 hJ.1 (by rw [ho]; exact g10) (by rw [hrs]), by (try dsimp only); omega⟩) ⟨rfl, rfl, rfl, trivial⟩ ⟨(congrArg (fun n => Value.slice _ n _) e1), (congrArg (Value.int .i64) (by (try dsimp only); omega)), trivial⟩
   refine run_skip <| SQ <| SR <| CN <| Op1.fieldAddr fld39_0 rfl <| CN <| Op1.load1 (v := .int .u16 _) ty33 rfl rfl (hst.cellL (.head _) rfl) <| CN <| Op1.eql rfl rfl <| NL <| Run.forget [(1, .pointer (some ⟨_, _, none⟩)), (3, .pointer (some ⟨_, _, none⟩)), (4, .pointer (some ⟨_, _, none⟩)), (5, .slice _ _ _), (6, .int .i64 _), (7, .pointer (some ⟨_, _, none⟩)), (8, .int .i64 _), (42, .bool _)] ⟨rfl, rfl, rfl, rfl, rfl, rfl, rfl, rfl, trivial⟩ fun f => run_cond_dec rfl (fun g17 => ?_) (fun g17 => ?_)
   · skip
     have hop : opA (l.map InstP.L) i = 55 := by rw [ho]; exact g17
     obtain ⟨ys, ⟨⟨fid, fat, ps, bs, fe⟩, po, pc, bo, bc⟩, hxy, hbn⟩ := xs_last (b := false) (by rw [hJ.1]; exact hneed.1 (.inl hop))
     have hxl : xs.length = ys.length + 1 := by rw [hxy]; simp
     have hsx : bs.length ≤ i ∧ ps.length ≤ i := siz_x hJ.1 hxy
     obtain ⟨bF, rfl⟩ := Res.sl_some (hst.hL _ (.tail _ (.tail _ (.head _)))) (by omega)
     replace hst := hst.pick (.cons (.there (.here)) (.cons (.here) (.cons (.here) (.cons (.here) (.cons (.here) (.cons (.here) .nil))))))
     replace hst := St.lastFunX hxy hst
     replace hst : St _ _ (Res.sl po ps.length pc 3 1 (ps.flatMap intC) :: Res.sl bo bs.length bc 56 3 (bs.flatMap bkC) :: _) _ _ := hst
     refine RG <| ML rfl <| MI rfl <| ML rfl <| MI rfl <| CN <| Op1.indexSl ty45 ty54 rfl rfl (by omega) (by omega) <| CN <| Op1.fieldAddr fld54_2 rfl <| CN <| Op1.load1 (v := .slice po ps.length pc) ty51 rfl rfl (Res.sl_cell (hst.hL _ (.tail _ (.tail _ (.tail _ (.tail _ (.head _)))))) (flat_lastX (j := 2) funC_len hxy (by omega) rfl)) <| MI rfl <| CN (Op1.buildSl (z0 := [.int .i64 0]) hst ty51 ty3 rfl rfl (by kernel_rfl) (.c (v := .int .i64 _) rfl (h := .nil)) fun w b51 hst => ?_)
     refine CN (Op1.append (news := [.int .i64 _]) hst ty51 ty3 rfl rfl (.there (.here)) rfl rfl rfl (cells_of_obj (n := 1) (hst.objL (.head _)) _ rfl) rfl rfl (by omega) fun w ao18 cp19 hst => ?_)
     replace hst := hst.drop (.there (.here))
     refine CN <| Op1.indexSl ty45 ty54 rfl rfl (by omega) (by omega) <| CN <| Op1.fieldAddr fld54_2 rfl <| CN <| Op1.storeSl (v := .slice _ _ _) hst ty51 rfl rfl rfl rfl rfl (.there (.there (.there (.there (.here))))) (by simp only [List.length_cons, List.length_nil]; omega) fun w hst => NL <| SQ <| SR <| CN <| Op1.fieldAddr fld39_0 rfl <| CN <| Op1.load1 (v := .int .u16 _) ty33 rfl rfl (hst.cellL (.tail _ (.tail _ (.tail _ (.head _)))) rfl) <| CN <| Op1.eql rfl rfl <| NL <| run_cond_dec rfl (fun g20 => ?_) (fun g20 => ?_)
     · skip
       exfalso
       omega
     refine run_skip <| SQ <| SR <| CN <| Op1.fieldAddr fld39_0 rfl <| CN <| Op1.load1 (v := .int .u16 _) ty33 rfl rfl (hst.cellL (.tail _ (.tail _ (.tail _ (.head _)))) rfl) <| CN <| Op1.eql rfl rfl <| NL <| run_cond_dec rfl (fun g21 => ?_) (fun g21 => ?_)
     · skip
       exfalso
       omega
     refine run_skip <| SR <| CN <| Op1.fieldAddr fld39_0 rfl <| CN <| Op1.load1 (v := .int .u16 _) ty33 rfl rfl (hst.cellL (.tail _ (.tail _ (.tail _ (.head _)))) rfl) <| CN <| Op1.call1 (v1 := .int .u16 _) ent30 rfl rfl <| Ret.det (R5ref5_Ends _ _) hst fun w hst => NL <| Run.forget [(1, .pointer (some ⟨_, _, none⟩)), (3, .pointer (some ⟨_, _, none⟩)), (4, .pointer (some ⟨_, _, none⟩)), (5, .slice _ _ _), (6, .int .i64 _), (8, .int .i64 _), (83, .bool _)] ⟨rfl, rfl, rfl, rfl, rfl, rfl, rfl, trivial⟩ fun f => run_cond_split rfl (fun g22 => ?_) (fun g22 => ?_)
     · skip
       exfalso
       have hcn := endsB_iff.1 g22; omega
     refine run_skip <| run_inBlock <| RG <| MI rfl <| CN <| Op1.addN rfl rfl rfl (wrap_i64 (by omega) (by omega)) <| AI rfl <| NL <| run_inLoop ?_
     have hset : setSeg (xs.flatMap funC) (0 + ((xs.length : Int) - 1).toNat * 5 + 2) [.slice ao18 (ps.length + 1) cp19] = (ys ++ [(⟨⟨fid, fat, ps ++ [(i : Int)], bs, fe⟩, ao18, cp19, bo, bc⟩ : FunP)]).flatMap funC := set_lastX (x2 := (⟨⟨fid, fat, ps ++ [(i : Int)], bs, fe⟩, ao18, cp19, bo, bc⟩ : FunP)) funC_len hxy (by omega) (by simp [setSeg])
     have hlen : xs.length = (ys ++ [(⟨⟨fid, fat, ps ++ [(i : Int)], bs, fe⟩, ao18, cp19, bo, bc⟩ : FunP)]).length := by rw [hxl]; simp
     have e2 : ps.flatMap intC ++ [.int .i64 (i : Int)] = (ps ++ [(i : Int)]).flatMap intC := by simp
     have e1 : ps.length + 1 = (ps ++ [(i : Int)]).length := by simp
     rw [hset, hlen, e2, e1] at hst
     replace hst := hst.pick (.cons (.here) (.cons (.here) (.cons (.here) (.cons (.here) (.cons (.here) (.cons (.here) (.cons (.here) (.cons (.here) .nil))))))))
     replace hst : St _ _ (Res.star ((ys ++ [(⟨⟨fid, fat, ps ++ [(i : Int)], bs, fe⟩, ao18, cp19, bo, bc⟩ : FunP)]).map (Res.ofun 3 56)) :: _) _ _ := St.lastFun' hst
     replace hst := hst.pick (.cons (.here) (.cons (.there (.here)) (.cons (.there (.here)) (.cons (.there (.here)) (.cons (.there (.here)) .nil)))))
     exact ih8 ((i + 1, ys ++ [(⟨⟨fid, fat, ps ++ [(i : Int)], bs, fe⟩, ao18, cp19, bo, bc⟩ : FunP)], (some ⟨bF, 0, none⟩), fc)) _ w (by (try dsimp only); omega) hst (⟨fx_2 hJ.1 hxy hop rfl, by (try dsimp only); omega⟩) ⟨rfl, rfl, rfl, trivial⟩ ⟨(congrArg (fun n => Value.slice _ n _) hlen), (congrArg (Value.int .i64) (by (try dsimp only); omega)), trivial⟩
   refine run_skip <| SQ <| SR <| CN <| Op1.fieldAddr fld39_0 rfl <| CN <| Op1.load1 (v := .int .u16 _) ty33 rfl rfl (hst.cellL (.head _) rfl) <| CN <| Op1.eql rfl rfl <| NL <| run_cond_dec rfl (fun g23 => ?_) (fun g23 => ?_)
   · skip
     have hop : opA (l.map InstP.L) i = 56 := by rw [ho]; exact g23
     obtain ⟨ys, ⟨⟨fid, fat, ps, bs, fe⟩, po, pc, bo, bc⟩, hxy, hbn⟩ := xs_last (b := false) (by rw [hJ.1]; exact hneed.1 (.inr (.inl hop)))
     have hxl : xs.length = ys.length + 1 := by rw [hxy]; simp
     have hsx : bs.length ≤ i ∧ ps.length ≤ i := siz_x hJ.1 hxy
     obtain ⟨bF, rfl⟩ := Res.sl_some (hst.hL _ (.tail _ (.tail _ (.head _)))) (by omega)
     refine RG <| ML rfl <| MI rfl <| MI rfl <| CN <| Op1.indexSl ty45 ty54 rfl rfl (by omega) (by omega) <| CN <| Op1.fieldAddr fld54_4 rfl <| CN <| Op1.storeSl (v := .int .i64 _) hst ty3 rfl rfl rfl rfl rfl (.there (.there (.here))) (by simp only [List.length_cons, List.length_nil]; omega) fun w hst => NL <| SQ <| SR <| CN <| Op1.fieldAddr fld39_0 rfl <| CN <| Op1.load1 (v := .int .u16 _) ty33 rfl rfl (hst.cellL (.head _) rfl) <| CN <| Op1.eql rfl rfl <| NL ?_
     refine run_cond_dec rfl (fun g24 => ?_) (fun g24 => ?_)
     · skip
       exfalso
       omega
     refine run_skip <| SR <| CN <| Op1.fieldAddr fld39_0 rfl <| CN <| Op1.load1 (v := .int .u16 _) ty33 rfl rfl (hst.cellL (.head _) rfl) <| CN <| Op1.call1 (v1 := .int .u16 _) ent30 rfl rfl <| Ret.det (R5ref5_Ends _ _) hst fun w hst => NL <| run_cond_split rfl (fun g25 => ?_) (fun g25 => ?_)
     · skip
       exfalso
       have hcn := endsB_iff.1 g25; omega
     refine run_skip <| run_inBlock <| RG <| MI rfl <| CN <| Op1.addN rfl rfl rfl (wrap_i64 (by omega) (by omega)) <| AI rfl <| NL <| run_inLoop ?_
     have hset : setSeg (xs.flatMap funC) (0 + ((xs.length : Int) - 1).toNat * 5 + 4) [.int .i64 (i : Int)] = (ys ++ [(⟨⟨fid, fat, ps, bs, (i : Int)⟩, po, pc, bo, bc⟩ : FunP)]).flatMap funC := set_lastX (x2 := (⟨⟨fid, fat, ps, bs, (i : Int)⟩, po, pc, bo, bc⟩ : FunP)) funC_len hxy (by omega) (by simp [setSeg])
     have hlen : xs.length = (ys ++ [(⟨⟨fid, fat, ps, bs, (i : Int)⟩, po, pc, bo, bc⟩ : FunP)]).length := by rw [hxl]; simp
     have e3 : xs.map (Res.ofun 3 56) = (ys ++ [(⟨⟨fid, fat, ps, bs, (i : Int)⟩, po, pc, bo, bc⟩ : FunP)]).map (Res.ofun 3 56) := by rw [hxy, List.map_append, List.map_append]; rfl
     rw [hset, e3, hlen] at hst
     replace hst := hst.pick (.cons (.there (.here)) (.cons (.there (.here)) (.cons (.there (.here)) (.cons (.there (.here)) (.cons (.there (.here)) .nil)))))
     exact ih8 ((i + 1, ys ++ [(⟨⟨fid, fat, ps, bs, (i : Int)⟩, po, pc, bo, bc⟩ : FunP)], (some ⟨bF, 0, none⟩), fc)) _ w (by (try dsimp only); omega) hst (⟨fx_8 hJ.1 hxy hop rfl, by (try dsimp only); omega⟩) ⟨rfl, rfl, rfl, trivial⟩ ⟨(congrArg (fun n => Value.slice _ n _) hlen), (congrArg (Value.int .i64) (by (try dsimp only); omega)), trivial⟩
   refine run_skip <| SQ <| SR <| CN <| Op1.fieldAddr fld39_0 rfl <| CN <| Op1.load1 (v := .int .u16 _) ty33 rfl rfl (hst.cellL (.head _) rfl) <| CN <| Op1.eql rfl rfl <| NL <| run_cond_dec rfl (fun g26 => ?_) (fun g26 => ?_)
   · skip
     have hop : opA (l.map InstP.L) i = 248 := by rw [ho]; exact g26
     obtain ⟨ys, ⟨⟨fid, fat, ps, bs, fe⟩, po, pc, bo, bc⟩, hxy, hbn⟩ := xs_last (b := false) (by rw [hJ.1]; exact hneed.1 (.inr (.inr hop)))
     have hxl : xs.length = ys.length + 1 := by rw [hxy]; simp
     have hsx : bs.length ≤ i ∧ ps.length ≤ i := siz_x hJ.1 hxy
     obtain ⟨bF, rfl⟩ := Res.sl_some (hst.hL _ (.tail _ (.tail _ (.head _)))) (by omega)
     replace hst := hst.pick (.cons (.there (.here)) (.cons (.here) (.cons (.here) (.cons (.here) (.cons (.here) (.cons (.here) .nil))))))
     replace hst := St.lastFunX hxy hst
     replace hst : St _ _ (Res.sl po ps.length pc 3 1 (ps.flatMap intC) :: Res.sl bo bs.length bc 56 3 (bs.flatMap bkC) :: _) _ _ := hst
     replace hst := hst.pick (.cons (.there (.here)) (.cons (.here) (.cons (.here) (.cons (.here) (.cons (.here) (.cons (.here) (.cons (.here) (.cons (.here) .nil))))))))
     apply RunD.start [(12, Res.sl _ _ _ _ _ _, Res.emp)] hst (bs := [0, 0, 0, 0, 12, 28, 60, 0, 128, 0, 896, 1920, 4092, 8191, 16383, 32767]) (ds := [some 66, some 67, some 68, some 69, some 70, some 71, some 72, some 73, some 74, some 75, some 76, some 77, some 78, some 79, some 80, none]) (htab := ⟨by kernel_rfl, by kernel_rfl, by kernel_rfl⟩)
     intro tab27
     refine RunD.op (det _) tab27 1 (fun f' L' w' hc => Op1.move (v := .slice _ _ _) (hc.old (v := .slice _ _ _) rfl rfl rfl) ⟨[], ⟨rfl, rfl⟩, hc.st⟩) <| RunD.op (det _) tab27 2 (fun f' L' w' hc => Op1.move (v := .int .i64 _) (hc.old (v := .int .i64 _) rfl rfl rfl) ⟨[], ⟨rfl, rfl⟩, hc.st⟩) <| RunD.op (det _) tab27 3 (fun f' L' w' hc => Op1.move (v := .slice _ _ _) (hc.old (v := .slice _ _ _) rfl rfl rfl) ⟨[], ⟨rfl, rfl⟩, hc.st⟩) <| RunD.op (det _) tab27 4 (fun f' L' w' hc => Op1.move (v := .int .i64 _) (hc.old (v := .int .i64 _) rfl rfl rfl) ⟨[], ⟨rfl, rfl⟩, hc.st⟩) <| RunD.op (det _) tab27 5 (fun f' L' w' hc => Op1.indexSl ty45 ty54 (hc.det (j := 2) rfl rfl rfl rfl) (hc.det (j := 3) rfl rfl rfl rfl) (by omega) (by omega) ⟨[], ⟨rfl, rfl⟩, hc.st⟩) <| RunD.op (det _) tab27 6 (fun f' L' w' hc => Op1.fieldAddr fld54_3 (hc.det (j := 4) rfl rfl rfl rfl) ⟨[], ⟨rfl, rfl⟩, hc.st⟩) <| RunD.op (det _) tab27 7 (fun f' L' w' hc => Op1.load1 (v := .slice bo bs.length bc) ty52 rfl (hc.det (j := 5) rfl rfl rfl rfl) (Res.sl_cell (hc.st.hL _ (List.mem_append_right _ (.tail _ (.tail _ (.tail _ (.head _)))))) (flat_lastX (j := 3) funC_len hxy (by omega) rfl)) ⟨[], ⟨rfl, rfl⟩, hc.st⟩) <| RunD.op (det _) tab27 8 (fun f' L' w' hc => Op1.fieldAddr fld39_2 (hc.old (v := .pointer (some ⟨_, _, none⟩)) rfl rfl rfl) ⟨[], ⟨rfl, rfl⟩, hc.st⟩) <| RunD.op (det _) tab27 9 (fun f' L' w' hc => Op1.load1 (v := .int .u32 _) ty22 rfl (hc.det (j := 7) rfl rfl rfl rfl) (hc.st.cellL (List.mem_append_right _ (.tail _ (.tail _ (.head _)))) rfl) ⟨[], ⟨rfl, rfl⟩, hc.st⟩) <| RunD.op (det _) tab27 10 (fun f' L' w' hc => Op1.move (v := .int .i64 _) (hc.old (v := .int .i64 _) rfl rfl rfl) ⟨[], ⟨rfl, rfl⟩, hc.st⟩) <| RunD.op (det _) tab27 11 (fun f' L' w' hc => Op1.buildStruct ty56 stf56 (.c (v := .int .u32 _) (hc.det (j := 8) rfl rfl rfl rfl) (h := (.c (v := .int .i64 _) (hc.det (j := 9) rfl rfl rfl rfl) (h := .nil)))) ⟨[], ⟨rfl, rfl⟩, hc.st⟩) ?_
     refine RunD.op (fun v rs => ∃ b, v = .slice (some ⟨b, 0, none⟩) 1 1 ∧ rs = [Res.row b 56 ([.int .u32 (l.getD (i : Int).toNat zeroI).res, .int .i64 (i : Int), .int .i64 0])]) tab27 12 (fun f' L' w' hc => Op1.buildSl (z0 := [.int .u32 0, .int .i64 0, .int .i64 0]) hc.st ty52 ty56 rfl rfl (by kernel_rfl) (.c (v := .agg #[.int .u32 _, .int .i64 _, .int .i64 _]) (hc.det (j := 10) rfl rfl rfl rfl) (h := .nil)) fun w b hst => ⟨[_], ⟨b, rfl, rfl⟩, hst⟩) ?_
     refine RunD.ownC (fun g v rs => ∃ ao2 cp2, v = .slice ao2 (bs.length + 1) cp2 ∧ rs = [Res.sl ao2 (bs.length + 1) cp2 56 3 (bs.flatMap bkC ++ [.int .u32 (l.getD (i : Int).toNat zeroI).res, .int .i64 (i : Int), .int .i64 0])]) tab27 13 (.head _) (fun f' L' L'' w' hc ⟨X, hrem, hX⟩ => by obtain ⟨_, rs, ⟨b77, h77, hrs⟩, _, hm⟩ := hc.dep 11 77 rfl rfl; subst hrs; exact Op1.append (news := [.int .u32 (l.getD (i : Int).toNat zeroI).res, .int .i64 (i : Int), .int .i64 0]) hc.st ty52 ty56 rfl rfl hrem (hc.det (j := 6) rfl rfl rfl rfl) (evs h77 rfl) rfl (cells_of_obj (n := 3) (hc.st.objL (List.mem_append_left _ (hm rfl _ (.head _)))) _ rfl) rfl rfl (by omega) fun w ao2 cp2 hst => ⟨[_], fun g hg => ⟨_, _, rfl, rfl⟩, hX _ _ hst⟩) <| RunD.fin followsMixed tab27 hst rfl (fun f28 w R31 hs29 hd30 hr32 hst => ?_)
     obtain ⟨h66_, r0⟩ := hd30 0 66 rfl rfl
     obtain ⟨h67_, r1⟩ := hd30 1 67 rfl rfl
     obtain ⟨h68_, r2⟩ := hd30 2 68 rfl rfl
     obtain ⟨h69_, r3⟩ := hd30 3 69 rfl rfl
     obtain ⟨h70_, r4⟩ := hd30 4 70 rfl rfl
     obtain ⟨h71_, r5⟩ := hd30 5 71 rfl rfl
     obtain ⟨h72_, r6⟩ := hd30 6 72 rfl rfl
     obtain ⟨h73_, r7⟩ := hd30 7 73 rfl rfl
     obtain ⟨h74_, r8⟩ := hd30 8 74 rfl rfl
     obtain ⟨h75_, r9⟩ := hd30 9 75 rfl rfl
     obtain ⟨h76_, r10⟩ := hd30 10 76 rfl rfl
     obtain ⟨b77, h77_, r11⟩ := hd30 11 77 rfl rfl
     obtain ⟨ao2, cp2, h78_, r12⟩ := hd30 12 78 rfl rfl
     simp only [show List.range 13 = [0, 1, 2, 3, 4, 5, 6, 7, 8, 9, 10, 11, 12] from rfl, List.flatMap_cons, List.flatMap_nil, List.map_cons, List.map_nil, r0, r1, r2, r3, r4, r5, r6, r7, r8, r9, r10, r11, r12, List.nil_append, List.append_nil, List.cons_append] at hst
     refine RunL.slots (sl := [(1, .pointer (some ⟨_, _, none⟩)), (3, .pointer (some ⟨_, _, none⟩)), (4, .pointer (some ⟨_, _, none⟩)), (5, .slice _ _ _), (6, .int .i64 _), (7, .pointer (some ⟨_, _, none⟩)), (8, .int .i64 _), (66, .slice _ _ _), (67, .int .i64 _), (78, .slice _ _ _)]) ⟨(hs29 1 rfl).trans rfl, (hs29 3 rfl).trans rfl, (hs29 4 rfl).trans rfl, (hs29 5 rfl).trans rfl, (hs29 6 rfl).trans rfl, (hs29 7 rfl).trans rfl, (hs29 8 rfl).trans rfl, h66_, h67_, h78_, trivial⟩ ?_
     clear hs29 hd30 hr32 tab27
     refine CN <| Op1.indexSl ty45 ty54 rfl rfl (by omega) (by omega) <| CN <| Op1.fieldAddr fld54_3 rfl <| CN <| Op1.storeSl (v := .slice _ _ _) hst ty52 rfl rfl rfl rfl rfl (.there (.there (.there (.there (.there (.there (.here))))))) (by simp only [List.length_cons, List.length_nil]; omega) fun w hst => NL <| Run.forget [(1, .pointer (some ⟨_, _, none⟩)), (3, .pointer (some ⟨_, _, none⟩)), (4, .pointer (some ⟨_, _, none⟩)), (5, .slice _ _ _), (6, .int .i64 _), (7, .pointer (some ⟨_, _, none⟩)), (8, .int .i64 _)] ⟨rfl, rfl, rfl, rfl, rfl, rfl, rfl, trivial⟩ fun f => SR <| CN <| Op1.fieldAddr fld39_0 rfl <| CN <| Op1.load1 (v := .int .u16 _) ty33 rfl rfl (hst.cellL (.tail _ (.tail _ (.tail _ (.tail _ (.tail _ (.head _)))))) rfl) <| CN <| Op1.call1 (v1 := .int .u16 _) ent30 rfl rfl <| Ret.det (R5ref5_Ends _ _) hst fun w hst => NL <| run_cond_split rfl (fun g33 => ?_) (fun g33 => ?_)
     · skip
       exfalso
       have hcn := endsB_iff.1 g33; omega
     refine run_skip <| run_inBlock <| RG <| MI rfl <| CN <| Op1.addN rfl rfl rfl (wrap_i64 (by omega) (by omega)) <| AI rfl <| NL <| run_inLoop ?_
     have hset : setSeg (xs.flatMap funC) (0 + ((xs.length : Int) - 1).toNat * 5 + 3) [.slice ao2 (bs.length + 1) cp2] = (ys ++ [(⟨⟨fid, fat, ps, bs ++ [(⟨(l.getD (i : Int).toNat zeroI).res, (i : Int), 0⟩ : BlkL)], fe⟩, po, pc, ao2, cp2⟩ : FunP)]).flatMap funC := set_lastX (x2 := (⟨⟨fid, fat, ps, bs ++ [(⟨(l.getD (i : Int).toNat zeroI).res, (i : Int), 0⟩ : BlkL)], fe⟩, po, pc, ao2, cp2⟩ : FunP)) funC_len hxy (by omega) (by simp [setSeg])
     have hlen : xs.length = (ys ++ [(⟨⟨fid, fat, ps, bs ++ [(⟨(l.getD (i : Int).toNat zeroI).res, (i : Int), 0⟩ : BlkL)], fe⟩, po, pc, ao2, cp2⟩ : FunP)]).length := by rw [hxl]; simp
     have e2 : bs.flatMap bkC ++ [.int .u32 (l.getD (i : Int).toNat zeroI).res, .int .i64 (i : Int), .int .i64 0] = (bs ++ [(⟨(l.getD (i : Int).toNat zeroI).res, (i : Int), 0⟩ : BlkL)]).flatMap bkC := by simp
     have e1 : bs.length + 1 = (bs ++ [(⟨(l.getD (i : Int).toNat zeroI).res, (i : Int), 0⟩ : BlkL)]).length := by simp
     rw [hset, hlen, e2, e1] at hst
     replace hst := hst.pick (.cons (.there (.there (.there (.here)))) (.cons (.there (.here)) (.cons (.there (.there (.here))) (.cons (.here) (.cons (.here) (.cons (.here) (.cons (.here) (.cons (.here) (.cons (.here) (.cons (.here) .nil))))))))))
     replace hst : St _ _ (Res.star ((ys ++ [(⟨⟨fid, fat, ps, bs ++ [(⟨(l.getD (i : Int).toNat zeroI).res, (i : Int), 0⟩ : BlkL)], fe⟩, po, pc, ao2, cp2⟩ : FunP)]).map (Res.ofun 3 56)) :: _) _ _ := St.lastFun' hst
     replace hst := hst.pick (.cons (.here) (.cons (.there (.there (.there (.here)))) (.cons (.there (.there (.there (.here)))) (.cons (.there (.there (.there (.here)))) (.cons (.there (.there (.there (.here)))) .nil)))))
     exact ih8 ((i + 1, ys ++ [(⟨⟨fid, fat, ps, bs ++ [(⟨(l.getD (i : Int).toNat zeroI).res, (i : Int), 0⟩ : BlkL)], fe⟩, po, pc, ao2, cp2⟩ : FunP)], (some ⟨bF, 0, none⟩), fc)) _ w (by (try dsimp only); omega) hst (⟨fx_3 hJ.1 hxy hop (by rw [hrs]), by (try dsimp only); omega⟩) ⟨rfl, rfl, rfl, trivial⟩ ⟨(congrArg (fun n => Value.slice _ n _) hlen), (congrArg (Value.int .i64) (by (try dsimp only); omega)), trivial⟩
   refine run_skip <| SR <| CN <| Op1.fieldAddr fld39_0 rfl <| CN <| Op1.load1 (v := .int .u16 _) ty33 rfl rfl (hst.cellL (.head _) rfl) <| CN <| Op1.call1 (v1 := .int .u16 _) ent30 rfl rfl <| Ret.det (R5ref5_Ends _ _) hst fun w hst => NL <| run_cond_split rfl (fun g34 => ?_) (fun g34 => ?_)
   · skip
     have hop : endsB (opA (l.map InstP.L) i) = true := by rw [ho]; exact g34
     obtain ⟨ys, ⟨⟨fid, fat, ps, bs, fe⟩, po, pc, bo, bc⟩, hxy, hbn⟩ := xs_last (b := true) (by rw [hJ.1]; exact hneed.2 hop)
     have hxl : xs.length = ys.length + 1 := by rw [hxy]; simp
     have hsx : bs.length ≤ i ∧ ps.length ≤ i := siz_x hJ.1 hxy
     obtain ⟨bF, rfl⟩ := Res.sl_some (hst.hL _ (.tail _ (.tail _ (.head _)))) (by omega)
     replace hst := hst.pick (.cons (.there (.here)) (.cons (.here) (.cons (.here) (.cons (.here) (.cons (.here) (.cons (.here) .nil))))))
     replace hst := St.lastFunX hxy hst
     replace hst : St _ _ (Res.sl po ps.length pc 3 1 (ps.flatMap intC) :: Res.sl bo bs.length bc 56 3 (bs.flatMap bkC) :: _) _ _ := hst
     obtain ⟨cs, ⟨bl, bb, bt⟩, hbs⟩ := bs_last (hbn rfl)
     replace hbs : bs = cs ++ [⟨bl, bb, bt⟩] := hbs
     have hbl : bs.length = cs.length + 1 := by rw [hbs]; simp
     obtain ⟨bB, rfl⟩ := Res.sl_some (hst.hL _ (.tail _ (.head _))) (by omega)
     refine RunD.start [] hst (bs := [0, 0, 3, 7, 15, 0, 0, 96, 224, 480, 992, 2016, 0, 4096, 16383, 32767, 65535]) (ds := [some 84, some 85, some 86, some 87, some 88, some 89, some 90, some 91, some 92, some 93, some 94, some 95, some 96, some 97, some 98, some 99, none]) ⟨by kernel_rfl, by kernel_rfl, by kernel_rfl⟩ (fun tab35 => ?_)
     refine RunD.op (det _) tab35 1 (fun f' L' w' hc => Op1.move (v := .slice _ _ _) (hc.old (v := .slice _ _ _) rfl rfl rfl) ⟨[], ⟨rfl, rfl⟩, hc.st⟩) <| RunD.op (det _) tab35 2 (fun f' L' w' hc => Op1.move (v := .int .i64 _) (hc.old (v := .int .i64 _) rfl rfl rfl) ⟨[], ⟨rfl, rfl⟩, hc.st⟩) <| RunD.op (det _) tab35 3 (fun f' L' w' hc => Op1.indexSl ty45 ty54 (hc.det (j := 0) rfl rfl rfl rfl) (hc.det (j := 1) rfl rfl rfl rfl) (by omega) (by omega) ⟨[], ⟨rfl, rfl⟩, hc.st⟩) <| RunD.op (det _) tab35 4 (fun f' L' w' hc => Op1.fieldAddr fld54_3 (hc.det (j := 2) rfl rfl rfl rfl) ⟨[], ⟨rfl, rfl⟩, hc.st⟩) <| RunD.op (det _) tab35 5 (fun f' L' w' hc => Op1.load1 (v := .slice (some ⟨bB, 0, none⟩) bs.length bc) ty52 rfl (hc.det (j := 3) rfl rfl rfl rfl) (Res.sl_cell (hc.st.hL _ (List.mem_append_right _ (.tail _ (.tail _ (.tail _ (.tail _ (.head _))))))) (flat_lastX (j := 3) funC_len hxy (by omega) rfl)) ⟨[], ⟨rfl, rfl⟩, hc.st⟩) <| RunD.op (det _) tab35 6 (fun f' L' w' hc => Op1.move (v := .slice _ _ _) (hc.old (v := .slice _ _ _) rfl rfl rfl) ⟨[], ⟨rfl, rfl⟩, hc.st⟩) <| RunD.op (det _) tab35 7 (fun f' L' w' hc => Op1.move (v := .int .i64 _) (hc.old (v := .int .i64 _) rfl rfl rfl) ⟨[], ⟨rfl, rfl⟩, hc.st⟩) <| RunD.op (det _) tab35 8 (fun f' L' w' hc => Op1.indexSl ty45 ty54 (hc.det (j := 5) rfl rfl rfl rfl) (hc.det (j := 6) rfl rfl rfl rfl) (by omega) (by omega) ⟨[], ⟨rfl, rfl⟩, hc.st⟩) <| RunD.op (det _) tab35 9 (fun f' L' w' hc => Op1.fieldAddr fld54_3 (hc.det (j := 7) rfl rfl rfl rfl) ⟨[], ⟨rfl, rfl⟩, hc.st⟩) <| RunD.op (det _) tab35 10 (fun f' L' w' hc => Op1.load1 (v := .slice (some ⟨bB, 0, none⟩) bs.length bc) ty52 rfl (hc.det (j := 8) rfl rfl rfl rfl) (Res.sl_cell (hc.st.hL _ (List.mem_append_right _ (.tail _ (.tail _ (.tail _ (.tail _ (.head _))))))) (flat_lastX (j := 3) funC_len hxy (by omega) rfl)) ⟨[], ⟨rfl, rfl⟩, hc.st⟩) <| RunD.op (det _) tab35 11 (fun f' L' w' hc => Op1.lenSl (rest := []) ty52 (hc.det (j := 9) rfl rfl rfl rfl) ⟨[], ⟨rfl, rfl⟩, hc.st⟩) <| RunD.op (det _) tab35 12 (fun f' L' w' hc => Op1.subN (hc.det (j := 10) rfl rfl rfl rfl) rfl rfl (wrap_i64 (by omega) (by omega)) ⟨[], ⟨rfl, rfl⟩, hc.st⟩) <| RunD.op (det _) tab35 13 (fun f' L' w' hc => Op1.move (v := .int .i64 _) (hc.old (v := .int .i64 _) rfl rfl rfl) ⟨[], ⟨rfl, rfl⟩, hc.st⟩) <| RunD.op (det _) tab35 14 (fun f' L' w' hc => Op1.addN (hc.det (j := 12) rfl rfl rfl rfl) rfl rfl (wrap_i64 (by omega) (by omega)) ⟨[], ⟨rfl, rfl⟩, hc.st⟩) <| RunD.fin followsMixed tab35 hst rfl (fun f36 w R39 hs37 hd38 hr40 hst => ?_)
     obtain ⟨h84_, r0⟩ := hd38 0 84 rfl rfl
     obtain ⟨h85_, r1⟩ := hd38 1 85 rfl rfl
     obtain ⟨h86_, r2⟩ := hd38 2 86 rfl rfl
     obtain ⟨h87_, r3⟩ := hd38 3 87 rfl rfl
     obtain ⟨h88_, r4⟩ := hd38 4 88 rfl rfl
     obtain ⟨h89_, r5⟩ := hd38 5 89 rfl rfl
     obtain ⟨h90_, r6⟩ := hd38 6 90 rfl rfl
     obtain ⟨h91_, r7⟩ := hd38 7 91 rfl rfl
     obtain ⟨h92_, r8⟩ := hd38 8 92 rfl rfl
     obtain ⟨h93_, r9⟩ := hd38 9 93 rfl rfl
     obtain ⟨h94_, r10⟩ := hd38 10 94 rfl rfl
     obtain ⟨h95_, r11⟩ := hd38 11 95 rfl rfl
     obtain ⟨h96_, r12⟩ := hd38 12 96 rfl rfl
     obtain ⟨h97_, r13⟩ := hd38 13 97 rfl rfl
     simp only [show List.range 14 = [0, 1, 2, 3, 4, 5, 6, 7, 8, 9, 10, 11, 12, 13] from rfl, List.flatMap_cons, List.flatMap_nil, List.map_cons, List.map_nil, r0, r1, r2, r3, r4, r5, r6, r7, r8, r9, r10, r11, r12, r13, List.nil_append, List.append_nil, List.cons_append] at hst
     refine RunL.slots (sl := [(1, .pointer (some ⟨_, _, none⟩)), (3, .pointer (some ⟨_, _, none⟩)), (4, .pointer (some ⟨_, _, none⟩)), (5, .slice _ _ _), (6, .int .i64 _), (88, .slice _ _ _), (95, .int .i64 _), (97, .int .i64 _)]) ⟨(hs37 1 rfl).trans rfl, (hs37 3 rfl).trans rfl, (hs37 4 rfl).trans rfl, (hs37 5 rfl).trans rfl, (hs37 6 rfl).trans rfl, h88_, h95_, h97_, trivial⟩ ?_
     clear hs37 hd38 hr40 tab35
     refine CN <| Op1.indexSl ty52 ty56 rfl rfl (by omega) (by omega) <| CN <| Op1.fieldAddr fld56_2 rfl <| CN <| Op1.storeSl (v := .int .i64 _) hst ty3 rfl rfl rfl rfl rfl (.there (.here)) (by simp only [List.length_cons, List.length_nil]; omega) fun w hst => NL <| run_inBlock <| Run.forget [(1, .pointer (some ⟨_, _, none⟩)), (3, .pointer (some ⟨_, _, none⟩)), (4, .pointer (some ⟨_, _, none⟩)), (5, .slice _ _ _), (6, .int .i64 _)] ⟨rfl, rfl, rfl, rfl, rfl, trivial⟩ fun f => RG <| MI rfl <| CN <| Op1.addN rfl rfl rfl (wrap_i64 (by omega) (by omega)) <| AI rfl <| NL <| run_inLoop ?_
     have hsb : setSeg (bs.flatMap bkC) (0 + ((bs.length : Int) - 1).toNat * 3 + 2) [.int .i64 ((i : Int) + 1)] = (cs ++ [(⟨bl, bb, ((i + 1 : Nat) : Int)⟩ : BlkL)]).flatMap bkC := set_lastX (x2 := (⟨bl, bb, ((i + 1 : Nat) : Int)⟩ : BlkL)) bkC_len hbs (by omega) (by simp [setSeg])
     have e1 : bs.length = (cs ++ [(⟨bl, bb, ((i + 1 : Nat) : Int)⟩ : BlkL)]).length := by rw [hbl]; simp
     have e4 : xs.flatMap funC = (ys ++ [(⟨⟨fid, fat, ps, cs ++ [(⟨bl, bb, ((i + 1 : Nat) : Int)⟩ : BlkL)], fe⟩, po, pc, some ⟨bB, 0, none⟩, bc⟩ : FunP)]).flatMap funC := by rw [hxy, List.flatMap_append, List.flatMap_append]; simp [hbl]
     have hlen : xs.length = (ys ++ [(⟨⟨fid, fat, ps, cs ++ [(⟨bl, bb, ((i + 1 : Nat) : Int)⟩ : BlkL)], fe⟩, po, pc, some ⟨bB, 0, none⟩, bc⟩ : FunP)]).length := by rw [hxl]; simp
     rw [hsb, e1, e4, hlen] at hst
     replace hst := hst.pick (.cons (.here) (.cons (.here) (.cons (.here) (.cons (.here) (.cons (.here) (.cons (.here) (.cons (.here) (.cons (.here) .nil))))))))
     replace hst : St _ _ (Res.star ((ys ++ [(⟨⟨fid, fat, ps, cs ++ [(⟨bl, bb, ((i + 1 : Nat) : Int)⟩ : BlkL)], fe⟩, po, pc, some ⟨bB, 0, none⟩, bc⟩ : FunP)]).map (Res.ofun 3 56)) :: _) _ _ := St.lastFun' hst
     replace hst := hst.pick (.cons (.here) (.cons (.there (.here)) (.cons (.there (.here)) (.cons (.there (.here)) (.cons (.there (.here)) .nil)))))
     exact ih8 ((i + 1, ys ++ [(⟨⟨fid, fat, ps, cs ++ [(⟨bl, bb, ((i + 1 : Nat) : Int)⟩ : BlkL)], fe⟩, po, pc, some ⟨bB, 0, none⟩, bc⟩ : FunP)], (some ⟨bF, 0, none⟩), fc)) _ w (by (try dsimp only); omega) hst (⟨fx_7 hJ.1 hxy hbs hop rfl, by (try dsimp only); omega⟩) ⟨rfl, rfl, rfl, trivial⟩ ⟨(congrArg (fun n => Value.slice _ n _) hlen), (congrArg (Value.int .i64) (by (try dsimp only); omega)), trivial⟩
   refine run_skip <| run_inBlock <| RG <| MI rfl <| CN <| Op1.addN rfl rfl rfl (wrap_i64 (by omega) (by omega)) <| AI rfl <| NL <| run_inLoop ?_
   replace hst := hst.pick (.cons (.there (.here)) (.cons (.there (.here)) (.cons (.there (.here)) (.cons (.there (.here)) (.cons (.there (.here)) .nil)))))
   exact ih8 ((i + 1, xs, fo, fc)) _ w (by (try dsimp only); omega) hst (⟨fx_0 hJ.1 (by rw [ho]; exact g10) (by rw [ho]; exact g17) (by rw [ho]; exact g23) (by rw [ho]; exact g26) (by rw [ho]; exact (by rw [g34]; decide)), by (try dsimp only); omega⟩) ⟨rfl, rfl, rfl, trivial⟩ ⟨rfl, (congrArg (Value.int .i64) (by (try dsimp only); omega)), trivial⟩
 obtain rfl : l.length = i := by omega
 refine run_exit (id := 0) rfl <| SQ <| RunD.start [] hst (bs := [0, 0, 1, 7]) (ds := [some 100, some 101, some 2, none]) ⟨by kernel_rfl, by kernel_rfl, by kernel_rfl⟩ (fun tab41 => ?_)
 refine RunD.op (det _) tab41 1 (fun f' L' w' hc => Op1.move (v := .slice _ _ _) (hc.old (v := .slice _ _ _) rfl rfl rfl) ⟨[], ⟨rfl, rfl⟩, hc.st⟩) <| RunD.op (det _) tab41 2 (fun f' L' w' hc => Op1.loadA (vs := [.int .i64 _, .int .i64 _]) ty29 rfl (hc.old (v := .pointer (some ⟨_, _, none⟩)) rfl rfl rfl) rfl (cells_of_obj (n := 2) (hc.st.objL (List.mem_append_right _ (.tail _ (.tail _ (.head _))))) _ rfl) ⟨[], ⟨rfl, rfl⟩, hc.st⟩) <| RunD.op (det _) tab41 3 (fun f' L' w' hc => Op1.assign (v := .slice _ _ _) (hc.det (j := 0) rfl rfl rfl rfl) ⟨[], ⟨rfl, rfl⟩, hc.st⟩) <| RunD.fin followsMixed tab41 hst rfl (fun f42 w R45 hs43 hd44 hr46 hst => ?_)
 obtain ⟨h100_, r0⟩ := hd44 0 100 rfl rfl
 obtain ⟨h101_, r1⟩ := hd44 1 101 rfl rfl
 obtain ⟨h2_, r2⟩ := hd44 2 2 rfl rfl
 simp only [show List.range 3 = [0, 1, 2] from rfl, List.flatMap_cons, List.flatMap_nil, List.map_cons, List.map_nil, r0, r1, r2, List.nil_append, List.append_nil, List.cons_append] at hst
 refine RunL.slots (sl := [(2, .slice _ _ _), (3, .pointer (some ⟨_, _, none⟩)), (101, .agg #[.int .i64 _, .int .i64 _])]) ⟨h2_, (hs43 3 rfl).trans rfl, h101_, trivial⟩ ?_
 clear hs43 hd44 hr46 tab41
 refine CN (SO (v := .agg #[.int .i64 _, .int .i64 _]) hst ty29 rfl rfl (.there (.there (.there (.here)))) fun w hst => ?_)
 refine NL <| run_ret2 Try.func16 rfl (TP (v := .slice _ _ _) rfl) (RV.cellA (vs := [.int .i64 _, .int .i64 _]) rfl ty29 rfl rfl (cells_of_obj (n := 2) (hst.objL (.tail _ (.tail _ (.tail _ (.head _))))) _ rfl)) ?_
 replace hst := hst.pick (.cons (.there (.here)) (.cons (.here) .nil))
 replace hst := St.starCons hst
 have he0 : (e, a) = ((0, 0) : Int × Int) := by rw [← hC, ← hor]; exact hor0
 injection he0 with he1 he2
 exact .inl ⟨fo, fc, xs, by rw [hC, he1, he2], hJ.1, by rw [he1, he2], hst.noD⟩
end Go.SK
namespace Go.SK
open Go Go.Proofs
theorem ent9 : Enters Try.prog 9 := ⟨Try.f9, _, Try.func9, by kernel_rfl, rfl⟩
end Go.SK
namespace Go.SK
open Go Go.Proofs
theorem stf35 : StructF Try.prog 35 [(0, 1), (1, 1), (2, 1)] := ⟨fieldsOf Try.prog 35, by kernel_rfl, fun w => by kernel_rfl⟩
theorem stf39 : StructF Try.prog 39 [(0, 1), (1, 1), (2, 1), (3, 1)] := ⟨fieldsOf Try.prog 39, by kernel_rfl, fun w => by kernel_rfl⟩
end Go.SK
namespace Go.SK
open Go Go.Proofs
theorem ent17 : Enters Try.prog 17 := ⟨Try.f17, _, Try.func17, by kernel_rfl, rfl⟩
theorem fld54_0 : FldF Try.prog 54 0 0 := FldF.of (n := 0) (by kernel_rfl)
end Go.SK
namespace Go.SK
open Go Go.Proofs
theorem ent31 : Enters Try.prog 31 := ⟨Try.f31, _, Try.func31, by kernel_rfl, rfl⟩
end Go.SK
namespace Go.SK
open Go Go.Proofs
open Go.RowKit
theorem R5kit_IntsS (ps qs : List Int) (hpq : ps = qs) (ao : Option Addr) (ca : Nat) (bo : Option Addr) (cb : Nat) (w : World) (hA : (Res.rs ao (List.length ps) 1 (ps.flatMap intC)).holds w) (hB : (Res.rs bo (List.length qs) 1 (qs.flatMap intC)).holds w) (hl : ps.length ≤ 9000000000000000000) : Ret Try.prog 31 #[.slice ao ps.length ca, .slice bo qs.length cb] w (fun v w' => v = .bool true ∧ St w NoM [] [] w') := by
 refine Ret.enter (args := [.slice ao ps.length ca, .slice bo qs.length cb]) Try.func31 rfl rfl rfl ?_
 subst hpq
 have hst : St w NoM [] [(Res.rs ao (List.length ps) 1 (ps.flatMap intC)), (Res.rs bo (List.length ps) 1 (ps.flatMap intC))] w := St.init_Ds (fun d hd => by cases hd with | head => exact hA | tail _ hd => cases hd with | head => exact hB | tail _ h => cases h)
 clear hA hB
 refine SR <| AB rfl <| NL <| SQ <| SR <| ML rfl <| CN <| Op1.lenSl (rest := []) ty51 rfl <| ML rfl <| CN <| Op1.lenSl (rest := []) ty51 rfl <| CN <| Op1.neq rfl rfl <| NL <| run_cond_dec rfl (fun g1 => ?_) (fun g1 => ?_)
 · skip
   exfalso
   exact g1 rfl
 refine run_skip <| SQ <| SR <| AI rfl <| NL <| run_block <| run_loop <| Run.indW [(0, .slice _ _ _), (1, .slice _ _ _)] ⟨rfl, rfl, trivial⟩ (fun (n : Nat) => [(5, .int .i64 (n : Int))]) (fun (n : Nat) => []) (fun (n : Nat) => n ≤ ps.length) (fun (n : Nat) => ps.length - n) (0) hst (Nat.zero_le _) ⟨rfl, trivial⟩ ?_
 intro n f w hst hJ ih2
 refine SQ <| SR <| MI rfl <| ML rfl <| CN <| Op1.lenSl (rest := []) ty51 rfl <| CN <| Op1.lss rfl rfl <| NL <| run_cond_dec rfl (fun g3 => ?_) (fun g3 => ?_)
 · skip
   refine run_skip <| SQ <| run_block <| SQ <| RunD.start [] hst (bs := [0, 0, 3, 7, 0, 0, 48, 112, 255]) (ds := [some 17, some 18, some 19, some 20, some 21, some 22, some 23, some 24, some 25]) ⟨by kernel_rfl, by kernel_rfl, by kernel_rfl⟩ (fun tab4 => ?_)
   refine RunD.op (det _) tab4 1 (fun f' L' w' hc => Op1.move (v := .slice _ _ _) (hc.old (v := .slice _ _ _) rfl rfl rfl) ⟨[], ⟨rfl, rfl⟩, hc.st⟩) <| RunD.op (det _) tab4 2 (fun f' L' w' hc => Op1.move (v := .int .i64 _) (hc.old (v := .int .i64 _) rfl rfl rfl) ⟨[], ⟨rfl, rfl⟩, hc.st⟩) <| RunD.op (det _) tab4 3 (fun f' L' w' hc => Op1.indexRs ty51 ty3 (hc.st.hD _ (.head _)) (hc.det (j := 0) rfl rfl rfl rfl) (hc.det (j := 1) rfl rfl rfl rfl) (by omega) (by omega) ⟨[], ⟨rfl, rfl⟩, hc.st⟩) <| RunD.op (det _) tab4 4 (fun f' L' w' hc => Op1.load1 (v := .int .i64 _) ty3 rfl (hc.det (j := 2) rfl rfl rfl rfl) (Res.rs2_cell (hc.st.hD _ (.head _)) (flat_cell0 (g := intC) (d := 0) intC_len rfl (by omega))) ⟨[], ⟨rfl, rfl⟩, hc.st⟩) <| RunD.op (det _) tab4 5 (fun f' L' w' hc => Op1.move (v := .slice _ _ _) (hc.old (v := .slice _ _ _) rfl rfl rfl) ⟨[], ⟨rfl, rfl⟩, hc.st⟩) <| RunD.op (det _) tab4 6 (fun f' L' w' hc => Op1.move (v := .int .i64 _) (hc.old (v := .int .i64 _) rfl rfl rfl) ⟨[], ⟨rfl, rfl⟩, hc.st⟩) <| RunD.op (det _) tab4 7 (fun f' L' w' hc => Op1.indexRs ty51 ty3 (hc.st.hD _ (.tail _ (.head _))) (hc.det (j := 4) rfl rfl rfl rfl) (hc.det (j := 5) rfl rfl rfl rfl) (by omega) (by omega) ⟨[], ⟨rfl, rfl⟩, hc.st⟩) <| RunD.op (det _) tab4 8 (fun f' L' w' hc => Op1.load1 (v := .int .i64 _) ty3 rfl (hc.det (j := 6) rfl rfl rfl rfl) (Res.rs2_cell (hc.st.hD _ (.tail _ (.head _))) (flat_cell0 (g := intC) (d := 0) intC_len rfl (by omega))) ⟨[], ⟨rfl, rfl⟩, hc.st⟩) <| RunD.fin followsMixed tab4 hst rfl (fun f5 w R8 hs6 hd7 hr9 hst => ?_)
   obtain ⟨h17_, r0⟩ := hd7 0 17 rfl rfl
   obtain ⟨h18_, r1⟩ := hd7 1 18 rfl rfl
   obtain ⟨h19_, r2⟩ := hd7 2 19 rfl rfl
   obtain ⟨h20_, r3⟩ := hd7 3 20 rfl rfl
   obtain ⟨h21_, r4⟩ := hd7 4 21 rfl rfl
   obtain ⟨h22_, r5⟩ := hd7 5 22 rfl rfl
   obtain ⟨h23_, r6⟩ := hd7 6 23 rfl rfl
   obtain ⟨h24_, r7⟩ := hd7 7 24 rfl rfl
   simp only [show List.range 8 = [0, 1, 2, 3, 4, 5, 6, 7] from rfl, List.flatMap_cons, List.flatMap_nil, List.map_cons, List.map_nil, r0, r1, r2, r3, r4, r5, r6, r7, List.nil_append, List.append_nil, List.cons_append] at hst
   refine RunL.slots (sl := [(0, .slice _ _ _), (1, .slice _ _ _), (5, .int .i64 _), (20, .int .i64 _), (24, .int .i64 _)]) ⟨(hs6 0 rfl).trans rfl, (hs6 1 rfl).trans rfl, (hs6 5 rfl).trans rfl, h20_, h24_, trivial⟩ ?_
   clear hs6 hd7 hr9 tab4
   refine CN <| Op1.neq rfl rfl <| NL <| run_cond_dec rfl (fun g10 => ?_) (fun g10 => ?_)
   · skip
     exfalso
     exact g10 rfl
   refine run_skip <| run_inBlock <| RG <| MI rfl <| CN <| Op1.addN rfl rfl rfl (wrap_i64 (by omega) (by omega)) <| AI rfl <| NL <| run_inLoop ?_
   exact ih2 (n + 1) _ w (by omega) hst (by omega) ⟨rfl, rfl, trivial⟩ ⟨(congrArg (Value.int .i64) (by omega)), trivial⟩
 refine run_exit (id := 0) rfl <| SR <| AB rfl <| NL <| run_ret1 Try.func31 rfl (TP (v := .bool _) rfl) ?_
 exact ⟨rfl, hst.pure⟩
theorem R5kit_SpoilInts (n : Nat) (ws : List Value) (ao : Option Addr) (cp : Nat) (w : World) (hR : (Res.sl ao n cp 3 1 ws).holds w) (hl : n ≤ 9000000000000000000) : Ret Try.prog 20 #[.slice ao n cp] w (fun v w' => St w (Res.sl ao n cp 3 1 ws).foot [] [] w') := by
 refine Ret.enter (args := [.slice ao n cp]) Try.func20 rfl rfl rfl ?_
 have hst : St w (Res.sl ao n cp 3 1 ws).foot [Res.sl ao n cp 3 1 ws] [] w := St.enter1 hR (fun d hd => by cases hd) (fun d hd => by cases hd)
 refine SR <| AI rfl <| NL <| run_block <| run_loop <| Run.indW [(0, .slice _ _ _)] ⟨rfl, trivial⟩ (fun (q : Nat × List Value) => [(2, .int .i64 (q.1 : Int))]) (fun (q : Nat × List Value) => [Res.sl ao n cp 3 1 q.2]) (fun (q : Nat × List Value) => q.1 ≤ n) (fun (q : Nat × List Value) => n - q.1) ((0, ws)) hst (Nat.zero_le _) ⟨rfl, trivial⟩ ?_
 intro ⟨i, m⟩ f w hst hJ ih1
 replace hst : St _ _ ([Res.sl ao n cp 3 1 m] ++ []) _ _ := hst
 replace hJ : i ≤ n := hJ
 refine Run.slots (sl := [(2, .int .i64 (i : Int))]) ⟨rfl, trivial⟩ <| SQ <| SR <| MI rfl <| ML rfl <| CN <| Op1.lenSl (rest := []) ty51 rfl <| CN <| Op1.lss rfl rfl <| NL <| run_cond_dec rfl (fun g2 => ?_) (fun g2 => ?_)
 · skip
   refine run_skip <| SQ <| run_block <| RG <| ML rfl <| MI rfl ?_
   obtain ⟨bs3, rfl⟩ := Res.sl_some (hst.hL _ (.head _)) (by omega)
   refine CN <| Op1.indexSl ty51 ty3 rfl rfl (by omega) (by omega) <| CN <| Op1.storeSl (v := .int .i64 _) hst ty3 rfl rfl rfl rfl rfl (.here) (by simp only [List.length_cons, List.length_nil]; omega) fun w hst => NL <| run_inBlock <| RG <| MI rfl <| CN <| Op1.addN rfl rfl rfl (wrap_i64 (by omega) (by omega)) <| AI rfl <| NL <| run_inLoop ?_
   exact ih1 ((i + 1, _)) _ w (by (try dsimp only); omega) hst (by (try dsimp only); omega) ⟨rfl, trivial⟩ ⟨(congrArg (Value.int .i64) (by (try dsimp only); omega)), trivial⟩
 refine run_exit (id := 0) rfl <| run_end0 Try.func20 rfl  ?_
 replace hst := hst.pick .nil
 exact hst
theorem R5kit_Spoil (ga ba : Int) (l : List InstP) (ao : Option Addr) (cp : Nat) (w : World) (hR : (Res.omod 39 35 ao cp l).holds w) (hl : l.length ≤ 9000000000000000000) (hla9 : ∀ i ∈ l, i.args.length ≤ 9000000000000000000) : Ret Try.prog 18 #[.agg #[.int .u32 ga, .int .u32 ba, .slice ao l.length cp]] w (fun v w' => St w (Res.omod 39 35 ao cp l).foot [] [] w') := by
 refine Ret.enter (args := [.agg #[.int .u32 ga, .int .u32 ba, .slice ao l.length cp]]) Try.func18 rfl rfl rfl ?_
 have hst : St w (Res.omod 39 35 ao cp l).foot [Res.omod 39 35 ao cp l] [] w := St.enter1 hR (fun d hd => by cases hd) (fun d hd => by cases hd)
 replace hst := hst.starUncons
 refine SR <| CN <| Op1.box (v := .agg #[.int .u32 _, .int .u32 _, .slice _ _ _]) hst rfl rfl fun w b1 hst => NSR <| AI rfl <| NL <| run_block <| run_loop ?_
 replace hst := hst.pick (.cons (.there (.here)) (.cons (.there (.here)) (.cons (.here) .nil)))
 refine Run.indW [(1, .pointer (some ⟨_, _, none⟩))] ⟨rfl, trivial⟩ (fun (i : Nat) => [(2, .int .i64 (i : Int))]) (fun (i : Nat) => [Res.sl ao l.length cp 39 4 ((spL l i).flatMap instC), Res.star ((l.drop i).map (Res.oargs 35))]) (fun (i : Nat) => i ≤ l.length) (fun (i : Nat) => l.length - i) (0) hst (Nat.zero_le _) ⟨rfl, trivial⟩ ?_
 intro i f w hst hJ ih1
 refine SQ <| SR <| MI rfl <| CN <| Op1.fieldAddr fld25_2 rfl <| CN <| Op1.load1 (v := .slice _ _ _) ty23 rfl rfl (hst.cellL (.tail _ (.tail _ (.head _))) rfl) <| CN <| Op1.lenSl (rest := []) ty23 rfl <| CN <| Op1.lss rfl rfl <| NL <| run_cond_dec rfl (fun g2 => ?_) (fun g2 => ?_)
 · skip
   refine run_skip <| SQ <| run_block <| SQ <| SR <| AI rfl <| NL <| run_block <| run_loop ?_
   replace hst := hst.pick (.cons (.there (.here)) (.cons (.here) (.cons (.here) .nil)))
   replace hst := St.dropArgs hst (by omega)
   have hla := hla9 _ (getD_memD (i := (i : Int).toNat) (d := zeroI) (by omega))
   have hgt := spL_get (l := l) (i := i) (by omega)
   have hln := spL_len (l := l) (i := i) (by omega)
   obtain ⟨X, hX⟩ : ∃ X, l.getD (i : Int).toNat zeroI = X := ⟨_, rfl⟩
   rw [hX] at hst hla
   rw [hX] at hgt
   obtain ⟨xop, xty, xres, xao, xcap, xargs⟩ := X
   replace hla : xargs.length ≤ 9000000000000000000 := hla
   replace hst : St _ _ (Res.sl xao xargs.length xcap 35 3 (xargs.flatMap argC) :: _) _ _ := hst
   refine Run.indW [(1, .pointer (some ⟨_, _, none⟩)), (2, .int .i64 _)] ⟨rfl, rfl, trivial⟩ (fun (r : Nat × List Value) => [(3, .int .i64 (r.1 : Int))]) (fun (r : Nat × List Value) => [Res.sl xao xargs.length xcap 35 3 r.2]) (fun (r : Nat × List Value) => r.1 ≤ xargs.length) (fun (r : Nat × List Value) => xargs.length - r.1) ((0, xargs.flatMap argC)) hst (Nat.zero_le _) ⟨rfl, trivial⟩ ?_
   intro ⟨k, m⟩ f w hst hK ih3
   replace hst : St _ _ ([Res.sl xao xargs.length xcap 35 3 m] ++ [_, _, _]) _ _ := hst
   replace hK : k ≤ xargs.length := hK
   refine Run.slots (sl := [(3, .int .i64 (k : Int))]) ⟨rfl, trivial⟩ <| SQ <| SR <| MI rfl <| CN <| Op1.fieldAddr fld25_2 rfl <| CN <| Op1.load1 (v := .slice _ _ _) ty23 rfl rfl (hst.cellL (.tail _ (.tail _ (.tail _ (.head _)))) rfl) <| MI rfl ?_
   obtain ⟨bs4, rfl⟩ := Res.sl_some (hst.hL _ (.tail _ (.tail _ (.head _)))) (by omega)
   refine CN <| Op1.indexSl ty23 ty39 rfl rfl (by omega) (by omega) <| CN <| Op1.fieldAddr fld39_3 rfl <| CN <| Op1.load1 (v := .slice xao xargs.length xcap) ty37 rfl rfl (Res.sl_cell (hst.hL _ (.tail _ (.tail _ (.head _)))) (flat_cell (g := instC) (d := zeroI) instC_len (by rw [hgt]; rfl) (by omega))) <| CN <| Op1.lenSl (rest := []) ty37 rfl <| CN <| Op1.lss rfl rfl <| NL <| run_cond_dec rfl (fun g5 => ?_) (fun g5 => ?_)
   · skip
     refine run_skip <| SQ <| run_block <| RG <| CN <| Op1.fieldAddr fld25_2 rfl <| CN <| Op1.load1 (v := .slice _ _ _) ty23 rfl rfl (hst.cellL (.tail _ (.tail _ (.tail _ (.head _)))) rfl) <| MI rfl <| CN <| Op1.indexSl ty23 ty39 rfl rfl (by omega) (by omega) <| CN <| Op1.fieldAddr fld39_3 rfl <| CN <| Op1.load1 (v := .slice xao xargs.length xcap) ty37 rfl rfl (Res.sl_cell (hst.hL _ (.tail _ (.tail _ (.head _)))) (flat_cell (g := instC) (d := zeroI) instC_len (by rw [hgt]; rfl) (by omega))) <| MI rfl <| CN (Op1.buildStruct ty35 stf35 (.c (v := .int .u8 _) rfl (h := (.c (v := .int .u32 _) rfl (h := (.c (v := str _) rfl (h := .nil)))))) ?_)
     obtain ⟨bs6, rfl⟩ := Res.sl_some (hst.hL _ (.head _)) (by omega)
     refine CN <| Op1.indexSl ty37 ty35 rfl rfl (by omega) (by omega) <| CN <| Op1.storeSl (v := .agg #[.int .u8 _, .int .u32 _, str _]) hst ty35 rfl rfl rfl rfl rfl (.here) (by simp only [List.length_cons, List.length_nil]; omega) fun w hst => NL <| run_inBlock <| RG <| MI rfl <| CN <| Op1.addN rfl rfl rfl (wrap_i64 (by omega) (by omega)) <| AI rfl <| NL <| run_inLoop ?_
     exact ih3 ((k + 1, _)) _ w (by (try dsimp only); omega) hst (by (try dsimp only); omega) ⟨rfl, rfl, trivial⟩ ⟨(congrArg (Value.int .i64) (by (try dsimp only); omega)), trivial⟩
   refine run_exit (id := 2) rfl <| RG <| CN <| Op1.fieldAddr fld25_2 rfl <| CN <| Op1.load1 (v := .slice _ _ _) ty23 rfl rfl (hst.cellL (.tail _ (.tail _ (.tail _ (.head _)))) rfl) <| MI rfl <| CN (Op1.buildStruct ty39 stf39 (.c (v := .int .u16 _) rfl (h := (.c (v := .int .u32 _) rfl (h := (.c (v := .int .u32 _) rfl (h := .nil)))))) ?_)
   refine CN <| Op1.indexSl ty23 ty39 rfl rfl (by omega) (by omega) <| CN <| Op1.storeSl (v := .agg #[.int .u16 _, .int .u32 _, .int .u32 _, .slice _ _ _]) hst ty39 rfl rfl rfl rfl rfl (.there (.there (.here))) (by simp only [List.length_cons, List.length_nil]; omega) fun w hst => NL <| run_inBlock <| RG <| MI rfl <| CN <| Op1.addN rfl rfl rfl (wrap_i64 (by omega) (by omega)) <| AI rfl <| NL <| run_inLoop ?_
   rw [spL_step (by omega)] at hst
   replace hst := hst.pick (.cons (.there (.there (.here))) (.cons (.there (.here)) (.cons (.there (.here)) .nil)))
   exact ih1 (i + 1) _ w (by omega) hst (by omega) ⟨rfl, trivial⟩ ⟨(congrArg (Value.int .i64) (by omega)), trivial⟩
 refine run_exit (id := 0) rfl <| run_end0 Try.func18 rfl  ?_
 replace hst := hst.pick .nil
 exact hst
theorem R5law_sameFuncs (xs ys : List FunP) (hxy : xs.map FunP.fu = ys.map FunP.fu) (ao : Option Addr) (ca : Nat) (bo : Option Addr) (cb : Nat) (w : World) (hA : (Res.ofuns 54 3 56 ao ca xs).holds w) (hB : (Res.ofuns 54 3 56 bo cb ys).holds w) (hl : xs.length ≤ 9000000000000000000) (hsz : ∀ n, n < xs.length → (xs.getD n zeroFun).fu.blocks.length ≤ 9000000000000000000 ∧ (xs.getD n zeroFun).fu.params.length ≤ 9000000000000000000) : Ret Try.prog 19 #[.slice ao xs.length ca, .slice bo ys.length cb] w (fun v w' => v = .bool true ∧ St w NoM [] [] w') := by
 refine Ret.enter (args := [.slice ao xs.length ca, .slice bo ys.length cb]) Try.func19 rfl rfl rfl ?_
 have hst : St w NoM [] [(Res.ofuns 54 3 56 ao ca xs), (Res.ofuns 54 3 56 bo cb ys)] w := St.init_Ds (fun d hd => by cases hd with | head => exact hA | tail _ hd => cases hd with | head => exact hB | tail _ h => cases h)
 clear hA hB
 have hsm := same_fu hxy
 have hlm := hsm.1
 refine SR <| AB rfl <| NL <| SQ <| SR <| ML rfl <| CN <| Op1.lenSl (rest := []) ty45 rfl <| ML rfl <| CN <| Op1.lenSl (rest := []) ty45 rfl <| CN <| Op1.neq rfl rfl <| NL <| run_cond_dec rfl (fun g1 => ?_) (fun g1 => ?_)
 · skip
   exfalso
   exact g1 (by omega)
 refine run_skip <| SQ <| SR <| AI rfl <| NL <| run_block <| run_loop <| Run.indW [(0, .slice _ _ _), (1, .slice _ _ _)] ⟨rfl, rfl, trivial⟩ (fun (n : Nat) => [(5, .int .i64 (n : Int))]) (fun (n : Nat) => []) (fun (n : Nat) => n ≤ xs.length) (fun (n : Nat) => xs.length - n) (0) hst (Nat.zero_le _) ⟨rfl, trivial⟩ ?_
 intro n f w hst hJ ih2
 refine SQ <| SR <| MI rfl <| ML rfl <| CN <| Op1.lenSl (rest := []) ty45 rfl <| CN <| Op1.lss rfl rfl <| NL <| run_cond_dec rfl (fun g3 => ?_) (fun g3 => ?_)
 · skip
   have hlt : n < xs.length := by omega
   have hfe : (xs.getD (n : Int).toNat zeroFun).fu = (ys.getD (n : Int).toNat zeroFun).fu := hsm.2 n hlt
   have hbl : (xs.getD (n : Int).toNat zeroFun).fu.blocks.length = (ys.getD (n : Int).toNat zeroFun).fu.blocks.length := by rw [hfe]
   have hbz : (xs.getD (n : Int).toNat zeroFun).fu.blocks.length ≤ 9000000000000000000 ∧ (xs.getD (n : Int).toNat zeroFun).fu.params.length ≤ 9000000000000000000 := hsz n hlt
   refine run_skip <| SQ <| run_block <| SQ <| SQ <| RunD.start [] hst (bs := [0, 0, 3, 7, 15, 0, 0, 96, 224, 480, 1023, 2047, 4095, 4095, 16383, 32767, 65535, 4095, 4095, 397311, 921599, 1970175, 4194303, 8388607, 16777215, 33554431, 33554431, 134217727, 268435455, 536870911, 33554431, 33554431, 3254779903, 7549747199, 16139681791, 34359738367, 68719476735, 137438953471, 274877906943, 274877906943, 1099511627775, 2199023255551, 4398046511103, 274877906943, 274877906943, 26663156973567, 61847529062399, 132216273240063, 281474976710655, 562949953421311, 1125899906842623, 2251799813685247, 4503599627370495, 4503599627370495, 18014398509481983, 36028797018963967, 72057594037927935, 144115188075855871, 4503599627370495, 4503599627370495, 869194728082505727, 2022116232689352703, 4327959241903046655, 8939645260330434559, 18446744073709551615, 36893488147419103231]) (ds := [some 18, some 19, some 20, some 21, some 22, some 23, some 24, some 25, some 26, some 27, some 28, some 29, some 30, some 31, some 32, some 33, some 34, some 35, some 36, some 37, some 38, some 39, some 40, some 41, some 42, some 43, some 44, some 45, some 46, some 47, some 48, some 49, some 50, some 51, some 52, some 53, some 54, some 55, some 56, some 57, some 58, some 59, some 60, some 61, some 62, some 63, some 64, some 65, some 66, some 67, some 68, some 69, some 70, some 71, some 72, some 73, some 74, some 75, some 76, some 77, some 78, some 79, some 80, some 81, some 82, some 83]) ⟨by kernel_rfl, by kernel_rfl, by kernel_rfl⟩ (fun tab4 => ?_)
   refine RunD.op (det _) tab4 1 (fun f' L' w' hc => Op1.move (v := .slice _ _ _) (hc.old (v := .slice _ _ _) rfl rfl rfl) ⟨[], ⟨rfl, rfl⟩, hc.st⟩) <| RunD.op (det _) tab4 2 (fun f' L' w' hc => Op1.move (v := .int .i64 _) (hc.old (v := .int .i64 _) rfl rfl rfl) ⟨[], ⟨rfl, rfl⟩, hc.st⟩) <| RunD.op (det _) tab4 3 (fun f' L' w' hc => Op1.indexRs ty45 ty54 (Res.ofuns_rows (hc.st.hD _ (.head _))) (hc.det (j := 0) rfl rfl rfl rfl) (hc.det (j := 1) rfl rfl rfl rfl) (by omega) (by omega) ⟨[], ⟨rfl, rfl⟩, hc.st⟩) <| RunD.op (det _) tab4 4 (fun f' L' w' hc => Op1.fieldAddr fld54_0 (hc.det (j := 2) rfl rfl rfl rfl) ⟨[], ⟨rfl, rfl⟩, hc.st⟩) <| RunD.op (det _) tab4 5 (fun f' L' w' hc => Op1.load1 (v := .int .u32 _) ty22 rfl (hc.det (j := 3) rfl rfl rfl rfl) (Res.rs2_cellF (Res.ofuns_rows (hc.st.hD _ (.head _))) (flat_cell (g := funC) (d := zeroFun) funC_len rfl (by omega))) ⟨[], ⟨rfl, rfl⟩, hc.st⟩) <| RunD.op (det _) tab4 6 (fun f' L' w' hc => Op1.move (v := .slice _ _ _) (hc.old (v := .slice _ _ _) rfl rfl rfl) ⟨[], ⟨rfl, rfl⟩, hc.st⟩) <| RunD.op (det _) tab4 7 (fun f' L' w' hc => Op1.move (v := .int .i64 _) (hc.old (v := .int .i64 _) rfl rfl rfl) ⟨[], ⟨rfl, rfl⟩, hc.st⟩) <| RunD.op (det _) tab4 8 (fun f' L' w' hc => Op1.indexRs ty45 ty54 (Res.ofuns_rows (hc.st.hD _ (.tail _ (.head _)))) (hc.det (j := 5) rfl rfl rfl rfl) (hc.det (j := 6) rfl rfl rfl rfl) (by omega) (by omega) ⟨[], ⟨rfl, rfl⟩, hc.st⟩) <| RunD.op (det _) tab4 9 (fun f' L' w' hc => Op1.fieldAddr fld54_0 (hc.det (j := 7) rfl rfl rfl rfl) ⟨[], ⟨rfl, rfl⟩, hc.st⟩) <| RunD.op (det _) tab4 10 (fun f' L' w' hc => Op1.load1 (v := .int .u32 _) ty22 rfl (hc.det (j := 8) rfl rfl rfl rfl) (Res.rs2_cellF (Res.ofuns_rows (hc.st.hD _ (.tail _ (.head _)))) (flat_cell (g := funC) (d := zeroFun) funC_len rfl (by omega))) ⟨[], ⟨rfl, rfl⟩, hc.st⟩) <| RunD.op (det _) tab4 11 (fun f' L' w' hc => Op1.neq (hc.det (j := 4) rfl rfl rfl rfl) (hc.det (j := 9) rfl rfl rfl rfl) ⟨[], ⟨rfl, rfl⟩, hc.st⟩) <| RunD.op (det _) tab4 12 (fun f' L' w' hc => Op1.move (v := .bool _) (hc.det (j := 10) rfl rfl rfl rfl) ⟨[], ⟨rfl, rfl⟩, hc.st⟩) <| RunD.splitD (j := 11) rfl (fun g5 => ?_) (fun g5 => ?_)
   · skip
     exfalso
     exact g5 (by rw [hfe])
   refine RunD.take (det _) tab4 13 rfl (fun f' L' w' hc => (hc.det (j := 11) rfl rfl rfl rfl).trans (congrArg Value.bool (decide_eq_false g5))) (fun f' L' w' hc => Op1.move (v := .slice _ _ _) (hc.old (v := .slice _ _ _) rfl rfl rfl) ⟨[], ⟨rfl, rfl⟩, hc.st⟩) <| RunD.take (det _) tab4 14 rfl (fun f' L' w' hc => (hc.det (j := 11) rfl rfl rfl rfl).trans (congrArg Value.bool (decide_eq_false g5))) (fun f' L' w' hc => Op1.move (v := .int .i64 _) (hc.old (v := .int .i64 _) rfl rfl rfl) ⟨[], ⟨rfl, rfl⟩, hc.st⟩) <| RunD.take (det _) tab4 15 rfl (fun f' L' w' hc => (hc.det (j := 11) rfl rfl rfl rfl).trans (congrArg Value.bool (decide_eq_false g5))) (fun f' L' w' hc => Op1.indexRs ty45 ty54 (Res.ofuns_rows (hc.st.hD _ (.head _))) (hc.det (j := 12) rfl rfl rfl rfl) (hc.det (j := 13) rfl rfl rfl rfl) (by omega) (by omega) ⟨[], ⟨rfl, rfl⟩, hc.st⟩) <| RunD.take (det _) tab4 16 rfl (fun f' L' w' hc => (hc.det (j := 11) rfl rfl rfl rfl).trans (congrArg Value.bool (decide_eq_false g5))) (fun f' L' w' hc => Op1.fieldAddr fld54_1 (hc.det (j := 14) rfl rfl rfl rfl) ⟨[], ⟨rfl, rfl⟩, hc.st⟩) <| RunD.take (det _) tab4 17 rfl (fun f' L' w' hc => (hc.det (j := 11) rfl rfl rfl rfl).trans (congrArg Value.bool (decide_eq_false g5))) (fun f' L' w' hc => Op1.load1 (v := .int .i64 _) ty3 rfl (hc.det (j := 15) rfl rfl rfl rfl) (Res.rs2_cellF (Res.ofuns_rows (hc.st.hD _ (.head _))) (flat_cell (g := funC) (d := zeroFun) funC_len rfl (by omega))) ⟨[], ⟨rfl, rfl⟩, hc.st⟩) <| RunD.take (det _) tab4 18 rfl (fun f' L' w' hc => (hc.det (j := 11) rfl rfl rfl rfl).trans (congrArg Value.bool (decide_eq_false g5))) (fun f' L' w' hc => Op1.move (v := .slice _ _ _) (hc.old (v := .slice _ _ _) rfl rfl rfl) ⟨[], ⟨rfl, rfl⟩, hc.st⟩) <| RunD.take (det _) tab4 19 rfl (fun f' L' w' hc => (hc.det (j := 11) rfl rfl rfl rfl).trans (congrArg Value.bool (decide_eq_false g5))) (fun f' L' w' hc => Op1.move (v := .int .i64 _) (hc.old (v := .int .i64 _) rfl rfl rfl) ⟨[], ⟨rfl, rfl⟩, hc.st⟩) <| RunD.take (det _) tab4 20 rfl (fun f' L' w' hc => (hc.det (j := 11) rfl rfl rfl rfl).trans (congrArg Value.bool (decide_eq_false g5))) (fun f' L' w' hc => Op1.indexRs ty45 ty54 (Res.ofuns_rows (hc.st.hD _ (.tail _ (.head _)))) (hc.det (j := 17) rfl rfl rfl rfl) (hc.det (j := 18) rfl rfl rfl rfl) (by omega) (by omega) ⟨[], ⟨rfl, rfl⟩, hc.st⟩) <| RunD.take (det _) tab4 21 rfl (fun f' L' w' hc => (hc.det (j := 11) rfl rfl rfl rfl).trans (congrArg Value.bool (decide_eq_false g5))) (fun f' L' w' hc => Op1.fieldAddr fld54_1 (hc.det (j := 19) rfl rfl rfl rfl) ⟨[], ⟨rfl, rfl⟩, hc.st⟩) <| RunD.take (det _) tab4 22 rfl (fun f' L' w' hc => (hc.det (j := 11) rfl rfl rfl rfl).trans (congrArg Value.bool (decide_eq_false g5))) (fun f' L' w' hc => Op1.load1 (v := .int .i64 _) ty3 rfl (hc.det (j := 20) rfl rfl rfl rfl) (Res.rs2_cellF (Res.ofuns_rows (hc.st.hD _ (.tail _ (.head _)))) (flat_cell (g := funC) (d := zeroFun) funC_len rfl (by omega))) ⟨[], ⟨rfl, rfl⟩, hc.st⟩) <| RunD.take (det _) tab4 23 rfl (fun f' L' w' hc => (hc.det (j := 11) rfl rfl rfl rfl).trans (congrArg Value.bool (decide_eq_false g5))) (fun f' L' w' hc => Op1.neq (hc.det (j := 16) rfl rfl rfl rfl) (hc.det (j := 21) rfl rfl rfl rfl) ⟨[], ⟨rfl, rfl⟩, hc.st⟩) <| RunD.op (det _) tab4 24 (fun f' L' w' hc => Op1.pickF (u := .bool _) (((hc.det (j := 11) rfl rfl rfl rfl)).trans (congrArg Value.bool (decide_eq_false g5))) (hc.det (j := 22) rfl rfl rfl rfl) ⟨[], ⟨rfl, rfl⟩, hc.st⟩) <| RunD.op (det _) tab4 25 (fun f' L' w' hc => Op1.move (v := .bool _) (hc.det (j := 23) rfl rfl rfl rfl) ⟨[], ⟨rfl, rfl⟩, hc.st⟩) <| RunD.splitD (j := 24) rfl (fun g6 => ?_) (fun g6 => ?_)
   · skip
     exfalso
     exact g6 (by rw [hfe])
   refine RunD.take (det _) tab4 26 rfl (fun f' L' w' hc => (hc.det (j := 24) rfl rfl rfl rfl).trans (congrArg Value.bool (decide_eq_false g6))) (fun f' L' w' hc => Op1.move (v := .slice _ _ _) (hc.old (v := .slice _ _ _) rfl rfl rfl) ⟨[], ⟨rfl, rfl⟩, hc.st⟩) <| RunD.take (det _) tab4 27 rfl (fun f' L' w' hc => (hc.det (j := 24) rfl rfl rfl rfl).trans (congrArg Value.bool (decide_eq_false g6))) (fun f' L' w' hc => Op1.move (v := .int .i64 _) (hc.old (v := .int .i64 _) rfl rfl rfl) ⟨[], ⟨rfl, rfl⟩, hc.st⟩) <| RunD.take (det _) tab4 28 rfl (fun f' L' w' hc => (hc.det (j := 24) rfl rfl rfl rfl).trans (congrArg Value.bool (decide_eq_false g6))) (fun f' L' w' hc => Op1.indexRs ty45 ty54 (Res.ofuns_rows (hc.st.hD _ (.head _))) (hc.det (j := 25) rfl rfl rfl rfl) (hc.det (j := 26) rfl rfl rfl rfl) (by omega) (by omega) ⟨[], ⟨rfl, rfl⟩, hc.st⟩) <| RunD.take (det _) tab4 29 rfl (fun f' L' w' hc => (hc.det (j := 24) rfl rfl rfl rfl).trans (congrArg Value.bool (decide_eq_false g6))) (fun f' L' w' hc => Op1.fieldAddr fld54_4 (hc.det (j := 27) rfl rfl rfl rfl) ⟨[], ⟨rfl, rfl⟩, hc.st⟩) <| RunD.take (det _) tab4 30 rfl (fun f' L' w' hc => (hc.det (j := 24) rfl rfl rfl rfl).trans (congrArg Value.bool (decide_eq_false g6))) (fun f' L' w' hc => Op1.load1 (v := .int .i64 _) ty3 rfl (hc.det (j := 28) rfl rfl rfl rfl) (Res.rs2_cellF (Res.ofuns_rows (hc.st.hD _ (.head _))) (flat_cell (g := funC) (d := zeroFun) funC_len rfl (by omega))) ⟨[], ⟨rfl, rfl⟩, hc.st⟩) <| RunD.take (det _) tab4 31 rfl (fun f' L' w' hc => (hc.det (j := 24) rfl rfl rfl rfl).trans (congrArg Value.bool (decide_eq_false g6))) (fun f' L' w' hc => Op1.move (v := .slice _ _ _) (hc.old (v := .slice _ _ _) rfl rfl rfl) ⟨[], ⟨rfl, rfl⟩, hc.st⟩) <| RunD.take (det _) tab4 32 rfl (fun f' L' w' hc => (hc.det (j := 24) rfl rfl rfl rfl).trans (congrArg Value.bool (decide_eq_false g6))) (fun f' L' w' hc => Op1.move (v := .int .i64 _) (hc.old (v := .int .i64 _) rfl rfl rfl) ⟨[], ⟨rfl, rfl⟩, hc.st⟩) <| RunD.take (det _) tab4 33 rfl (fun f' L' w' hc => (hc.det (j := 24) rfl rfl rfl rfl).trans (congrArg Value.bool (decide_eq_false g6))) (fun f' L' w' hc => Op1.indexRs ty45 ty54 (Res.ofuns_rows (hc.st.hD _ (.tail _ (.head _)))) (hc.det (j := 30) rfl rfl rfl rfl) (hc.det (j := 31) rfl rfl rfl rfl) (by omega) (by omega) ⟨[], ⟨rfl, rfl⟩, hc.st⟩) <| RunD.take (det _) tab4 34 rfl (fun f' L' w' hc => (hc.det (j := 24) rfl rfl rfl rfl).trans (congrArg Value.bool (decide_eq_false g6))) (fun f' L' w' hc => Op1.fieldAddr fld54_4 (hc.det (j := 32) rfl rfl rfl rfl) ⟨[], ⟨rfl, rfl⟩, hc.st⟩) <| RunD.take (det _) tab4 35 rfl (fun f' L' w' hc => (hc.det (j := 24) rfl rfl rfl rfl).trans (congrArg Value.bool (decide_eq_false g6))) (fun f' L' w' hc => Op1.load1 (v := .int .i64 _) ty3 rfl (hc.det (j := 33) rfl rfl rfl rfl) (Res.rs2_cellF (Res.ofuns_rows (hc.st.hD _ (.tail _ (.head _)))) (flat_cell (g := funC) (d := zeroFun) funC_len rfl (by omega))) ⟨[], ⟨rfl, rfl⟩, hc.st⟩) <| RunD.take (det _) tab4 36 rfl (fun f' L' w' hc => (hc.det (j := 24) rfl rfl rfl rfl).trans (congrArg Value.bool (decide_eq_false g6))) (fun f' L' w' hc => Op1.neq (hc.det (j := 29) rfl rfl rfl rfl) (hc.det (j := 34) rfl rfl rfl rfl) ⟨[], ⟨rfl, rfl⟩, hc.st⟩) <| RunD.op (det _) tab4 37 (fun f' L' w' hc => Op1.pickF (u := .bool _) (((hc.det (j := 24) rfl rfl rfl rfl)).trans (congrArg Value.bool (decide_eq_false g6))) (hc.det (j := 35) rfl rfl rfl rfl) ⟨[], ⟨rfl, rfl⟩, hc.st⟩) <| RunD.op (det _) tab4 38 (fun f' L' w' hc => Op1.move (v := .bool _) (hc.det (j := 36) rfl rfl rfl rfl) ⟨[], ⟨rfl, rfl⟩, hc.st⟩) <| RunD.splitD (j := 37) rfl (fun g7 => ?_) (fun g7 => ?_)
   · skip
     exfalso
     exact g7 (by rw [hfe])
   refine RunD.take (det _) tab4 39 rfl (fun f' L' w' hc => (hc.det (j := 37) rfl rfl rfl rfl).trans (congrArg Value.bool (decide_eq_false g7))) (fun f' L' w' hc => Op1.move (v := .slice _ _ _) (hc.old (v := .slice _ _ _) rfl rfl rfl) ⟨[], ⟨rfl, rfl⟩, hc.st⟩) <| RunD.take (det _) tab4 40 rfl (fun f' L' w' hc => (hc.det (j := 37) rfl rfl rfl rfl).trans (congrArg Value.bool (decide_eq_false g7))) (fun f' L' w' hc => Op1.move (v := .int .i64 _) (hc.old (v := .int .i64 _) rfl rfl rfl) ⟨[], ⟨rfl, rfl⟩, hc.st⟩) <| RunD.take (det _) tab4 41 rfl (fun f' L' w' hc => (hc.det (j := 37) rfl rfl rfl rfl).trans (congrArg Value.bool (decide_eq_false g7))) (fun f' L' w' hc => Op1.indexRs ty45 ty54 (Res.ofuns_rows (hc.st.hD _ (.head _))) (hc.det (j := 38) rfl rfl rfl rfl) (hc.det (j := 39) rfl rfl rfl rfl) (by omega) (by omega) ⟨[], ⟨rfl, rfl⟩, hc.st⟩) <| RunD.take (det _) tab4 42 rfl (fun f' L' w' hc => (hc.det (j := 37) rfl rfl rfl rfl).trans (congrArg Value.bool (decide_eq_false g7))) (fun f' L' w' hc => Op1.fieldAddr fld54_2 (hc.det (j := 40) rfl rfl rfl rfl) ⟨[], ⟨rfl, rfl⟩, hc.st⟩) <| RunD.take (det _) tab4 43 rfl (fun f' L' w' hc => (hc.det (j := 37) rfl rfl rfl rfl).trans (congrArg Value.bool (decide_eq_false g7))) (fun f' L' w' hc => Op1.load1 (v := .slice _ _ _) ty51 rfl (hc.det (j := 41) rfl rfl rfl rfl) (Res.rs2_cellF (Res.ofuns_rows (hc.st.hD _ (.head _))) (flat_cell (g := funC) (d := zeroFun) funC_len rfl (by omega))) ⟨[], ⟨rfl, rfl⟩, hc.st⟩) <| RunD.take (det _) tab4 44 rfl (fun f' L' w' hc => (hc.det (j := 37) rfl rfl rfl rfl).trans (congrArg Value.bool (decide_eq_false g7))) (fun f' L' w' hc => Op1.move (v := .slice _ _ _) (hc.old (v := .slice _ _ _) rfl rfl rfl) ⟨[], ⟨rfl, rfl⟩, hc.st⟩) <| RunD.take (det _) tab4 45 rfl (fun f' L' w' hc => (hc.det (j := 37) rfl rfl rfl rfl).trans (congrArg Value.bool (decide_eq_false g7))) (fun f' L' w' hc => Op1.move (v := .int .i64 _) (hc.old (v := .int .i64 _) rfl rfl rfl) ⟨[], ⟨rfl, rfl⟩, hc.st⟩) <| RunD.take (det _) tab4 46 rfl (fun f' L' w' hc => (hc.det (j := 37) rfl rfl rfl rfl).trans (congrArg Value.bool (decide_eq_false g7))) (fun f' L' w' hc => Op1.indexRs ty45 ty54 (Res.ofuns_rows (hc.st.hD _ (.tail _ (.head _)))) (hc.det (j := 43) rfl rfl rfl rfl) (hc.det (j := 44) rfl rfl rfl rfl) (by omega) (by omega) ⟨[], ⟨rfl, rfl⟩, hc.st⟩) <| RunD.take (det _) tab4 47 rfl (fun f' L' w' hc => (hc.det (j := 37) rfl rfl rfl rfl).trans (congrArg Value.bool (decide_eq_false g7))) (fun f' L' w' hc => Op1.fieldAddr fld54_2 (hc.det (j := 45) rfl rfl rfl rfl) ⟨[], ⟨rfl, rfl⟩, hc.st⟩) <| RunD.take (det _) tab4 48 rfl (fun f' L' w' hc => (hc.det (j := 37) rfl rfl rfl rfl).trans (congrArg Value.bool (decide_eq_false g7))) (fun f' L' w' hc => Op1.load1 (v := .slice _ _ _) ty51 rfl (hc.det (j := 46) rfl rfl rfl rfl) (Res.rs2_cellF (Res.ofuns_rows (hc.st.hD _ (.tail _ (.head _)))) (flat_cell (g := funC) (d := zeroFun) funC_len rfl (by omega))) ⟨[], ⟨rfl, rfl⟩, hc.st⟩) <| RunD.take (det _) tab4 49 rfl (fun f' L' w' hc => (hc.det (j := 37) rfl rfl rfl rfl).trans (congrArg Value.bool (decide_eq_false g7))) (fun f' L' w' hc => Op1.call2 (v1 := .slice _ _ _) (v2 := .slice _ _ _) ent31 rfl (hc.det (j := 42) rfl rfl rfl rfl) (hc.det (j := 47) rfl rfl rfl rfl) ((R5kit_IntsS (xs.getD (n : Int).toNat zeroFun).fu.params (ys.getD (n : Int).toNat zeroFun).fu.params (by rw [hfe]) _ _ _ _ _ (Res.ofuns_params (hc.st.hD _ (.head _)) (n := (n : Int).toNat) (by omega)) (Res.ofuns_params (hc.st.hD _ (.tail _ (.head _))) (n := (n : Int).toNat) (by omega)) hbz.2).mono fun v w hp => ⟨[], ⟨hp.1, rfl⟩, hc.st.keepc hp.2⟩)) <| RunD.take (det _) tab4 50 rfl (fun f' L' w' hc => (hc.det (j := 37) rfl rfl rfl rfl).trans (congrArg Value.bool (decide_eq_false g7))) (fun f' L' w' hc => Op1.not (hc.det (j := 48) rfl rfl rfl rfl) ⟨[], ⟨rfl, rfl⟩, hc.st⟩) <| RunD.op (det _) tab4 51 (fun f' L' w' hc => Op1.pickF (u := .bool _) (((hc.det (j := 37) rfl rfl rfl rfl)).trans (congrArg Value.bool (decide_eq_false g7))) (hc.det (j := 49) rfl rfl rfl rfl) ⟨[], ⟨rfl, rfl⟩, hc.st⟩) <| RunD.op (det _) tab4 52 (fun f' L' w' hc => Op1.move (v := .bool _) (hc.det (j := 50) rfl rfl rfl rfl) ⟨[], ⟨rfl, rfl⟩, hc.st⟩) <| RunD.take (det _) tab4 53 rfl (fun f' L' w' hc => (hc.det (j := 51) rfl rfl rfl rfl).trans (congrArg Value.bool (congrArg not (rfl : true = _)))) (fun f' L' w' hc => Op1.move (v := .slice _ _ _) (hc.old (v := .slice _ _ _) rfl rfl rfl) ⟨[], ⟨rfl, rfl⟩, hc.st⟩) ?_
   refine RunD.take (det _) tab4 54 rfl (fun f' L' w' hc => (hc.det (j := 51) rfl rfl rfl rfl).trans (congrArg Value.bool (congrArg not (rfl : true = _)))) (fun f' L' w' hc => Op1.move (v := .int .i64 _) (hc.old (v := .int .i64 _) rfl rfl rfl) ⟨[], ⟨rfl, rfl⟩, hc.st⟩) <| RunD.take (det _) tab4 55 rfl (fun f' L' w' hc => (hc.det (j := 51) rfl rfl rfl rfl).trans (congrArg Value.bool (congrArg not (rfl : true = _)))) (fun f' L' w' hc => Op1.indexRs ty45 ty54 (Res.ofuns_rows (hc.st.hD _ (.head _))) (hc.det (j := 52) rfl rfl rfl rfl) (hc.det (j := 53) rfl rfl rfl rfl) (by omega) (by omega) ⟨[], ⟨rfl, rfl⟩, hc.st⟩) <| RunD.take (det _) tab4 56 rfl (fun f' L' w' hc => (hc.det (j := 51) rfl rfl rfl rfl).trans (congrArg Value.bool (congrArg not (rfl : true = _)))) (fun f' L' w' hc => Op1.fieldAddr fld54_3 (hc.det (j := 54) rfl rfl rfl rfl) ⟨[], ⟨rfl, rfl⟩, hc.st⟩) <| RunD.take (det _) tab4 57 rfl (fun f' L' w' hc => (hc.det (j := 51) rfl rfl rfl rfl).trans (congrArg Value.bool (congrArg not (rfl : true = _)))) (fun f' L' w' hc => Op1.load1 (v := .slice _ _ _) ty52 rfl (hc.det (j := 55) rfl rfl rfl rfl) (Res.rs2_cellF (Res.ofuns_rows (hc.st.hD _ (.head _))) (flat_cell (g := funC) (d := zeroFun) funC_len rfl (by omega))) ⟨[], ⟨rfl, rfl⟩, hc.st⟩) <| RunD.take (det _) tab4 58 rfl (fun f' L' w' hc => (hc.det (j := 51) rfl rfl rfl rfl).trans (congrArg Value.bool (congrArg not (rfl : true = _)))) (fun f' L' w' hc => Op1.lenSl (rest := []) ty52 (hc.det (j := 56) rfl rfl rfl rfl) ⟨[], ⟨rfl, rfl⟩, hc.st⟩) <| RunD.take (det _) tab4 59 rfl (fun f' L' w' hc => (hc.det (j := 51) rfl rfl rfl rfl).trans (congrArg Value.bool (congrArg not (rfl : true = _)))) (fun f' L' w' hc => Op1.move (v := .slice _ _ _) (hc.old (v := .slice _ _ _) rfl rfl rfl) ⟨[], ⟨rfl, rfl⟩, hc.st⟩) <| RunD.take (det _) tab4 60 rfl (fun f' L' w' hc => (hc.det (j := 51) rfl rfl rfl rfl).trans (congrArg Value.bool (congrArg not (rfl : true = _)))) (fun f' L' w' hc => Op1.move (v := .int .i64 _) (hc.old (v := .int .i64 _) rfl rfl rfl) ⟨[], ⟨rfl, rfl⟩, hc.st⟩) <| RunD.take (det _) tab4 61 rfl (fun f' L' w' hc => (hc.det (j := 51) rfl rfl rfl rfl).trans (congrArg Value.bool (congrArg not (rfl : true = _)))) (fun f' L' w' hc => Op1.indexRs ty45 ty54 (Res.ofuns_rows (hc.st.hD _ (.tail _ (.head _)))) (hc.det (j := 58) rfl rfl rfl rfl) (hc.det (j := 59) rfl rfl rfl rfl) (by omega) (by omega) ⟨[], ⟨rfl, rfl⟩, hc.st⟩) <| RunD.take (det _) tab4 62 rfl (fun f' L' w' hc => (hc.det (j := 51) rfl rfl rfl rfl).trans (congrArg Value.bool (congrArg not (rfl : true = _)))) (fun f' L' w' hc => Op1.fieldAddr fld54_3 (hc.det (j := 60) rfl rfl rfl rfl) ⟨[], ⟨rfl, rfl⟩, hc.st⟩) <| RunD.take (det _) tab4 63 rfl (fun f' L' w' hc => (hc.det (j := 51) rfl rfl rfl rfl).trans (congrArg Value.bool (congrArg not (rfl : true = _)))) (fun f' L' w' hc => Op1.load1 (v := .slice _ _ _) ty52 rfl (hc.det (j := 61) rfl rfl rfl rfl) (Res.rs2_cellF (Res.ofuns_rows (hc.st.hD _ (.tail _ (.head _)))) (flat_cell (g := funC) (d := zeroFun) funC_len rfl (by omega))) ⟨[], ⟨rfl, rfl⟩, hc.st⟩) <| RunD.take (det _) tab4 64 rfl (fun f' L' w' hc => (hc.det (j := 51) rfl rfl rfl rfl).trans (congrArg Value.bool (congrArg not (rfl : true = _)))) (fun f' L' w' hc => Op1.lenSl (rest := []) ty52 (hc.det (j := 62) rfl rfl rfl rfl) ⟨[], ⟨rfl, rfl⟩, hc.st⟩) <| RunD.fin followsMixed tab4 hst rfl (fun f8 w R11 hs9 hd10 hr12 hst => ?_)
   obtain ⟨h18_, r0⟩ := hd10 0 18 rfl rfl
   obtain ⟨h19_, r1⟩ := hd10 1 19 rfl rfl
   obtain ⟨h20_, r2⟩ := hd10 2 20 rfl rfl
   obtain ⟨h21_, r3⟩ := hd10 3 21 rfl rfl
   obtain ⟨h22_, r4⟩ := hd10 4 22 rfl rfl
   obtain ⟨h23_, r5⟩ := hd10 5 23 rfl rfl
   obtain ⟨h24_, r6⟩ := hd10 6 24 rfl rfl
   obtain ⟨h25_, r7⟩ := hd10 7 25 rfl rfl
   obtain ⟨h26_, r8⟩ := hd10 8 26 rfl rfl
   obtain ⟨h27_, r9⟩ := hd10 9 27 rfl rfl
   obtain ⟨h28_, r10⟩ := hd10 10 28 rfl rfl
   obtain ⟨h29_, r11⟩ := hd10 11 29 rfl rfl
   obtain ⟨h30_, r12⟩ := hd10 12 30 rfl rfl
   obtain ⟨h31_, r13⟩ := hd10 13 31 rfl rfl
   obtain ⟨h32_, r14⟩ := hd10 14 32 rfl rfl
   obtain ⟨h33_, r15⟩ := hd10 15 33 rfl rfl
   obtain ⟨h34_, r16⟩ := hd10 16 34 rfl rfl
   obtain ⟨h35_, r17⟩ := hd10 17 35 rfl rfl
   obtain ⟨h36_, r18⟩ := hd10 18 36 rfl rfl
   obtain ⟨h37_, r19⟩ := hd10 19 37 rfl rfl
   obtain ⟨h38_, r20⟩ := hd10 20 38 rfl rfl
   obtain ⟨h39_, r21⟩ := hd10 21 39 rfl rfl
   obtain ⟨h40_, r22⟩ := hd10 22 40 rfl rfl
   obtain ⟨h41_, r23⟩ := hd10 23 41 rfl rfl
   obtain ⟨h42_, r24⟩ := hd10 24 42 rfl rfl
   obtain ⟨h43_, r25⟩ := hd10 25 43 rfl rfl
   obtain ⟨h44_, r26⟩ := hd10 26 44 rfl rfl
   obtain ⟨h45_, r27⟩ := hd10 27 45 rfl rfl
   obtain ⟨h46_, r28⟩ := hd10 28 46 rfl rfl
   obtain ⟨h47_, r29⟩ := hd10 29 47 rfl rfl
   obtain ⟨h48_, r30⟩ := hd10 30 48 rfl rfl
   obtain ⟨h49_, r31⟩ := hd10 31 49 rfl rfl
   obtain ⟨h50_, r32⟩ := hd10 32 50 rfl rfl
   obtain ⟨h51_, r33⟩ := hd10 33 51 rfl rfl
   obtain ⟨h52_, r34⟩ := hd10 34 52 rfl rfl
   obtain ⟨h53_, r35⟩ := hd10 35 53 rfl rfl
   obtain ⟨h54_, r36⟩ := hd10 36 54 rfl rfl
   obtain ⟨h55_, r37⟩ := hd10 37 55 rfl rfl
   obtain ⟨h56_, r38⟩ := hd10 38 56 rfl rfl
   obtain ⟨h57_, r39⟩ := hd10 39 57 rfl rfl
   obtain ⟨h58_, r40⟩ := hd10 40 58 rfl rfl
   obtain ⟨h59_, r41⟩ := hd10 41 59 rfl rfl
   obtain ⟨h60_, r42⟩ := hd10 42 60 rfl rfl
   obtain ⟨h61_, r43⟩ := hd10 43 61 rfl rfl
   obtain ⟨h62_, r44⟩ := hd10 44 62 rfl rfl
   obtain ⟨h63_, r45⟩ := hd10 45 63 rfl rfl
   obtain ⟨h64_, r46⟩ := hd10 46 64 rfl rfl
   obtain ⟨h65_, r47⟩ := hd10 47 65 rfl rfl
   obtain ⟨h66_, r48⟩ := hd10 48 66 rfl rfl
   obtain ⟨h67_, r49⟩ := hd10 49 67 rfl rfl
   obtain ⟨h68_, r50⟩ := hd10 50 68 rfl rfl
   obtain ⟨h69_, r51⟩ := hd10 51 69 rfl rfl
   obtain ⟨h70_, r52⟩ := hd10 52 70 rfl rfl
   obtain ⟨h71_, r53⟩ := hd10 53 71 rfl rfl
   obtain ⟨h72_, r54⟩ := hd10 54 72 rfl rfl
   obtain ⟨h73_, r55⟩ := hd10 55 73 rfl rfl
   obtain ⟨h74_, r56⟩ := hd10 56 74 rfl rfl
   obtain ⟨h75_, r57⟩ := hd10 57 75 rfl rfl
   obtain ⟨h76_, r58⟩ := hd10 58 76 rfl rfl
   obtain ⟨h77_, r59⟩ := hd10 59 77 rfl rfl
   obtain ⟨h78_, r60⟩ := hd10 60 78 rfl rfl
   obtain ⟨h79_, r61⟩ := hd10 61 79 rfl rfl
   obtain ⟨h80_, r62⟩ := hd10 62 80 rfl rfl
   obtain ⟨h81_, r63⟩ := hd10 63 81 rfl rfl
   simp only [show List.range 64 = [0, 1, 2, 3, 4, 5, 6, 7, 8, 9, 10, 11, 12, 13, 14, 15, 16, 17, 18, 19, 20, 21, 22, 23, 24, 25, 26, 27, 28, 29, 30, 31, 32, 33, 34, 35, 36, 37, 38, 39, 40, 41, 42, 43, 44, 45, 46, 47, 48, 49, 50, 51, 52, 53, 54, 55, 56, 57, 58, 59, 60, 61, 62, 63] from rfl, List.flatMap_cons, List.flatMap_nil, List.map_cons, List.map_nil, r0, r1, r2, r3, r4, r5, r6, r7, r8, r9, r10, r11, r12, r13, r14, r15, r16, r17, r18, r19, r20, r21, r22, r23, r24, r25, r26, r27, r28, r29, r30, r31, r32, r33, r34, r35, r36, r37, r38, r39, r40, r41, r42, r43, r44, r45, r46, r47, r48, r49, r50, r51, r52, r53, r54, r55, r56, r57, r58, r59, r60, r61, r62, r63, List.nil_append, List.append_nil, List.cons_append] at hst
   refine RunL.slots (sl := [(0, .slice _ _ _), (1, .slice _ _ _), (5, .int .i64 _), (69, .bool _), (75, .int .i64 _), (81, .int .i64 _)]) ⟨(hs9 0 rfl).trans rfl, (hs9 1 rfl).trans rfl, (hs9 5 rfl).trans rfl, h69_, h75_, h81_, trivial⟩ ?_
   clear hs9 hd10 hr12 tab4
   refine TK (t := 69) rfl (congrArg Value.bool (congrArg not (rfl : true = _))) <| Op1.neq rfl rfl <| CN <| Op1.pickF (u := .bool _) (congrArg Value.bool (congrArg not (rfl : true = _))) rfl <| NL <| Run.forget [(0, .slice _ _ _), (1, .slice _ _ _), (5, .int .i64 _), (83, .bool _)] ⟨rfl, rfl, rfl, rfl, trivial⟩ fun f => run_cond_dec rfl (fun g13 => ?_) (fun g13 => ?_)
   · skip
     exfalso
     exact g13 (by omega)
   refine run_skip <| SR <| AI rfl <| NL <| run_block <| run_loop <| Run.indW [(0, .slice _ _ _), (1, .slice _ _ _), (5, .int .i64 _)] ⟨rfl, rfl, rfl, trivial⟩ (fun (k : Nat) => [(6, .int .i64 (k : Int))]) (fun (k : Nat) => []) (fun (k : Nat) => k ≤ (xs.getD (n : Int).toNat zeroFun).fu.blocks.length) (fun (k : Nat) => (xs.getD (n : Int).toNat zeroFun).fu.blocks.length - k) (0) hst (Nat.zero_le _) ⟨rfl, trivial⟩ ?_
   intro k f w hst hK ih14
   refine SQ <| SR <| MI rfl <| ML rfl <| MI rfl <| CN <| Op1.indexRs ty45 ty54 (Res.ofuns_rows (hst.hD _ (.head _))) rfl rfl (by omega) (by omega) <| CN <| Op1.fieldAddr fld54_3 rfl <| CN <| Op1.load1 (v := .slice (xs.getD (n : Int).toNat zeroFun).bo (xs.getD (n : Int).toNat zeroFun).fu.blocks.length (xs.getD (n : Int).toNat zeroFun).bc) ty52 rfl rfl (Res.rs2_cellF (Res.ofuns_rows (hst.hD _ (.head _))) (flat_cell (g := funC) (d := zeroFun) funC_len rfl (by omega))) <| CN <| Op1.lenSl (rest := []) ty52 rfl <| CN <| Op1.lss rfl rfl <| NL <| run_cond_dec rfl (fun g15 => ?_) (fun g15 => ?_)
   · skip
     refine run_skip <| SQ <| run_block <| SQ <| RunD.start [] hst (bs := [0, 0, 3, 7, 15, 0, 63, 127, 0, 0, 768, 1792, 3840, 0, 16128, 32512, 65535]) (ds := [some 94, some 95, some 96, some 97, some 98, some 99, some 100, some 101, some 102, some 103, some 104, some 105, some 106, some 107, some 108, some 109, some 110]) ⟨by kernel_rfl, by kernel_rfl, by kernel_rfl⟩ (fun tab16 => ?_)
     refine RunD.op (det _) tab16 1 (fun f' L' w' hc => Op1.move (v := .slice _ _ _) (hc.old (v := .slice _ _ _) rfl rfl rfl) ⟨[], ⟨rfl, rfl⟩, hc.st⟩) <| RunD.op (det _) tab16 2 (fun f' L' w' hc => Op1.move (v := .int .i64 _) (hc.old (v := .int .i64 _) rfl rfl rfl) ⟨[], ⟨rfl, rfl⟩, hc.st⟩) <| RunD.op (det _) tab16 3 (fun f' L' w' hc => Op1.indexRs ty45 ty54 (Res.ofuns_rows (hc.st.hD _ (.head _))) (hc.det (j := 0) rfl rfl rfl rfl) (hc.det (j := 1) rfl rfl rfl rfl) (by omega) (by omega) ⟨[], ⟨rfl, rfl⟩, hc.st⟩) <| RunD.op (det _) tab16 4 (fun f' L' w' hc => Op1.fieldAddr fld54_3 (hc.det (j := 2) rfl rfl rfl rfl) ⟨[], ⟨rfl, rfl⟩, hc.st⟩) <| RunD.op (det _) tab16 5 (fun f' L' w' hc => Op1.load1 (v := .slice (xs.getD (n : Int).toNat zeroFun).bo (xs.getD (n : Int).toNat zeroFun).fu.blocks.length (xs.getD (n : Int).toNat zeroFun).bc) ty52 rfl (hc.det (j := 3) rfl rfl rfl rfl) (Res.rs2_cellF (Res.ofuns_rows (hc.st.hD _ (.head _))) (flat_cell (g := funC) (d := zeroFun) funC_len rfl (by omega))) ⟨[], ⟨rfl, rfl⟩, hc.st⟩) <| RunD.op (det _) tab16 6 (fun f' L' w' hc => Op1.move (v := .int .i64 _) (hc.old (v := .int .i64 _) rfl rfl rfl) ⟨[], ⟨rfl, rfl⟩, hc.st⟩) <| RunD.op (det _) tab16 7 (fun f' L' w' hc => Op1.indexRs ty52 ty56 (Res.ofuns_blocks (hc.st.hD _ (.head _)) (n := (n : Int).toNat) (by omega)) (hc.det (j := 4) rfl rfl rfl rfl) (hc.det (j := 5) rfl rfl rfl rfl) (by omega) (by omega) ⟨[], ⟨rfl, rfl⟩, hc.st⟩) <| RunD.op (det _) tab16 8 (fun f' L' w' hc => Op1.loadA (vs := [.int .u32 _, .int .i64 _, .int .i64 _]) ty56 rfl (hc.det (j := 6) rfl rfl rfl rfl) rfl (Res.rs2_cells (m := 3) (Res.ofuns_blocks (hc.st.hD _ (.head _)) (n := (n : Int).toNat) (by omega)) _ (flat_seg (g := bkC) (d := zeroB) bkC_len _ _ (by omega))) ⟨[], ⟨rfl, rfl⟩, hc.st⟩) <| RunD.op (det _) tab16 9 (fun f' L' w' hc => Op1.move (v := .slice _ _ _) (hc.old (v := .slice _ _ _) rfl rfl rfl) ⟨[], ⟨rfl, rfl⟩, hc.st⟩) <| RunD.op (det _) tab16 10 (fun f' L' w' hc => Op1.move (v := .int .i64 _) (hc.old (v := .int .i64 _) rfl rfl rfl) ⟨[], ⟨rfl, rfl⟩, hc.st⟩) <| RunD.op (det _) tab16 11 (fun f' L' w' hc => Op1.indexRs ty45 ty54 (Res.ofuns_rows (hc.st.hD _ (.tail _ (.head _)))) (hc.det (j := 8) rfl rfl rfl rfl) (hc.det (j := 9) rfl rfl rfl rfl) (by omega) (by omega) ⟨[], ⟨rfl, rfl⟩, hc.st⟩) <| RunD.op (det _) tab16 12 (fun f' L' w' hc => Op1.fieldAddr fld54_3 (hc.det (j := 10) rfl rfl rfl rfl) ⟨[], ⟨rfl, rfl⟩, hc.st⟩) <| RunD.op (det _) tab16 13 (fun f' L' w' hc => Op1.load1 (v := .slice (ys.getD (n : Int).toNat zeroFun).bo (ys.getD (n : Int).toNat zeroFun).fu.blocks.length (ys.getD (n : Int).toNat zeroFun).bc) ty52 rfl (hc.det (j := 11) rfl rfl rfl rfl) (Res.rs2_cellF (Res.ofuns_rows (hc.st.hD _ (.tail _ (.head _)))) (flat_cell (g := funC) (d := zeroFun) funC_len rfl (by omega))) ⟨[], ⟨rfl, rfl⟩, hc.st⟩) <| RunD.op (det _) tab16 14 (fun f' L' w' hc => Op1.move (v := .int .i64 _) (hc.old (v := .int .i64 _) rfl rfl rfl) ⟨[], ⟨rfl, rfl⟩, hc.st⟩) <| RunD.op (det _) tab16 15 (fun f' L' w' hc => Op1.indexRs ty52 ty56 (Res.ofuns_blocks (hc.st.hD _ (.tail _ (.head _))) (n := (n : Int).toNat) (by omega)) (hc.det (j := 12) rfl rfl rfl rfl) (hc.det (j := 13) rfl rfl rfl rfl) (by omega) (by omega) ⟨[], ⟨rfl, rfl⟩, hc.st⟩) ?_
     refine RunD.op (det _) tab16 16 (fun f' L' w' hc => Op1.loadA (vs := [.int .u32 _, .int .i64 _, .int .i64 _]) ty56 rfl (hc.det (j := 14) rfl rfl rfl rfl) rfl (Res.rs2_cells (m := 3) (Res.ofuns_blocks (hc.st.hD _ (.tail _ (.head _))) (n := (n : Int).toNat) (by omega)) _ (flat_seg (g := bkC) (d := zeroB) bkC_len _ _ (by omega))) ⟨[], ⟨rfl, rfl⟩, hc.st⟩) <| RunD.fin followsMixed tab16 hst rfl (fun f17 w R20 hs18 hd19 hr21 hst => ?_)
     obtain ⟨h94_, r0⟩ := hd19 0 94 rfl rfl
     obtain ⟨h95_, r1⟩ := hd19 1 95 rfl rfl
     obtain ⟨h96_, r2⟩ := hd19 2 96 rfl rfl
     obtain ⟨h97_, r3⟩ := hd19 3 97 rfl rfl
     obtain ⟨h98_, r4⟩ := hd19 4 98 rfl rfl
     obtain ⟨h99_, r5⟩ := hd19 5 99 rfl rfl
     obtain ⟨h100_, r6⟩ := hd19 6 100 rfl rfl
     obtain ⟨h101_, r7⟩ := hd19 7 101 rfl rfl
     obtain ⟨h102_, r8⟩ := hd19 8 102 rfl rfl
     obtain ⟨h103_, r9⟩ := hd19 9 103 rfl rfl
     obtain ⟨h104_, r10⟩ := hd19 10 104 rfl rfl
     obtain ⟨h105_, r11⟩ := hd19 11 105 rfl rfl
     obtain ⟨h106_, r12⟩ := hd19 12 106 rfl rfl
     obtain ⟨h107_, r13⟩ := hd19 13 107 rfl rfl
     obtain ⟨h108_, r14⟩ := hd19 14 108 rfl rfl
     obtain ⟨h109_, r15⟩ := hd19 15 109 rfl rfl
     simp only [show List.range 16 = [0, 1, 2, 3, 4, 5, 6, 7, 8, 9, 10, 11, 12, 13, 14, 15] from rfl, List.flatMap_cons, List.flatMap_nil, List.map_cons, List.map_nil, r0, r1, r2, r3, r4, r5, r6, r7, r8, r9, r10, r11, r12, r13, r14, r15, List.nil_append, List.append_nil, List.cons_append] at hst
     refine RunL.slots (sl := [(0, .slice _ _ _), (1, .slice _ _ _), (5, .int .i64 _), (6, .int .i64 _), (101, .agg #[.int .u32 _, .int .i64 _, .int .i64 _]), (109, .agg #[.int .u32 _, .int .i64 _, .int .i64 _])]) ⟨(hs18 0 rfl).trans rfl, (hs18 1 rfl).trans rfl, (hs18 5 rfl).trans rfl, (hs18 6 rfl).trans rfl, h101_, h109_, trivial⟩ ?_
     clear hs18 hd19 hr21 tab16
     refine CN <| Op1.neqA (xs := [.int .u32 _, .int .i64 _, .int .i64 _]) (ys := [.int .u32 _, .int .i64 _, .int .i64 _]) rfl rfl (by kernel_rfl) (EqOk.struct Try.underlying56 (by kernel_rfl) (.cons (by decide) (PartOk.one ty22 rfl rfl) (PartOk.one ty22 rfl rfl) (EqOk.int ty22) (.cons (by decide) (PartOk.one ty3 rfl rfl) (PartOk.one ty3 rfl rfl) (EqOk.int ty3) (.cons (by decide) (PartOk.one ty3 rfl rfl) (PartOk.one ty3 rfl rfl) (EqOk.int ty3) .nil)))) <| NL <| Run.forget [(0, .slice _ _ _), (1, .slice _ _ _), (5, .int .i64 _), (6, .int .i64 _), (110, .bool _)] ⟨rfl, rfl, rfl, rfl, rfl, trivial⟩ fun f => run_cond_split rfl (fun g22 => ?_) (fun g22 => ?_)
     · skip
       exfalso
       rw [hfe] at g22; simp at g22
     refine run_skip <| run_inBlock <| RG <| MI rfl <| CN <| Op1.addN rfl rfl rfl (wrap_i64 (by omega) (by omega)) <| AI rfl <| NL <| run_inLoop ?_
     exact ih14 (k + 1) _ w (by omega) hst (by omega) ⟨rfl, rfl, rfl, trivial⟩ ⟨(congrArg (Value.int .i64) (by omega)), trivial⟩
   refine run_exit (id := 2) rfl <| run_inBlock <| RG <| MI rfl <| CN <| Op1.addN rfl rfl rfl (wrap_i64 (by omega) (by omega)) <| AI rfl <| NL <| run_inLoop ?_
   exact ih2 (n + 1) _ w (by omega) hst (by omega) ⟨rfl, rfl, trivial⟩ ⟨(congrArg (Value.int .i64) (by omega)), trivial⟩
 refine run_exit (id := 0) rfl <| SR <| AB rfl <| NL <| run_ret1 Try.func19 rfl (TP (v := .bool _) rfl) ?_
 exact ⟨rfl, hst.pure⟩
end Go.SK
namespace Go.SK
open Go Go.Proofs
theorem ent16 : Enters Try.prog 16 := ⟨Try.f16, _, Try.func16, by kernel_rfl, rfl⟩
theorem ent18 : Enters Try.prog 18 := ⟨Try.f18, _, Try.func18, by kernel_rfl, rfl⟩
theorem ent19 : Enters Try.prog 19 := ⟨Try.f19, _, Try.func19, by kernel_rfl, rfl⟩
theorem ent20 : Enters Try.prog 20 := ⟨Try.f20, _, Try.func20, by kernel_rfl, rfl⟩
end Go.SK
namespace Go.SK
open Go Go.Proofs
open Go.RowKit
theorem R5ly_CutU {ga ba e a : Int} {l dm : List InstP} (hd : dm.map InstP.L = l.map InstP.L) (hC : checkF ba (l.map InstP.L) = (e, a)) (ao : Option Addr) (cp : Nat) (w : World) (hA : (Res.rmod ao dm).holds w) (hs : Small dm) : Ret Try.prog 17 #[.agg #[.int .u32 ga, .int .u32 ba, .slice ao dm.length cp]] w (fun v w' => ∃ fo fc xs, xs.map FunP.fu = cutF ba (l.map InstP.L) ∧ v = .tuple #[.slice fo xs.length fc, .agg #[.int .i64 e, .int .i64 a]] ∧ St w NoM [Res.ofuns 54 3 56 fo fc xs] [] w') := by
 refine (R5ly_Cut ga ba dm ao cp w hA hs).mono fun v w' hp => ?_
 rw [hd, insts_len hd, hC] at hp
 unfold cutF
 rw [hC]
 rcases hp with ⟨fo, fc, xs, h0, hxs, rfl, hp⟩ | ⟨hne, rfl, hp⟩
 · obtain ⟨he, ha⟩ := Prod.mk.inj h0
   subst he ha
   exact ⟨fo, fc, xs, by rw [if_pos rfl, hxs, List.length_map], rfl, hp⟩
 · exact ⟨none, 0, [], by rw [if_neg hne]; rfl, rfl, hp.noFuns 54 3 56⟩
theorem R5ref5_CutU {ga ba e a : Int} {l dm : List InstP} (hd : dm.map InstP.L = l.map InstP.L) (hC : checkF ba (l.map InstP.L) = (e, a)) (ao : Option Addr) (cp : Nat) (w : World) (hA : (Res.rmod ao dm).holds w) (hs : Small dm) : Ret Try.prog 16 #[.agg #[.int .u32 ga, .int .u32 ba, .slice ao dm.length cp]] w (fun v w' => ∃ fo fc xs, xs.map FunP.fu = cutF ba (l.map InstP.L) ∧ v = .tuple #[.slice fo xs.length fc, .agg #[.int .i64 e, .int .i64 a]] ∧ St w NoM [Res.ofuns 54 3 56 fo fc xs] [] w') := by
 refine (R5ref5_Cut ga ba dm ao cp w hA hs).mono fun v w' hp => ?_
 rw [hd, insts_len hd, hC] at hp
 unfold cutF
 rw [hC]
 rcases hp with ⟨fo, fc, xs, h0, hxs, rfl, hp⟩ | ⟨hne, rfl, hp⟩
 · obtain ⟨he, ha⟩ := Prod.mk.inj h0
   subst he ha
   exact ⟨fo, fc, xs, by rw [if_pos rfl, hxs, List.length_map], rfl, hp⟩
 · exact ⟨none, 0, [], by rw [if_neg hne]; rfl, rfl, hp.noFuns 54 3 56⟩
theorem R5law_LayoutCuts (ga ba : Int) (l : List InstP) (ao : Option Addr) (cp : Nat) (w : World) (hA : (Res.rmod ao l).holds w) (hs : Small l) : Ret Try.prog 6 #[.agg #[.int .u32 ga, .int .u32 ba, .slice ao l.length cp]] w (fun v w' => v = .bool true ∧ St w NoM [] [] w') := by
 refine Ret.enter (args := [.agg #[.int .u32 ga, .int .u32 ba, .slice ao l.length cp]]) Try.func6 rfl rfl rfl ?_
 have hst : St w NoM [] [Res.rmod ao l] w := St.init_D hA
 clear hA
 obtain ⟨e, a, hC⟩ : ∃ e a, checkF ba (l.map InstP.L) = (e, a) := ⟨_, _, rfl⟩
 have hL : (l.map InstP.L).length = l.length := List.length_map _
 have hsl := hs.len
 refine SR <| CN <| Op1.box (v := .agg #[.int .u32 _, .int .u32 _, .slice _ _ _]) hst rfl rfl fun w b1 hst => AB rfl <| NSR <| CN <| Op1.loadA (vs := [.int .u32 _, .int .u32 _, .slice _ _ _]) ty25 rfl rfl rfl (cells_of_obj (n := 3) (hst.objL (.head _)) _ rfl) <| CN (Op1.call1 (v1 := .agg #[.int .u32 _, .int .u32 _, .slice _ _ _]) ent16 rfl rfl ((R5ref5_CutU rfl hC _ _ _ (hst.hD _ (.head _)) hs).mono fun v w hp => ?_))
 obtain ⟨foL, fcL, xsL, hxL, rfl, hp⟩ := hp
 replace hst : St _ _ (_ :: _) _ _ := hst.call0 hp
 clear hp
 have hzL := siz_cut hxL
 refine CN <| Op1.move (v := .tuple #[.slice _ _ _, .agg #[.int .i64 _, .int .i64 _]]) rfl <| CN <| Op1.extract (v := .slice _ _ _) rfl rfl <| CN <| Op1.extract (v := .agg #[.int .i64 _, .int .i64 _]) rfl rfl <| CN <| Op1.alloc hst ty29 fun w b4 hst => AL rfl <| CN (SO (v := .agg #[.int .i64 _, .int .i64 _]) hst ty29 rfl rfl (.here) fun w hst => ?_)
 refine NSR <| CN <| Op1.loadA (vs := [.int .u32 _, .int .u32 _, .slice _ _ _]) ty25 rfl rfl rfl (cells_of_obj (n := 3) (hst.objL (.tail _ (.tail _ (.head _)))) _ rfl) <| CN (Op1.call1 (v1 := .agg #[.int .u32 _, .int .u32 _, .slice _ _ _]) ent9 rfl rfl ((R5md_CopyModule _ _ l _ _ _ (hst.hD _ (.head _)) hs.lenC hs.laC).mono fun v w hp => ?_))
 obtain ⟨bM1, dM1, rfl, hdM1, hp⟩ := hp
 replace hst : St _ _ (_ :: _) _ _ := hst.call0 hp
 clear hp
 refine CN <| Op1.alloc hst ty25 fun w b5 hst => CN (SO (v := .agg #[.int .u32 _, .int .u32 _, .slice _ _ _]) hst ty25 rfl rfl (.here) fun w hst => ?_)
 refine NSR <| CN <| Op1.loadA (vs := [.int .u32 _, .int .u32 _, .slice _ _ _]) ty25 rfl rfl rfl (cells_of_obj (n := 3) (hst.objL (.head _)) _ rfl) <| CN (Op1.call1 (v1 := .agg #[.int .u32 _, .int .u32 _, .slice _ _ _]) ent17 rfl rfl ((R5ly_CutU hdM1 hC _ _ _ (Res.rmod_of_omod (hst.hL _ (.tail _ (.head _)))) (Small.of hdM1 hs)).mono fun v w hp => ?_))
 obtain ⟨foK, fcK, xsK, hxK, rfl, hp⟩ := hp
 replace hst : St _ _ (_ :: _) _ _ := hst.call0 hp
 clear hp
 have hzK := siz_cut hxK
 refine CN <| Op1.move (v := .tuple #[.slice _ _ _, .agg #[.int .i64 _, .int .i64 _]]) rfl <| CN <| Op1.extract (v := .slice _ _ _) rfl rfl <| CN <| Op1.extract (v := .agg #[.int .i64 _, .int .i64 _]) rfl rfl <| CN <| Op1.alloc hst ty29 fun w b7 hst => AL rfl <| CN (SO (v := .agg #[.int .i64 _, .int .i64 _]) hst ty29 rfl rfl (.here) fun w hst => ?_)
 refine NL <| Run.forget [(1, .pointer (some ⟨_, _, none⟩)), (3, .slice _ _ _), (4, .pointer (some ⟨_, _, none⟩)), (5, .pointer (some ⟨_, _, none⟩)), (6, .slice _ _ _), (7, .pointer (some ⟨_, _, none⟩))] ⟨rfl, rfl, rfl, rfl, rfl, rfl, trivial⟩ fun f => SR <| CN (Op1.loadA (vs := [.int .u32 _, .int .u32 _, .slice _ _ _]) ty25 rfl rfl rfl (cells_of_obj (n := 3) (hst.objL (.tail _ (.tail _ (.head _)))) _ rfl) ?_)
 replace hst := hst.pick (.cons (.there (.there (.there (.here)))) (.cons (.here) (.cons (.here) (.cons (.here) (.cons (.here) (.cons (.here) (.cons (.here) .nil)))))))
 refine CN (Op1.call1 (v1 := .agg #[.int .u32 _, .int .u32 _, .slice _ _ _]) ent18 rfl rfl ((R5kit_Spoil _ _ dM1 _ _ _ (hst.hL _ (.head _)) (Small.of hdM1 hs).len9 (Small.of hdM1 hs).la9).mono fun v w hp => ?_))
 replace hst : St _ _ _ _ _ := hst.call1 hp
 clear hp
 refine NL <| SQ <| SR <| CN <| Op1.loadA (vs := [.int .i64 _, .int .i64 _]) ty29 rfl rfl rfl (cells_of_obj (n := 2) (hst.objL (.head _)) _ rfl) <| CN <| Op1.loadA (vs := [.int .i64 _, .int .i64 _]) ty29 rfl rfl rfl (cells_of_obj (n := 2) (hst.objL (.tail _ (.tail _ (.tail _ (.head _))))) _ rfl) <| CN <| Op1.neqA (xs := [.int .i64 _, .int .i64 _]) (ys := [.int .i64 _, .int .i64 _]) rfl rfl (by kernel_rfl) (EqOk.struct Try.underlying29 (by kernel_rfl) (.cons (by decide) (PartOk.one ty27 rfl rfl) (PartOk.one ty27 rfl rfl) (EqOk.int ty27) (.cons (by decide) (PartOk.one ty3 rfl rfl) (PartOk.one ty3 rfl rfl) (EqOk.int ty3) .nil))) <| MB rfl <| RunL.split (d := 29) rfl (fun g1 => ?_) (fun g1 => ?_)
 · skip
   exfalso
   simp at g1
 refine TK (t := 29) rfl (congrArg Value.bool g1) <| Op1.move (v := .slice _ _ _) rfl <| TK (t := 29) rfl (congrArg Value.bool g1) <| Op1.move (v := .slice _ _ _) rfl <| TK (t := 29) rfl (congrArg Value.bool g1) (Op1.call2 (v1 := .slice _ _ _) (v2 := .slice _ _ _) ent19 rfl rfl rfl ((R5law_sameFuncs xsK xsL (hxK.trans hxL.symm) _ _ _ _ _ (hst.hL _ (.tail _ (.head _))) (hst.hL _ (.tail _ (.tail _ (.tail _ (.tail _ (.head _)))))) (by omega) (fun n hn => by have h := hzK.2 n hn; omega)).mono fun v w hp => ?_))
 obtain ⟨rfl, hp⟩ := hp
 replace hst := hst.keepc hp
 clear hp
 refine TK (t := 29) rfl (congrArg Value.bool g1) <| Op1.not rfl <| CN <| Op1.pickF (u := .bool _) (congrArg Value.bool g1) rfl <| NL <| run_cond_false (congrArg Value.bool (congrArg not (rfl : true = _))) <| run_skip <| SQ <| SQ ?_
 replace hst := hst.pick (.cons (.there (.here)) (.cons (.here) (.cons (.here) (.cons (.here) (.cons (.here) (.cons (.here) .nil))))))
 replace hst := hst.starUncons
 refine RG <| AI rfl <| NL <| run_block <| run_loop ?_
 replace hst := hst.pick (.cons (.there (.here)) (.cons (.here) (.cons (.here) (.cons (.here) (.cons (.here) (.cons (.here) (.cons (.here) .nil)))))))
 refine Run.indW [(1, .pointer (some ⟨_, _, none⟩)), (3, .slice _ _ _), (4, .pointer (some ⟨_, _, none⟩)), (6, .slice _ _ _)] ⟨rfl, rfl, rfl, rfl, trivial⟩ (fun (n : Nat) => [(8, .int .i64 (n : Int))]) (fun (n : Nat) => [Res.star ((xsK.drop n).map (Res.ofun 3 56))]) (fun (n : Nat) => n ≤ xsK.length) (fun (n : Nat) => xsK.length - n) (0) hst (Nat.zero_le _) ⟨rfl, trivial⟩ ?_
 intro n f w hst hJ ih2
 refine SQ <| SR <| MI rfl <| ML rfl <| CN <| Op1.lenSl (rest := []) ty45 rfl <| CN <| Op1.lss rfl rfl <| NL <| run_cond_dec rfl (fun g3 => ?_) (fun g3 => ?_)
 · skip
   replace hst := hst.pick (.cons (.here) (.cons (.here) (.cons (.here) (.cons (.here) (.cons (.here) (.cons (.here) (.cons (.here) .nil)))))))
   have hlt : n < xsK.length := by omega
   have hzn := hzK.2 n hlt
   replace hzn : (xsK.getD (n : Int).toNat zeroFun).fu.blocks.length ≤ l.length ∧ (xsK.getD (n : Int).toNat zeroFun).fu.params.length ≤ l.length := hzn
   replace hst := St.dropFun hst hlt
   obtain ⟨Y, hY⟩ : ∃ Y, xsK.getD (n : Int).toNat zeroFun = Y := ⟨_, rfl⟩
   rw [hY] at hst hzn
   obtain ⟨⟨fid, fat, ps, bs, fe⟩, po, pc, bo, bc⟩ := Y
   replace hst : St _ _ (Res.sl po ps.length pc 3 1 (ps.flatMap intC) :: Res.sl bo bs.length bc 56 3 (bs.flatMap bkC) :: _) _ _ := hst
   replace hzn : bs.length ≤ l.length ∧ ps.length ≤ l.length := hzn
   refine run_skip <| SQ <| run_block <| SR <| ML rfl <| MI rfl ?_
   obtain ⟨bs4, rfl⟩ := Res.sl_some (hst.hL _ (.tail _ (.tail _ (.tail _ (.head _))))) (by omega)
   refine CN <| Op1.indexSl ty45 ty54 rfl rfl (by omega) (by omega) <| CN <| Op1.fieldAddr fld54_2 rfl <| CN (Op1.load1 (v := .slice po ps.length pc) ty51 rfl rfl (Res.sl_cell (hst.hL _ (.tail _ (.tail _ (.tail _ (.head _))))) (flat_cell (g := funC) (d := zeroFun) funC_len (by rw [hY]; rfl) (by omega))) ?_)
   replace hst := hst.pick (.cons (.here) (.cons (.here) (.cons (.here) (.cons (.here) (.cons (.here) (.cons (.here) (.cons (.here) (.cons (.here) (.cons (.here) .nil)))))))))
   refine CN (Op1.call1 (v1 := .slice _ _ _) ent20 rfl rfl ((R5kit_SpoilInts _ _ _ _ _ (hst.hL _ (.head _)) (by omega)).mono fun v w hp => ?_))
   replace hst : St _ _ _ _ _ := hst.call1 hp
   clear hp
   refine NSR <| AI rfl <| NL <| run_block <| run_loop <| Run.indW [(1, .pointer (some ⟨_, _, none⟩)), (3, .slice _ _ _), (4, .pointer (some ⟨_, _, none⟩)), (6, .slice _ _ _), (8, .int .i64 _)] ⟨rfl, rfl, rfl, rfl, rfl, trivial⟩ (fun (r : Nat × List Value) => [(9, .int .i64 (r.1 : Int))]) (fun (r : Nat × List Value) => [Res.sl bo bs.length bc 56 3 r.2]) (fun (r : Nat × List Value) => r.1 ≤ bs.length) (fun (r : Nat × List Value) => bs.length - r.1) ((0, bs.flatMap bkC)) hst (Nat.zero_le _) ⟨rfl, trivial⟩ ?_
   intro ⟨k, m⟩ f w hst hK ih5
   replace hst : St _ _ ([Res.sl bo bs.length bc 56 3 m] ++ [_, _, _, _, _, _, _]) _ _ := hst
   replace hK : k ≤ bs.length := hK
   refine Run.slots (sl := [(9, .int .i64 (k : Int))]) ⟨rfl, trivial⟩ <| SQ <| SR <| MI rfl <| ML rfl <| MI rfl <| CN <| Op1.indexSl ty45 ty54 rfl rfl (by omega) (by omega) <| CN <| Op1.fieldAddr fld54_3 rfl <| CN <| Op1.load1 (v := .slice bo bs.length bc) ty52 rfl rfl (Res.sl_cell (hst.hL _ (.tail _ (.tail _ (.head _)))) (flat_cell (g := funC) (d := zeroFun) funC_len (by rw [hY]; rfl) (by omega))) <| CN <| Op1.lenSl (rest := []) ty52 rfl <| CN <| Op1.lss rfl rfl <| NL <| run_cond_dec rfl (fun g6 => ?_) (fun g6 => ?_)
   · skip
     refine run_skip <| SQ <| run_block <| RG <| ML rfl <| MI rfl <| CN <| Op1.indexSl ty45 ty54 rfl rfl (by omega) (by omega) <| CN <| Op1.fieldAddr fld54_3 rfl <| CN <| Op1.load1 (v := .slice bo bs.length bc) ty52 rfl rfl (Res.sl_cell (hst.hL _ (.tail _ (.tail _ (.head _)))) (flat_cell (g := funC) (d := zeroFun) funC_len (by rw [hY]; rfl) (by omega))) <| MI rfl <| CN (Op1.buildStruct ty56 stf56 (.c (v := .int .u32 _) rfl (h := (.c (v := .int .i64 _) rfl (h := (.c (v := .int .i64 _) rfl (h := .nil)))))) ?_)
     obtain ⟨bs7, rfl⟩ := Res.sl_some (hst.hL _ (.head _)) (by omega)
     refine CN <| Op1.indexSl ty52 ty56 rfl rfl (by omega) (by omega) <| CN <| Op1.storeSl (v := .agg #[.int .u32 _, .int .i64 _, .int .i64 _]) hst ty56 rfl rfl rfl rfl rfl (.here) (by simp only [List.length_cons, List.length_nil]; omega) fun w hst => NL <| run_inBlock <| RG <| MI rfl <| CN <| Op1.addN rfl rfl rfl (wrap_i64 (by omega) (by omega)) <| AI rfl <| NL <| run_inLoop ?_
     exact ih5 ((k + 1, _)) _ w (by (try dsimp only); omega) hst (by (try dsimp only); omega) ⟨rfl, rfl, rfl, rfl, rfl, trivial⟩ ⟨(congrArg (Value.int .i64) (by (try dsimp only); omega)), trivial⟩
   refine run_exit (id := 2) rfl <| run_inBlock <| RG <| MI rfl <| CN <| Op1.addN rfl rfl rfl (wrap_i64 (by omega) (by omega)) <| AI rfl <| NL <| run_inLoop ?_
   replace hst := hst.pick (.cons (.there (.here)) (.cons (.there (.here)) (.cons (.there (.here)) (.cons (.there (.here)) (.cons (.there (.here)) (.cons (.there (.here)) (.cons (.there (.here)) .nil)))))))
   exact ih2 (n + 1) _ w (by omega) hst (by omega) ⟨rfl, rfl, rfl, rfl, trivial⟩ ⟨(congrArg (Value.int .i64) (by omega)), trivial⟩
 refine run_exit (id := 0) rfl <| SR <| CN <| Op1.loadA (vs := [.int .u32 _, .int .u32 _, .slice _ _ _]) ty25 rfl rfl rfl (cells_of_obj (n := 3) (hst.objL (.tail _ (.tail _ (.tail _ (.tail _ (.tail _ (.tail _ (.head _)))))))) _ rfl) <| CN (Op1.call1 (v1 := .agg #[.int .u32 _, .int .u32 _, .slice _ _ _]) ent9 rfl rfl ((R5md_CopyModule _ _ l _ _ _ (hst.hD _ (.head _)) hs.lenC hs.laC).mono fun v w hp => ?_))
 obtain ⟨bM3, dM3, rfl, hdM3, hp⟩ := hp
 replace hst : St _ _ (_ :: _) _ _ := hst.call0 hp
 clear hp
 refine CN (Op1.call1 (v1 := .agg #[.int .u32 _, .int .u32 _, .slice _ _ _]) ent17 rfl rfl ((R5ly_CutU hdM3 hC _ _ _ (Res.rmod_of_omod (hst.hL _ (.head _))) (Small.of hdM3 hs)).mono fun v w hp => ?_))
 obtain ⟨foA, fcA, xsA, hxA, rfl, hp⟩ := hp
 replace hst : St _ _ (_ :: _) _ _ := hst.call0 hp
 clear hp
 have hzA := siz_cut hxA
 refine CN <| Op1.move (v := .tuple #[.slice _ _ _, .agg #[.int .i64 _, .int .i64 _]]) rfl <| CN <| Op1.extract (v := .slice _ _ _) rfl rfl <| CN <| Op1.extract (v := .agg #[.int .i64 _, .int .i64 _]) rfl rfl <| CN <| Op1.alloc hst ty29 fun w b11 hst => AL rfl <| CN (SO (v := .agg #[.int .i64 _, .int .i64 _]) hst ty29 rfl rfl (.here) fun w hst => ?_)
 refine NSR <| CN <| Op1.loadA (vs := [.int .i64 _, .int .i64 _]) ty29 rfl rfl rfl (cells_of_obj (n := 2) (hst.objL (.head _)) _ rfl) <| CN <| Op1.loadA (vs := [.int .i64 _, .int .i64 _]) ty29 rfl rfl rfl (cells_of_obj (n := 2) (hst.objL (.tail _ (.tail _ (.tail _ (.tail _ (.tail _ (.tail _ (.tail _ (.head _))))))))) _ rfl) <| CN <| Op1.eqlA (xs := [.int .i64 _, .int .i64 _]) (ys := [.int .i64 _, .int .i64 _]) rfl rfl (by kernel_rfl) (EqOk.struct Try.underlying29 (by kernel_rfl) (.cons (by decide) (PartOk.one ty27 rfl rfl) (PartOk.one ty27 rfl rfl) (EqOk.int ty27) (.cons (by decide) (PartOk.one ty3 rfl rfl) (PartOk.one ty3 rfl rfl) (EqOk.int ty3) .nil))) <| MB rfl <| RunL.split (d := 74) rfl (fun g8 => ?_) (fun g8 => ?_)
 · skip
   refine TK (t := 74) rfl (congrArg Value.bool g8) <| Op1.move (v := .slice _ _ _) rfl <| TK (t := 74) rfl (congrArg Value.bool g8) <| Op1.move (v := .slice _ _ _) rfl <| TK (t := 74) rfl (congrArg Value.bool g8) (Op1.call2 (v1 := .slice _ _ _) (v2 := .slice _ _ _) ent19 rfl rfl rfl ((R5law_sameFuncs xsA xsL (hxA.trans hxL.symm) _ _ _ _ _ (hst.hL _ (.tail _ (.head _))) (hst.hL _ (.tail _ (.tail _ (.tail _ (.tail _ (.tail _ (.tail _ (.tail _ (.tail _ (.head _)))))))))) (by omega) (fun n hn => by have h := hzA.2 n hn; omega)).mono fun v w hp => ?_))
   obtain ⟨rfl, hp⟩ := hp
   replace hst := hst.keepc hp
   clear hp
   refine CN <| Op1.pickT (u := .bool _) (congrArg Value.bool g8) rfl <| AB rfl <| NL <| run_ret1 Try.func6 rfl (TP (v := .bool _) rfl) ?_
   exact ⟨rfl, hst.pure⟩
 exfalso
 simp at g8
end Go.SK
