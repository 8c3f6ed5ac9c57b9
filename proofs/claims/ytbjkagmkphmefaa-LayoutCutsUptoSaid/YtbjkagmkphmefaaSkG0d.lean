/-
  Steps of functions, plain law, and walks of functions: what the laws rest on.
-/
import Derived.Test.YtbjkagmkphmefaaSkG0c
set_option linter.unusedVariables false
set_option linter.unusedSimpArgs false
set_option linter.unusedSectionVars false
namespace Go.SK
open Go Go.Proofs
open Go.RowKit
theorem R5cd_Raw (p : InstP) (bound : Int) (h0 : 0 ≤ p.op) (w : World) (hA : (Res.rargs p).holds w) (hsm : (p.args.map argRoom).sum ≤ 900000000) (hla : ∀ a ∈ p.args, a.s.length ≤ 100000000000) : Ret Try.prog 50 #[.agg #[.int .u16 p.op, .int .u32 p.ty, .int .u32 p.res, .slice p.ao p.args.length p.cap], .int .u32 bound] w (fun v w' => ∃ ro rc, v = .tuple #[.agg #[.int .u16 (rawF bound p.L).1.1, .slice ro (rawF bound p.L).1.2.length rc], .int .i64 (rawF bound p.L).2] ∧ St w NoM [Res.sl ro (rawF bound p.L).1.2.length rc 22 1 ((rawF bound p.L).1.2.flatMap u32C)] [] w') := by
 refine Ret.enter (args := [.agg #[.int .u16 p.op, .int .u32 p.ty, .int .u32 p.res, .slice p.ao p.args.length p.cap], .int .u32 bound]) Try.func50 rfl rfl rfl ?_
 have hst : St w NoM [] [Res.rargs p] w := St.init_D hA
 clear hA
 obtain ⟨fm, hfm⟩ : ∃ fm, refD p.op = fm := ⟨_, rfl⟩
 obtain ⟨ob, hob⟩ : ∃ ob, (refS p.op).isSome = ob := ⟨_, rfl⟩
 obtain ⟨we, hwe⟩ : ∃ we, wholeE fm.op p.args = we := ⟨_, rfl⟩
 have hf : FOk fm := hfm ▸ refD_fok p.op
 have hlen := len_sum p.args
 refine SR <| CN <| Op1.box (v := .agg #[.int .u16 _, .int .u32 _, .int .u32 _, .slice _ _ _]) hst rfl rfl fun w b2 hst => CN <| Op1.alloc hst ty95 fun w b4 hst => AI rfl <| NSR <| CN <| Op1.fieldAddr fld39_0 rfl <| CN <| Op1.load1 (v := .int .u16 _) ty33 rfl rfl (hst.cellL (.tail _ (.head _)) rfl) <| CN <| Op1.call1 (v1 := .int .u16 _) ent58 rfl rfl <| Ret.det (R5gr_Of2 h0 hfm hob _) hst fun w hst => CN <| Op1.move (v := .tuple #[.agg #[.int .u16 _, str _, .bool _, .bool _, str _, str _, .int .i64 _, .int .u8 _], .bool _]) rfl <| CN <| Op1.extract (v := .agg #[.int .u16 _, str _, .bool _, .bool _, str _, str _, .int .i64 _, .int .u8 _]) rfl rfl <| CN <| Op1.extract (v := .bool _) rfl rfl <| CN (Op1.alloc hst ty74 fun w b6 hst => ?_)
 refine CN (SO (v := .agg #[.int .u16 _, str _, .bool _, .bool _, str _, str _, .int .i64 _, .int .u8 _]) hst ty74 rfl rfl (.here) fun w hst => ?_)
 refine AB rfl <| NL <| SQ <| SR <| MB rfl <| CN <| Op1.not rfl <| NL <| run_cond_split rfl (fun g1 => ?_) (fun g1 => ?_)
 · skip
   refine SR <| CN (Op1.buildStruct ty95 stf95 .nil ?_)
   refine CN (SO (v := .agg #[.int .u16 _, .slice _ _ _]) hst ty95 rfl rfl (.there (.here)) fun w hst => ?_)
   refine AI rfl <| NL <| run_ret2 Try.func50 rfl (RV.cellA (vs := [.int .u16 _, .slice _ _ _]) rfl ty95 rfl rfl (cells_of_obj (n := 2) (hst.objL (.tail _ (.head _))) _ rfl)) (TP (v := .int .i64 _) rfl) ?_
   replace hst := hst.pick .nil
   have hI := rawF_err (bound := bound) (i := p.L) (faultF_op (by rw [hob]; simpa using g1)) (by decide)
   rw [hI]
   exact ⟨none, 0, rfl, (hst.pushNil 22 1).noD⟩
 have hobt : ob = true := by simpa using g1
 have hisS : (refS p.op).isSome = true := hob.trans hobt
 have hfo : fm.op = p.op := by rw [← hfm]; exact (refD_some hisS).2
 have hfm2 : refD fm.op = fm := by rw [hfo]; exact hfm
 refine run_skip <| SR <| CN <| Op1.loadA (vs := [.int .u16 _, str _, .bool _, .bool _, str _, str _, .int .i64 _, .int .u8 _]) ty74 rfl rfl rfl (cells_of_obj (n := 8) (hst.objL (.head _)) _ rfl) <| MU rfl <| CN (Op1.buildStruct ty108 stf108 (.c (v := .agg #[.int .u16 _, str _, .bool _, .bool _, str _, str _, .int .i64 _, .int .u8 _]) rfl (h := (.c (v := .int .u32 _) rfl (h := .nil)))) ?_)
 refine CN <| Op1.box (v := .agg #[.int .u16 _, str _, .bool _, .bool _, str _, str _, .int .i64 _, .int .u8 _, .int .u32 _, .slice _ _ _, .int .i64 _]) hst rfl rfl fun w b25 hst => AP rfl <| NL <| SQ ?_
 replace hst := hst.pushNil 22 1
 replace hst := hst.pick (.cons (.there (.here)) (.cons (.here) (.cons (.here) (.cons (.here) (.cons (.here) .nil)))))
 replace hst : St _ _ (WrC 108 22 b25 fm bound none 0 [] 0 :: _) _ _ := hst.pack (L1 := [_, _])
 refine RG <| MP rfl <| CN <| Op1.fieldAddr fld74_2 rfl <| CN <| Op1.load1 (v := .bool _) ty4 rfl rfl (hst.cellL (.tail _ (.head _)) rfl) <| CN <| Op1.fieldAddr fld39_1 rfl <| CN (Op1.load1 (v := .int .u32 _) ty22 rfl rfl (hst.cellL (.tail _ (.tail _ (.tail _ (.head _)))) rfl) ?_)
 replace hst := hst.pick (.cons (.here) (.cons (.here) (.cons (.here) (.cons (.here) .nil))))
 refine CN (Op1.call4 (v1 := .pointer (some ⟨_, _, none⟩)) (v2 := .bool _) (v3 := .int .u32 _) (v4 := .int .i64 _) ent59 rfl rfl rfl rfl rfl ((R5cd_whead b25 fm bound none 0 [] 0 fm.ty p.ty 40 (by decide) _ (hst.hL _ (.head _)) (by decide) (by decide) (by decide)).mono fun v w hp => ?_))
 obtain ⟨ao1, cp1, ws1, rm1, rfl, hE1, hw1, hr1, hs1, hp⟩ := hp
 replace hst : St _ _ (WrC 108 22 b25 fm bound ao1 cp1 ws1 rm1 :: _) _ _ := hst.call1 hp
 clear hp
 refine AI rfl <| NL <| Run.forget [(2, .pointer (some ⟨_, _, none⟩)), (4, .pointer (some ⟨_, _, none⟩)), (6, .pointer (some ⟨_, _, none⟩)), (8, .pointer (some ⟨_, _, none⟩)), (9, .int .i64 _)] ⟨rfl, rfl, rfl, rfl, rfl, trivial⟩ fun f => SQ <| Run.cutW (L1 := [_]) [(2, .pointer (some ⟨_, _, none⟩)), (4, .pointer (some ⟨_, _, none⟩)), (6, .pointer (some ⟨_, _, none⟩)), (8, .pointer (some ⟨_, _, none⟩))] hst ⟨rfl, rfl, rfl, rfl, trivial⟩ (fun (q : Option Addr × Nat × List Int × Int × Int) => [(9, .int .i64 q.2.2.2.2)]) (fun (q : Option Addr × Nat × List Int × Int × Int) => [WrC 108 22 b25 fm bound q.1 q.2.1 q.2.2.1 q.2.2.2.1]) (fun (q : Option Addr × Nat × List Int × Int × Int) => RW bound p.L 0 q.2.2.1 q.2.2.2.1 q.2.2.2.2) (fun ⟨ao0, cp0, ws0, rm0, e0⟩ f w hst hJ1 => ?_) (fun cut2 => ?_)
 replace hst : St _ _ ([WrC 108 22 b25 fm bound ao0 cp0 ws0 rm0] ++ [_, _, _]) _ _ := hst
 replace hJ1 : RW bound p.L 0 ws0 rm0 e0 := hJ1
 refine Run.slots (sl := [(9, .int .i64 e0)]) ⟨rfl, trivial⟩ ?_
 · skip
   refine SR <| MP rfl <| CN <| Op1.makeFunc <| CN <| Op1.assign (v := .func _ _ _) rfl <| NL <| SQ <| SR <| CN <| Op1.fieldAddr fld39_3 rfl <| CN <| Op1.load1 (v := .slice _ _ _) ty37 rfl rfl (hst.cellL (.tail _ (.tail _ (.tail _ (.head _)))) rfl) <| CN <| Op1.lenSl (rest := []) ty37 rfl <| MI rfl <| NL <| run_block ?_
   refine run_loop <| Run.indW [(2, .pointer (some ⟨_, _, none⟩)), (4, .pointer (some ⟨_, _, none⟩)), (6, .pointer (some ⟨_, _, none⟩)), (8, .pointer (some ⟨_, _, none⟩)), (10, .func _ _ _), (43, .slice _ _ _), (44, .int .i64 _)] ⟨rfl, rfl, rfl, rfl, rfl, rfl, rfl, trivial⟩ (fun (q : Nat × Option Addr × Nat × List Int × Int × Int) => [(9, .int .i64 q.2.2.2.2.2), (45, .int .i64 (q.1 : Int))]) (fun (q : Nat × Option Addr × Nat × List Int × Int × Int) => [WrC 108 22 b25 fm bound q.2.1 q.2.2.1 q.2.2.2.1 q.2.2.2.2.1]) (fun (q : Nat × Option Addr × Nat × List Int × Int × Int) => q.1 ≤ p.args.length ∧ RW bound p.L q.1 q.2.2.2.1 q.2.2.2.2.1 q.2.2.2.2.2) (fun (q : Nat × Option Addr × Nat × List Int × Int × Int) => p.args.length - q.1) ((0, ao0, cp0, ws0, rm0, e0)) hst ⟨Nat.zero_le _, hJ1⟩ ⟨rfl, rfl, trivial⟩ ?_
   intro ⟨k, ao, cp, ws, room, e⟩ f w hst hK0 ih4
   replace hst : St _ _ ([WrC 108 22 b25 fm bound ao cp ws room] ++ [_, _, _]) _ _ := hst
   replace hK0 : k ≤ p.args.length ∧ RW bound p.L k ws room e := hK0
   refine Run.slots (sl := [(9, .int .i64 e), (45, .int .i64 (k : Int))]) ⟨rfl, rfl, trivial⟩ ?_
   have hK := hK0.2
   refine SR <| CN <| Op1.lss rfl rfl <| NL <| SQ <| run_cond_dec rfl (fun g5 => ?_) (fun g5 => ?_)
   · skip
     have hsum : sumR p.L.args k ≤ (p.args.map argRoom).sum := sumR_le
     have hlk := hK.len
     have hrk := hK.r1
     have hr0 := hK.r0
     have hmem : (p.args.getD k zeroA) ∈ p.args := getD_memD (by omega)
     have hsl := hla _ hmem
     have hidx : p.args.getD ((k : Int)).toNat zeroA = (p.args.getD k zeroA) := rfl
     refine run_skip <| SQ <| run_block <| SR <| MI rfl <| CN <| Op1.indexRs ty37 ty35 (hst.hD _ (.head _)) rfl rfl (by omega) (by omega) <| CN <| Op1.loadA (vs := [.int .u8 _, .int .u32 _, str _]) ty35 rfl rfl rfl (Res.rs2_cells (m := 3) (hst.hD _ (.head _)) _ (flat_seg (g := argC) (d := zeroA) argC_len _ _ (by omega))) <| CN <| Op1.alloc hst ty35 fun w b12 hst => AI rfl <| CN (SO (v := .agg #[.int .u8 _, .int .u32 _, str _]) hst ty35 rfl rfl (.here) fun w hst => ?_)
     refine NSR <| MI rfl <| CN <| Op1.eql rfl rfl <| NL <| run_cond_dec rfl (fun g6 => ?_) (fun g6 => ?_)
     · skip
       refine RG <| CN <| Op1.move (v := .func _ _ _) rfl <| MI rfl <| CN (Op1.loadA (vs := [.int .u8 _, .int .u32 _, str _]) ty35 rfl rfl rfl (cells_of_obj (n := 3) (hst.objL (.head _)) _ rfl) ?_)
       replace hst := hst.pick (.cons (.there (.here)) (.cons (.here) (.cons (.here) (.cons (.here) (.cons (.here) .nil)))))
       obtain rfl : e = 0 := by omega
       refine CN (Op1.callV2 (v1 := .int .i64 _) (v2 := .agg #[.int .u8 _, .int .u32 _, str _]) rfl rfl rfl (CallV.funcF ent60 ((R5cd_warg b25 fm bound ao cp ws room k (by omega) (p.args.getD k zeroA) hsl _ hfm2 rfl _ (hst.hL _ (.head _)) (by omega) hr0 (by omega)).mono fun v w hp => ?_)))
       obtain ⟨ao3, cp3, ws3, rm3, rfl, hE3, hw3, hr3, hs3, hp⟩ := hp
       replace hst : St _ _ (WrC 108 22 b25 fm bound ao3 cp3 ws3 rm3 :: _) _ _ := hst.call1 hp
       clear hp
       refine AI rfl <| NL <| run_inBlock <| RG <| CN <| Op1.addN rfl rfl rfl (wrap_i64 (by omega) (by omega)) <| MI rfl <| NL <| run_inLoop ?_
       replace hst := hst.pick (.cons (.here) (.cons (.here) (.cons (.here) (.cons (.here) (.cons (.here) .nil)))))
       have hst2 := hK.step (ws2 := ws3) (room2 := rm3) hisS (by (try dsimp only); omega) (by rw [hfm]; exact hE3) hw3 hr3 hs3
       rw [hfm] at hst2
       replace hst := hst.pick (.cons (.here) (.cons (.there (.here)) (.cons (.there (.here)) (.cons (.there (.here)) .nil))))
       exact ih4 ((k + 1, ao3, cp3, ws3, rm3, (wrongA (letterS fm (k : Int)) (p.args.getD k zeroA) bound))) _ w (by (try dsimp only); omega) hst (⟨by (try dsimp only); omega, hst2⟩) ⟨rfl, rfl, rfl, rfl, rfl, rfl, rfl, trivial⟩ ⟨rfl, (congrArg (Value.int .i64) (by (try dsimp only); omega)), trivial⟩
     refine run_skip <| run_inBlock <| RG <| CN <| Op1.addN rfl rfl rfl (wrap_i64 (by omega) (by omega)) <| MI rfl <| NL <| run_inLoop ?_
     replace hst := hst.pick (.cons (.there (.here)) (.cons (.here) (.cons (.here) (.cons (.here) (.cons (.here) .nil)))))
     have hst2 := hK.skip g6 (by (try dsimp only); omega)
     replace hst := hst.pick (.cons (.here) (.cons (.there (.here)) (.cons (.there (.here)) (.cons (.there (.here)) .nil))))
     exact ih4 ((k + 1, ao, cp, ws, room, e)) _ w (by (try dsimp only); omega) hst (⟨by (try dsimp only); omega, hst2⟩) ⟨rfl, rfl, rfl, rfl, rfl, rfl, rfl, trivial⟩ ⟨rfl, (congrArg (Value.int .i64) (by (try dsimp only); omega)), trivial⟩
   obtain rfl : k = p.args.length := by omega
   refine run_exit (id := 0) rfl <| SQ <| SR <| MI rfl <| CN <| Op1.eql rfl rfl <| NL <| run_cond_dec rfl (fun g7 => ?_) (fun g7 => ?_)
   · skip
     refine RG <| CN <| Op1.loadA (vs := [.int .u16 _, str _, .bool _, .bool _, str _, str _, .int .i64 _, .int .u8 _]) ty74 rfl rfl rfl (cells_of_obj (n := 8) (hst.objL (.tail _ (.head _))) _ rfl) <| CN <| Op1.fieldAddr fld39_3 rfl <| CN (Op1.load1 (v := .slice _ _ _) ty37 rfl rfl (hst.cellL (.tail _ (.tail _ (.tail _ (.head _)))) rfl) ?_)
     obtain rfl : e = 0 := by omega
     have hfu := hK.full hisS
     have hsum := sumR_le (l := p.args) (k := p.args.length)
     have hrk := hK.r1
     have hr0 := hK.r0
     refine CN <| Op1.call2 (v1 := .agg #[.int .u16 _, str _, .bool _, .bool _, str _, str _, .int .i64 _, .int .u8 _]) (v2 := .slice _ _ _) ent61 rfl rfl rfl <| Ret.detE (R5cd_whole fm hf p.args _ _ _ (hst.hD _ (.head _)) (by omega)) (congrArg (Value.int .i64) hwe) hst fun w hst => AI rfl <| NL <| SQ <| SQ ?_
     replace hst := hst.pick (.cons (.here) (.cons (.here) (.cons (.here) (.cons (.here) .nil))))
     replace hst : St _ _ (_ :: _ :: _) _ _ := hst.unpack
     refine RG <| MI rfl <| CN <| Op1.eql rfl rfl <| MB rfl <| RunL.splitD (d := 65) rfl (fun g8 => ?_) (fun g8 => ?_)
     · skip
       refine TK (t := 65) rfl (congrArg Value.bool (decide_eq_true g8)) <| Op1.move (v := .pointer (some ⟨_, _, none⟩)) rfl <| TK (t := 65) rfl (congrArg Value.bool (decide_eq_true g8)) <| Op1.nilCheckP rfl <| TK (t := 65) rfl (congrArg Value.bool (decide_eq_true g8)) <| Op1.fieldAddr fld108_3 rfl <| TK (t := 65) rfl (congrArg Value.bool (decide_eq_true g8)) <| Op1.load1 (v := .int .i64 _) ty3 rfl rfl (hst.cellL (.head _) rfl) <| TK (t := 65) rfl (congrArg Value.bool (decide_eq_true g8)) <| Op1.geq rfl rfl <| CN <| Op1.pickT (u := .bool _) (congrArg Value.bool (decide_eq_true g8)) rfl <| NL <| run_cond_dec rfl (fun g9 => ?_) (fun g9 => ?_)
       · skip
         refine RG <| AI rfl <| NL <| SQ <| SR <| MI rfl <| CN <| Op1.neq rfl rfl <| NL <| Run.forget [(2, .pointer (some ⟨_, _, none⟩)), (4, .pointer (some ⟨_, _, none⟩)), (8, .pointer (some ⟨_, _, none⟩)), (9, .int .i64 _), (73, .bool _)] ⟨rfl, rfl, rfl, rfl, rfl, trivial⟩ fun f => run_cond_dec rfl (fun g10 => ?_) (fun g10 => ?_)
         · skip
           refine SR <| CN (Op1.buildStruct ty95 stf95 .nil ?_)
           refine MI rfl <| CN (SO (v := .agg #[.int .u16 _, .slice _ _ _]) hst ty95 rfl rfl (.there (.there (.there (.here)))) fun w hst => ?_)
           refine AI rfl <| NL <| run_ret2 Try.func50 rfl (RV.cellA (vs := [.int .u16 _, .slice _ _ _]) rfl ty95 rfl rfl (cells_of_obj (n := 2) (hst.objL (.tail _ (.tail _ (.tail _ (.head _))))) _ rfl)) (TP (v := .int .i64 _) rfl) ?_
           replace hst := hst.pick .nil
           have hf2 := hfu.2.2
           rw [show wholeE p.L.op p.L.args = we from by rw [← hwe, hfo]] at hf2
           rw [if_neg (fun h => h (by omega))] at hf2
           have hr2 := hfu.2.1
           rw [hfm] at hr2 hf2
           rw [if_pos (by (try dsimp only at hr2 ⊢); omega)] at hf2
           have hI := rawF_err (bound := bound) (i := p.L) (hf2) (by decide)
           rw [hI]
           exact ⟨none, 0, rfl, (hst.pushNil 22 1).noD⟩
         exfalso
         exact g10 (by decide)
       refine run_skip <| SQ <| SR <| MI rfl <| CN <| Op1.neq rfl rfl <| NL <| Run.forget [(2, .pointer (some ⟨_, _, none⟩)), (4, .pointer (some ⟨_, _, none⟩)), (8, .pointer (some ⟨_, _, none⟩)), (9, .int .i64 _), (73, .bool _)] ⟨rfl, rfl, rfl, rfl, rfl, trivial⟩ fun f => run_cond_dec rfl (fun g11 => ?_) (fun g11 => ?_)
       · skip
         exfalso
         omega
       refine run_skip <| SQ <| RunD.start [] hst (bs := [0, 1, 0, 4, 12, 28, 63, 127, 255]) (ds := [some 76, some 77, some 78, some 79, some 80, some 81, some 82, none, some 5]) ⟨by kernel_rfl, by kernel_rfl, by kernel_rfl⟩ (fun tab12 => ?_)
       refine RunD.op (det _) tab12 1 (fun f' L' w' hc => Op1.fieldAddr fld39_0 (hc.old (v := .pointer (some ⟨_, _, none⟩)) rfl rfl rfl) ⟨[], ⟨rfl, rfl⟩, hc.st⟩) <| RunD.op (det _) tab12 2 (fun f' L' w' hc => Op1.load1 (v := .int .u16 _) ty33 rfl (hc.det (j := 0) rfl rfl rfl rfl) (hc.st.cellL (List.mem_append_right _ (.tail _ (.tail _ (.tail _ (.tail _ (.head _)))))) rfl) ⟨[], ⟨rfl, rfl⟩, hc.st⟩) <| RunD.op (det _) tab12 3 (fun f' L' w' hc => Op1.move (v := .pointer (some ⟨_, _, none⟩)) (hc.old (v := .pointer (some ⟨_, _, none⟩)) rfl rfl rfl) ⟨[], ⟨rfl, rfl⟩, hc.st⟩) <| RunD.op (det _) tab12 4 (fun f' L' w' hc => Op1.nilCheckP (hc.det (j := 2) rfl rfl rfl rfl) ⟨[], ⟨rfl, rfl⟩, hc.st⟩) <| RunD.op (det _) tab12 5 (fun f' L' w' hc => Op1.fieldAddr fld108_2 (hc.det (j := 3) rfl rfl rfl rfl) ⟨[], ⟨rfl, rfl⟩, hc.st⟩) <| RunD.op (det _) tab12 6 (fun f' L' w' hc => Op1.load1 (v := .slice _ _ _) ty93 rfl (hc.det (j := 4) rfl rfl rfl rfl) (hc.st.cellL (List.mem_append_right _ (.head _)) rfl) ⟨[], ⟨rfl, rfl⟩, hc.st⟩) <| RunD.fin followsMixed tab12 hst rfl (fun f13 w R16 hs14 hd15 hr17 hst => ?_)
       obtain ⟨h76_, r0⟩ := hd15 0 76 rfl rfl
       obtain ⟨h77_, r1⟩ := hd15 1 77 rfl rfl
       obtain ⟨h78_, r2⟩ := hd15 2 78 rfl rfl
       obtain ⟨h79_, r3⟩ := hd15 3 79 rfl rfl
       obtain ⟨h80_, r4⟩ := hd15 4 80 rfl rfl
       obtain ⟨h81_, r5⟩ := hd15 5 81 rfl rfl
       simp only [show List.range 6 = [0, 1, 2, 3, 4, 5] from rfl, List.flatMap_cons, List.flatMap_nil, List.map_cons, List.map_nil, r0, r1, r2, r3, r4, r5, List.nil_append, List.append_nil, List.cons_append] at hst
       refine RunL.slots (sl := [(4, .pointer (some ⟨_, _, none⟩)), (77, .int .u16 _), (81, .slice _ _ _)]) ⟨(hs14 4 rfl).trans rfl, h77_, h81_, trivial⟩ ?_
       clear hs14 hd15 hr17 tab12
       refine CN (Op1.buildStruct ty95 stf95 (.c (v := .int .u16 _) rfl (h := (.c (v := .slice _ _ _) rfl (h := .nil)))) ?_)
       refine CN (SO (v := .agg #[.int .u16 _, .slice _ _ _]) hst ty95 rfl rfl (.there (.there (.there (.here)))) fun w hst => ?_)
       refine AI rfl <| NL <| run_ret2 Try.func50 rfl (RV.cellA (vs := [.int .u16 _, .slice _ _ _]) rfl ty95 rfl rfl (cells_of_obj (n := 2) (hst.objL (.tail _ (.tail _ (.tail _ (.head _))))) _ rfl)) (TP (v := .int .i64 _) rfl) ?_
       replace hst := hst.pick (.cons (.there (.here)) .nil)
       have hf2 := hfu.2.2
       rw [show wholeE p.L.op p.L.args = we from by rw [← hwe, hfo]] at hf2
       rw [if_neg (fun h => h (by omega))] at hf2
       have hr2 := hfu.2.1
       rw [hfm] at hr2 hf2
       rw [if_neg (by (try dsimp only at hr2 ⊢); omega)] at hf2
       have hI := rawF_ok (bound := bound) (i := p.L) hf2
       rw [hI, ← hfu.1]
       exact ⟨ao, cp, rfl, hst.noD⟩
     refine OM (t := 65) rfl (congrArg Value.bool (decide_eq_false g8)) rfl <| OM (t := 65) rfl (congrArg Value.bool (decide_eq_false g8)) rfl <| OM (t := 65) rfl (congrArg Value.bool (decide_eq_false g8)) rfl <| OM (t := 65) rfl (congrArg Value.bool (decide_eq_false g8)) rfl <| OM (t := 65) rfl (congrArg Value.bool (decide_eq_false g8)) rfl <| CN <| Op1.pickF (u := .bool _) (congrArg Value.bool (decide_eq_false g8)) rfl <| NL <| run_cond_false (congrArg Value.bool (rfl : false = _)) <| run_skip <| SQ <| SR <| MI rfl <| CN <| Op1.neq rfl rfl <| NL ?_
     refine run_cond_dec rfl (fun g18 => ?_) (fun g18 => ?_)
     · skip
       refine SR <| CN (Op1.buildStruct ty95 stf95 .nil ?_)
       refine MI rfl <| CN (SO (v := .agg #[.int .u16 _, .slice _ _ _]) hst ty95 rfl rfl (.there (.there (.there (.here)))) fun w hst => ?_)
       refine AI rfl <| NL <| run_ret2 Try.func50 rfl (RV.cellA (vs := [.int .u16 _, .slice _ _ _]) rfl ty95 rfl rfl (cells_of_obj (n := 2) (hst.objL (.tail _ (.tail _ (.tail _ (.head _))))) _ rfl)) (TP (v := .int .i64 _) rfl) ?_
       replace hst := hst.pick .nil
       have hf2 := hfu.2.2
       rw [show wholeE p.L.op p.L.args = we from by rw [← hwe, hfo]] at hf2
       rw [if_pos g8] at hf2
       have hI := rawF_err (bound := bound) (i := p.L) (hf2) g8
       rw [hI]
       exact ⟨none, 0, rfl, (hst.pushNil 22 1).noD⟩
     exfalso
     omega
   refine run_skip <| SQ <| SQ ?_
   replace hst := hst.pick (.cons (.here) (.cons (.here) (.cons (.here) (.cons (.here) .nil))))
   replace hst : St _ _ (_ :: _ :: _) _ _ := hst.unpack
   refine RG <| MI rfl <| CN <| Op1.eql rfl rfl <| MB rfl <| RunL.splitD (d := 65) rfl (fun g19 => ?_) (fun g19 => ?_)
   · skip
     exfalso
     omega
   refine OM (t := 65) rfl (congrArg Value.bool (decide_eq_false g19)) rfl <| OM (t := 65) rfl (congrArg Value.bool (decide_eq_false g19)) rfl <| OM (t := 65) rfl (congrArg Value.bool (decide_eq_false g19)) rfl <| OM (t := 65) rfl (congrArg Value.bool (decide_eq_false g19)) rfl <| OM (t := 65) rfl (congrArg Value.bool (decide_eq_false g19)) rfl <| CN <| Op1.pickF (u := .bool _) (congrArg Value.bool (decide_eq_false g19)) rfl <| NL <| run_cond_false (congrArg Value.bool (rfl : false = _)) <| run_skip <| SQ <| SR <| MI rfl <| CN <| Op1.neq rfl rfl <| NL ?_
   refine run_cond_dec rfl (fun g20 => ?_) (fun g20 => ?_)
   · skip
     refine SR <| CN (Op1.buildStruct ty95 stf95 .nil ?_)
     refine MI rfl <| CN (SO (v := .agg #[.int .u16 _, .slice _ _ _]) hst ty95 rfl rfl (.there (.there (.there (.here)))) fun w hst => ?_)
     refine AI rfl <| NL <| run_ret2 Try.func50 rfl (RV.cellA (vs := [.int .u16 _, .slice _ _ _]) rfl ty95 rfl rfl (cells_of_obj (n := 2) (hst.objL (.tail _ (.tail _ (.tail _ (.head _))))) _ rfl)) (TP (v := .int .i64 _) rfl) ?_
     replace hst := hst.pick .nil
     have hI := rawF_err (bound := bound) (i := p.L) (hK.err g7) g7
     rw [hI]
     exact ⟨none, 0, rfl, (hst.pushNil 22 1).noD⟩
   exfalso
   omega
 · skip
   refine SR <| MI rfl <| CN <| Op1.eql rfl rfl <| NL <| run_cond_dec rfl (fun g21 => ?_) (fun g21 => ?_)
   · skip
     refine RG <| MP rfl <| CN <| Op1.fieldAddr fld74_3 rfl <| CN <| Op1.load1 (v := .bool _) ty4 rfl rfl (hst.cellL (.tail _ (.head _)) rfl) <| CN <| Op1.fieldAddr fld39_2 rfl <| CN (Op1.load1 (v := .int .u32 _) ty22 rfl rfl (hst.cellL (.tail _ (.tail _ (.tail _ (.head _)))) rfl) ?_)
     replace hst := hst.pick (.cons (.here) (.cons (.here) (.cons (.here) (.cons (.here) .nil))))
     have h10 : idH fm.ty p.ty bound 40 = 0 := by simpa using g21
     have hx1 := hE1 h10
     have hw1b : ws1.length ≤ 1 := hw1
     refine CN (Op1.call4 (v1 := .pointer (some ⟨_, _, none⟩)) (v2 := .bool _) (v3 := .int .u32 _) (v4 := .int .i64 _) ent59 rfl rfl rfl rfl rfl ((R5cd_whead b25 fm bound ao1 cp1 ws1 rm1 fm.res p.res 41 (by decide) _ (hst.hL _ (.head _)) (by omega) hr1 (by omega)).mono fun v w hp => ?_))
     obtain ⟨ao2, cp2, ws2, rm2, rfl, hE2, hw2, hr2, hs2, hp⟩ := hp
     replace hst : St _ _ (WrC 108 22 b25 fm bound ao2 cp2 ws2 rm2 :: _) _ _ := hst.call1 hp
     clear hp
     refine AI rfl <| NL ?_
     replace hst := hst.pick (.cons (.here) (.cons (.here) (.cons (.here) (.cons (.here) .nil))))
     exact cut2 ((ao2, cp2, ws2, rm2, idH fm.res p.res bound 41)) _ w (hst) ((by have hq := RW.start (i := p.L) (bound := bound) (ws2 := ws2) (room2 := rm2) hisS (by rw [hfm]; exact h10) (fun he => by rw [hfm] at he ⊢; have h2 := hE2 he; rw [hx1.1, hx1.2] at h2; exact h2) (by omega) hr2 (by omega); rw [hfm] at hq; exact hq)) ⟨rfl, rfl, rfl, rfl, trivial⟩ ⟨rfl, trivial⟩
   refine run_skip ?_
   replace hst := hst.pick (.cons (.here) (.cons (.here) (.cons (.here) (.cons (.here) .nil))))
   have hq := RW.ty (i := p.L) (bound := bound) (ws := ws1) (room := rm1) hisS (by rw [hfm]; exact g21) hw1 hr1 (by omega)
   rw [hfm] at hq
   exact cut2 ((ao1, cp1, ws1, rm1, idH fm.ty p.ty bound 40)) _ w (hst) (hq) ⟨rfl, rfl, rfl, rfl, trivial⟩ ⟨rfl, trivial⟩
end Go.SK
namespace Go.SK
open Go Go.Proofs
theorem ent54 : Enters Try.prog 54 := ⟨Try.f54, _, Try.func54, by kernel_rfl, rfl⟩
theorem ent55 : Enters Try.prog 55 := ⟨Try.f55, _, Try.func55, by kernel_rfl, rfl⟩
theorem ent56 : Enters Try.prog 56 := ⟨Try.f56, _, Try.func56, by kernel_rfl, rfl⟩
theorem ent48 : Enters Try.prog 48 := ⟨Try.f48, _, Try.func48, by kernel_rfl, rfl⟩
end Go.SK
namespace Go.SK
open Go Go.Proofs
open Go.RowKit
theorem R5ref4_Id (must : Bool) (n bound e : Int) (w : World) : Ret Try.prog 43 #[.bool must, .int .u32 n, .int .u32 bound, .int .i64 e] w (fun v w' => v = .int .i64 (idH must n bound e) ∧ St w NoM [] [] w') := by
 refine Ret.enter (args := [.bool must, .int .u32 n, .int .u32 bound, .int .i64 e]) Try.func43 rfl rfl rfl ?_
 have hst := St.init w
 refine SR <| AI rfl <| NL <| SQ <| SR <| MB rfl <| MU rfl <| CN <| Op1.neq rfl rfl <| CN <| Op1.neqB ty4 rfl rfl <| NL <| run_cond_split rfl (fun g1 => ?_) (fun g1 => ?_)
 · skip
   refine SR <| MI rfl <| AI rfl <| NL <| run_ret1 Try.func43 rfl (TP (v := .int .i64 _) rfl) ?_
   exact ⟨congrArg (Value.int .i64) (idH_lacks (bne_iff_ne.1 g1)).symm, hst.pure⟩
 refine run_skip <| SQ <| SR <| MB rfl <| MB rfl <| RunL.split (d := 15) rfl (fun g2 => ?_) (fun g2 => ?_)
 · skip
   refine TK (t := 15) rfl (congrArg Value.bool g2) <| Op1.move (v := .int .u32 _) rfl <| TK (t := 15) rfl (congrArg Value.bool g2) <| Op1.move (v := .int .u32 _) rfl <| TK (t := 15) rfl (congrArg Value.bool g2) <| Op1.geq rfl rfl <| CN <| Op1.pickT (u := .bool _) (congrArg Value.bool g2) rfl <| NL <| run_cond_dec rfl (fun g3 => ?_) (fun g3 => ?_)
   · skip
     refine SR <| AI rfl <| NL <| run_ret1 Try.func43 rfl (TP (v := .int .i64 _) rfl) ?_
     have hm : must = true := by simpa using g2
     exact ⟨congrArg (Value.int .i64) (by unfold idH; rw [if_neg (fun hx => by have hy := bne_iff_ne.2 hx; rw [g1] at hy; cases hy), if_pos ⟨hm, by omega⟩]), hst.pure⟩
   refine run_skip <| SR <| AI rfl <| NL <| run_ret1 Try.func43 rfl (TP (v := .int .i64 _) rfl) ?_
   have hm : must = true := by simpa using g2
   exact ⟨congrArg (Value.int .i64) (by unfold idH; rw [if_neg (fun hx => by have hy := bne_iff_ne.2 hx; rw [g1] at hy; cases hy), if_neg (fun h => by have := h.2; omega)]), hst.pure⟩
 refine OM (t := 15) rfl (congrArg Value.bool g2) rfl <| OM (t := 15) rfl (congrArg Value.bool g2) rfl <| OM (t := 15) rfl (congrArg Value.bool g2) rfl <| CN <| Op1.pickF (u := .bool _) (congrArg Value.bool g2) rfl <| NL <| run_cond_false (congrArg Value.bool (rfl : false = _)) <| run_skip <| SR <| AI rfl <| NL <| run_ret1 Try.func43 rfl (TP (v := .int .i64 _) rfl) ?_
 have hm : must = false := by simpa using g2
 exact ⟨congrArg (Value.int .i64) (idH_no (fun hx => by have hy := bne_iff_ne.2 hx; rw [g1] at hy; cases hy) hm).symm, hst.pure⟩
theorem R5ref4_Wrong (c : Int) (h0 : 0 ≤ c) (h1 : c ≤ 255) (a : ArgP) (hs : a.s.length ≤ 9000000000000000) (bound : Int) (w : World) : Ret Try.prog 44 #[.int .u8 c, .agg #[.int .u8 a.kind, .int .u32 a.n, str a.s], .int .u32 bound] w (fun v w' => v = .int .i64 (wrongA c a bound) ∧ St w NoM [] [] w') := by
 refine Ret.enter (args := [.int .u8 c, .agg #[.int .u8 a.kind, .int .u32 a.n, str a.s], .int .u32 bound]) Try.func44 rfl rfl rfl ?_
 have hst := St.init w
 obtain ⟨kd, hkd⟩ : ∃ kd, kindS c = kd := ⟨_, rfl⟩
 obtain ⟨o, ho⟩ : ∃ o, namesL.find? (enN c a.n) = o := ⟨_, rfl⟩
 refine SR <| CN <| Op1.box (v := .agg #[.int .u8 _, .int .u32 _, str _]) hst rfl rfl fun w b4 hst => AI rfl <| NL <| SQ <| SQ <| RunD.start [] hst (bs := [0, 1, 3, 7, 15, 7, 39, 127, 255]) (ds := [some 10, some 11, some 12, some 13, some 14, some 15, some 16, some 17, some 18]) ⟨by kernel_rfl, by kernel_rfl, by kernel_rfl⟩ (fun tab1 => ?_)
 refine RunD.op (det _) tab1 1 (fun f' L' w' hc => Op1.move (v := .int .u8 _) (hc.old (v := .int .u8 _) rfl rfl rfl) ⟨[], ⟨rfl, rfl⟩, hc.st⟩) <| RunD.op (det _) tab1 2 (fun f' L' w' hc => Op1.eql (hc.det (j := 0) rfl rfl rfl rfl) rfl ⟨[], ⟨rfl, rfl⟩, hc.st⟩) <| RunD.op (det _) tab1 3 (fun f' L' w' hc => Op1.move (v := .bool _) (hc.det (j := 1) rfl rfl rfl rfl) ⟨[], ⟨rfl, rfl⟩, hc.st⟩) <| RunD.splitD (j := 2) rfl (fun g2 => ?_) (fun g2 => ?_)
 · skip
   refine RunD.omit tab1 4 rfl rfl (fun f' L' w' hc => (hc.det (j := 2) rfl rfl rfl rfl).trans (congrArg Value.bool (decide_eq_true g2))) <| RunD.omit tab1 5 rfl rfl (fun f' L' w' hc => (hc.det (j := 2) rfl rfl rfl rfl).trans (congrArg Value.bool (decide_eq_true g2))) <| RunD.omit tab1 6 rfl rfl (fun f' L' w' hc => (hc.det (j := 2) rfl rfl rfl rfl).trans (congrArg Value.bool (decide_eq_true g2))) <| RunD.omit tab1 7 rfl rfl (fun f' L' w' hc => (hc.det (j := 2) rfl rfl rfl rfl).trans (congrArg Value.bool (decide_eq_true g2))) <| RunD.fin followsMixed tab1 hst rfl (fun f3 w R6 hs4 hd5 hr7 hst => ?_)
   obtain ⟨h10_, r0⟩ := hd5 0 10 rfl rfl
   obtain ⟨h11_, r1⟩ := hd5 1 11 rfl rfl
   obtain ⟨h12_, r2⟩ := hd5 2 12 rfl rfl
   obtain ⟨h13_, r3⟩ := hd5 3 13 rfl rfl
   obtain ⟨h14_, r4⟩ := hd5 4 14 rfl rfl
   obtain ⟨h15_, r5⟩ := hd5 5 15 rfl rfl
   obtain ⟨h16_, r6⟩ := hd5 6 16 rfl rfl
   simp only [show List.range 7 = [0, 1, 2, 3, 4, 5, 6] from rfl, List.flatMap_cons, List.flatMap_nil, List.map_cons, List.map_nil, r0, r1, r2, r3, r4, r5, r6, List.nil_append, List.append_nil, List.cons_append] at hst
   refine RunL.slots (sl := [(0, .int .u8 _), (2, .int .u32 _), (4, .pointer (some ⟨_, _, none⟩)), (12, .bool _), (14, _), (16, _)]) ⟨(hs4 0 rfl).trans rfl, (hs4 2 rfl).trans rfl, (hs4 4 rfl).trans rfl, h12_, h14_, h16_, trivial⟩ ?_
   clear hs4 hd5 hr7 tab1
   refine OM (t := 12) rfl (congrArg Value.bool (decide_eq_true g2)) rfl <| CN <| Op1.pickT (u := .bool _) (congrArg Value.bool (decide_eq_true g2)) rfl <| NL <| run_cond_true (congrArg Value.bool (rfl : true = _)) <| SR <| AI rfl <| NL <| run_ret1 Try.func44 rfl (TP (v := .int .i64 _) rfl) ?_
   exact ⟨congrArg (Value.int .i64) (wrongA_form (.inl (by omega))).symm, hst.pure⟩
 refine RunD.take (det _) tab1 4 rfl (fun f' L' w' hc => (hc.det (j := 2) rfl rfl rfl rfl).trans (congrArg Value.bool (decide_eq_false g2))) (fun f' L' w' hc => Op1.fieldAddr fld35_0 (hc.old (v := .pointer (some ⟨_, _, none⟩)) rfl rfl rfl) ⟨[], ⟨rfl, rfl⟩, hc.st⟩) <| RunD.take (det _) tab1 5 rfl (fun f' L' w' hc => (hc.det (j := 2) rfl rfl rfl rfl).trans (congrArg Value.bool (decide_eq_false g2))) (fun f' L' w' hc => Op1.load1 (v := .int .u8 _) ty5 rfl (hc.det (j := 3) rfl rfl rfl rfl) (hc.st.cellL (List.mem_append_right _ (.head _)) rfl) ⟨[], ⟨rfl, rfl⟩, hc.st⟩) <| RunD.take (det _) tab1 6 rfl (fun f' L' w' hc => (hc.det (j := 2) rfl rfl rfl rfl).trans (congrArg Value.bool (decide_eq_false g2))) (fun f' L' w' hc => Op1.move (v := .int .u8 _) (hc.old (v := .int .u8 _) rfl rfl rfl) ⟨[], ⟨rfl, rfl⟩, hc.st⟩) <| RunD.take (det _) tab1 7 rfl (fun f' L' w' hc => (hc.det (j := 2) rfl rfl rfl rfl).trans (congrArg Value.bool (decide_eq_false g2))) (fun f' L' w' hc => Op1.call1 (v1 := .int .u8 _) ent54 rfl (hc.det (j := 5) rfl rfl rfl rfl) ((R5ref_Kind2 hkd h0 h1 _).mono fun v w hp => ⟨[], ⟨hp.1, rfl⟩, hc.st.keepc hp.2⟩)) <| RunD.fin followsMixed tab1 hst rfl (fun f8 w R11 hs9 hd10 hr12 hst => ?_)
 obtain ⟨h10_, r0⟩ := hd10 0 10 rfl rfl
 obtain ⟨h11_, r1⟩ := hd10 1 11 rfl rfl
 obtain ⟨h12_, r2⟩ := hd10 2 12 rfl rfl
 obtain ⟨h13_, r3⟩ := hd10 3 13 rfl rfl
 obtain ⟨h14_, r4⟩ := hd10 4 14 rfl rfl
 obtain ⟨h15_, r5⟩ := hd10 5 15 rfl rfl
 obtain ⟨h16_, r6⟩ := hd10 6 16 rfl rfl
 simp only [show List.range 7 = [0, 1, 2, 3, 4, 5, 6] from rfl, List.flatMap_cons, List.flatMap_nil, List.map_cons, List.map_nil, r0, r1, r2, r3, r4, r5, r6, List.nil_append, List.append_nil, List.cons_append] at hst
 refine RunL.slots (sl := [(0, .int .u8 _), (2, .int .u32 _), (4, .pointer (some ⟨_, _, none⟩)), (12, .bool _), (14, .int .u8 _), (16, .int .u8 _)]) ⟨(hs9 0 rfl).trans rfl, (hs9 2 rfl).trans rfl, (hs9 4 rfl).trans rfl, h12_, h14_, h16_, trivial⟩ ?_
 clear hs9 hd10 hr12 tab1
 refine TK (t := 12) rfl (congrArg Value.bool (decide_eq_false g2)) <| Op1.neq rfl rfl <| CN <| Op1.pickF (u := .bool _) (congrArg Value.bool (decide_eq_false g2)) rfl <| NL <| run_cond_dec rfl (fun g13 => ?_) (fun g13 => ?_)
 · skip
   refine SR <| AI rfl <| NL <| run_ret1 Try.func44 rfl (TP (v := .int .i64 _) rfl) ?_
   exact ⟨congrArg (Value.int .i64) (wrongA_form (.inr (.inl (by rw [hkd]; omega)))).symm, hst.pure⟩
 refine run_skip <| SQ <| SR <| CN <| Op1.fieldAddr fld35_0 rfl <| CN <| Op1.load1 (v := .int .u8 _) ty5 rfl rfl (hst.cellL (.head _) rfl) <| CN <| Op1.eql rfl rfl <| MB rfl <| RunL.splitD (d := 22) rfl (fun g14 => ?_) (fun g14 => ?_)
 · skip
   refine TK (t := 22) rfl (congrArg Value.bool (decide_eq_true g14)) <| Op1.fieldAddr fld35_1 rfl <| TK (t := 22) rfl (congrArg Value.bool (decide_eq_true g14)) <| Op1.load1 (v := .int .u32 _) ty22 rfl rfl (hst.cellL (.head _) rfl) <| TK (t := 22) rfl (congrArg Value.bool (decide_eq_true g14)) <| Op1.neq rfl rfl <| CN <| Op1.pickT (u := .bool _) (congrArg Value.bool (decide_eq_true g14)) rfl <| MB rfl <| RunL.splitD (d := 27) rfl (fun g15 => ?_) (fun g15 => ?_)
   · skip
     refine OM (t := 27) rfl (congrArg Value.bool (decide_eq_true g15)) rfl <| OM (t := 27) rfl (congrArg Value.bool (decide_eq_true g15)) rfl <| OM (t := 27) rfl (congrArg Value.bool (decide_eq_true g15)) rfl <| OM (t := 27) rfl (congrArg Value.bool (decide_eq_true g15)) rfl <| RunL.omitU (t := 31) rfl rfl <| RunL.omitU (t := 31) rfl rfl <| RunL.omitU (t := 31) rfl rfl <| OM (t := 27) rfl (congrArg Value.bool (decide_eq_true g15)) rfl <| CN <| Op1.pickT (u := .bool _) (congrArg Value.bool (decide_eq_true g15)) rfl <| NL <| Run.forget [(0, .int .u8 _), (2, .int .u32 _), (4, .pointer (some ⟨_, _, none⟩)), (36, .bool _)] ⟨rfl, rfl, rfl, rfl, trivial⟩ fun f => run_cond_true (congrArg Value.bool (rfl : true = _)) <| SR <| AI rfl ?_
     refine NL <| run_ret1 Try.func44 rfl (TP (v := .int .i64 _) rfl) ?_
     exact ⟨congrArg (Value.int .i64) (wrongA_form (.inr (.inr (.inl ⟨by omega, by omega⟩)))).symm, hst.pure⟩
   refine TK (t := 27) rfl (congrArg Value.bool (decide_eq_false g15)) <| Op1.fieldAddr fld35_0 rfl <| TK (t := 27) rfl (congrArg Value.bool (decide_eq_false g15)) <| Op1.load1 (v := .int .u8 _) ty5 rfl rfl (hst.cellL (.head _) rfl) <| TK (t := 27) rfl (congrArg Value.bool (decide_eq_false g15)) <| Op1.neq rfl rfl <| TK (t := 27) rfl (congrArg Value.bool (decide_eq_false g15)) <| Op1.move (v := .bool _) rfl <| RunL.splitD (d := 31) rfl (fun g16 => ?_) (fun g16 => ?_)
   · skip
     refine TK (t := 31) rfl (congrArg Value.bool (decide_eq_true g16)) <| Op1.fieldAddr fld35_2 rfl <| TK (t := 31) rfl (congrArg Value.bool (decide_eq_true g16)) <| Op1.load1 (v := str _) ty9 rfl rfl (hst.cellL (.head _) rfl) <| TK (t := 31) rfl (congrArg Value.bool (decide_eq_true g16)) <| Op1.neqS rfl rfl <| TK (t := 27) rfl (congrArg Value.bool (decide_eq_false g15)) <| Op1.pickT (u := .bool _) (congrArg Value.bool (decide_eq_true g16)) rfl <| CN <| Op1.pickF (u := .bool _) (congrArg Value.bool (decide_eq_false g15)) rfl <| NL <| Run.forget [(0, .int .u8 _), (2, .int .u32 _), (4, .pointer (some ⟨_, _, none⟩)), (36, .bool _)] ⟨rfl, rfl, rfl, rfl, trivial⟩ fun f => run_cond_dec rfl (fun g17 => ?_) (fun g17 => ?_)
     · skip
       refine SR <| AI rfl <| NL <| run_ret1 Try.func44 rfl (TP (v := .int .i64 _) rfl) ?_
       exact ⟨congrArg (Value.int .i64) (wrongA_form (.inr (.inr (.inr ⟨by omega, by simpa using g17⟩)))).symm, hst.pure⟩
     refine run_skip <| SQ <| SR <| CN <| Op1.fieldAddr fld35_0 rfl <| CN <| Op1.load1 (v := .int .u8 _) ty5 rfl rfl (hst.cellL (.head _) rfl) <| CN <| Op1.eql rfl rfl <| MB rfl <| RunL.splitD (d := 40) rfl (fun g18 => ?_) (fun g18 => ?_)
     · skip
       refine TK (t := 40) rfl (congrArg Value.bool (decide_eq_true g18)) <| Op1.fieldAddr fld35_1 rfl <| TK (t := 40) rfl (congrArg Value.bool (decide_eq_true g18)) <| Op1.load1 (v := .int .u32 _) ty22 rfl rfl (hst.cellL (.head _) rfl) <| TK (t := 40) rfl (congrArg Value.bool (decide_eq_true g18)) <| Op1.move (v := .int .u32 _) rfl <| TK (t := 40) rfl (congrArg Value.bool (decide_eq_true g18)) (Op1.call2 (v1 := .int .u32 _) (v2 := .int .u32 _) ent55 rfl rfl rfl ((R5ref4_None _ _ _).mono fun v w hp => ?_))
       obtain ⟨rfl, hp⟩ := hp
       replace hst := hst.keepc hp
       clear hp
       refine CN <| Op1.pickT (u := .bool _) (congrArg Value.bool (decide_eq_true g18)) rfl <| NL <| run_cond_split rfl (fun g19 => ?_) (fun g19 => ?_)
       · skip
         refine SR <| AI rfl <| NL <| run_ret1 Try.func44 rfl (TP (v := .int .i64 _) rfl) ?_
         have hE := wrongA_eq (c := c) (a := a) (bound := bound) (fun h => h.elim (by omega) (fun h => h (by rw [hkd]; omega))) (fun h => h.elim (fun h => by have := h.2; omega) (fun h => absurd h.2 (by simpa using g17)))
         rw [if_pos ⟨by omega, by simpa using g19⟩] at hE
         exact ⟨congrArg (Value.int .i64) (hE).symm, hst.pure⟩
       refine run_skip <| SR <| MC rfl <| CN <| Op1.fieldAddr fld35_1 rfl <| CN <| Op1.load1 (v := .int .u32 _) ty22 rfl rfl (hst.cellL (.head _) rfl) <| CN <| Op1.call2 (v1 := .int .u8 _) (v2 := .int .u32 _) ent56 rfl rfl rfl <| Ret.det (R5ref_Enum2 ho _) hst fun w hst => CN <| Op1.move (v := .tuple #[str _, .bool _]) rfl <| CN <| Op1.extract (v := str _) rfl rfl <| CN <| Op1.extract (v := .bool _) rfl rfl <| AS rfl <| AB rfl <| NL <| SQ <| SQ ?_
       refine RG <| CN <| Op1.fieldAddr fld35_0 rfl <| CN <| Op1.load1 (v := .int .u8 _) ty5 rfl rfl (hst.cellL (.head _) rfl) <| CN <| Op1.eql rfl rfl <| MB rfl <| RunL.splitD (d := 56) rfl (fun g20 => ?_) (fun g20 => ?_)
       · skip
         refine TK (t := 56) rfl (congrArg Value.bool (decide_eq_true g20)) <| Op1.move (v := .bool _) rfl <| TK (t := 56) rfl (congrArg Value.bool (decide_eq_true g20)) <| Op1.not rfl <| CN <| Op1.pickT (u := .bool _) (congrArg Value.bool (decide_eq_true g20)) rfl <| NL <| Run.forget [(4, .pointer (some ⟨_, _, none⟩)), (59, .bool _)] ⟨rfl, rfl, trivial⟩ fun f => run_cond_split rfl (fun g21 => ?_) (fun g21 => ?_)
         · skip
           refine SR <| AI rfl <| NL <| run_ret1 Try.func44 rfl (TP (v := .int .i64 _) rfl) ?_
           have hE := wrongA_eq (c := c) (a := a) (bound := bound) (fun h => h.elim (by omega) (fun h => h (by rw [hkd]; omega))) (fun h => h.elim (fun h => by have := h.2; omega) (fun h => absurd h.2 (by simpa using g17)))
           rw [if_neg (fun h => absurd h.2 (of_decide_eq_false g19))] at hE
           rw [if_pos ⟨by omega, by rw [ho]; simpa using g21⟩] at hE
           exact ⟨congrArg (Value.int .i64) (hE).symm, hst.pure⟩
         refine run_skip <| SQ <| SR <| AI rfl <| NL <| run_block <| run_loop <| Run.indW [(4, .pointer (some ⟨_, _, none⟩))] ⟨rfl, trivial⟩ (fun (i : Nat) => [(9, .int .i64 (i : Int))]) (fun (i : Nat) => []) (fun (i : Nat) => i ≤ a.s.length ∧ ∀ j, j < i → a.s.getD j 0 ≠ 0) (fun (i : Nat) => a.s.length - i) (0) hst ⟨Nat.zero_le _, no_lt⟩ ⟨rfl, trivial⟩ ?_
         intro i f w hst hJ ih22
         refine SQ <| SR <| MI rfl <| CN <| Op1.fieldAddr fld35_2 rfl <| CN <| Op1.load1 (v := str _) ty9 rfl rfl (hst.cellL (.head _) rfl) <| CN <| Op1.lenS (rest := []) ty9 rfl <| CN <| Op1.lss rfl rfl <| NL <| run_cond_dec rfl (fun g23 => ?_) (fun g23 => ?_)
         · skip
           refine run_skip <| SQ <| run_block <| SR <| CN <| Op1.fieldAddr fld35_2 rfl <| CN <| Op1.load1 (v := str _) ty9 rfl rfl (hst.cellL (.head _) rfl) <| MI rfl <| CN <| Op1.indexS ty9 rfl rfl (by omega) (by omega) <| CN <| Op1.eql rfl rfl <| NL <| run_cond_dec rfl (fun g24 => ?_) (fun g24 => ?_)
           · skip
             refine SR <| AI rfl <| NL <| run_ret1 Try.func44 rfl (TP (v := .int .i64 _) rfl) ?_
             have hE := wrongA_eq (c := c) (a := a) (bound := bound) (fun h => h.elim (by omega) (fun h => h (by rw [hkd]; omega))) (fun h => h.elim (fun h => by have := h.2; omega) (fun h => absurd h.2 (by simpa using g17)))
             rw [if_neg (fun h => absurd h.2 (of_decide_eq_false g19))] at hE
             rw [if_neg (fun h => by have h2 := h.2; have hg := g21; rw [ho] at h2; rw [h2] at hg; cases hg)] at hE
             rw [textE_hit (i := i) (by omega) (byte0 (by have hg := g24; exact hg)) hJ.2] at hE
             exact ⟨congrArg (Value.int .i64) (hE).symm, hst.pure⟩
           refine run_skip <| run_inBlock <| RG <| MI rfl <| CN <| Op1.addN rfl rfl rfl (wrap_i64 (by omega) (by omega)) <| AI rfl <| NL <| run_inLoop ?_
           exact ih22 (i + 1) _ w (by omega) hst (⟨by omega, step_all hJ.2 (byte1 g24)⟩) ⟨rfl, trivial⟩ ⟨(congrArg (Value.int .i64) (by omega)), trivial⟩
         refine run_exit (id := 0) rfl <| SR <| AI rfl <| NL <| run_ret1 Try.func44 rfl (TP (v := .int .i64 _) rfl) ?_
         have hE := wrongA_eq (c := c) (a := a) (bound := bound) (fun h => h.elim (by omega) (fun h => h (by rw [hkd]; omega))) (fun h => h.elim (fun h => by have := h.2; omega) (fun h => absurd h.2 (by simpa using g17)))
         rw [if_neg (fun h => absurd h.2 (of_decide_eq_false g19))] at hE
         rw [if_neg (fun h => by have h2 := h.2; have hg := g21; rw [ho] at h2; rw [h2] at hg; cases hg)] at hE
         rw [textE_none (fun j hj => hJ.2 j (by omega))] at hE
         exact ⟨congrArg (Value.int .i64) (hE).symm, hst.pure⟩
       refine OM (t := 56) rfl (congrArg Value.bool (decide_eq_false g20)) rfl <| OM (t := 56) rfl (congrArg Value.bool (decide_eq_false g20)) rfl <| CN <| Op1.pickF (u := .bool _) (congrArg Value.bool (decide_eq_false g20)) rfl <| NL <| Run.forget [(4, .pointer (some ⟨_, _, none⟩)), (59, .bool _)] ⟨rfl, rfl, trivial⟩ fun f => run_cond_false (congrArg Value.bool (rfl : false = _)) <| run_skip <| SQ <| SR <| AI rfl <| NL <| run_block <| run_loop <| Run.indW [(4, .pointer (some ⟨_, _, none⟩))] ⟨rfl, trivial⟩ (fun (i : Nat) => [(9, .int .i64 (i : Int))]) (fun (i : Nat) => []) (fun (i : Nat) => i ≤ a.s.length ∧ ∀ j, j < i → a.s.getD j 0 ≠ 0) (fun (i : Nat) => a.s.length - i) (0) hst ⟨Nat.zero_le _, no_lt⟩ ⟨rfl, trivial⟩ ?_
       intro i f w hst hJ ih25
       refine SQ <| SR <| MI rfl <| CN <| Op1.fieldAddr fld35_2 rfl <| CN <| Op1.load1 (v := str _) ty9 rfl rfl (hst.cellL (.head _) rfl) <| CN <| Op1.lenS (rest := []) ty9 rfl <| CN <| Op1.lss rfl rfl <| NL <| run_cond_dec rfl (fun g26 => ?_) (fun g26 => ?_)
       · skip
         refine run_skip <| SQ <| run_block <| SR <| CN <| Op1.fieldAddr fld35_2 rfl <| CN <| Op1.load1 (v := str _) ty9 rfl rfl (hst.cellL (.head _) rfl) <| MI rfl <| CN <| Op1.indexS ty9 rfl rfl (by omega) (by omega) <| CN <| Op1.eql rfl rfl <| NL <| run_cond_dec rfl (fun g27 => ?_) (fun g27 => ?_)
         · skip
           refine SR <| AI rfl <| NL <| run_ret1 Try.func44 rfl (TP (v := .int .i64 _) rfl) ?_
           have hE := wrongA_eq (c := c) (a := a) (bound := bound) (fun h => h.elim (by omega) (fun h => h (by rw [hkd]; omega))) (fun h => h.elim (fun h => by have := h.2; omega) (fun h => absurd h.2 (by simpa using g17)))
           rw [if_neg (fun h => absurd h.2 (of_decide_eq_false g19))] at hE
           rw [if_neg (fun h => by have := h.1; omega)] at hE
           rw [textE_hit (i := i) (by omega) (byte0 (by have hg := g27; exact hg)) hJ.2] at hE
           exact ⟨congrArg (Value.int .i64) (hE).symm, hst.pure⟩
         refine run_skip <| run_inBlock <| RG <| MI rfl <| CN <| Op1.addN rfl rfl rfl (wrap_i64 (by omega) (by omega)) <| AI rfl <| NL <| run_inLoop ?_
         exact ih25 (i + 1) _ w (by omega) hst (⟨by omega, step_all hJ.2 (byte1 g27)⟩) ⟨rfl, trivial⟩ ⟨(congrArg (Value.int .i64) (by omega)), trivial⟩
       refine run_exit (id := 0) rfl <| SR <| AI rfl <| NL <| run_ret1 Try.func44 rfl (TP (v := .int .i64 _) rfl) ?_
       have hE := wrongA_eq (c := c) (a := a) (bound := bound) (fun h => h.elim (by omega) (fun h => h (by rw [hkd]; omega))) (fun h => h.elim (fun h => by have := h.2; omega) (fun h => absurd h.2 (by simpa using g17)))
       rw [if_neg (fun h => absurd h.2 (of_decide_eq_false g19))] at hE
       rw [if_neg (fun h => by have := h.1; omega)] at hE
       rw [textE_none (fun j hj => hJ.2 j (by omega))] at hE
       exact ⟨congrArg (Value.int .i64) (hE).symm, hst.pure⟩
     refine OM (t := 40) rfl (congrArg Value.bool (decide_eq_false g18)) rfl <| OM (t := 40) rfl (congrArg Value.bool (decide_eq_false g18)) rfl <| OM (t := 40) rfl (congrArg Value.bool (decide_eq_false g18)) rfl <| OM (t := 40) rfl (congrArg Value.bool (decide_eq_false g18)) rfl <| CN <| Op1.pickF (u := .bool _) (congrArg Value.bool (decide_eq_false g18)) rfl <| NL <| run_cond_false (congrArg Value.bool (rfl : false = _)) <| run_skip <| SR <| MC rfl <| CN <| Op1.fieldAddr fld35_1 rfl <| CN <| Op1.load1 (v := .int .u32 _) ty22 rfl rfl (hst.cellL (.head _) rfl) <| CN <| Op1.call2 (v1 := .int .u8 _) (v2 := .int .u32 _) ent56 rfl rfl rfl <| Ret.det (R5ref_Enum2 ho _) hst fun w hst => CN (Op1.move (v := .tuple #[str _, .bool _]) rfl ?_)
     refine CN <| Op1.extract (v := str _) rfl rfl <| CN <| Op1.extract (v := .bool _) rfl rfl <| AS rfl <| AB rfl <| NL <| SQ <| SR <| CN <| Op1.fieldAddr fld35_0 rfl <| CN <| Op1.load1 (v := .int .u8 _) ty5 rfl rfl (hst.cellL (.head _) rfl) <| CN <| Op1.eql rfl rfl <| MB rfl <| RunL.splitD (d := 56) rfl (fun g28 => ?_) (fun g28 => ?_)
     · skip
       refine TK (t := 56) rfl (congrArg Value.bool (decide_eq_true g28)) <| Op1.move (v := .bool _) rfl <| TK (t := 56) rfl (congrArg Value.bool (decide_eq_true g28)) <| Op1.not rfl <| CN <| Op1.pickT (u := .bool _) (congrArg Value.bool (decide_eq_true g28)) rfl <| NL <| Run.forget [(4, .pointer (some ⟨_, _, none⟩)), (59, .bool _)] ⟨rfl, rfl, trivial⟩ fun f => run_cond_split rfl (fun g29 => ?_) (fun g29 => ?_)
       · skip
         refine SR <| AI rfl <| NL <| run_ret1 Try.func44 rfl (TP (v := .int .i64 _) rfl) ?_
         have hE := wrongA_eq (c := c) (a := a) (bound := bound) (fun h => h.elim (by omega) (fun h => h (by rw [hkd]; omega))) (fun h => h.elim (fun h => by have := h.2; omega) (fun h => absurd h.2 (by simpa using g17)))
         rw [if_neg (fun h => by have := h.1; omega)] at hE
         rw [if_pos ⟨by omega, by rw [ho]; simpa using g29⟩] at hE
         exact ⟨congrArg (Value.int .i64) (hE).symm, hst.pure⟩
       refine run_skip <| SQ <| SR <| AI rfl <| NL <| run_block <| run_loop <| Run.indW [(4, .pointer (some ⟨_, _, none⟩))] ⟨rfl, trivial⟩ (fun (i : Nat) => [(9, .int .i64 (i : Int))]) (fun (i : Nat) => []) (fun (i : Nat) => i ≤ a.s.length ∧ ∀ j, j < i → a.s.getD j 0 ≠ 0) (fun (i : Nat) => a.s.length - i) (0) hst ⟨Nat.zero_le _, no_lt⟩ ⟨rfl, trivial⟩ ?_
       intro i f w hst hJ ih30
       refine SQ <| SR <| MI rfl <| CN <| Op1.fieldAddr fld35_2 rfl <| CN <| Op1.load1 (v := str _) ty9 rfl rfl (hst.cellL (.head _) rfl) <| CN <| Op1.lenS (rest := []) ty9 rfl <| CN <| Op1.lss rfl rfl <| NL <| run_cond_dec rfl (fun g31 => ?_) (fun g31 => ?_)
       · skip
         refine run_skip <| SQ <| run_block <| SR <| CN <| Op1.fieldAddr fld35_2 rfl <| CN <| Op1.load1 (v := str _) ty9 rfl rfl (hst.cellL (.head _) rfl) <| MI rfl <| CN <| Op1.indexS ty9 rfl rfl (by omega) (by omega) <| CN <| Op1.eql rfl rfl <| NL <| run_cond_dec rfl (fun g32 => ?_) (fun g32 => ?_)
         · skip
           refine SR <| AI rfl <| NL <| run_ret1 Try.func44 rfl (TP (v := .int .i64 _) rfl) ?_
           have hE := wrongA_eq (c := c) (a := a) (bound := bound) (fun h => h.elim (by omega) (fun h => h (by rw [hkd]; omega))) (fun h => h.elim (fun h => by have := h.2; omega) (fun h => absurd h.2 (by simpa using g17)))
           rw [if_neg (fun h => by have := h.1; omega)] at hE
           rw [if_neg (fun h => by have h2 := h.2; have hg := g29; rw [ho] at h2; rw [h2] at hg; cases hg)] at hE
           rw [textE_hit (i := i) (by omega) (byte0 (by have hg := g32; exact hg)) hJ.2] at hE
           exact ⟨congrArg (Value.int .i64) (hE).symm, hst.pure⟩
         refine run_skip <| run_inBlock <| RG <| MI rfl <| CN <| Op1.addN rfl rfl rfl (wrap_i64 (by omega) (by omega)) <| AI rfl <| NL <| run_inLoop ?_
         exact ih30 (i + 1) _ w (by omega) hst (⟨by omega, step_all hJ.2 (byte1 g32)⟩) ⟨rfl, trivial⟩ ⟨(congrArg (Value.int .i64) (by omega)), trivial⟩
       refine run_exit (id := 0) rfl <| SR <| AI rfl <| NL <| run_ret1 Try.func44 rfl (TP (v := .int .i64 _) rfl) ?_
       have hE := wrongA_eq (c := c) (a := a) (bound := bound) (fun h => h.elim (by omega) (fun h => h (by rw [hkd]; omega))) (fun h => h.elim (fun h => by have := h.2; omega) (fun h => absurd h.2 (by simpa using g17)))
       rw [if_neg (fun h => by have := h.1; omega)] at hE
       rw [if_neg (fun h => by have h2 := h.2; have hg := g29; rw [ho] at h2; rw [h2] at hg; cases hg)] at hE
       rw [textE_none (fun j hj => hJ.2 j (by omega))] at hE
       exact ⟨congrArg (Value.int .i64) (hE).symm, hst.pure⟩
     refine OM (t := 56) rfl (congrArg Value.bool (decide_eq_false g28)) rfl <| OM (t := 56) rfl (congrArg Value.bool (decide_eq_false g28)) rfl <| CN <| Op1.pickF (u := .bool _) (congrArg Value.bool (decide_eq_false g28)) rfl <| NL <| Run.forget [(4, .pointer (some ⟨_, _, none⟩)), (59, .bool _)] ⟨rfl, rfl, trivial⟩ fun f => run_cond_false (congrArg Value.bool (rfl : false = _)) <| run_skip <| SQ <| SR <| AI rfl <| NL <| run_block <| run_loop <| Run.indW [(4, .pointer (some ⟨_, _, none⟩))] ⟨rfl, trivial⟩ (fun (i : Nat) => [(9, .int .i64 (i : Int))]) (fun (i : Nat) => []) (fun (i : Nat) => i ≤ a.s.length ∧ ∀ j, j < i → a.s.getD j 0 ≠ 0) (fun (i : Nat) => a.s.length - i) (0) hst ⟨Nat.zero_le _, no_lt⟩ ⟨rfl, trivial⟩ ?_
     intro i f w hst hJ ih33
     refine SQ <| SR <| MI rfl <| CN <| Op1.fieldAddr fld35_2 rfl <| CN <| Op1.load1 (v := str _) ty9 rfl rfl (hst.cellL (.head _) rfl) <| CN <| Op1.lenS (rest := []) ty9 rfl <| CN <| Op1.lss rfl rfl <| NL <| run_cond_dec rfl (fun g34 => ?_) (fun g34 => ?_)
     · skip
       refine run_skip <| SQ <| run_block <| SR <| CN <| Op1.fieldAddr fld35_2 rfl <| CN <| Op1.load1 (v := str _) ty9 rfl rfl (hst.cellL (.head _) rfl) <| MI rfl <| CN <| Op1.indexS ty9 rfl rfl (by omega) (by omega) <| CN <| Op1.eql rfl rfl <| NL <| run_cond_dec rfl (fun g35 => ?_) (fun g35 => ?_)
       · skip
         refine SR <| AI rfl <| NL <| run_ret1 Try.func44 rfl (TP (v := .int .i64 _) rfl) ?_
         have hE := wrongA_eq (c := c) (a := a) (bound := bound) (fun h => h.elim (by omega) (fun h => h (by rw [hkd]; omega))) (fun h => h.elim (fun h => by have := h.2; omega) (fun h => absurd h.2 (by simpa using g17)))
         rw [if_neg (fun h => by have := h.1; omega)] at hE
         rw [if_neg (fun h => by have := h.1; omega)] at hE
         rw [textE_hit (i := i) (by omega) (byte0 (by have hg := g35; exact hg)) hJ.2] at hE
         exact ⟨congrArg (Value.int .i64) (hE).symm, hst.pure⟩
       refine run_skip <| run_inBlock <| RG <| MI rfl <| CN <| Op1.addN rfl rfl rfl (wrap_i64 (by omega) (by omega)) <| AI rfl <| NL <| run_inLoop ?_
       exact ih33 (i + 1) _ w (by omega) hst (⟨by omega, step_all hJ.2 (byte1 g35)⟩) ⟨rfl, trivial⟩ ⟨(congrArg (Value.int .i64) (by omega)), trivial⟩
     refine run_exit (id := 0) rfl <| SR <| AI rfl <| NL <| run_ret1 Try.func44 rfl (TP (v := .int .i64 _) rfl) ?_
     have hE := wrongA_eq (c := c) (a := a) (bound := bound) (fun h => h.elim (by omega) (fun h => h (by rw [hkd]; omega))) (fun h => h.elim (fun h => by have := h.2; omega) (fun h => absurd h.2 (by simpa using g17)))
     rw [if_neg (fun h => by have := h.1; omega)] at hE
     rw [if_neg (fun h => by have := h.1; omega)] at hE
     rw [textE_none (fun j hj => hJ.2 j (by omega))] at hE
     exact ⟨congrArg (Value.int .i64) (hE).symm, hst.pure⟩
   refine OM (t := 31) rfl (congrArg Value.bool (decide_eq_false g16)) rfl <| OM (t := 31) rfl (congrArg Value.bool (decide_eq_false g16)) rfl <| OM (t := 31) rfl (congrArg Value.bool (decide_eq_false g16)) rfl <| TK (t := 27) rfl (congrArg Value.bool (decide_eq_false g15)) <| Op1.pickF (u := .bool _) (congrArg Value.bool (decide_eq_false g16)) rfl <| CN <| Op1.pickF (u := .bool _) (congrArg Value.bool (decide_eq_false g15)) rfl <| NL <| Run.forget [(0, .int .u8 _), (2, .int .u32 _), (4, .pointer (some ⟨_, _, none⟩)), (36, .bool _)] ⟨rfl, rfl, rfl, rfl, trivial⟩ fun f => run_cond_false (congrArg Value.bool (rfl : false = _)) <| run_skip <| SQ <| SR <| CN <| Op1.fieldAddr fld35_0 rfl <| CN <| Op1.load1 (v := .int .u8 _) ty5 rfl rfl (hst.cellL (.head _) rfl) <| CN (Op1.eql rfl rfl ?_)
   refine MB rfl <| RunL.splitD (d := 40) rfl (fun g36 => ?_) (fun g36 => ?_)
   · skip
     refine TK (t := 40) rfl (congrArg Value.bool (decide_eq_true g36)) <| Op1.fieldAddr fld35_1 rfl <| TK (t := 40) rfl (congrArg Value.bool (decide_eq_true g36)) <| Op1.load1 (v := .int .u32 _) ty22 rfl rfl (hst.cellL (.head _) rfl) <| TK (t := 40) rfl (congrArg Value.bool (decide_eq_true g36)) <| Op1.move (v := .int .u32 _) rfl <| TK (t := 40) rfl (congrArg Value.bool (decide_eq_true g36)) (Op1.call2 (v1 := .int .u32 _) (v2 := .int .u32 _) ent55 rfl rfl rfl ((R5ref4_None _ _ _).mono fun v w hp => ?_))
     obtain ⟨rfl, hp⟩ := hp
     replace hst := hst.keepc hp
     clear hp
     refine CN <| Op1.pickT (u := .bool _) (congrArg Value.bool (decide_eq_true g36)) rfl <| NL <| run_cond_split rfl (fun g37 => ?_) (fun g37 => ?_)
     · skip
       refine SR <| AI rfl <| NL <| run_ret1 Try.func44 rfl (TP (v := .int .i64 _) rfl) ?_
       have hE := wrongA_eq (c := c) (a := a) (bound := bound) (fun h => h.elim (by omega) (fun h => h (by rw [hkd]; omega))) (fun h => h.elim (fun h => by have := h.2; omega) (fun h => h.1 (by omega)))
       rw [if_pos ⟨by omega, by simpa using g37⟩] at hE
       exact ⟨congrArg (Value.int .i64) (hE).symm, hst.pure⟩
     refine run_skip <| SR <| MC rfl <| CN <| Op1.fieldAddr fld35_1 rfl <| CN <| Op1.load1 (v := .int .u32 _) ty22 rfl rfl (hst.cellL (.head _) rfl) <| CN <| Op1.call2 (v1 := .int .u8 _) (v2 := .int .u32 _) ent56 rfl rfl rfl <| Ret.det (R5ref_Enum2 ho _) hst fun w hst => CN <| Op1.move (v := .tuple #[str _, .bool _]) rfl <| CN <| Op1.extract (v := str _) rfl rfl <| CN <| Op1.extract (v := .bool _) rfl rfl <| AS rfl <| AB rfl <| NL <| SQ <| SQ ?_
     refine RG <| CN <| Op1.fieldAddr fld35_0 rfl <| CN <| Op1.load1 (v := .int .u8 _) ty5 rfl rfl (hst.cellL (.head _) rfl) <| CN <| Op1.eql rfl rfl <| MB rfl <| RunL.splitD (d := 56) rfl (fun g38 => ?_) (fun g38 => ?_)
     · skip
       refine TK (t := 56) rfl (congrArg Value.bool (decide_eq_true g38)) <| Op1.move (v := .bool _) rfl <| TK (t := 56) rfl (congrArg Value.bool (decide_eq_true g38)) <| Op1.not rfl <| CN <| Op1.pickT (u := .bool _) (congrArg Value.bool (decide_eq_true g38)) rfl <| NL <| Run.forget [(4, .pointer (some ⟨_, _, none⟩)), (59, .bool _)] ⟨rfl, rfl, trivial⟩ fun f => run_cond_split rfl (fun g39 => ?_) (fun g39 => ?_)
       · skip
         refine SR <| AI rfl <| NL <| run_ret1 Try.func44 rfl (TP (v := .int .i64 _) rfl) ?_
         have hE := wrongA_eq (c := c) (a := a) (bound := bound) (fun h => h.elim (by omega) (fun h => h (by rw [hkd]; omega))) (fun h => h.elim (fun h => by have := h.2; omega) (fun h => h.1 (by omega)))
         rw [if_neg (fun h => absurd h.2 (of_decide_eq_false g37))] at hE
         rw [if_pos ⟨by omega, by rw [ho]; simpa using g39⟩] at hE
         exact ⟨congrArg (Value.int .i64) (hE).symm, hst.pure⟩
       refine run_skip <| SQ <| SR <| AI rfl <| NL <| run_block <| run_loop <| Run.indW [(4, .pointer (some ⟨_, _, none⟩))] ⟨rfl, trivial⟩ (fun (i : Nat) => [(9, .int .i64 (i : Int))]) (fun (i : Nat) => []) (fun (i : Nat) => i ≤ a.s.length ∧ ∀ j, j < i → a.s.getD j 0 ≠ 0) (fun (i : Nat) => a.s.length - i) (0) hst ⟨Nat.zero_le _, no_lt⟩ ⟨rfl, trivial⟩ ?_
       intro i f w hst hJ ih40
       refine SQ <| SR <| MI rfl <| CN <| Op1.fieldAddr fld35_2 rfl <| CN <| Op1.load1 (v := str _) ty9 rfl rfl (hst.cellL (.head _) rfl) <| CN <| Op1.lenS (rest := []) ty9 rfl <| CN <| Op1.lss rfl rfl <| NL <| run_cond_dec rfl (fun g41 => ?_) (fun g41 => ?_)
       · skip
         refine run_skip <| SQ <| run_block <| SR <| CN <| Op1.fieldAddr fld35_2 rfl <| CN <| Op1.load1 (v := str _) ty9 rfl rfl (hst.cellL (.head _) rfl) <| MI rfl <| CN <| Op1.indexS ty9 rfl rfl (by omega) (by omega) <| CN <| Op1.eql rfl rfl <| NL <| run_cond_dec rfl (fun g42 => ?_) (fun g42 => ?_)
         · skip
           refine SR <| AI rfl <| NL <| run_ret1 Try.func44 rfl (TP (v := .int .i64 _) rfl) ?_
           have hE := wrongA_eq (c := c) (a := a) (bound := bound) (fun h => h.elim (by omega) (fun h => h (by rw [hkd]; omega))) (fun h => h.elim (fun h => by have := h.2; omega) (fun h => h.1 (by omega)))
           rw [if_neg (fun h => absurd h.2 (of_decide_eq_false g37))] at hE
           rw [if_neg (fun h => by have h2 := h.2; have hg := g39; rw [ho] at h2; rw [h2] at hg; cases hg)] at hE
           rw [textE_hit (i := i) (by omega) (byte0 (by have hg := g42; exact hg)) hJ.2] at hE
           exact ⟨congrArg (Value.int .i64) (hE).symm, hst.pure⟩
         refine run_skip <| run_inBlock <| RG <| MI rfl <| CN <| Op1.addN rfl rfl rfl (wrap_i64 (by omega) (by omega)) <| AI rfl <| NL <| run_inLoop ?_
         exact ih40 (i + 1) _ w (by omega) hst (⟨by omega, step_all hJ.2 (byte1 g42)⟩) ⟨rfl, trivial⟩ ⟨(congrArg (Value.int .i64) (by omega)), trivial⟩
       refine run_exit (id := 0) rfl <| SR <| AI rfl <| NL <| run_ret1 Try.func44 rfl (TP (v := .int .i64 _) rfl) ?_
       have hE := wrongA_eq (c := c) (a := a) (bound := bound) (fun h => h.elim (by omega) (fun h => h (by rw [hkd]; omega))) (fun h => h.elim (fun h => by have := h.2; omega) (fun h => h.1 (by omega)))
       rw [if_neg (fun h => absurd h.2 (of_decide_eq_false g37))] at hE
       rw [if_neg (fun h => by have h2 := h.2; have hg := g39; rw [ho] at h2; rw [h2] at hg; cases hg)] at hE
       rw [textE_none (fun j hj => hJ.2 j (by omega))] at hE
       exact ⟨congrArg (Value.int .i64) (hE).symm, hst.pure⟩
     refine OM (t := 56) rfl (congrArg Value.bool (decide_eq_false g38)) rfl <| OM (t := 56) rfl (congrArg Value.bool (decide_eq_false g38)) rfl <| CN <| Op1.pickF (u := .bool _) (congrArg Value.bool (decide_eq_false g38)) rfl <| NL <| Run.forget [(4, .pointer (some ⟨_, _, none⟩)), (59, .bool _)] ⟨rfl, rfl, trivial⟩ fun f => run_cond_false (congrArg Value.bool (rfl : false = _)) <| run_skip <| SQ <| SR <| AI rfl <| NL <| run_block <| run_loop <| Run.indW [(4, .pointer (some ⟨_, _, none⟩))] ⟨rfl, trivial⟩ (fun (i : Nat) => [(9, .int .i64 (i : Int))]) (fun (i : Nat) => []) (fun (i : Nat) => i ≤ a.s.length ∧ ∀ j, j < i → a.s.getD j 0 ≠ 0) (fun (i : Nat) => a.s.length - i) (0) hst ⟨Nat.zero_le _, no_lt⟩ ⟨rfl, trivial⟩ ?_
     intro i f w hst hJ ih43
     refine SQ <| SR <| MI rfl <| CN <| Op1.fieldAddr fld35_2 rfl <| CN <| Op1.load1 (v := str _) ty9 rfl rfl (hst.cellL (.head _) rfl) <| CN <| Op1.lenS (rest := []) ty9 rfl <| CN <| Op1.lss rfl rfl <| NL <| run_cond_dec rfl (fun g44 => ?_) (fun g44 => ?_)
     · skip
       refine run_skip <| SQ <| run_block <| SR <| CN <| Op1.fieldAddr fld35_2 rfl <| CN <| Op1.load1 (v := str _) ty9 rfl rfl (hst.cellL (.head _) rfl) <| MI rfl <| CN <| Op1.indexS ty9 rfl rfl (by omega) (by omega) <| CN <| Op1.eql rfl rfl <| NL <| run_cond_dec rfl (fun g45 => ?_) (fun g45 => ?_)
       · skip
         refine SR <| AI rfl <| NL <| run_ret1 Try.func44 rfl (TP (v := .int .i64 _) rfl) ?_
         have hE := wrongA_eq (c := c) (a := a) (bound := bound) (fun h => h.elim (by omega) (fun h => h (by rw [hkd]; omega))) (fun h => h.elim (fun h => by have := h.2; omega) (fun h => h.1 (by omega)))
         rw [if_neg (fun h => absurd h.2 (of_decide_eq_false g37))] at hE
         rw [if_neg (fun h => by have := h.1; omega)] at hE
         rw [textE_hit (i := i) (by omega) (byte0 (by have hg := g45; exact hg)) hJ.2] at hE
         exact ⟨congrArg (Value.int .i64) (hE).symm, hst.pure⟩
       refine run_skip <| run_inBlock <| RG <| MI rfl <| CN <| Op1.addN rfl rfl rfl (wrap_i64 (by omega) (by omega)) <| AI rfl <| NL <| run_inLoop ?_
       exact ih43 (i + 1) _ w (by omega) hst (⟨by omega, step_all hJ.2 (byte1 g45)⟩) ⟨rfl, trivial⟩ ⟨(congrArg (Value.int .i64) (by omega)), trivial⟩
     refine run_exit (id := 0) rfl <| SR <| AI rfl <| NL <| run_ret1 Try.func44 rfl (TP (v := .int .i64 _) rfl) ?_
     have hE := wrongA_eq (c := c) (a := a) (bound := bound) (fun h => h.elim (by omega) (fun h => h (by rw [hkd]; omega))) (fun h => h.elim (fun h => by have := h.2; omega) (fun h => h.1 (by omega)))
     rw [if_neg (fun h => absurd h.2 (of_decide_eq_false g37))] at hE
     rw [if_neg (fun h => by have := h.1; omega)] at hE
     rw [textE_none (fun j hj => hJ.2 j (by omega))] at hE
     exact ⟨congrArg (Value.int .i64) (hE).symm, hst.pure⟩
   refine OM (t := 40) rfl (congrArg Value.bool (decide_eq_false g36)) rfl <| OM (t := 40) rfl (congrArg Value.bool (decide_eq_false g36)) rfl <| OM (t := 40) rfl (congrArg Value.bool (decide_eq_false g36)) rfl <| OM (t := 40) rfl (congrArg Value.bool (decide_eq_false g36)) rfl <| CN <| Op1.pickF (u := .bool _) (congrArg Value.bool (decide_eq_false g36)) rfl <| NL <| run_cond_false (congrArg Value.bool (rfl : false = _)) <| run_skip <| SR <| MC rfl <| CN <| Op1.fieldAddr fld35_1 rfl <| CN <| Op1.load1 (v := .int .u32 _) ty22 rfl rfl (hst.cellL (.head _) rfl) <| CN <| Op1.call2 (v1 := .int .u8 _) (v2 := .int .u32 _) ent56 rfl rfl rfl <| Ret.det (R5ref_Enum2 ho _) hst fun w hst => CN (Op1.move (v := .tuple #[str _, .bool _]) rfl ?_)
   refine CN <| Op1.extract (v := str _) rfl rfl <| CN <| Op1.extract (v := .bool _) rfl rfl <| AS rfl <| AB rfl <| NL <| SQ <| SR <| CN <| Op1.fieldAddr fld35_0 rfl <| CN <| Op1.load1 (v := .int .u8 _) ty5 rfl rfl (hst.cellL (.head _) rfl) <| CN <| Op1.eql rfl rfl <| MB rfl <| RunL.splitD (d := 56) rfl (fun g46 => ?_) (fun g46 => ?_)
   · skip
     refine TK (t := 56) rfl (congrArg Value.bool (decide_eq_true g46)) <| Op1.move (v := .bool _) rfl <| TK (t := 56) rfl (congrArg Value.bool (decide_eq_true g46)) <| Op1.not rfl <| CN <| Op1.pickT (u := .bool _) (congrArg Value.bool (decide_eq_true g46)) rfl <| NL <| Run.forget [(4, .pointer (some ⟨_, _, none⟩)), (59, .bool _)] ⟨rfl, rfl, trivial⟩ fun f => run_cond_split rfl (fun g47 => ?_) (fun g47 => ?_)
     · skip
       refine SR <| AI rfl <| NL <| run_ret1 Try.func44 rfl (TP (v := .int .i64 _) rfl) ?_
       have hE := wrongA_eq (c := c) (a := a) (bound := bound) (fun h => h.elim (by omega) (fun h => h (by rw [hkd]; omega))) (fun h => h.elim (fun h => by have := h.2; omega) (fun h => h.1 (by omega)))
       rw [if_neg (fun h => by have := h.1; omega)] at hE
       rw [if_pos ⟨by omega, by rw [ho]; simpa using g47⟩] at hE
       exact ⟨congrArg (Value.int .i64) (hE).symm, hst.pure⟩
     refine run_skip <| SQ <| SR <| AI rfl <| NL <| run_block <| run_loop <| Run.indW [(4, .pointer (some ⟨_, _, none⟩))] ⟨rfl, trivial⟩ (fun (i : Nat) => [(9, .int .i64 (i : Int))]) (fun (i : Nat) => []) (fun (i : Nat) => i ≤ a.s.length ∧ ∀ j, j < i → a.s.getD j 0 ≠ 0) (fun (i : Nat) => a.s.length - i) (0) hst ⟨Nat.zero_le _, no_lt⟩ ⟨rfl, trivial⟩ ?_
     intro i f w hst hJ ih48
     refine SQ <| SR <| MI rfl <| CN <| Op1.fieldAddr fld35_2 rfl <| CN <| Op1.load1 (v := str _) ty9 rfl rfl (hst.cellL (.head _) rfl) <| CN <| Op1.lenS (rest := []) ty9 rfl <| CN <| Op1.lss rfl rfl <| NL <| run_cond_dec rfl (fun g49 => ?_) (fun g49 => ?_)
     · skip
       refine run_skip <| SQ <| run_block <| SR <| CN <| Op1.fieldAddr fld35_2 rfl <| CN <| Op1.load1 (v := str _) ty9 rfl rfl (hst.cellL (.head _) rfl) <| MI rfl <| CN <| Op1.indexS ty9 rfl rfl (by omega) (by omega) <| CN <| Op1.eql rfl rfl <| NL <| run_cond_dec rfl (fun g50 => ?_) (fun g50 => ?_)
       · skip
         refine SR <| AI rfl <| NL <| run_ret1 Try.func44 rfl (TP (v := .int .i64 _) rfl) ?_
         have hE := wrongA_eq (c := c) (a := a) (bound := bound) (fun h => h.elim (by omega) (fun h => h (by rw [hkd]; omega))) (fun h => h.elim (fun h => by have := h.2; omega) (fun h => h.1 (by omega)))
         rw [if_neg (fun h => by have := h.1; omega)] at hE
         rw [if_neg (fun h => by have h2 := h.2; have hg := g47; rw [ho] at h2; rw [h2] at hg; cases hg)] at hE
         rw [textE_hit (i := i) (by omega) (byte0 (by have hg := g50; exact hg)) hJ.2] at hE
         exact ⟨congrArg (Value.int .i64) (hE).symm, hst.pure⟩
       refine run_skip <| run_inBlock <| RG <| MI rfl <| CN <| Op1.addN rfl rfl rfl (wrap_i64 (by omega) (by omega)) <| AI rfl <| NL <| run_inLoop ?_
       exact ih48 (i + 1) _ w (by omega) hst (⟨by omega, step_all hJ.2 (byte1 g50)⟩) ⟨rfl, trivial⟩ ⟨(congrArg (Value.int .i64) (by omega)), trivial⟩
     refine run_exit (id := 0) rfl <| SR <| AI rfl <| NL <| run_ret1 Try.func44 rfl (TP (v := .int .i64 _) rfl) ?_
     have hE := wrongA_eq (c := c) (a := a) (bound := bound) (fun h => h.elim (by omega) (fun h => h (by rw [hkd]; omega))) (fun h => h.elim (fun h => by have := h.2; omega) (fun h => h.1 (by omega)))
     rw [if_neg (fun h => by have := h.1; omega)] at hE
     rw [if_neg (fun h => by have h2 := h.2; have hg := g47; rw [ho] at h2; rw [h2] at hg; cases hg)] at hE
     rw [textE_none (fun j hj => hJ.2 j (by omega))] at hE
     exact ⟨congrArg (Value.int .i64) (hE).symm, hst.pure⟩
   refine OM (t := 56) rfl (congrArg Value.bool (decide_eq_false g46)) rfl <| OM (t := 56) rfl (congrArg Value.bool (decide_eq_false g46)) rfl <| CN <| Op1.pickF (u := .bool _) (congrArg Value.bool (decide_eq_false g46)) rfl <| NL <| Run.forget [(4, .pointer (some ⟨_, _, none⟩)), (59, .bool _)] ⟨rfl, rfl, trivial⟩ fun f => run_cond_false (congrArg Value.bool (rfl : false = _)) <| run_skip <| SQ <| SR <| AI rfl <| NL <| run_block <| run_loop <| Run.indW [(4, .pointer (some ⟨_, _, none⟩))] ⟨rfl, trivial⟩ (fun (i : Nat) => [(9, .int .i64 (i : Int))]) (fun (i : Nat) => []) (fun (i : Nat) => i ≤ a.s.length ∧ ∀ j, j < i → a.s.getD j 0 ≠ 0) (fun (i : Nat) => a.s.length - i) (0) hst ⟨Nat.zero_le _, no_lt⟩ ⟨rfl, trivial⟩ ?_
   intro i f w hst hJ ih51
   refine SQ <| SR <| MI rfl <| CN <| Op1.fieldAddr fld35_2 rfl <| CN <| Op1.load1 (v := str _) ty9 rfl rfl (hst.cellL (.head _) rfl) <| CN <| Op1.lenS (rest := []) ty9 rfl <| CN <| Op1.lss rfl rfl <| NL <| run_cond_dec rfl (fun g52 => ?_) (fun g52 => ?_)
   · skip
     refine run_skip <| SQ <| run_block <| SR <| CN <| Op1.fieldAddr fld35_2 rfl <| CN <| Op1.load1 (v := str _) ty9 rfl rfl (hst.cellL (.head _) rfl) <| MI rfl <| CN <| Op1.indexS ty9 rfl rfl (by omega) (by omega) <| CN <| Op1.eql rfl rfl <| NL <| run_cond_dec rfl (fun g53 => ?_) (fun g53 => ?_)
     · skip
       refine SR <| AI rfl <| NL <| run_ret1 Try.func44 rfl (TP (v := .int .i64 _) rfl) ?_
       have hE := wrongA_eq (c := c) (a := a) (bound := bound) (fun h => h.elim (by omega) (fun h => h (by rw [hkd]; omega))) (fun h => h.elim (fun h => by have := h.2; omega) (fun h => h.1 (by omega)))
       rw [if_neg (fun h => by have := h.1; omega)] at hE
       rw [if_neg (fun h => by have := h.1; omega)] at hE
       rw [textE_hit (i := i) (by omega) (byte0 (by have hg := g53; exact hg)) hJ.2] at hE
       exact ⟨congrArg (Value.int .i64) (hE).symm, hst.pure⟩
     refine run_skip <| run_inBlock <| RG <| MI rfl <| CN <| Op1.addN rfl rfl rfl (wrap_i64 (by omega) (by omega)) <| AI rfl <| NL <| run_inLoop ?_
     exact ih51 (i + 1) _ w (by omega) hst (⟨by omega, step_all hJ.2 (byte1 g53)⟩) ⟨rfl, trivial⟩ ⟨(congrArg (Value.int .i64) (by omega)), trivial⟩
   refine run_exit (id := 0) rfl <| SR <| AI rfl <| NL <| run_ret1 Try.func44 rfl (TP (v := .int .i64 _) rfl) ?_
   have hE := wrongA_eq (c := c) (a := a) (bound := bound) (fun h => h.elim (by omega) (fun h => h (by rw [hkd]; omega))) (fun h => h.elim (fun h => by have := h.2; omega) (fun h => h.1 (by omega)))
   rw [if_neg (fun h => by have := h.1; omega)] at hE
   rw [if_neg (fun h => by have := h.1; omega)] at hE
   rw [textE_none (fun j hj => hJ.2 j (by omega))] at hE
   exact ⟨congrArg (Value.int .i64) (hE).symm, hst.pure⟩
 refine OM (t := 22) rfl (congrArg Value.bool (decide_eq_false g14)) rfl <| OM (t := 22) rfl (congrArg Value.bool (decide_eq_false g14)) rfl <| OM (t := 22) rfl (congrArg Value.bool (decide_eq_false g14)) rfl <| CN <| Op1.pickF (u := .bool _) (congrArg Value.bool (decide_eq_false g14)) rfl <| MB rfl <| TK (t := 27) rfl (congrArg Value.bool (rfl : false = _)) <| Op1.fieldAddr fld35_0 rfl <| TK (t := 27) rfl (congrArg Value.bool (rfl : false = _)) <| Op1.load1 (v := .int .u8 _) ty5 rfl rfl (hst.cellL (.head _) rfl) <| TK (t := 27) rfl (congrArg Value.bool (rfl : false = _)) <| Op1.neq rfl rfl <| TK (t := 27) rfl (congrArg Value.bool (rfl : false = _)) <| Op1.move (v := .bool _) rfl <| RunL.splitD (d := 31) rfl (fun g54 => ?_) (fun g54 => ?_)
 · skip
   refine TK (t := 31) rfl (congrArg Value.bool (decide_eq_true g54)) <| Op1.fieldAddr fld35_2 rfl <| TK (t := 31) rfl (congrArg Value.bool (decide_eq_true g54)) <| Op1.load1 (v := str _) ty9 rfl rfl (hst.cellL (.head _) rfl) <| TK (t := 31) rfl (congrArg Value.bool (decide_eq_true g54)) <| Op1.neqS rfl rfl <| TK (t := 27) rfl (congrArg Value.bool (rfl : false = _)) <| Op1.pickT (u := .bool _) (congrArg Value.bool (decide_eq_true g54)) rfl <| CN <| Op1.pickF (u := .bool _) (congrArg Value.bool (rfl : false = _)) rfl <| NL <| Run.forget [(0, .int .u8 _), (2, .int .u32 _), (4, .pointer (some ⟨_, _, none⟩)), (36, .bool _)] ⟨rfl, rfl, rfl, rfl, trivial⟩ fun f => run_cond_dec rfl (fun g55 => ?_) (fun g55 => ?_)
   · skip
     refine SR <| AI rfl <| NL <| run_ret1 Try.func44 rfl (TP (v := .int .i64 _) rfl) ?_
     exact ⟨congrArg (Value.int .i64) (wrongA_form (.inr (.inr (.inr ⟨by omega, by simpa using g55⟩)))).symm, hst.pure⟩
   refine run_skip <| SQ <| SR <| CN <| Op1.fieldAddr fld35_0 rfl <| CN <| Op1.load1 (v := .int .u8 _) ty5 rfl rfl (hst.cellL (.head _) rfl) <| CN <| Op1.eql rfl rfl <| MB rfl <| RunL.splitD (d := 40) rfl (fun g56 => ?_) (fun g56 => ?_)
   · skip
     refine TK (t := 40) rfl (congrArg Value.bool (decide_eq_true g56)) <| Op1.fieldAddr fld35_1 rfl <| TK (t := 40) rfl (congrArg Value.bool (decide_eq_true g56)) <| Op1.load1 (v := .int .u32 _) ty22 rfl rfl (hst.cellL (.head _) rfl) <| TK (t := 40) rfl (congrArg Value.bool (decide_eq_true g56)) <| Op1.move (v := .int .u32 _) rfl <| TK (t := 40) rfl (congrArg Value.bool (decide_eq_true g56)) (Op1.call2 (v1 := .int .u32 _) (v2 := .int .u32 _) ent55 rfl rfl rfl ((R5ref4_None _ _ _).mono fun v w hp => ?_))
     obtain ⟨rfl, hp⟩ := hp
     replace hst := hst.keepc hp
     clear hp
     refine CN <| Op1.pickT (u := .bool _) (congrArg Value.bool (decide_eq_true g56)) rfl <| NL <| run_cond_split rfl (fun g57 => ?_) (fun g57 => ?_)
     · skip
       refine SR <| AI rfl <| NL <| run_ret1 Try.func44 rfl (TP (v := .int .i64 _) rfl) ?_
       have hE := wrongA_eq (c := c) (a := a) (bound := bound) (fun h => h.elim (by omega) (fun h => h (by rw [hkd]; omega))) (fun h => h.elim (fun h => by have := h.2; omega) (fun h => absurd h.2 (by simpa using g55)))
       rw [if_pos ⟨by omega, by simpa using g57⟩] at hE
       exact ⟨congrArg (Value.int .i64) (hE).symm, hst.pure⟩
     refine run_skip <| SR <| MC rfl <| CN <| Op1.fieldAddr fld35_1 rfl <| CN <| Op1.load1 (v := .int .u32 _) ty22 rfl rfl (hst.cellL (.head _) rfl) <| CN <| Op1.call2 (v1 := .int .u8 _) (v2 := .int .u32 _) ent56 rfl rfl rfl <| Ret.det (R5ref_Enum2 ho _) hst fun w hst => CN <| Op1.move (v := .tuple #[str _, .bool _]) rfl <| CN <| Op1.extract (v := str _) rfl rfl <| CN <| Op1.extract (v := .bool _) rfl rfl <| AS rfl <| AB rfl <| NL <| SQ <| SQ ?_
     refine RG <| CN <| Op1.fieldAddr fld35_0 rfl <| CN <| Op1.load1 (v := .int .u8 _) ty5 rfl rfl (hst.cellL (.head _) rfl) <| CN <| Op1.eql rfl rfl <| MB rfl <| RunL.splitD (d := 56) rfl (fun g58 => ?_) (fun g58 => ?_)
     · skip
       refine TK (t := 56) rfl (congrArg Value.bool (decide_eq_true g58)) <| Op1.move (v := .bool _) rfl <| TK (t := 56) rfl (congrArg Value.bool (decide_eq_true g58)) <| Op1.not rfl <| CN <| Op1.pickT (u := .bool _) (congrArg Value.bool (decide_eq_true g58)) rfl <| NL <| Run.forget [(4, .pointer (some ⟨_, _, none⟩)), (59, .bool _)] ⟨rfl, rfl, trivial⟩ fun f => run_cond_split rfl (fun g59 => ?_) (fun g59 => ?_)
       · skip
         refine SR <| AI rfl <| NL <| run_ret1 Try.func44 rfl (TP (v := .int .i64 _) rfl) ?_
         have hE := wrongA_eq (c := c) (a := a) (bound := bound) (fun h => h.elim (by omega) (fun h => h (by rw [hkd]; omega))) (fun h => h.elim (fun h => by have := h.2; omega) (fun h => absurd h.2 (by simpa using g55)))
         rw [if_neg (fun h => absurd h.2 (of_decide_eq_false g57))] at hE
         rw [if_pos ⟨by omega, by rw [ho]; simpa using g59⟩] at hE
         exact ⟨congrArg (Value.int .i64) (hE).symm, hst.pure⟩
       refine run_skip <| SQ <| SR <| AI rfl <| NL <| run_block <| run_loop <| Run.indW [(4, .pointer (some ⟨_, _, none⟩))] ⟨rfl, trivial⟩ (fun (i : Nat) => [(9, .int .i64 (i : Int))]) (fun (i : Nat) => []) (fun (i : Nat) => i ≤ a.s.length ∧ ∀ j, j < i → a.s.getD j 0 ≠ 0) (fun (i : Nat) => a.s.length - i) (0) hst ⟨Nat.zero_le _, no_lt⟩ ⟨rfl, trivial⟩ ?_
       intro i f w hst hJ ih60
       refine SQ <| SR <| MI rfl <| CN <| Op1.fieldAddr fld35_2 rfl <| CN <| Op1.load1 (v := str _) ty9 rfl rfl (hst.cellL (.head _) rfl) <| CN <| Op1.lenS (rest := []) ty9 rfl <| CN <| Op1.lss rfl rfl <| NL <| run_cond_dec rfl (fun g61 => ?_) (fun g61 => ?_)
       · skip
         refine run_skip <| SQ <| run_block <| SR <| CN <| Op1.fieldAddr fld35_2 rfl <| CN <| Op1.load1 (v := str _) ty9 rfl rfl (hst.cellL (.head _) rfl) <| MI rfl <| CN <| Op1.indexS ty9 rfl rfl (by omega) (by omega) <| CN <| Op1.eql rfl rfl <| NL <| run_cond_dec rfl (fun g62 => ?_) (fun g62 => ?_)
         · skip
           refine SR <| AI rfl <| NL <| run_ret1 Try.func44 rfl (TP (v := .int .i64 _) rfl) ?_
           have hE := wrongA_eq (c := c) (a := a) (bound := bound) (fun h => h.elim (by omega) (fun h => h (by rw [hkd]; omega))) (fun h => h.elim (fun h => by have := h.2; omega) (fun h => absurd h.2 (by simpa using g55)))
           rw [if_neg (fun h => absurd h.2 (of_decide_eq_false g57))] at hE
           rw [if_neg (fun h => by have h2 := h.2; have hg := g59; rw [ho] at h2; rw [h2] at hg; cases hg)] at hE
           rw [textE_hit (i := i) (by omega) (byte0 (by have hg := g62; exact hg)) hJ.2] at hE
           exact ⟨congrArg (Value.int .i64) (hE).symm, hst.pure⟩
         refine run_skip <| run_inBlock <| RG <| MI rfl <| CN <| Op1.addN rfl rfl rfl (wrap_i64 (by omega) (by omega)) <| AI rfl <| NL <| run_inLoop ?_
         exact ih60 (i + 1) _ w (by omega) hst (⟨by omega, step_all hJ.2 (byte1 g62)⟩) ⟨rfl, trivial⟩ ⟨(congrArg (Value.int .i64) (by omega)), trivial⟩
       refine run_exit (id := 0) rfl <| SR <| AI rfl <| NL <| run_ret1 Try.func44 rfl (TP (v := .int .i64 _) rfl) ?_
       have hE := wrongA_eq (c := c) (a := a) (bound := bound) (fun h => h.elim (by omega) (fun h => h (by rw [hkd]; omega))) (fun h => h.elim (fun h => by have := h.2; omega) (fun h => absurd h.2 (by simpa using g55)))
       rw [if_neg (fun h => absurd h.2 (of_decide_eq_false g57))] at hE
       rw [if_neg (fun h => by have h2 := h.2; have hg := g59; rw [ho] at h2; rw [h2] at hg; cases hg)] at hE
       rw [textE_none (fun j hj => hJ.2 j (by omega))] at hE
       exact ⟨congrArg (Value.int .i64) (hE).symm, hst.pure⟩
     refine OM (t := 56) rfl (congrArg Value.bool (decide_eq_false g58)) rfl <| OM (t := 56) rfl (congrArg Value.bool (decide_eq_false g58)) rfl <| CN <| Op1.pickF (u := .bool _) (congrArg Value.bool (decide_eq_false g58)) rfl <| NL <| Run.forget [(4, .pointer (some ⟨_, _, none⟩)), (59, .bool _)] ⟨rfl, rfl, trivial⟩ fun f => run_cond_false (congrArg Value.bool (rfl : false = _)) <| run_skip <| SQ <| SR <| AI rfl <| NL <| run_block <| run_loop <| Run.indW [(4, .pointer (some ⟨_, _, none⟩))] ⟨rfl, trivial⟩ (fun (i : Nat) => [(9, .int .i64 (i : Int))]) (fun (i : Nat) => []) (fun (i : Nat) => i ≤ a.s.length ∧ ∀ j, j < i → a.s.getD j 0 ≠ 0) (fun (i : Nat) => a.s.length - i) (0) hst ⟨Nat.zero_le _, no_lt⟩ ⟨rfl, trivial⟩ ?_
     intro i f w hst hJ ih63
     refine SQ <| SR <| MI rfl <| CN <| Op1.fieldAddr fld35_2 rfl <| CN <| Op1.load1 (v := str _) ty9 rfl rfl (hst.cellL (.head _) rfl) <| CN <| Op1.lenS (rest := []) ty9 rfl <| CN <| Op1.lss rfl rfl <| NL <| run_cond_dec rfl (fun g64 => ?_) (fun g64 => ?_)
     · skip
       refine run_skip <| SQ <| run_block <| SR <| CN <| Op1.fieldAddr fld35_2 rfl <| CN <| Op1.load1 (v := str _) ty9 rfl rfl (hst.cellL (.head _) rfl) <| MI rfl <| CN <| Op1.indexS ty9 rfl rfl (by omega) (by omega) <| CN <| Op1.eql rfl rfl <| NL <| run_cond_dec rfl (fun g65 => ?_) (fun g65 => ?_)
       · skip
         refine SR <| AI rfl <| NL <| run_ret1 Try.func44 rfl (TP (v := .int .i64 _) rfl) ?_
         have hE := wrongA_eq (c := c) (a := a) (bound := bound) (fun h => h.elim (by omega) (fun h => h (by rw [hkd]; omega))) (fun h => h.elim (fun h => by have := h.2; omega) (fun h => absurd h.2 (by simpa using g55)))
         rw [if_neg (fun h => absurd h.2 (of_decide_eq_false g57))] at hE
         rw [if_neg (fun h => by have := h.1; omega)] at hE
         rw [textE_hit (i := i) (by omega) (byte0 (by have hg := g65; exact hg)) hJ.2] at hE
         exact ⟨congrArg (Value.int .i64) (hE).symm, hst.pure⟩
       refine run_skip <| run_inBlock <| RG <| MI rfl <| CN <| Op1.addN rfl rfl rfl (wrap_i64 (by omega) (by omega)) <| AI rfl <| NL <| run_inLoop ?_
       exact ih63 (i + 1) _ w (by omega) hst (⟨by omega, step_all hJ.2 (byte1 g65)⟩) ⟨rfl, trivial⟩ ⟨(congrArg (Value.int .i64) (by omega)), trivial⟩
     refine run_exit (id := 0) rfl <| SR <| AI rfl <| NL <| run_ret1 Try.func44 rfl (TP (v := .int .i64 _) rfl) ?_
     have hE := wrongA_eq (c := c) (a := a) (bound := bound) (fun h => h.elim (by omega) (fun h => h (by rw [hkd]; omega))) (fun h => h.elim (fun h => by have := h.2; omega) (fun h => absurd h.2 (by simpa using g55)))
     rw [if_neg (fun h => absurd h.2 (of_decide_eq_false g57))] at hE
     rw [if_neg (fun h => by have := h.1; omega)] at hE
     rw [textE_none (fun j hj => hJ.2 j (by omega))] at hE
     exact ⟨congrArg (Value.int .i64) (hE).symm, hst.pure⟩
   refine OM (t := 40) rfl (congrArg Value.bool (decide_eq_false g56)) rfl <| OM (t := 40) rfl (congrArg Value.bool (decide_eq_false g56)) rfl <| OM (t := 40) rfl (congrArg Value.bool (decide_eq_false g56)) rfl <| OM (t := 40) rfl (congrArg Value.bool (decide_eq_false g56)) rfl <| CN <| Op1.pickF (u := .bool _) (congrArg Value.bool (decide_eq_false g56)) rfl <| NL <| run_cond_false (congrArg Value.bool (rfl : false = _)) <| run_skip <| SR <| MC rfl <| CN <| Op1.fieldAddr fld35_1 rfl <| CN <| Op1.load1 (v := .int .u32 _) ty22 rfl rfl (hst.cellL (.head _) rfl) <| CN <| Op1.call2 (v1 := .int .u8 _) (v2 := .int .u32 _) ent56 rfl rfl rfl <| Ret.det (R5ref_Enum2 ho _) hst fun w hst => CN (Op1.move (v := .tuple #[str _, .bool _]) rfl ?_)
   refine CN <| Op1.extract (v := str _) rfl rfl <| CN <| Op1.extract (v := .bool _) rfl rfl <| AS rfl <| AB rfl <| NL <| SQ <| SR <| CN <| Op1.fieldAddr fld35_0 rfl <| CN <| Op1.load1 (v := .int .u8 _) ty5 rfl rfl (hst.cellL (.head _) rfl) <| CN <| Op1.eql rfl rfl <| MB rfl <| RunL.splitD (d := 56) rfl (fun g66 => ?_) (fun g66 => ?_)
   · skip
     refine TK (t := 56) rfl (congrArg Value.bool (decide_eq_true g66)) <| Op1.move (v := .bool _) rfl <| TK (t := 56) rfl (congrArg Value.bool (decide_eq_true g66)) <| Op1.not rfl <| CN <| Op1.pickT (u := .bool _) (congrArg Value.bool (decide_eq_true g66)) rfl <| NL <| Run.forget [(4, .pointer (some ⟨_, _, none⟩)), (59, .bool _)] ⟨rfl, rfl, trivial⟩ fun f => run_cond_split rfl (fun g67 => ?_) (fun g67 => ?_)
     · skip
       refine SR <| AI rfl <| NL <| run_ret1 Try.func44 rfl (TP (v := .int .i64 _) rfl) ?_
       have hE := wrongA_eq (c := c) (a := a) (bound := bound) (fun h => h.elim (by omega) (fun h => h (by rw [hkd]; omega))) (fun h => h.elim (fun h => by have := h.2; omega) (fun h => absurd h.2 (by simpa using g55)))
       rw [if_neg (fun h => by have := h.1; omega)] at hE
       rw [if_pos ⟨by omega, by rw [ho]; simpa using g67⟩] at hE
       exact ⟨congrArg (Value.int .i64) (hE).symm, hst.pure⟩
     refine run_skip <| SQ <| SR <| AI rfl <| NL <| run_block <| run_loop <| Run.indW [(4, .pointer (some ⟨_, _, none⟩))] ⟨rfl, trivial⟩ (fun (i : Nat) => [(9, .int .i64 (i : Int))]) (fun (i : Nat) => []) (fun (i : Nat) => i ≤ a.s.length ∧ ∀ j, j < i → a.s.getD j 0 ≠ 0) (fun (i : Nat) => a.s.length - i) (0) hst ⟨Nat.zero_le _, no_lt⟩ ⟨rfl, trivial⟩ ?_
     intro i f w hst hJ ih68
     refine SQ <| SR <| MI rfl <| CN <| Op1.fieldAddr fld35_2 rfl <| CN <| Op1.load1 (v := str _) ty9 rfl rfl (hst.cellL (.head _) rfl) <| CN <| Op1.lenS (rest := []) ty9 rfl <| CN <| Op1.lss rfl rfl <| NL <| run_cond_dec rfl (fun g69 => ?_) (fun g69 => ?_)
     · skip
       refine run_skip <| SQ <| run_block <| SR <| CN <| Op1.fieldAddr fld35_2 rfl <| CN <| Op1.load1 (v := str _) ty9 rfl rfl (hst.cellL (.head _) rfl) <| MI rfl <| CN <| Op1.indexS ty9 rfl rfl (by omega) (by omega) <| CN <| Op1.eql rfl rfl <| NL <| run_cond_dec rfl (fun g70 => ?_) (fun g70 => ?_)
       · skip
         refine SR <| AI rfl <| NL <| run_ret1 Try.func44 rfl (TP (v := .int .i64 _) rfl) ?_
         have hE := wrongA_eq (c := c) (a := a) (bound := bound) (fun h => h.elim (by omega) (fun h => h (by rw [hkd]; omega))) (fun h => h.elim (fun h => by have := h.2; omega) (fun h => absurd h.2 (by simpa using g55)))
         rw [if_neg (fun h => by have := h.1; omega)] at hE
         rw [if_neg (fun h => by have h2 := h.2; have hg := g67; rw [ho] at h2; rw [h2] at hg; cases hg)] at hE
         rw [textE_hit (i := i) (by omega) (byte0 (by have hg := g70; exact hg)) hJ.2] at hE
         exact ⟨congrArg (Value.int .i64) (hE).symm, hst.pure⟩
       refine run_skip <| run_inBlock <| RG <| MI rfl <| CN <| Op1.addN rfl rfl rfl (wrap_i64 (by omega) (by omega)) <| AI rfl <| NL <| run_inLoop ?_
       exact ih68 (i + 1) _ w (by omega) hst (⟨by omega, step_all hJ.2 (byte1 g70)⟩) ⟨rfl, trivial⟩ ⟨(congrArg (Value.int .i64) (by omega)), trivial⟩
     refine run_exit (id := 0) rfl <| SR <| AI rfl <| NL <| run_ret1 Try.func44 rfl (TP (v := .int .i64 _) rfl) ?_
     have hE := wrongA_eq (c := c) (a := a) (bound := bound) (fun h => h.elim (by omega) (fun h => h (by rw [hkd]; omega))) (fun h => h.elim (fun h => by have := h.2; omega) (fun h => absurd h.2 (by simpa using g55)))
     rw [if_neg (fun h => by have := h.1; omega)] at hE
     rw [if_neg (fun h => by have h2 := h.2; have hg := g67; rw [ho] at h2; rw [h2] at hg; cases hg)] at hE
     rw [textE_none (fun j hj => hJ.2 j (by omega))] at hE
     exact ⟨congrArg (Value.int .i64) (hE).symm, hst.pure⟩
   refine OM (t := 56) rfl (congrArg Value.bool (decide_eq_false g66)) rfl <| OM (t := 56) rfl (congrArg Value.bool (decide_eq_false g66)) rfl <| CN <| Op1.pickF (u := .bool _) (congrArg Value.bool (decide_eq_false g66)) rfl <| NL <| Run.forget [(4, .pointer (some ⟨_, _, none⟩)), (59, .bool _)] ⟨rfl, rfl, trivial⟩ fun f => run_cond_false (congrArg Value.bool (rfl : false = _)) <| run_skip <| SQ <| SR <| AI rfl <| NL <| run_block <| run_loop <| Run.indW [(4, .pointer (some ⟨_, _, none⟩))] ⟨rfl, trivial⟩ (fun (i : Nat) => [(9, .int .i64 (i : Int))]) (fun (i : Nat) => []) (fun (i : Nat) => i ≤ a.s.length ∧ ∀ j, j < i → a.s.getD j 0 ≠ 0) (fun (i : Nat) => a.s.length - i) (0) hst ⟨Nat.zero_le _, no_lt⟩ ⟨rfl, trivial⟩ ?_
   intro i f w hst hJ ih71
   refine SQ <| SR <| MI rfl <| CN <| Op1.fieldAddr fld35_2 rfl <| CN <| Op1.load1 (v := str _) ty9 rfl rfl (hst.cellL (.head _) rfl) <| CN <| Op1.lenS (rest := []) ty9 rfl <| CN <| Op1.lss rfl rfl <| NL <| run_cond_dec rfl (fun g72 => ?_) (fun g72 => ?_)
   · skip
     refine run_skip <| SQ <| run_block <| SR <| CN <| Op1.fieldAddr fld35_2 rfl <| CN <| Op1.load1 (v := str _) ty9 rfl rfl (hst.cellL (.head _) rfl) <| MI rfl <| CN <| Op1.indexS ty9 rfl rfl (by omega) (by omega) <| CN <| Op1.eql rfl rfl <| NL <| run_cond_dec rfl (fun g73 => ?_) (fun g73 => ?_)
     · skip
       refine SR <| AI rfl <| NL <| run_ret1 Try.func44 rfl (TP (v := .int .i64 _) rfl) ?_
       have hE := wrongA_eq (c := c) (a := a) (bound := bound) (fun h => h.elim (by omega) (fun h => h (by rw [hkd]; omega))) (fun h => h.elim (fun h => by have := h.2; omega) (fun h => absurd h.2 (by simpa using g55)))
       rw [if_neg (fun h => by have := h.1; omega)] at hE
       rw [if_neg (fun h => by have := h.1; omega)] at hE
       rw [textE_hit (i := i) (by omega) (byte0 (by have hg := g73; exact hg)) hJ.2] at hE
       exact ⟨congrArg (Value.int .i64) (hE).symm, hst.pure⟩
     refine run_skip <| run_inBlock <| RG <| MI rfl <| CN <| Op1.addN rfl rfl rfl (wrap_i64 (by omega) (by omega)) <| AI rfl <| NL <| run_inLoop ?_
     exact ih71 (i + 1) _ w (by omega) hst (⟨by omega, step_all hJ.2 (byte1 g73)⟩) ⟨rfl, trivial⟩ ⟨(congrArg (Value.int .i64) (by omega)), trivial⟩
   refine run_exit (id := 0) rfl <| SR <| AI rfl <| NL <| run_ret1 Try.func44 rfl (TP (v := .int .i64 _) rfl) ?_
   have hE := wrongA_eq (c := c) (a := a) (bound := bound) (fun h => h.elim (by omega) (fun h => h (by rw [hkd]; omega))) (fun h => h.elim (fun h => by have := h.2; omega) (fun h => absurd h.2 (by simpa using g55)))
   rw [if_neg (fun h => by have := h.1; omega)] at hE
   rw [if_neg (fun h => by have := h.1; omega)] at hE
   rw [textE_none (fun j hj => hJ.2 j (by omega))] at hE
   exact ⟨congrArg (Value.int .i64) (hE).symm, hst.pure⟩
 refine OM (t := 31) rfl (congrArg Value.bool (decide_eq_false g54)) rfl <| OM (t := 31) rfl (congrArg Value.bool (decide_eq_false g54)) rfl <| OM (t := 31) rfl (congrArg Value.bool (decide_eq_false g54)) rfl <| TK (t := 27) rfl (congrArg Value.bool (rfl : false = _)) <| Op1.pickF (u := .bool _) (congrArg Value.bool (decide_eq_false g54)) rfl <| CN <| Op1.pickF (u := .bool _) (congrArg Value.bool (rfl : false = _)) rfl <| NL <| Run.forget [(0, .int .u8 _), (2, .int .u32 _), (4, .pointer (some ⟨_, _, none⟩)), (36, .bool _)] ⟨rfl, rfl, rfl, rfl, trivial⟩ fun f => run_cond_false (congrArg Value.bool (rfl : false = _)) <| run_skip <| SQ <| SR <| CN <| Op1.fieldAddr fld35_0 rfl <| CN <| Op1.load1 (v := .int .u8 _) ty5 rfl rfl (hst.cellL (.head _) rfl) <| CN (Op1.eql rfl rfl ?_)
 refine MB rfl <| RunL.splitD (d := 40) rfl (fun g74 => ?_) (fun g74 => ?_)
 · skip
   refine TK (t := 40) rfl (congrArg Value.bool (decide_eq_true g74)) <| Op1.fieldAddr fld35_1 rfl <| TK (t := 40) rfl (congrArg Value.bool (decide_eq_true g74)) <| Op1.load1 (v := .int .u32 _) ty22 rfl rfl (hst.cellL (.head _) rfl) <| TK (t := 40) rfl (congrArg Value.bool (decide_eq_true g74)) <| Op1.move (v := .int .u32 _) rfl <| TK (t := 40) rfl (congrArg Value.bool (decide_eq_true g74)) (Op1.call2 (v1 := .int .u32 _) (v2 := .int .u32 _) ent55 rfl rfl rfl ((R5ref4_None _ _ _).mono fun v w hp => ?_))
   obtain ⟨rfl, hp⟩ := hp
   replace hst := hst.keepc hp
   clear hp
   refine CN <| Op1.pickT (u := .bool _) (congrArg Value.bool (decide_eq_true g74)) rfl <| NL <| run_cond_split rfl (fun g75 => ?_) (fun g75 => ?_)
   · skip
     refine SR <| AI rfl <| NL <| run_ret1 Try.func44 rfl (TP (v := .int .i64 _) rfl) ?_
     have hE := wrongA_eq (c := c) (a := a) (bound := bound) (fun h => h.elim (by omega) (fun h => h (by rw [hkd]; omega))) (fun h => h.elim (fun h => by have := h.2; omega) (fun h => h.1 (by omega)))
     rw [if_pos ⟨by omega, by simpa using g75⟩] at hE
     exact ⟨congrArg (Value.int .i64) (hE).symm, hst.pure⟩
   refine run_skip <| SR <| MC rfl <| CN <| Op1.fieldAddr fld35_1 rfl <| CN <| Op1.load1 (v := .int .u32 _) ty22 rfl rfl (hst.cellL (.head _) rfl) <| CN <| Op1.call2 (v1 := .int .u8 _) (v2 := .int .u32 _) ent56 rfl rfl rfl <| Ret.det (R5ref_Enum2 ho _) hst fun w hst => CN <| Op1.move (v := .tuple #[str _, .bool _]) rfl <| CN <| Op1.extract (v := str _) rfl rfl <| CN <| Op1.extract (v := .bool _) rfl rfl <| AS rfl <| AB rfl <| NL <| SQ <| SQ ?_
   refine RG <| CN <| Op1.fieldAddr fld35_0 rfl <| CN <| Op1.load1 (v := .int .u8 _) ty5 rfl rfl (hst.cellL (.head _) rfl) <| CN <| Op1.eql rfl rfl <| MB rfl <| RunL.splitD (d := 56) rfl (fun g76 => ?_) (fun g76 => ?_)
   · skip
     refine TK (t := 56) rfl (congrArg Value.bool (decide_eq_true g76)) <| Op1.move (v := .bool _) rfl <| TK (t := 56) rfl (congrArg Value.bool (decide_eq_true g76)) <| Op1.not rfl <| CN <| Op1.pickT (u := .bool _) (congrArg Value.bool (decide_eq_true g76)) rfl <| NL <| Run.forget [(4, .pointer (some ⟨_, _, none⟩)), (59, .bool _)] ⟨rfl, rfl, trivial⟩ fun f => run_cond_split rfl (fun g77 => ?_) (fun g77 => ?_)
     · skip
       refine SR <| AI rfl <| NL <| run_ret1 Try.func44 rfl (TP (v := .int .i64 _) rfl) ?_
       have hE := wrongA_eq (c := c) (a := a) (bound := bound) (fun h => h.elim (by omega) (fun h => h (by rw [hkd]; omega))) (fun h => h.elim (fun h => by have := h.2; omega) (fun h => h.1 (by omega)))
       rw [if_neg (fun h => absurd h.2 (of_decide_eq_false g75))] at hE
       rw [if_pos ⟨by omega, by rw [ho]; simpa using g77⟩] at hE
       exact ⟨congrArg (Value.int .i64) (hE).symm, hst.pure⟩
     refine run_skip <| SQ <| SR <| AI rfl <| NL <| run_block <| run_loop <| Run.indW [(4, .pointer (some ⟨_, _, none⟩))] ⟨rfl, trivial⟩ (fun (i : Nat) => [(9, .int .i64 (i : Int))]) (fun (i : Nat) => []) (fun (i : Nat) => i ≤ a.s.length ∧ ∀ j, j < i → a.s.getD j 0 ≠ 0) (fun (i : Nat) => a.s.length - i) (0) hst ⟨Nat.zero_le _, no_lt⟩ ⟨rfl, trivial⟩ ?_
     intro i f w hst hJ ih78
     refine SQ <| SR <| MI rfl <| CN <| Op1.fieldAddr fld35_2 rfl <| CN <| Op1.load1 (v := str _) ty9 rfl rfl (hst.cellL (.head _) rfl) <| CN <| Op1.lenS (rest := []) ty9 rfl <| CN <| Op1.lss rfl rfl <| NL <| run_cond_dec rfl (fun g79 => ?_) (fun g79 => ?_)
     · skip
       refine run_skip <| SQ <| run_block <| SR <| CN <| Op1.fieldAddr fld35_2 rfl <| CN <| Op1.load1 (v := str _) ty9 rfl rfl (hst.cellL (.head _) rfl) <| MI rfl <| CN <| Op1.indexS ty9 rfl rfl (by omega) (by omega) <| CN <| Op1.eql rfl rfl <| NL <| run_cond_dec rfl (fun g80 => ?_) (fun g80 => ?_)
       · skip
         refine SR <| AI rfl <| NL <| run_ret1 Try.func44 rfl (TP (v := .int .i64 _) rfl) ?_
         have hE := wrongA_eq (c := c) (a := a) (bound := bound) (fun h => h.elim (by omega) (fun h => h (by rw [hkd]; omega))) (fun h => h.elim (fun h => by have := h.2; omega) (fun h => h.1 (by omega)))
         rw [if_neg (fun h => absurd h.2 (of_decide_eq_false g75))] at hE
         rw [if_neg (fun h => by have h2 := h.2; have hg := g77; rw [ho] at h2; rw [h2] at hg; cases hg)] at hE
         rw [textE_hit (i := i) (by omega) (byte0 (by have hg := g80; exact hg)) hJ.2] at hE
         exact ⟨congrArg (Value.int .i64) (hE).symm, hst.pure⟩
       refine run_skip <| run_inBlock <| RG <| MI rfl <| CN <| Op1.addN rfl rfl rfl (wrap_i64 (by omega) (by omega)) <| AI rfl <| NL <| run_inLoop ?_
       exact ih78 (i + 1) _ w (by omega) hst (⟨by omega, step_all hJ.2 (byte1 g80)⟩) ⟨rfl, trivial⟩ ⟨(congrArg (Value.int .i64) (by omega)), trivial⟩
     refine run_exit (id := 0) rfl <| SR <| AI rfl <| NL <| run_ret1 Try.func44 rfl (TP (v := .int .i64 _) rfl) ?_
     have hE := wrongA_eq (c := c) (a := a) (bound := bound) (fun h => h.elim (by omega) (fun h => h (by rw [hkd]; omega))) (fun h => h.elim (fun h => by have := h.2; omega) (fun h => h.1 (by omega)))
     rw [if_neg (fun h => absurd h.2 (of_decide_eq_false g75))] at hE
     rw [if_neg (fun h => by have h2 := h.2; have hg := g77; rw [ho] at h2; rw [h2] at hg; cases hg)] at hE
     rw [textE_none (fun j hj => hJ.2 j (by omega))] at hE
     exact ⟨congrArg (Value.int .i64) (hE).symm, hst.pure⟩
   refine OM (t := 56) rfl (congrArg Value.bool (decide_eq_false g76)) rfl <| OM (t := 56) rfl (congrArg Value.bool (decide_eq_false g76)) rfl <| CN <| Op1.pickF (u := .bool _) (congrArg Value.bool (decide_eq_false g76)) rfl <| NL <| Run.forget [(4, .pointer (some ⟨_, _, none⟩)), (59, .bool _)] ⟨rfl, rfl, trivial⟩ fun f => run_cond_false (congrArg Value.bool (rfl : false = _)) <| run_skip <| SQ <| SR <| AI rfl <| NL <| run_block <| run_loop <| Run.indW [(4, .pointer (some ⟨_, _, none⟩))] ⟨rfl, trivial⟩ (fun (i : Nat) => [(9, .int .i64 (i : Int))]) (fun (i : Nat) => []) (fun (i : Nat) => i ≤ a.s.length ∧ ∀ j, j < i → a.s.getD j 0 ≠ 0) (fun (i : Nat) => a.s.length - i) (0) hst ⟨Nat.zero_le _, no_lt⟩ ⟨rfl, trivial⟩ ?_
   intro i f w hst hJ ih81
   refine SQ <| SR <| MI rfl <| CN <| Op1.fieldAddr fld35_2 rfl <| CN <| Op1.load1 (v := str _) ty9 rfl rfl (hst.cellL (.head _) rfl) <| CN <| Op1.lenS (rest := []) ty9 rfl <| CN <| Op1.lss rfl rfl <| NL <| run_cond_dec rfl (fun g82 => ?_) (fun g82 => ?_)
   · skip
     refine run_skip <| SQ <| run_block <| SR <| CN <| Op1.fieldAddr fld35_2 rfl <| CN <| Op1.load1 (v := str _) ty9 rfl rfl (hst.cellL (.head _) rfl) <| MI rfl <| CN <| Op1.indexS ty9 rfl rfl (by omega) (by omega) <| CN <| Op1.eql rfl rfl <| NL <| run_cond_dec rfl (fun g83 => ?_) (fun g83 => ?_)
     · skip
       refine SR <| AI rfl <| NL <| run_ret1 Try.func44 rfl (TP (v := .int .i64 _) rfl) ?_
       have hE := wrongA_eq (c := c) (a := a) (bound := bound) (fun h => h.elim (by omega) (fun h => h (by rw [hkd]; omega))) (fun h => h.elim (fun h => by have := h.2; omega) (fun h => h.1 (by omega)))
       rw [if_neg (fun h => absurd h.2 (of_decide_eq_false g75))] at hE
       rw [if_neg (fun h => by have := h.1; omega)] at hE
       rw [textE_hit (i := i) (by omega) (byte0 (by have hg := g83; exact hg)) hJ.2] at hE
       exact ⟨congrArg (Value.int .i64) (hE).symm, hst.pure⟩
     refine run_skip <| run_inBlock <| RG <| MI rfl <| CN <| Op1.addN rfl rfl rfl (wrap_i64 (by omega) (by omega)) <| AI rfl <| NL <| run_inLoop ?_
     exact ih81 (i + 1) _ w (by omega) hst (⟨by omega, step_all hJ.2 (byte1 g83)⟩) ⟨rfl, trivial⟩ ⟨(congrArg (Value.int .i64) (by omega)), trivial⟩
   refine run_exit (id := 0) rfl <| SR <| AI rfl <| NL <| run_ret1 Try.func44 rfl (TP (v := .int .i64 _) rfl) ?_
   have hE := wrongA_eq (c := c) (a := a) (bound := bound) (fun h => h.elim (by omega) (fun h => h (by rw [hkd]; omega))) (fun h => h.elim (fun h => by have := h.2; omega) (fun h => h.1 (by omega)))
   rw [if_neg (fun h => absurd h.2 (of_decide_eq_false g75))] at hE
   rw [if_neg (fun h => by have := h.1; omega)] at hE
   rw [textE_none (fun j hj => hJ.2 j (by omega))] at hE
   exact ⟨congrArg (Value.int .i64) (hE).symm, hst.pure⟩
 refine OM (t := 40) rfl (congrArg Value.bool (decide_eq_false g74)) rfl <| OM (t := 40) rfl (congrArg Value.bool (decide_eq_false g74)) rfl <| OM (t := 40) rfl (congrArg Value.bool (decide_eq_false g74)) rfl <| OM (t := 40) rfl (congrArg Value.bool (decide_eq_false g74)) rfl <| CN <| Op1.pickF (u := .bool _) (congrArg Value.bool (decide_eq_false g74)) rfl <| NL <| run_cond_false (congrArg Value.bool (rfl : false = _)) <| run_skip <| SR <| MC rfl <| CN <| Op1.fieldAddr fld35_1 rfl <| CN <| Op1.load1 (v := .int .u32 _) ty22 rfl rfl (hst.cellL (.head _) rfl) <| CN <| Op1.call2 (v1 := .int .u8 _) (v2 := .int .u32 _) ent56 rfl rfl rfl <| Ret.det (R5ref_Enum2 ho _) hst fun w hst => CN (Op1.move (v := .tuple #[str _, .bool _]) rfl ?_)
 refine CN <| Op1.extract (v := str _) rfl rfl <| CN <| Op1.extract (v := .bool _) rfl rfl <| AS rfl <| AB rfl <| NL <| SQ <| SR <| CN <| Op1.fieldAddr fld35_0 rfl <| CN <| Op1.load1 (v := .int .u8 _) ty5 rfl rfl (hst.cellL (.head _) rfl) <| CN <| Op1.eql rfl rfl <| MB rfl <| RunL.splitD (d := 56) rfl (fun g84 => ?_) (fun g84 => ?_)
 · skip
   refine TK (t := 56) rfl (congrArg Value.bool (decide_eq_true g84)) <| Op1.move (v := .bool _) rfl <| TK (t := 56) rfl (congrArg Value.bool (decide_eq_true g84)) <| Op1.not rfl <| CN <| Op1.pickT (u := .bool _) (congrArg Value.bool (decide_eq_true g84)) rfl <| NL <| Run.forget [(4, .pointer (some ⟨_, _, none⟩)), (59, .bool _)] ⟨rfl, rfl, trivial⟩ fun f => run_cond_split rfl (fun g85 => ?_) (fun g85 => ?_)
   · skip
     refine SR <| AI rfl <| NL <| run_ret1 Try.func44 rfl (TP (v := .int .i64 _) rfl) ?_
     have hE := wrongA_eq (c := c) (a := a) (bound := bound) (fun h => h.elim (by omega) (fun h => h (by rw [hkd]; omega))) (fun h => h.elim (fun h => by have := h.2; omega) (fun h => h.1 (by omega)))
     rw [if_neg (fun h => by have := h.1; omega)] at hE
     rw [if_pos ⟨by omega, by rw [ho]; simpa using g85⟩] at hE
     exact ⟨congrArg (Value.int .i64) (hE).symm, hst.pure⟩
   refine run_skip <| SQ <| SR <| AI rfl <| NL <| run_block <| run_loop <| Run.indW [(4, .pointer (some ⟨_, _, none⟩))] ⟨rfl, trivial⟩ (fun (i : Nat) => [(9, .int .i64 (i : Int))]) (fun (i : Nat) => []) (fun (i : Nat) => i ≤ a.s.length ∧ ∀ j, j < i → a.s.getD j 0 ≠ 0) (fun (i : Nat) => a.s.length - i) (0) hst ⟨Nat.zero_le _, no_lt⟩ ⟨rfl, trivial⟩ ?_
   intro i f w hst hJ ih86
   refine SQ <| SR <| MI rfl <| CN <| Op1.fieldAddr fld35_2 rfl <| CN <| Op1.load1 (v := str _) ty9 rfl rfl (hst.cellL (.head _) rfl) <| CN <| Op1.lenS (rest := []) ty9 rfl <| CN <| Op1.lss rfl rfl <| NL <| run_cond_dec rfl (fun g87 => ?_) (fun g87 => ?_)
   · skip
     refine run_skip <| SQ <| run_block <| SR <| CN <| Op1.fieldAddr fld35_2 rfl <| CN <| Op1.load1 (v := str _) ty9 rfl rfl (hst.cellL (.head _) rfl) <| MI rfl <| CN <| Op1.indexS ty9 rfl rfl (by omega) (by omega) <| CN <| Op1.eql rfl rfl <| NL <| run_cond_dec rfl (fun g88 => ?_) (fun g88 => ?_)
     · skip
       refine SR <| AI rfl <| NL <| run_ret1 Try.func44 rfl (TP (v := .int .i64 _) rfl) ?_
       have hE := wrongA_eq (c := c) (a := a) (bound := bound) (fun h => h.elim (by omega) (fun h => h (by rw [hkd]; omega))) (fun h => h.elim (fun h => by have := h.2; omega) (fun h => h.1 (by omega)))
       rw [if_neg (fun h => by have := h.1; omega)] at hE
       rw [if_neg (fun h => by have h2 := h.2; have hg := g85; rw [ho] at h2; rw [h2] at hg; cases hg)] at hE
       rw [textE_hit (i := i) (by omega) (byte0 (by have hg := g88; exact hg)) hJ.2] at hE
       exact ⟨congrArg (Value.int .i64) (hE).symm, hst.pure⟩
     refine run_skip <| run_inBlock <| RG <| MI rfl <| CN <| Op1.addN rfl rfl rfl (wrap_i64 (by omega) (by omega)) <| AI rfl <| NL <| run_inLoop ?_
     exact ih86 (i + 1) _ w (by omega) hst (⟨by omega, step_all hJ.2 (byte1 g88)⟩) ⟨rfl, trivial⟩ ⟨(congrArg (Value.int .i64) (by omega)), trivial⟩
   refine run_exit (id := 0) rfl <| SR <| AI rfl <| NL <| run_ret1 Try.func44 rfl (TP (v := .int .i64 _) rfl) ?_
   have hE := wrongA_eq (c := c) (a := a) (bound := bound) (fun h => h.elim (by omega) (fun h => h (by rw [hkd]; omega))) (fun h => h.elim (fun h => by have := h.2; omega) (fun h => h.1 (by omega)))
   rw [if_neg (fun h => by have := h.1; omega)] at hE
   rw [if_neg (fun h => by have h2 := h.2; have hg := g85; rw [ho] at h2; rw [h2] at hg; cases hg)] at hE
   rw [textE_none (fun j hj => hJ.2 j (by omega))] at hE
   exact ⟨congrArg (Value.int .i64) (hE).symm, hst.pure⟩
 refine OM (t := 56) rfl (congrArg Value.bool (decide_eq_false g84)) rfl <| OM (t := 56) rfl (congrArg Value.bool (decide_eq_false g84)) rfl <| CN <| Op1.pickF (u := .bool _) (congrArg Value.bool (decide_eq_false g84)) rfl <| NL <| Run.forget [(4, .pointer (some ⟨_, _, none⟩)), (59, .bool _)] ⟨rfl, rfl, trivial⟩ fun f => run_cond_false (congrArg Value.bool (rfl : false = _)) <| run_skip <| SQ <| SR <| AI rfl <| NL <| run_block <| run_loop <| Run.indW [(4, .pointer (some ⟨_, _, none⟩))] ⟨rfl, trivial⟩ (fun (i : Nat) => [(9, .int .i64 (i : Int))]) (fun (i : Nat) => []) (fun (i : Nat) => i ≤ a.s.length ∧ ∀ j, j < i → a.s.getD j 0 ≠ 0) (fun (i : Nat) => a.s.length - i) (0) hst ⟨Nat.zero_le _, no_lt⟩ ⟨rfl, trivial⟩ ?_
 intro i f w hst hJ ih89
 refine SQ <| SR <| MI rfl <| CN <| Op1.fieldAddr fld35_2 rfl <| CN <| Op1.load1 (v := str _) ty9 rfl rfl (hst.cellL (.head _) rfl) <| CN <| Op1.lenS (rest := []) ty9 rfl <| CN <| Op1.lss rfl rfl <| NL <| run_cond_dec rfl (fun g90 => ?_) (fun g90 => ?_)
 · skip
   refine run_skip <| SQ <| run_block <| SR <| CN <| Op1.fieldAddr fld35_2 rfl <| CN <| Op1.load1 (v := str _) ty9 rfl rfl (hst.cellL (.head _) rfl) <| MI rfl <| CN <| Op1.indexS ty9 rfl rfl (by omega) (by omega) <| CN <| Op1.eql rfl rfl <| NL <| run_cond_dec rfl (fun g91 => ?_) (fun g91 => ?_)
   · skip
     refine SR <| AI rfl <| NL <| run_ret1 Try.func44 rfl (TP (v := .int .i64 _) rfl) ?_
     have hE := wrongA_eq (c := c) (a := a) (bound := bound) (fun h => h.elim (by omega) (fun h => h (by rw [hkd]; omega))) (fun h => h.elim (fun h => by have := h.2; omega) (fun h => h.1 (by omega)))
     rw [if_neg (fun h => by have := h.1; omega)] at hE
     rw [if_neg (fun h => by have := h.1; omega)] at hE
     rw [textE_hit (i := i) (by omega) (byte0 (by have hg := g91; exact hg)) hJ.2] at hE
     exact ⟨congrArg (Value.int .i64) (hE).symm, hst.pure⟩
   refine run_skip <| run_inBlock <| RG <| MI rfl <| CN <| Op1.addN rfl rfl rfl (wrap_i64 (by omega) (by omega)) <| AI rfl <| NL <| run_inLoop ?_
   exact ih89 (i + 1) _ w (by omega) hst (⟨by omega, step_all hJ.2 (byte1 g91)⟩) ⟨rfl, trivial⟩ ⟨(congrArg (Value.int .i64) (by omega)), trivial⟩
 refine run_exit (id := 0) rfl <| SR <| AI rfl <| NL <| run_ret1 Try.func44 rfl (TP (v := .int .i64 _) rfl) ?_
 have hE := wrongA_eq (c := c) (a := a) (bound := bound) (fun h => h.elim (by omega) (fun h => h (by rw [hkd]; omega))) (fun h => h.elim (fun h => by have := h.2; omega) (fun h => h.1 (by omega)))
 rw [if_neg (fun h => by have := h.1; omega)] at hE
 rw [if_neg (fun h => by have := h.1; omega)] at hE
 rw [textE_none (fun j hj => hJ.2 j (by omega))] at hE
 exact ⟨congrArg (Value.int .i64) (hE).symm, hst.pure⟩
theorem R5ref4_Room (p : InstP) (fm : FormL) (w : World) (hA : (Res.rargs p).holds w) (hsm : (p.args.map argRoom).sum ≤ 900000000) (hla : ∀ a ∈ p.args, a.s.length ≤ 100000000000) : Ret Try.prog 36 #[.agg #[.int .u16 p.op, .int .u32 p.ty, .int .u32 p.res, .slice p.ao p.args.length p.cap], .agg #[.int .u16 fm.op, str fm.name, .bool fm.ty, .bool fm.res, str fm.fixed, str fm.rest, .int .i64 fm.most, .int .u8 fm.part]] w (fun v w' => v = .int .i64 (roomI fm p.args : Int) ∧ St w NoM [] [] w') := by
 refine Ret.enter (args := [.agg #[.int .u16 p.op, .int .u32 p.ty, .int .u32 p.res, .slice p.ao p.args.length p.cap], .agg #[.int .u16 fm.op, str fm.name, .bool fm.ty, .bool fm.res, str fm.fixed, str fm.rest, .int .i64 fm.most, .int .u8 fm.part]]) Try.func36 rfl rfl rfl ?_
 have hst : St w NoM [] [Res.rargs p] w := St.init_D hA
 clear hA
 have hlen := len_sum p.args
 have hbt : b2n fm.ty ≤ 1 := by unfold b2n; split <;> omega
 have hbr : b2n fm.res ≤ 1 := by unfold b2n; split <;> omega
 refine SR <| CN <| Op1.box (v := .agg #[.int .u16 _, .int .u32 _, .int .u32 _, .slice _ _ _]) hst rfl rfl fun w b2 hst => CN <| Op1.box (v := .agg #[.int .u16 _, str _, .bool _, .bool _, str _, str _, .int .i64 _, .int .u8 _]) hst rfl rfl fun w b3 hst => AI rfl <| NSR <| AI rfl <| NL <| SQ <| Run.cutW (L1 := []) [(2, .pointer (some ⟨_, _, none⟩)), (3, .pointer (some ⟨_, _, none⟩))] hst ⟨rfl, rfl, trivial⟩ (fun (q : Int) => [(5, .int .i64 q)]) (fun (q : Int) => []) (fun (q : Int) => q = ((1 + b2n fm.ty : Nat) : Int)) (fun n1 f w hst hJ1 => ?_) (fun cut1 => ?_)
 replace hst : St _ _ ([] ++ [_, _]) _ _ := hst
 replace hJ1 : n1 = ((1 + b2n fm.ty : Nat) : Int) := hJ1
 refine Run.slots (sl := [(5, .int .i64 n1)]) ⟨rfl, trivial⟩ ?_
 · skip
   refine SQ <| Run.cutW (L1 := []) [(2, .pointer (some ⟨_, _, none⟩))] hst ⟨rfl, trivial⟩ (fun (q : Int) => [(5, .int .i64 q)]) (fun (q : Int) => []) (fun (q : Int) => q = ((1 + b2n fm.ty + b2n fm.res : Nat) : Int)) (fun n2 f w hst hJ2 => ?_) (fun cut3 => ?_)
   replace hst : St _ _ ([] ++ [_, _]) _ _ := hst
   replace hJ2 : n2 = ((1 + b2n fm.ty + b2n fm.res : Nat) : Int) := hJ2
   refine Run.slots (sl := [(5, .int .i64 n2)]) ⟨rfl, trivial⟩ ?_
   · skip
     refine SQ <| SR <| AI rfl <| NL <| run_block <| run_loop <| Run.indW [(2, .pointer (some ⟨_, _, none⟩))] ⟨rfl, trivial⟩ (fun (k : Nat) => [(5, .int .i64 ((1 + b2n fm.ty + b2n fm.res + sumR p.args k : Nat) : Int)), (6, .int .i64 (k : Int))]) (fun (k : Nat) => []) (fun (k : Nat) => k ≤ p.args.length) (fun (k : Nat) => p.args.length - k) (0) hst (Nat.zero_le _) ⟨(congrArg (Value.int .i64) (by rw [hJ2]; simp [sumR])), rfl, trivial⟩ ?_
     intro k f w hst hJ ih5
     refine SQ <| SR <| MI rfl <| CN <| Op1.fieldAddr fld39_3 rfl <| CN <| Op1.load1 (v := .slice _ _ _) ty37 rfl rfl (hst.cellL (.tail _ (.head _)) rfl) <| CN <| Op1.lenSl (rest := []) ty37 rfl <| CN <| Op1.lss rfl rfl <| NL <| run_cond_dec rfl (fun g6 => ?_) (fun g6 => ?_)
     · skip
       have hss := sumR_step (l := p.args) (k := k) (by omega)
       have hsum : sumR p.args k ≤ (p.args.map argRoom).sum := sumR_le
       have hmem : (p.args.getD k zeroA) ∈ p.args := getD_memD (by omega)
       have hsl := hla _ hmem
       have hidx : p.args.getD ((k : Int)).toNat zeroA = (p.args.getD k zeroA) := rfl
       have hidx2 : (p.args.getD ((k : Int)).toNat zeroA).kind = (p.args.getD k zeroA).kind := rfl
       refine run_skip <| SQ <| run_block <| SR <| CN <| Op1.fieldAddr fld39_3 rfl <| CN <| Op1.load1 (v := .slice _ _ _) ty37 rfl rfl (hst.cellL (.tail _ (.head _)) rfl) <| MI rfl <| CN <| Op1.indexRs ty37 ty35 (hst.hD _ (.head _)) rfl rfl (by omega) (by omega) <| CN <| Op1.fieldAddr fld35_0 rfl <| CN <| Op1.load1 (v := .int .u8 _) ty5 rfl rfl (Res.rs2_cellF (hst.hD _ (.head _)) (flat_cell (g := argC) (d := zeroA) argC_len rfl (by omega))) <| CN <| Op1.eql rfl rfl <| NL <| run_cond_dec rfl (fun g7 => ?_) (fun g7 => ?_)
       · skip
         refine RG <| MI rfl <| CN <| Op1.fieldAddr fld39_3 rfl <| CN <| Op1.load1 (v := .slice _ _ _) ty37 rfl rfl (hst.cellL (.tail _ (.head _)) rfl) <| MI rfl <| CN <| Op1.indexRs ty37 ty35 (hst.hD _ (.head _)) rfl rfl (by omega) (by omega) <| CN <| Op1.fieldAddr fld35_2 rfl <| CN <| Op1.load1 (v := str _) ty9 rfl rfl (Res.rs2_cellF (hst.hD _ (.head _)) (flat_cell (g := argC) (d := zeroA) argC_len rfl (by omega))) <| CN <| Op1.call1 (v1 := str _) ent48 rfl rfl <| Ret.det (R5ref1_Room (p.args.getD k zeroA).s _ (by omega)) hst fun w hst => CN <| Op1.addN rfl rfl rfl (wrap_i64 (by omega) (by omega)) <| AI rfl <| NL <| run_inBlock <| Run.forget [(2, .pointer (some ⟨_, _, none⟩)), (5, .int .i64 _), (6, .int .i64 _)] ⟨rfl, rfl, rfl, trivial⟩ fun f => RG ?_
         refine MI rfl <| CN <| Op1.addN rfl rfl rfl (wrap_i64 (by omega) (by omega)) <| AI rfl <| NL <| run_inLoop ?_
         have hy := (argW_text (a := (p.args.getD k zeroA)) (by omega)).2
         rw [hy] at hss
         exact ih5 (k + 1) _ w (by omega) hst (by omega) ⟨rfl, trivial⟩ ⟨(congrArg (Value.int .i64) (by rw [hss]; omega)), (congrArg (Value.int .i64) (by omega)), trivial⟩
       refine RG <| MI rfl <| CN <| Op1.addN rfl rfl rfl (wrap_i64 (by omega) (by omega)) <| AI rfl <| NL <| run_inBlock <| RG <| MI rfl <| CN <| Op1.addN rfl rfl rfl (wrap_i64 (by omega) (by omega)) <| AI rfl <| NL <| run_inLoop ?_
       have hy := (argW_one (a := (p.args.getD k zeroA)) (by omega)).2
       rw [hy] at hss
       exact ih5 (k + 1) _ w (by omega) hst (by omega) ⟨rfl, trivial⟩ ⟨(congrArg (Value.int .i64) (by rw [hss]; omega)), (congrArg (Value.int .i64) (by omega)), trivial⟩
     obtain rfl : k = p.args.length := by omega
     refine run_exit (id := 0) rfl <| SR <| MI rfl <| AI rfl <| NL <| run_ret1 Try.func36 rfl (TP (v := .int .i64 _) rfl) ?_
     exact ⟨congrArg (Value.int .i64) (by unfold roomI sumR; rw [List.take_length]; omega), hst.pure⟩
   · skip
     refine SR <| CN <| Op1.fieldAddr fld74_3 rfl <| CN <| Op1.load1 (v := .bool _) ty4 rfl rfl (hst.cellL (.head _) rfl) <| NL <| run_cond_split rfl (fun g8 => ?_) (fun g8 => ?_)
     · skip
       have hr : fm.res = true := by simpa using g8
       refine RG <| MI rfl <| CN <| Op1.addN rfl rfl rfl (wrap_i64 (by omega) (by omega)) <| AI rfl <| NL ?_
       exact cut3 ((n1 + 1)) _ w (hst) ((by rw [hJ1, b2n.eq_def fm.res, hr]; simp)) ⟨rfl, trivial⟩ ⟨rfl, trivial⟩
     have hr : fm.res = false := by simpa using g8
     refine run_skip ?_
     exact cut3 (n1) _ w (hst) ((by rw [hJ1, b2n.eq_def fm.res, hr]; rfl)) ⟨rfl, trivial⟩ ⟨rfl, trivial⟩
 · skip
   refine SR <| CN <| Op1.fieldAddr fld74_2 rfl <| CN <| Op1.load1 (v := .bool _) ty4 rfl rfl (hst.cellL (.head _) rfl) <| NL <| run_cond_split rfl (fun g9 => ?_) (fun g9 => ?_)
   · skip
     have ht : fm.ty = true := by simpa using g9
     refine RG <| MI rfl <| CN <| Op1.addN rfl rfl rfl (wrap_i64 (by omega) (by omega)) <| AI rfl <| NL ?_
     exact cut1 (2) _ w (hst) ((by rw [b2n, ht]; rfl)) ⟨rfl, rfl, trivial⟩ ⟨rfl, trivial⟩
   have ht : fm.ty = false := by simpa using g9
   refine run_skip ?_
   exact cut1 (1) _ w (hst) ((by rw [b2n, ht]; rfl)) ⟨rfl, rfl, trivial⟩ ⟨rfl, trivial⟩
end Go.SK
namespace Go.SK
open Go Go.Proofs
theorem ent43 : Enters Try.prog 43 := ⟨Try.f43, _, Try.func43, by kernel_rfl, rfl⟩
theorem ent45 : Enters Try.prog 45 := ⟨Try.f45, _, Try.func45, by kernel_rfl, rfl⟩
theorem ent44 : Enters Try.prog 44 := ⟨Try.f44, _, Try.func44, by kernel_rfl, rfl⟩
theorem ent46 : Enters Try.prog 46 := ⟨Try.f46, _, Try.func46, by kernel_rfl, rfl⟩
theorem ent36 : Enters Try.prog 36 := ⟨Try.f36, _, Try.func36, by kernel_rfl, rfl⟩
end Go.SK
namespace Go.SK
open Go Go.Proofs
open Go.RowKit
theorem R5ref4_Fault (p : InstP) (bound : Int) (h0 : 0 ≤ p.op) (w : World) (hA : (Res.rargs p).holds w) (hsm : (p.args.map argRoom).sum ≤ 900000000) (hla : ∀ a ∈ p.args, a.s.length ≤ 100000000000) : Ret Try.prog 34 #[.agg #[.int .u16 p.op, .int .u32 p.ty, .int .u32 p.res, .slice p.ao p.args.length p.cap], .int .u32 bound] w (fun v w' => v = .int .i64 (faultF bound p.L) ∧ St w NoM [] [] w') := by
 refine Ret.enter (args := [.agg #[.int .u16 p.op, .int .u32 p.ty, .int .u32 p.res, .slice p.ao p.args.length p.cap], .int .u32 bound]) Try.func34 rfl rfl rfl ?_
 have hst : St w NoM [] [Res.rargs p] w := St.init_D hA
 clear hA
 obtain ⟨fm, hfm⟩ : ∃ fm, refD p.op = fm := ⟨_, rfl⟩
 obtain ⟨ob, hob⟩ : ∃ ob, (refS p.op).isSome = ob := ⟨_, rfl⟩
 have hf : FOk fm := hfm ▸ refD_fok p.op
 have hlen := len_sum p.args
 refine SR <| CN <| Op1.box (v := .agg #[.int .u16 _, .int .u32 _, .int .u32 _, .slice _ _ _]) hst rfl rfl fun w b2 hst => AI rfl <| NSR <| CN <| Op1.fieldAddr fld39_0 rfl <| CN <| Op1.load1 (v := .int .u16 _) ty33 rfl rfl (hst.cellL (.head _) rfl) <| CN <| Op1.call1 (v1 := .int .u16 _) ent35 rfl rfl <| Ret.det (R5ref_Of2 hfm hob _) hst fun w hst => CN <| Op1.move (v := .tuple #[.agg #[.int .u16 _, str _, .bool _, .bool _, str _, str _, .int .i64 _, .int .u8 _], .bool _]) rfl <| CN <| Op1.extract (v := .agg #[.int .u16 _, str _, .bool _, .bool _, str _, str _, .int .i64 _, .int .u8 _]) rfl rfl <| CN <| Op1.extract (v := .bool _) rfl rfl <| CN <| Op1.alloc hst ty74 fun w b5 hst => CN (SO (v := .agg #[.int .u16 _, str _, .bool _, .bool _, str _, str _, .int .i64 _, .int .u8 _]) hst ty74 rfl rfl (.here) fun w hst => ?_)
 refine AB rfl <| NL <| SQ <| SR <| MB rfl <| CN <| Op1.not rfl <| NL <| run_cond_split rfl (fun g1 => ?_) (fun g1 => ?_)
 · skip
   refine SR <| AI rfl <| NL <| run_ret1 Try.func34 rfl (TP (v := .int .i64 _) rfl) ?_
   exact ⟨congrArg (Value.int .i64) (faultF_op (by rw [hob]; simpa using g1)).symm, hst.pure⟩
 refine run_skip <| SR <| CN <| Op1.fieldAddr fld74_2 rfl <| CN <| Op1.load1 (v := .bool _) ty4 rfl rfl (hst.cellL (.head _) rfl) <| CN <| Op1.fieldAddr fld39_1 rfl <| CN <| Op1.load1 (v := .int .u32 _) ty22 rfl rfl (hst.cellL (.tail _ (.head _)) rfl) <| MU rfl <| CN <| Op1.call4 (v1 := .bool _) (v2 := .int .u32 _) (v3 := .int .u32 _) (v4 := .int .i64 _) ent43 rfl rfl rfl rfl rfl <| Ret.det (R5ref4_Id _ _ _ _ _) hst fun w hst => AI rfl <| NL <| Run.forget [(1, .int .u32 _), (2, .pointer (some ⟨_, _, none⟩)), (5, .pointer (some ⟨_, _, none⟩)), (7, .int .i64 _)] ⟨rfl, rfl, rfl, rfl, trivial⟩ fun f => SQ <| SQ <| RG ?_
 refine MI rfl <| CN <| Op1.neq rfl rfl <| NL <| run_cond_dec rfl (fun g2 => ?_) (fun g2 => ?_)
 · skip
   refine SR <| MI rfl <| AI rfl <| NL <| run_ret1 Try.func34 rfl (TP (v := .int .i64 _) rfl) ?_
   have hF := faultF_eq (bound := bound) (i := p.L) (by rw [hob]; simpa using g1)
   rw [hfm] at hF
   rw [if_pos g2] at hF
   exact ⟨congrArg (Value.int .i64) (hF).symm, hst.pure⟩
 refine run_skip <| SR <| CN <| Op1.fieldAddr fld74_3 rfl <| CN <| Op1.load1 (v := .bool _) ty4 rfl rfl (hst.cellL (.head _) rfl) <| CN <| Op1.fieldAddr fld39_2 rfl <| CN <| Op1.load1 (v := .int .u32 _) ty22 rfl rfl (hst.cellL (.tail _ (.head _)) rfl) <| MU rfl <| CN <| Op1.call4 (v1 := .bool _) (v2 := .int .u32 _) (v3 := .int .u32 _) (v4 := .int .i64 _) ent43 rfl rfl rfl rfl rfl <| Ret.det (R5ref4_Id _ _ _ _ _) hst fun w hst => AI rfl <| NL <| SQ <| SR <| MI rfl ?_
 refine CN <| Op1.neq rfl rfl <| NL <| run_cond_dec rfl (fun g3 => ?_) (fun g3 => ?_)
 · skip
   refine SR <| MI rfl <| AI rfl <| NL <| run_ret1 Try.func34 rfl (TP (v := .int .i64 _) rfl) ?_
   have hF := faultF_eq (bound := bound) (i := p.L) (by rw [hob]; simpa using g1)
   rw [hfm] at hF
   rw [if_neg g2] at hF
   rw [if_pos g3] at hF
   exact ⟨congrArg (Value.int .i64) (hF).symm, hst.pure⟩
 refine run_skip <| SQ <| SR <| AI rfl <| NL <| run_block <| run_loop <| Run.indW [(1, .int .u32 _), (2, .pointer (some ⟨_, _, none⟩)), (5, .pointer (some ⟨_, _, none⟩))] ⟨rfl, rfl, rfl, trivial⟩ (fun (k : Nat) => [(8, .int .i64 (k : Int))]) (fun (k : Nat) => []) (fun (k : Nat) => k ≤ p.args.length ∧ wrongL fm bound 0 (p.args.take k) = 0) (fun (k : Nat) => p.args.length - k) (0) hst ⟨Nat.zero_le _, rfl⟩ ⟨rfl, trivial⟩ ?_
 intro k f w hst hJ ih4
 refine SQ <| SR <| MI rfl <| CN <| Op1.fieldAddr fld39_3 rfl <| CN <| Op1.load1 (v := .slice _ _ _) ty37 rfl rfl (hst.cellL (.tail _ (.head _)) rfl) <| CN <| Op1.lenSl (rest := []) ty37 rfl <| CN <| Op1.lss rfl rfl <| NL <| run_cond_dec rfl (fun g5 => ?_) (fun g5 => ?_)
 · skip
   refine run_skip <| SQ <| run_block <| SQ ?_
   have hidx : p.args.getD ((k : Int)).toNat zeroA = (p.args.getD k zeroA) := rfl
   refine RunD.start [] hst (bs := [0, 1, 0, 7, 0, 16, 0, 112, 240, 0, 1023, 2047]) (ds := [some 42, some 43, some 44, some 45, some 46, some 47, some 48, some 49, some 50, some 51, some 52, some 7]) ⟨by kernel_rfl, by kernel_rfl, by kernel_rfl⟩ (fun tab6 => ?_)
   refine RunD.op (det _) tab6 1 (fun f' L' w' hc => Op1.fieldAddr fld39_0 (hc.old (v := .pointer (some ⟨_, _, none⟩)) rfl rfl rfl) ⟨[], ⟨rfl, rfl⟩, hc.st⟩) <| RunD.op (det _) tab6 2 (fun f' L' w' hc => Op1.load1 (v := .int .u16 _) ty33 rfl (hc.det (j := 0) rfl rfl rfl rfl) (hc.st.cellL (List.mem_append_right _ (.tail _ (.head _))) rfl) ⟨[], ⟨rfl, rfl⟩, hc.st⟩) <| RunD.op (det _) tab6 3 (fun f' L' w' hc => Op1.move (v := .int .i64 _) (hc.old (v := .int .i64 _) rfl rfl rfl) ⟨[], ⟨rfl, rfl⟩, hc.st⟩) <| RunD.op (det _) tab6 4 (fun f' L' w' hc => Op1.call2 (v1 := .int .u16 _) (v2 := .int .i64 _) ent45 rfl (hc.det (j := 1) rfl rfl rfl rfl) (hc.det (j := 2) rfl rfl rfl rfl) ((R5ref_Letter2 h0 hfm _ (by omega) _).mono fun v w hp => ⟨[], ⟨hp.1, rfl⟩, hc.st.keepc hp.2⟩)) <| RunD.op (det _) tab6 5 (fun f' L' w' hc => Op1.fieldAddr fld39_3 (hc.old (v := .pointer (some ⟨_, _, none⟩)) rfl rfl rfl) ⟨[], ⟨rfl, rfl⟩, hc.st⟩) <| RunD.op (det _) tab6 6 (fun f' L' w' hc => Op1.load1 (v := .slice _ _ _) ty37 rfl (hc.det (j := 4) rfl rfl rfl rfl) (hc.st.cellL (List.mem_append_right _ (.tail _ (.head _))) rfl) ⟨[], ⟨rfl, rfl⟩, hc.st⟩) <| RunD.op (det _) tab6 7 (fun f' L' w' hc => Op1.move (v := .int .i64 _) (hc.old (v := .int .i64 _) rfl rfl rfl) ⟨[], ⟨rfl, rfl⟩, hc.st⟩) <| RunD.op (det _) tab6 8 (fun f' L' w' hc => Op1.indexRs ty37 ty35 (hc.st.hD _ (.head _)) (hc.det (j := 5) rfl rfl rfl rfl) (hc.det (j := 6) rfl rfl rfl rfl) (by omega) (by omega) ⟨[], ⟨rfl, rfl⟩, hc.st⟩) <| RunD.op (det _) tab6 9 (fun f' L' w' hc => Op1.loadA (vs := [.int .u8 _, .int .u32 _, str _]) ty35 rfl (hc.det (j := 7) rfl rfl rfl rfl) rfl (Res.rs2_cells (m := 3) (hc.st.hD _ (.head _)) _ (flat_seg (g := argC) (d := zeroA) argC_len _ _ (by omega))) ⟨[], ⟨rfl, rfl⟩, hc.st⟩) <| RunD.op (det _) tab6 10 (fun f' L' w' hc => Op1.move (v := .int .u32 _) (hc.old (v := .int .u32 _) rfl rfl rfl) ⟨[], ⟨rfl, rfl⟩, hc.st⟩) <| RunD.fin followsMixed tab6 hst rfl (fun f7 w R10 hs8 hd9 hr11 hst => ?_)
   obtain ⟨h42_, r0⟩ := hd9 0 42 rfl rfl
   obtain ⟨h43_, r1⟩ := hd9 1 43 rfl rfl
   obtain ⟨h44_, r2⟩ := hd9 2 44 rfl rfl
   obtain ⟨h45_, r3⟩ := hd9 3 45 rfl rfl
   obtain ⟨h46_, r4⟩ := hd9 4 46 rfl rfl
   obtain ⟨h47_, r5⟩ := hd9 5 47 rfl rfl
   obtain ⟨h48_, r6⟩ := hd9 6 48 rfl rfl
   obtain ⟨h49_, r7⟩ := hd9 7 49 rfl rfl
   obtain ⟨h50_, r8⟩ := hd9 8 50 rfl rfl
   obtain ⟨h51_, r9⟩ := hd9 9 51 rfl rfl
   simp only [show List.range 10 = [0, 1, 2, 3, 4, 5, 6, 7, 8, 9] from rfl, List.flatMap_cons, List.flatMap_nil, List.map_cons, List.map_nil, r0, r1, r2, r3, r4, r5, r6, r7, r8, r9, List.nil_append, List.append_nil, List.cons_append] at hst
   refine RunL.slots (sl := [(1, .int .u32 _), (2, .pointer (some ⟨_, _, none⟩)), (5, .pointer (some ⟨_, _, none⟩)), (8, .int .i64 _), (45, .int .u8 _), (50, .agg #[.int .u8 _, .int .u32 _, str _]), (51, .int .u32 _)]) ⟨(hs8 1 rfl).trans rfl, (hs8 2 rfl).trans rfl, (hs8 5 rfl).trans rfl, (hs8 8 rfl).trans rfl, h45_, h50_, h51_, trivial⟩ ?_
   clear hs8 hd9 hr11 tab6
   refine CN <| Op1.call3 (v1 := .int .u8 _) (v2 := .agg #[.int .u8 _, .int .u32 _, str _]) (v3 := .int .u32 _) ent44 rfl rfl rfl rfl <| Ret.det (R5ref4_Wrong _ (letterS_bd fm (k : Int)).1 (letterS_bd fm (k : Int)).2 (p.args.getD k zeroA) (by have := hla _ (getD_memD (l := p.args) (i := k) (d := zeroA) (by omega)); omega) bound _) hst fun w hst => AI rfl <| NSR <| MI rfl <| CN <| Op1.neq rfl rfl <| NL <| Run.forget [(1, .int .u32 _), (2, .pointer (some ⟨_, _, none⟩)), (5, .pointer (some ⟨_, _, none⟩)), (7, .int .i64 _), (8, .int .i64 _), (54, .bool _)] ⟨rfl, rfl, rfl, rfl, rfl, rfl, trivial⟩ fun f => run_cond_dec rfl (fun g12 => ?_) (fun g12 => ?_)
   · skip
     refine SR <| MI rfl <| AI rfl <| NL <| run_ret1 Try.func34 rfl (TP (v := .int .i64 _) rfl) ?_
     have hF := faultF_eq (bound := bound) (i := p.L) (by rw [hob]; simpa using g1)
     rw [hfm] at hF
     rw [if_neg g2] at hF
     rw [if_neg g3] at hF
     have hw := (wrongL_take (by omega) hJ.2).2 g12
     rw [if_pos (by (try dsimp only); rw [hw]; exact g12)] at hF
     try dsimp only at hF
     rw [hw] at hF
     exact ⟨congrArg (Value.int .i64) (hF).symm, hst.pure⟩
   refine run_skip <| run_inBlock <| RG <| MI rfl <| CN <| Op1.addN rfl rfl rfl (wrap_i64 (by omega) (by omega)) <| AI rfl <| NL <| run_inLoop ?_
   exact ih4 (k + 1) _ w (by omega) hst (⟨by omega, ((wrongL_take (by omega) hJ.2).1).trans (Classical.not_not.1 g12)⟩) ⟨rfl, rfl, rfl, trivial⟩ ⟨(congrArg (Value.int .i64) (by omega)), trivial⟩
 obtain rfl : k = p.args.length := by omega
 have hwl := hJ.2
 rw [List.take_length] at hwl
 refine run_exit (id := 0) rfl <| SQ <| SR <| CN <| Op1.loadA (vs := [.int .u16 _, str _, .bool _, .bool _, str _, str _, .int .i64 _, .int .u8 _]) ty74 rfl rfl rfl (cells_of_obj (n := 8) (hst.objL (.head _)) _ rfl) <| CN <| Op1.fieldAddr fld39_3 rfl <| CN <| Op1.load1 (v := .slice _ _ _) ty37 rfl rfl (hst.cellL (.tail _ (.head _)) rfl) <| CN <| Op1.lenSl (rest := []) ty37 rfl <| CN <| Op1.call2 (v1 := .agg #[.int .u16 _, str _, .bool _, .bool _, str _, str _, .int .i64 _, .int .u8 _]) (v2 := .int .i64 _) ent46 rfl rfl rfl <| Ret.det (R5ref4_Whole fm hf p.args.length (by omega) _) hst fun w hst => CN <| Op1.not rfl <| NL <| run_cond_split rfl (fun g13 => ?_) (fun g13 => ?_)
 · skip
   refine SR <| AI rfl <| NL <| run_ret1 Try.func34 rfl (TP (v := .int .i64 _) rfl) ?_
   have hF := faultF_eq (bound := bound) (i := p.L) (by rw [hob]; simpa using g1)
   rw [hfm] at hF
   rw [if_neg g2] at hF
   rw [if_neg g3] at hF
   rw [if_neg (fun h => h hwl)] at hF
   have hb := wrongL_none (op := p.op) (bound := bound) (l := p.args) (by rw [hfm]; exact hwl)
   have hq := wholeQ_off (fm := fm) (n := p.args.length) (fun hr => by have := bad_long (f := fm) hr (by rw [← hfm]; exact hb); rwa [List.length_map] at this)
   rw [if_pos (Classical.not_not.1 (fun hx => by have h2 := hq.2 hx; have hg := g13; rw [h2] at hg; cases hg))] at hF
   exact ⟨congrArg (Value.int .i64) (hF).symm, hst.pure⟩
 refine run_skip <| SQ <| SR <| CN <| Op1.loadA (vs := [.int .u16 _, .int .u32 _, .int .u32 _, .slice _ _ _]) ty39 rfl rfl rfl (cells_of_obj (n := 4) (hst.objL (.tail _ (.head _))) _ rfl) <| CN <| Op1.loadA (vs := [.int .u16 _, str _, .bool _, .bool _, str _, str _, .int .i64 _, .int .u8 _]) ty74 rfl rfl rfl (cells_of_obj (n := 8) (hst.objL (.head _)) _ rfl) <| CN <| Op1.call2 (v1 := .agg #[.int .u16 _, .int .u32 _, .int .u32 _, .slice _ _ _]) (v2 := .agg #[.int .u16 _, str _, .bool _, .bool _, str _, str _, .int .i64 _, .int .u8 _]) ent36 rfl rfl rfl <| Ret.det (R5ref4_Room p fm _ (hst.hD _ (.head _)) hsm hla) hst fun w hst => CN <| Op1.gtr rfl rfl <| NL <| run_cond_dec rfl (fun g14 => ?_) (fun g14 => ?_)
 · skip
   refine SR <| AI rfl <| NL <| run_ret1 Try.func34 rfl (TP (v := .int .i64 _) rfl) ?_
   have hF := faultF_eq (bound := bound) (i := p.L) (by rw [hob]; simpa using g1)
   rw [hfm] at hF
   rw [if_neg g2] at hF
   rw [if_neg g3] at hF
   rw [if_neg (fun h => h hwl)] at hF
   have hb := wrongL_none (op := p.op) (bound := bound) (l := p.args) (by rw [hfm]; exact hwl)
   have hq := wholeQ_off (fm := fm) (n := p.args.length) (fun hr => by have := bad_long (f := fm) hr (by rw [← hfm]; exact hb); rwa [List.length_map] at this)
   rw [if_neg (hq.1 (by simpa using g13))] at hF
   rw [if_pos (by (try dsimp only); omega)] at hF
   exact ⟨congrArg (Value.int .i64) (hF).symm, hst.pure⟩
 refine run_skip <| SR <| AI rfl <| NL <| run_ret1 Try.func34 rfl (TP (v := .int .i64 _) rfl) ?_
 have hF := faultF_eq (bound := bound) (i := p.L) (by rw [hob]; simpa using g1)
 rw [hfm] at hF
 rw [if_neg g2] at hF
 rw [if_neg g3] at hF
 rw [if_neg (fun h => h hwl)] at hF
 have hb := wrongL_none (op := p.op) (bound := bound) (l := p.args) (by rw [hfm]; exact hwl)
 have hq := wholeQ_off (fm := fm) (n := p.args.length) (fun hr => by have := bad_long (f := fm) hr (by rw [← hfm]; exact hb); rwa [List.length_map] at this)
 rw [if_neg (hq.1 (by simpa using g13))] at hF
 rw [if_neg (by (try dsimp only); omega)] at hF
 exact ⟨congrArg (Value.int .i64) (hF).symm, hst.pure⟩
end Go.SK
namespace Go.SK
open Go Go.Proofs
theorem ent49 : Enters Try.prog 49 := ⟨Try.f49, _, Try.func49, by kernel_rfl, rfl⟩
theorem ent50 : Enters Try.prog 50 := ⟨Try.f50, _, Try.func50, by kernel_rfl, rfl⟩
end Go.SK
namespace Go.SK
open Go Go.Proofs
open Go.RowKit
theorem R5cd_Raw2 {p : InstP} {bound rop re : Int} {rws : List Int} (hR : rawF bound p.L = ((rop, rws), re)) (h0 : 0 ≤ p.op) (w : World) (hA : (Res.rargs p).holds w) (hsm : (p.args.map argRoom).sum ≤ 900000000) (hla : ∀ a ∈ p.args, a.s.length ≤ 100000000000) : Ret Try.prog 50 #[.agg #[.int .u16 p.op, .int .u32 p.ty, .int .u32 p.res, .slice p.ao p.args.length p.cap], .int .u32 bound] w (fun v w' => ∃ ro rc, v = .tuple #[.agg #[.int .u16 rop, .slice ro rws.length rc], .int .i64 re] ∧ St w NoM [Res.sl ro rws.length rc 22 1 (rws.flatMap u32C)] [] w') := by
 have h := R5cd_Raw p bound h0 w hA hsm hla
 rw [hR] at h; exact h
theorem R5fr_SizeNil (w : World) : Ret Try.prog 49 #[.slice none 0 0] w (fun v w' => v = .tuple #[.int .i64 5, .int .i64 0] ∧ St w NoM [] [] w') := R5fr_Size [] none 0 w ⟨rfl, .inl rfl⟩ (by decide) (fun _ h => by cases h)
theorem R5cd_raws (gn bd : Int) (l : List InstP) (ao : Option Addr) (cp : Nat) (w : World) (hA : (Res.rmod ao l).holds w) (hl : l.length ≤ 3000000000000) (hop : ∀ i ∈ l, 0 ≤ i.op) (hsm : ∀ i ∈ l, (i.args.map argRoom).sum ≤ 900000000) (hla : ∀ i ∈ l, ∀ a ∈ i.args, a.s.length ≤ 100000000000) : Ret Try.prog 38 #[.agg #[.int .u32 gn, .int .u32 bd, .slice ao l.length cp]] w (fun v w' => ∃ ro rc done, v = .tuple #[.slice ro done.length rc, .agg #[.int .i64 (shapeF bd (l.map InstP.L)).1, .int .i64 (shapeF bd (l.map InstP.L)).2]] ∧ done.map RawP.L = (if (shapeF bd (l.map InstP.L)).1 = 0 then rawsF bd (l.map InstP.L) else []) ∧ St w NoM [Res.oraws 95 22 ro rc done] [] w') := by
 refine Ret.enter (args := [.agg #[.int .u32 gn, .int .u32 bd, .slice ao l.length cp]]) Try.func38 rfl rfl rfl ?_
 have hst : St w NoM [] [Res.rmod ao l] w := St.init_D hA
 clear hA
 refine SR <| CN <| Op1.box (v := .agg #[.int .u32 _, .int .u32 _, .slice _ _ _]) hst rfl rfl fun w b1 hst => AL rfl <| CN <| Op1.alloc hst ty29 fun w b3 hst => NL <| SQ <| SR <| CN <| Op1.fieldAddr fld25_1 rfl <| CN <| Op1.load1 (v := .int .u32 _) ty22 rfl rfl (hst.cellL (.tail _ (.head _)) rfl) <| CN <| Op1.eql rfl rfl <| MB rfl <| RunL.splitD (d := 14) rfl (fun g1 => ?_) (fun g1 => ?_)
 · skip
   refine OM (t := 14) rfl (congrArg Value.bool (decide_eq_true g1)) rfl <| OM (t := 14) rfl (congrArg Value.bool (decide_eq_true g1)) rfl <| OM (t := 14) rfl (congrArg Value.bool (decide_eq_true g1)) rfl <| CN <| Op1.pickT (u := .bool _) (congrArg Value.bool (decide_eq_true g1)) rfl <| NL <| run_cond_true (congrArg Value.bool (rfl : true = _)) <| SR <| CN (Op1.buildStruct ty29 stf29 (.c (v := .int .i64 _) rfl (h := .nil)) ?_)
   refine AL rfl <| CN (SO (v := .agg #[.int .i64 _, .int .i64 _]) hst ty29 rfl rfl (.here) fun w hst => ?_)
   refine NL <| run_ret2 Try.func38 rfl (TP (v := .slice _ _ _) rfl) (RV.cellA (vs := [.int .i64 _, .int .i64 _]) rfl ty29 rfl rfl (cells_of_obj (n := 2) (hst.objL (.head _)) _ rfl)) ?_
   replace hst := hst.pick .nil
   have hS := shapeF_bound (bound := bd) (l := (l.map InstP.L)) (by omega)
   have hne : (24 : Int) ≠ 0 := by decide
   replace hst := St.starCons ((hst.starNil).pushNil 95 2)
   refine ⟨none, 0, [], ?_, ?_, hst.noD⟩
   · rw [hS] <;> rfl
   · rw [hS, if_neg hne] <;> rfl
 refine TK (t := 14) rfl (congrArg Value.bool (decide_eq_false g1)) <| Op1.fieldAddr fld25_1 rfl <| TK (t := 14) rfl (congrArg Value.bool (decide_eq_false g1)) <| Op1.load1 (v := .int .u32 _) ty22 rfl rfl (hst.cellL (.tail _ (.head _)) rfl) <| TK (t := 14) rfl (congrArg Value.bool (decide_eq_false g1)) <| Op1.gtr rfl rfl <| CN <| Op1.pickF (u := .bool _) (congrArg Value.bool (decide_eq_false g1)) rfl <| NL <| run_cond_dec rfl (fun g2 => ?_) (fun g2 => ?_)
 · skip
   refine SR <| CN (Op1.buildStruct ty29 stf29 (.c (v := .int .i64 _) rfl (h := .nil)) ?_)
   refine AL rfl <| CN (SO (v := .agg #[.int .i64 _, .int .i64 _]) hst ty29 rfl rfl (.here) fun w hst => ?_)
   refine NL <| run_ret2 Try.func38 rfl (TP (v := .slice _ _ _) rfl) (RV.cellA (vs := [.int .i64 _, .int .i64 _]) rfl ty29 rfl rfl (cells_of_obj (n := 2) (hst.objL (.head _)) _ rfl)) ?_
   replace hst := hst.pick .nil
   have hS := shapeF_bound (bound := bd) (l := (l.map InstP.L)) (by omega)
   have hne : (24 : Int) ≠ 0 := by decide
   replace hst := St.starCons ((hst.starNil).pushNil 95 2)
   refine ⟨none, 0, [], ?_, ?_, hst.noD⟩
   · rw [hS] <;> rfl
   · rw [hS, if_neg hne] <;> rfl
 refine run_skip <| SR <| CN <| Op1.call1 (v1 := .slice _ _ _) ent49 rfl rfl <| Ret.det (R5fr_SizeNil _) hst fun w hst => CN <| Op1.move (v := .tuple #[.int .i64 _, .int .i64 _]) rfl <| CN <| Op1.extract (v := .int .i64 _) rfl rfl <| CN <| Op1.extract (v := .int .i64 _) rfl rfl <| AI rfl <| AI rfl <| NSR <| MI rfl <| CN <| Op1.subN rfl rfl rfl (wrap_i64 (by omega) (by omega)) <| AI rfl ?_
 refine NL <| Run.forget [(1, .pointer (some ⟨_, _, none⟩)), (3, .pointer (some ⟨_, _, none⟩)), (4, .int .i64 _)] ⟨rfl, rfl, rfl, trivial⟩ fun f => SR <| AL rfl <| NL <| SQ <| SQ ?_
 replace hst := hst.pushNil 95 2
 replace hst := hst.starNil
 refine RG <| CN <| Op1.fieldAddr fld25_2 rfl <| CN <| Op1.load1 (v := .slice _ _ _) ty23 rfl rfl (hst.cellL (.tail _ (.tail _ (.tail _ (.head _)))) rfl) <| CN <| Op1.lenSl (rest := []) ty23 rfl <| MI rfl <| NL <| run_block <| run_loop <| Run.indW [(1, .pointer (some ⟨_, _, none⟩)), (3, .pointer (some ⟨_, _, none⟩)), (27, .slice _ _ _), (28, .int .i64 _)] ⟨rfl, rfl, rfl, rfl, trivial⟩ (fun (q : Nat × Nat × Option Addr × Nat × List RawP) => [(4, .int .i64 (1048576 - (q.2.1 : Int))), (6, .slice q.2.2.1 q.2.2.2.2.length q.2.2.2.1), (29, .int .i64 (q.1 : Int))]) (fun (q : Nat × Nat × Option Addr × Nat × List RawP) => [Res.star (q.2.2.2.2.map (Res.oword 22)), Res.sl q.2.2.1 q.2.2.2.2.length q.2.2.2.1 95 2 (q.2.2.2.2.flatMap rawC)]) (fun (q : Nat × Nat × Option Addr × Nat × List RawP) => q.1 ≤ l.length ∧ shapeG bd 5 0 (l.map InstP.L) = shapeG bd q.2.1 q.1 ((l.map InstP.L).drop q.1) ∧ q.2.1 ≤ 1048576 ∧ q.2.2.2.2.map RawP.L = rawsF bd ((l.map InstP.L).take q.1)) (fun (q : Nat × Nat × Option Addr × Nat × List RawP) => l.length - q.1) ((0, 5, none, 0, [])) hst ⟨Nat.zero_le _, rfl, by decide, rfl⟩ ⟨rfl, rfl, rfl, trivial⟩ ?_
 intro ⟨i, n, aq, cq, done⟩ f w hst hJ ih3
 replace hst : St _ _ ([Res.star (done.map (Res.oword 22)), Res.sl aq done.length cq 95 2 (done.flatMap rawC)] ++ [_, _]) _ _ := hst
 replace hJ : i ≤ l.length ∧ shapeG bd 5 0 (l.map InstP.L) = shapeG bd n i ((l.map InstP.L).drop i) ∧ n ≤ 1048576 ∧ done.map RawP.L = rawsF bd ((l.map InstP.L).take i) := hJ
 refine Run.slots (sl := [(4, .int .i64 (1048576 - (n : Int))), (6, .slice aq done.length cq), (29, .int .i64 (i : Int))]) ⟨rfl, rfl, rfl, trivial⟩ <| SR <| CN <| Op1.lss rfl rfl <| NL <| SQ <| run_cond_dec rfl (fun g4 => ?_) (fun g4 => ?_)
 · skip
   have hmem : (l.getD i zeroI) ∈ l := getD_memD (by omega)
   have hidx : l.getD ((i : Int)).toNat zeroI = (l.getD i zeroI) := rfl
   obtain ⟨⟨⟨rop, rws⟩, re⟩, hR⟩ : ∃ q, rawF bd (l.getD i zeroI).L = q := ⟨_, rfl⟩
   have hrl := rawF_len hR
   have hsh := shapeG_step (bound := bd) (n := n) (k := i) (l := (l.map InstP.L)) (j := i) (by rw [List.length_map]; omega)
   rw [mapL_getD (by omega), ← hrl.1] at hsh
   have hdl : done.length ≤ i := by have := congrArg List.length hJ.2.2.2; simp only [rawsF, List.length_map, List.length_take] at this; omega
   have hrn : rws.length < 65535 := by
     by_cases he : re = 0
     · exact (hrl.2.1 he).2.1
     · rw [show rws = [] from congrArg Prod.snd (hrl.2.2 he)]; decide
   refine run_skip <| SQ <| run_block <| SR <| MI rfl <| CN <| Op1.indexRs ty23 ty39 (Res.rmod_insts (hst.hD _ (.head _))) rfl rfl (by omega) (by omega) <| CN <| Op1.loadA (vs := [.int .u16 _, .int .u32 _, .int .u32 _, .slice _ _ _]) ty39 rfl rfl rfl (Res.rs2_cells (m := 4) (Res.rmod_insts (hst.hD _ (.head _))) _ (flat_seg (g := instC) (d := zeroI) instC_len _ _ (by omega))) <| CN <| Op1.alloc hst ty39 fun w b8 hst => AI rfl <| CN (SO (v := .agg #[.int .u16 _, .int .u32 _, .int .u32 _, .slice _ _ _]) hst ty39 rfl rfl (.here) fun w hst => ?_)
   refine NSR <| CN <| Op1.loadA (vs := [.int .u16 _, .int .u32 _, .int .u32 _, .slice _ _ _]) ty39 rfl rfl rfl (cells_of_obj (n := 4) (hst.objL (.head _)) _ rfl) <| CN <| Op1.fieldAddr fld25_1 rfl <| CN <| Op1.load1 (v := .int .u32 _) ty22 rfl rfl (hst.cellL (.tail _ (.tail _ (.tail _ (.tail _ (.head _))))) rfl) <| CN (Op1.call2 (v1 := .agg #[.int .u16 _, .int .u32 _, .int .u32 _, .slice _ _ _]) (v2 := .int .u32 _) ent50 rfl rfl rfl ((R5cd_Raw2 hR (hop _ hmem) _ (Res.rmod_argsI (hst.hD _ (.head _)) (i := i) (by omega)) (hsm _ hmem) (hla _ hmem)).mono fun v w hp => ?_))
   obtain ⟨ro, rc, rfl, hp⟩ := hp
   replace hst : St _ _ (_ :: _) _ _ := hst.call0 hp
   clear hp
   refine CN <| Op1.move (v := .tuple #[.agg #[.int .u16 _, .slice _ _ _], .int .i64 _]) rfl <| CN <| Op1.extract (v := .agg #[.int .u16 _, .slice _ _ _]) rfl rfl <| CN <| Op1.extract (v := .int .i64 _) rfl rfl <| CN <| Op1.alloc hst ty95 fun w b9 hst => CN (SO (v := .agg #[.int .u16 _, .slice _ _ _]) hst ty95 rfl rfl (.here) fun w hst => ?_)
   refine AI rfl <| NSR <| MI rfl <| CN <| Op1.fieldAddr fld95_1 rfl <| CN <| Op1.load1 (v := .slice _ _ _) ty93 rfl rfl (hst.cellL (.head _) rfl) <| CN <| Op1.lenSl (rest := []) ty93 rfl <| CN <| Op1.addN rfl rfl rfl (wrap_i64 (by omega) (by omega)) <| CN <| Op1.subN rfl rfl rfl (wrap_i64 (by omega) (by omega)) <| AI rfl <| NL <| Run.forget [(1, .pointer (some ⟨_, _, none⟩)), (3, .pointer (some ⟨_, _, none⟩)), (4, .int .i64 _), (6, .slice _ _ _), (7, .int .i64 _), (9, .pointer (some ⟨_, _, none⟩)), (10, .int .i64 _), (27, .slice _ _ _), (28, .int .i64 _), (29, .int .i64 _)] ⟨rfl, rfl, rfl, rfl, rfl, rfl, rfl, rfl, rfl, rfl, trivial⟩ fun f => SQ <| run_block ?_
   refine SR <| MI rfl <| CN <| Op1.neq rfl rfl <| AB rfl <| NL <| run_cond_dec rfl (fun g5 => ?_) (fun g5 => ?_)
   · skip
     refine SR <| MI rfl <| MI rfl <| CN (Op1.buildStruct ty29 stf29 (.c (v := .int .i64 _) rfl (h := (.c (v := .int .i64 _) rfl (h := .nil)))) ?_)
     refine AL rfl <| CN (SO (v := .agg #[.int .i64 _, .int .i64 _]) hst ty29 rfl rfl (.there (.there (.there (.there (.there (.here)))))) fun w hst => ?_)
     refine NL <| run_ret2 Try.func38 rfl (TP (v := .slice _ _ _) rfl) (RV.cellA (vs := [.int .i64 _, .int .i64 _]) rfl ty29 rfl rfl (cells_of_obj (n := 2) (hst.objL (.tail _ (.tail _ (.tail _ (.tail _ (.tail _ (.head _))))))) _ rfl)) ?_
     replace hst := hst.pick .nil
     rw [if_pos g5] at hsh
     have hS := shapeF_in (bound := bd) (l := (l.map InstP.L)) (by omega) (by omega)
     rw [hJ.2.1, hsh] at hS
     have hne := g5
     replace hst := St.starCons ((hst.starNil).pushNil 95 2)
     refine ⟨none, 0, [], ?_, ?_, hst.noD⟩
     · rw [hS] <;> rfl
     · rw [hS, if_neg hne] <;> rfl
   refine SR <| MI rfl <| CN <| Op1.lss rfl rfl <| AB rfl <| NL <| run_cond_dec rfl (fun g6 => ?_) (fun g6 => ?_)
   · skip
     refine SR <| MI rfl <| CN (Op1.buildStruct ty29 stf29 (.c (v := .int .i64 _) rfl (h := (.c (v := .int .i64 _) rfl (h := .nil)))) ?_)
     refine AL rfl <| CN (SO (v := .agg #[.int .i64 _, .int .i64 _]) hst ty29 rfl rfl (.there (.there (.there (.there (.there (.here)))))) fun w hst => ?_)
     refine NL <| run_ret2 Try.func38 rfl (TP (v := .slice _ _ _) rfl) (RV.cellA (vs := [.int .i64 _, .int .i64 _]) rfl ty29 rfl rfl (cells_of_obj (n := 2) (hst.objL (.tail _ (.tail _ (.tail _ (.tail _ (.tail _ (.head _))))))) _ rfl)) ?_
     replace hst := hst.pick .nil
     have hr0 : re = 0 := Classical.not_not.1 g5
     have hrm := (hrl.2.1 hr0).1
     dsimp only at hrm hsh
     rw [if_neg g5, if_pos (by omega)] at hsh
     have hS := shapeF_in (bound := bd) (l := (l.map InstP.L)) (by omega) (by omega)
     rw [hJ.2.1, hsh] at hS
     have hne : (4 : Int) ≠ 0 := by decide
     replace hst := St.starCons ((hst.starNil).pushNil 95 2)
     refine ⟨none, 0, [], ?_, ?_, hst.noD⟩
     · rw [hS] <;> rfl
     · rw [hS, if_neg hne] <;> rfl
   refine run_skip <| run_inBlock <| RG <| ML rfl <| CN <| Op1.loadA (vs := [.int .u16 _, .slice _ _ _]) ty95 rfl rfl rfl (cells_of_obj (n := 2) (hst.objL (.head _)) _ rfl) <| CN (Op1.buildSl (z0 := [.int .u16 0, .slice none 0 0]) hst ty78 ty95 rfl rfl (by kernel_rfl) (.c (v := .agg #[.int .u16 _, .slice _ _ _]) rfl (h := .nil)) fun w b60 hst => ?_)
   refine CN (Op1.append (news := [.int .u16 _, .slice _ _ _]) hst ty78 ty95 rfl rfl (.there (.there (.there (.there (.there (.here)))))) rfl rfl rfl (cells_of_obj (n := 2) (hst.objL (.head _)) _ rfl) rfl rfl (by omega) fun w ao7 cp8 hst => ?_)
   replace hst := hst.drop (.there (.here))
   refine AL rfl <| NL <| run_inBlock <| RG <| CN <| Op1.addN rfl rfl rfl (wrap_i64 (by omega) (by omega)) <| MI rfl <| NL <| run_inLoop ?_
   replace hst := hst.pick (.cons (.there (.there (.here))) (.cons (.there (.there (.there (.here)))) (.cons (.here) (.cons (.here) (.cons (.here) (.cons (.here) (.cons (.here) .nil)))))))
   replace hst := hst.starSnoc
   have e1 : done.length + 1 = (done ++ [(⟨rop, ro, rc, rws⟩ : RawP)]).length := by simp
   have e2 : done.flatMap rawC ++ [.int .u16 rop, .slice ro rws.length rc] = (done ++ [(⟨rop, ro, rc, rws⟩ : RawP)]).flatMap rawC := by simp
   have e3 : done.map (Res.oword 22) ++ [Res.sl ro rws.length rc 22 1 (rws.flatMap u32C)] = (done ++ [(⟨rop, ro, rc, rws⟩ : RawP)]).map (Res.oword 22) := by simp
   rw [e1, e2, e3] at hst
   have hr0 : re = 0 := Classical.not_not.1 g5
   have hrm := (hrl.2.1 hr0).1
   dsimp only at hrm hsh
   rw [if_neg g5, if_neg (by omega)] at hsh
   have hI2 : (done ++ [(⟨rop, ro, rc, rws⟩ : RawP)]).map RawP.L = rawsF bd ((l.map InstP.L).take (i + 1)) := by rw [List.map_append, hJ.2.2.2, rawsF_take (by omega), hR]; rfl
   replace hst := hst.pick (.cons (.here) (.cons (.here) (.cons (.there (.there (.here))) (.cons (.there (.there (.here))) .nil))))
   exact ih3 ((i + 1, n + roomI (refD (l.getD i zeroI).op) (l.getD i zeroI).args, ao7, cp8, done ++ [(⟨rop, ro, rc, rws⟩ : RawP)])) _ w (by (try dsimp only); omega) hst (⟨by (try dsimp only); omega, hJ.2.1.trans hsh, by (try dsimp only); omega, hI2⟩) ⟨rfl, rfl, rfl, rfl, trivial⟩ ⟨(congrArg (Value.int .i64) (by (try dsimp only); omega)), (by (try dsimp only); rw [← e1]; rfl), (congrArg (Value.int .i64) (by (try dsimp only); omega)), trivial⟩
 obtain rfl : i = l.length := by omega
 refine run_exit (id := 0) rfl <| SR <| ML rfl <| CN (Op1.buildStruct ty29 stf29 .nil ?_)
 refine AL rfl <| CN (SO (v := .agg #[.int .i64 _, .int .i64 _]) hst ty29 rfl rfl (.there (.there (.here))) fun w hst => ?_)
 refine NL <| run_ret2 Try.func38 rfl (TP (v := .slice _ _ _) rfl) (RV.cellA (vs := [.int .i64 _, .int .i64 _]) rfl ty29 rfl rfl (cells_of_obj (n := 2) (hst.objL (.tail _ (.tail _ (.head _)))) _ rfl)) ?_
 replace hst := hst.pick (.cons (.there (.here)) (.cons (.here) .nil))
 have hll : l.length = (l.map InstP.L).length := by rw [List.length_map]
 have hS := shapeF_in (bound := bd) (l := (l.map InstP.L)) (by omega) (by omega)
 rw [hJ.2.1, hll, shapeG_end] at hS
 refine ⟨aq, cq, done, ?_, ?_, (St.starCons hst).noD⟩
 · rw [hS]
 · rw [hS, if_pos rfl, hJ.2.2.2, hll, List.take_length]
end Go.SK
namespace Go.SK
open Go Go.Proofs
theorem ty25 : TyF Try.prog 25 (.struct (fieldsOf Try.prog 25)) 3 32 [.int .u32 0, .int .u32 0, .slice none 0 0] := TyF.of (by kernel_rfl) (by kernel_rfl)
theorem ent38 : Enters Try.prog 38 := ⟨Try.f38, _, Try.func38, by kernel_rfl, rfl⟩
end Go.SK
namespace Go.SK
open Go Go.Proofs
open Go.RowKit
theorem R5cd_raws2 (gn bd : Int) (l : List InstP) (ao : Option Addr) (cp : Nat) {se sa : Int} (hS : shapeF bd (l.map InstP.L) = (se, sa)) (w : World) (hA : (Res.rmod ao l).holds w) (hl : l.length ≤ 3000000000000) (hop : ∀ i ∈ l, 0 ≤ i.op) (hsm : ∀ i ∈ l, (i.args.map argRoom).sum ≤ 900000000) (hla : ∀ i ∈ l, ∀ a ∈ i.args, a.s.length ≤ 100000000000) : Ret Try.prog 38 #[.agg #[.int .u32 gn, .int .u32 bd, .slice ao l.length cp]] w (fun v w' => ∃ ro rc done, v = .tuple #[.slice ro done.length rc, .agg #[.int .i64 se, .int .i64 sa]] ∧ done.map RawP.L = (if se = 0 then rawsF bd (l.map InstP.L) else []) ∧ St w NoM [Res.oraws 95 22 ro rc done] [] w') := by
 have h := R5cd_raws gn bd l ao cp w hA hl hop hsm hla
 rw [hS] at h; exact h
theorem R5cd_Shape (gn bd : Int) (l : List InstP) (ao : Option Addr) (cp : Nat) (w : World) (hA : (Res.rmod ao l).holds w) (hl : l.length ≤ 3000000000000) (hop : ∀ i ∈ l, 0 ≤ i.op) (hsm : ∀ i ∈ l, (i.args.map argRoom).sum ≤ 900000000) (hla : ∀ i ∈ l, ∀ a ∈ i.args, a.s.length ≤ 100000000000) : Ret Try.prog 32 #[.agg #[.int .u32 gn, .int .u32 bd, .slice ao l.length cp]] w (fun v w' => v = .agg #[.int .i64 (shapeF bd (l.map InstP.L)).1, .int .i64 (shapeF bd (l.map InstP.L)).2] ∧ St w NoM [] [] w') := by
 refine Ret.enter (args := [.agg #[.int .u32 gn, .int .u32 bd, .slice ao l.length cp]]) Try.func32 rfl rfl rfl ?_
 have hst : St w NoM [] [Res.rmod ao l] w := St.init_D hA
 clear hA
 obtain ⟨se, sa, hS⟩ : ∃ se sa, shapeF bd (l.map InstP.L) = (se, sa) := ⟨_, _, rfl⟩
 refine SR <| CN <| Op1.box (v := .agg #[.int .u32 _, .int .u32 _, .slice _ _ _]) hst rfl rfl fun w b1 hst => CN <| Op1.alloc hst ty29 fun w b2 hst => NSR <| CN <| Op1.loadA (vs := [.int .u32 _, .int .u32 _, .slice _ _ _]) ty25 rfl rfl rfl (cells_of_obj (n := 3) (hst.objL (.tail _ (.head _))) _ rfl) <| CN (Op1.call1 (v1 := .agg #[.int .u32 _, .int .u32 _, .slice _ _ _]) ent38 rfl rfl ((R5cd_raws2 _ _ _ _ _ hS _ (hst.hD _ (.head _)) hl hop hsm hla).mono fun v w hp => ?_))
 obtain ⟨aR, cR, done, rfl, hd, hp⟩ := hp
 replace hst : St _ _ (_ :: _) _ _ := hst.call0 hp
 clear hp
 refine CN <| Op1.move (v := .tuple #[.slice _ _ _, .agg #[.int .i64 _, .int .i64 _]]) rfl <| CN <| Op1.extract (v := .slice _ _ _) rfl rfl <| CN <| Op1.extract (v := .agg #[.int .i64 _, .int .i64 _]) rfl rfl <| CN <| Op1.alloc hst ty29 fun w b4 hst => AL rfl <| CN (SO (v := .agg #[.int .i64 _, .int .i64 _]) hst ty29 rfl rfl (.here) fun w hst => ?_)
 refine NSR <| CN <| Op1.loadA (vs := [.int .i64 _, .int .i64 _]) ty29 rfl rfl rfl (cells_of_obj (n := 2) (hst.objL (.head _)) _ rfl) <| CN (SO (v := .agg #[.int .i64 _, .int .i64 _]) hst ty29 rfl rfl (.there (.there (.here))) fun w hst => ?_)
 refine NL <| run_ret1 Try.func32 rfl (RV.cellA (vs := [.int .i64 _, .int .i64 _]) rfl ty29 rfl rfl (cells_of_obj (n := 2) (hst.objL (.tail _ (.tail _ (.head _)))) _ rfl)) ?_
 rw [hS]
 exact ⟨rfl, hst.pure⟩
end Go.SK
namespace Go.SK
open Go Go.Proofs
theorem ent34 : Enters Try.prog 34 := ⟨Try.f34, _, Try.func34, by kernel_rfl, rfl⟩
end Go.SK
namespace Go.SK
open Go Go.Proofs
open Go.RowKit
theorem R5ref4_Shape (gn bd : Int) (l : List InstP) (ao : Option Addr) (cp : Nat) (w : World) (hA : (Res.rmod ao l).holds w) (hl : l.length ≤ 3000000000000) (hop : ∀ i ∈ l, 0 ≤ i.op) (hsm : ∀ i ∈ l, (i.args.map argRoom).sum ≤ 900000000) (hla : ∀ i ∈ l, ∀ a ∈ i.args, a.s.length ≤ 100000000000) : Ret Try.prog 26 #[.agg #[.int .u32 gn, .int .u32 bd, .slice ao l.length cp]] w (fun v w' => v = .agg #[.int .i64 (shapeF bd (l.map InstP.L)).1, .int .i64 (shapeF bd (l.map InstP.L)).2] ∧ St w NoM [] [] w') := by
 refine Ret.enter (args := [.agg #[.int .u32 gn, .int .u32 bd, .slice ao l.length cp]]) Try.func26 rfl rfl rfl ?_
 have hst : St w NoM [] [Res.rmod ao l] w := St.init_D hA
 clear hA
 refine SR <| CN <| Op1.box (v := .agg #[.int .u32 _, .int .u32 _, .slice _ _ _]) hst rfl rfl fun w b1 hst => CN <| Op1.alloc hst ty29 fun w b2 hst => NL <| SQ <| SR <| CN <| Op1.fieldAddr fld25_1 rfl <| CN <| Op1.load1 (v := .int .u32 _) ty22 rfl rfl (hst.cellL (.tail _ (.head _)) rfl) <| CN <| Op1.eql rfl rfl <| MB rfl <| RunL.splitD (d := 11) rfl (fun g1 => ?_) (fun g1 => ?_)
 · skip
   refine OM (t := 11) rfl (congrArg Value.bool (decide_eq_true g1)) rfl <| OM (t := 11) rfl (congrArg Value.bool (decide_eq_true g1)) rfl <| OM (t := 11) rfl (congrArg Value.bool (decide_eq_true g1)) rfl <| CN <| Op1.pickT (u := .bool _) (congrArg Value.bool (decide_eq_true g1)) rfl <| NL <| run_cond_true (congrArg Value.bool (rfl : true = _)) <| SR <| CN (Op1.buildStruct ty29 stf29 (.c (v := .int .i64 _) rfl (h := .nil)) ?_)
   refine CN (SO (v := .agg #[.int .i64 _, .int .i64 _]) hst ty29 rfl rfl (.here) fun w hst => ?_)
   refine NL <| run_ret1 Try.func26 rfl (RV.cellA (vs := [.int .i64 _, .int .i64 _]) rfl ty29 rfl rfl (cells_of_obj (n := 2) (hst.objL (.head _)) _ rfl)) ?_
   have hS := shapeF_bound (bound := bd) (l := (l.map InstP.L)) (by omega)
   rw [hS]
   exact ⟨rfl, hst.pure⟩
 refine TK (t := 11) rfl (congrArg Value.bool (decide_eq_false g1)) <| Op1.fieldAddr fld25_1 rfl <| TK (t := 11) rfl (congrArg Value.bool (decide_eq_false g1)) <| Op1.load1 (v := .int .u32 _) ty22 rfl rfl (hst.cellL (.tail _ (.head _)) rfl) <| TK (t := 11) rfl (congrArg Value.bool (decide_eq_false g1)) <| Op1.gtr rfl rfl <| CN <| Op1.pickF (u := .bool _) (congrArg Value.bool (decide_eq_false g1)) rfl <| NL <| run_cond_dec rfl (fun g2 => ?_) (fun g2 => ?_)
 · skip
   refine SR <| CN (Op1.buildStruct ty29 stf29 (.c (v := .int .i64 _) rfl (h := .nil)) ?_)
   refine CN (SO (v := .agg #[.int .i64 _, .int .i64 _]) hst ty29 rfl rfl (.here) fun w hst => ?_)
   refine NL <| run_ret1 Try.func26 rfl (RV.cellA (vs := [.int .i64 _, .int .i64 _]) rfl ty29 rfl rfl (cells_of_obj (n := 2) (hst.objL (.head _)) _ rfl)) ?_
   have hS := shapeF_bound (bound := bd) (l := (l.map InstP.L)) (by omega)
   rw [hS]
   exact ⟨rfl, hst.pure⟩
 refine run_skip <| SR <| AI rfl <| NL <| SQ <| SR <| AI rfl <| NL <| run_block <| run_loop <| Run.indW [(1, .pointer (some ⟨_, _, none⟩)), (2, .pointer (some ⟨_, _, none⟩))] ⟨rfl, rfl, trivial⟩ (fun (q : Nat × Nat) => [(3, .int .i64 (q.2 : Int)), (4, .int .i64 (q.1 : Int))]) (fun (q : Nat × Nat) => []) (fun (q : Nat × Nat) => q.1 ≤ l.length ∧ shapeG bd 5 0 (l.map InstP.L) = shapeG bd q.2 q.1 ((l.map InstP.L).drop q.1) ∧ q.2 ≤ 1048576) (fun (q : Nat × Nat) => l.length - q.1) ((0, 5)) hst ⟨Nat.zero_le _, rfl, by decide⟩ ⟨rfl, rfl, trivial⟩ ?_
 intro ⟨i, n⟩ f w hst hJ ih3
 replace hst : St _ _ ([] ++ [_, _]) _ _ := hst
 replace hJ : i ≤ l.length ∧ shapeG bd 5 0 (l.map InstP.L) = shapeG bd n i ((l.map InstP.L).drop i) ∧ n ≤ 1048576 := hJ
 refine Run.slots (sl := [(3, .int .i64 (n : Int)), (4, .int .i64 (i : Int))]) ⟨rfl, rfl, trivial⟩ <| SQ <| SR <| MI rfl <| CN <| Op1.fieldAddr fld25_2 rfl <| CN <| Op1.load1 (v := .slice _ _ _) ty23 rfl rfl (hst.cellL (.tail _ (.head _)) rfl) <| CN <| Op1.lenSl (rest := []) ty23 rfl <| CN <| Op1.lss rfl rfl <| NL <| run_cond_dec rfl (fun g4 => ?_) (fun g4 => ?_)
 · skip
   have hmem : (l.getD i zeroI) ∈ l := getD_memD (by omega)
   have hidx : l.getD ((i : Int)).toNat zeroI = (l.getD i zeroI) := rfl
   obtain ⟨fe, hfe⟩ : ∃ fe, faultF bd (l.getD i zeroI).L = fe := ⟨_, rfl⟩
   obtain ⟨fm, hfm⟩ : ∃ fm, refD (l.getD i zeroI).op = fm := ⟨_, rfl⟩
   obtain ⟨ob, hob⟩ : ∃ ob, (refS (l.getD i zeroI).op).isSome = ob := ⟨_, rfl⟩
   have hsh := shapeG_step (bound := bd) (n := n) (k := i) (l := (l.map InstP.L)) (j := i) (by rw [List.length_map]; omega)
   rw [mapL_getD (by omega), hfe] at hsh
   dsimp only at hsh
   rw [hfm] at hsh
   refine run_skip <| SQ <| run_block <| SQ <| RunD.start [] hst (bs := [0, 1, 0, 7, 15, 0, 32, 127, 255]) (ds := [some 24, some 25, some 26, some 27, some 28, some 29, some 30, some 31, some 5]) ⟨by kernel_rfl, by kernel_rfl, by kernel_rfl⟩ (fun tab5 => ?_)
   refine RunD.op (det _) tab5 1 (fun f' L' w' hc => Op1.fieldAddr fld25_2 (hc.old (v := .pointer (some ⟨_, _, none⟩)) rfl rfl rfl) ⟨[], ⟨rfl, rfl⟩, hc.st⟩) <| RunD.op (det _) tab5 2 (fun f' L' w' hc => Op1.load1 (v := .slice _ _ _) ty23 rfl (hc.det (j := 0) rfl rfl rfl rfl) (hc.st.cellL (List.mem_append_right _ (.tail _ (.head _))) rfl) ⟨[], ⟨rfl, rfl⟩, hc.st⟩) <| RunD.op (det _) tab5 3 (fun f' L' w' hc => Op1.move (v := .int .i64 _) (hc.old (v := .int .i64 _) rfl rfl rfl) ⟨[], ⟨rfl, rfl⟩, hc.st⟩) <| RunD.op (det _) tab5 4 (fun f' L' w' hc => Op1.indexRs ty23 ty39 (Res.rmod_insts (hc.st.hD _ (.head _))) (hc.det (j := 1) rfl rfl rfl rfl) (hc.det (j := 2) rfl rfl rfl rfl) (by omega) (by omega) ⟨[], ⟨rfl, rfl⟩, hc.st⟩) <| RunD.op (det _) tab5 5 (fun f' L' w' hc => Op1.loadA (vs := [.int .u16 _, .int .u32 _, .int .u32 _, .slice _ _ _]) ty39 rfl (hc.det (j := 3) rfl rfl rfl rfl) rfl (Res.rs2_cells (m := 4) (Res.rmod_insts (hc.st.hD _ (.head _))) _ (flat_seg (g := instC) (d := zeroI) instC_len _ _ (by omega))) ⟨[], ⟨rfl, rfl⟩, hc.st⟩) <| RunD.op (det _) tab5 6 (fun f' L' w' hc => Op1.fieldAddr fld25_1 (hc.old (v := .pointer (some ⟨_, _, none⟩)) rfl rfl rfl) ⟨[], ⟨rfl, rfl⟩, hc.st⟩) <| RunD.op (det _) tab5 7 (fun f' L' w' hc => Op1.load1 (v := .int .u32 _) ty22 rfl (hc.det (j := 5) rfl rfl rfl rfl) (hc.st.cellL (List.mem_append_right _ (.tail _ (.head _))) rfl) ⟨[], ⟨rfl, rfl⟩, hc.st⟩) <| RunD.fin followsMixed tab5 hst rfl (fun f6 w R9 hs7 hd8 hr10 hst => ?_)
   obtain ⟨h24_, r0⟩ := hd8 0 24 rfl rfl
   obtain ⟨h25_, r1⟩ := hd8 1 25 rfl rfl
   obtain ⟨h26_, r2⟩ := hd8 2 26 rfl rfl
   obtain ⟨h27_, r3⟩ := hd8 3 27 rfl rfl
   obtain ⟨h28_, r4⟩ := hd8 4 28 rfl rfl
   obtain ⟨h29_, r5⟩ := hd8 5 29 rfl rfl
   obtain ⟨h30_, r6⟩ := hd8 6 30 rfl rfl
   simp only [show List.range 7 = [0, 1, 2, 3, 4, 5, 6] from rfl, List.flatMap_cons, List.flatMap_nil, List.map_cons, List.map_nil, r0, r1, r2, r3, r4, r5, r6, List.nil_append, List.append_nil, List.cons_append] at hst
   refine RunL.slots (sl := [(1, .pointer (some ⟨_, _, none⟩)), (2, .pointer (some ⟨_, _, none⟩)), (3, .int .i64 _), (4, .int .i64 _), (28, .agg #[.int .u16 _, .int .u32 _, .int .u32 _, .slice _ _ _]), (30, .int .u32 _)]) ⟨(hs7 1 rfl).trans rfl, (hs7 2 rfl).trans rfl, (hs7 3 rfl).trans rfl, (hs7 4 rfl).trans rfl, h28_, h30_, trivial⟩ ?_
   clear hs7 hd8 hr10 tab5
   refine CN <| Op1.call2 (v1 := .agg #[.int .u16 _, .int .u32 _, .int .u32 _, .slice _ _ _]) (v2 := .int .u32 _) ent34 rfl rfl rfl <| Ret.detE (R5ref4_Fault (l.getD i zeroI) bd (hop _ hmem) _ (Res.rmod_argsI (hst.hD _ (.head _)) (i := i) (by omega)) (hsm _ hmem) (hla _ hmem)) (congrArg (Value.int .i64) hfe) hst fun w hst => AI rfl <| NL <| SQ <| SR <| MI rfl <| CN <| Op1.neq rfl rfl <| NL <| run_cond_dec rfl (fun g11 => ?_) (fun g11 => ?_)
   · skip
     refine SR <| MI rfl <| MI rfl <| CN (Op1.buildStruct ty29 stf29 (.c (v := .int .i64 _) rfl (h := (.c (v := .int .i64 _) rfl (h := .nil)))) ?_)
     refine CN (SO (v := .agg #[.int .i64 _, .int .i64 _]) hst ty29 rfl rfl (.here) fun w hst => ?_)
     refine NL <| run_ret1 Try.func26 rfl (RV.cellA (vs := [.int .i64 _, .int .i64 _]) rfl ty29 rfl rfl (cells_of_obj (n := 2) (hst.objL (.head _)) _ rfl)) ?_
     rw [if_pos g11] at hsh
     have hS := shapeF_in (bound := bd) (l := (l.map InstP.L)) (by omega) (by omega)
     rw [hJ.2.1, hsh] at hS
     rw [hS]
     exact ⟨rfl, hst.pure⟩
   refine run_skip <| SR <| CN <| Op1.fieldAddr fld25_2 rfl <| CN <| Op1.load1 (v := .slice _ _ _) ty23 rfl rfl (hst.cellL (.tail _ (.head _)) rfl) <| MI rfl <| CN <| Op1.indexRs ty23 ty39 (Res.rmod_insts (hst.hD _ (.head _))) rfl rfl (by omega) (by omega) <| CN <| Op1.fieldAddr fld39_0 rfl <| CN <| Op1.load1 (v := .int .u16 _) ty33 rfl rfl (Res.rs2_cellF (Res.rmod_insts (hst.hD _ (.head _))) (flat_cell (g := instC) (d := zeroI) instC_len rfl (by omega))) <| CN <| Op1.call1 (v1 := .int .u16 _) ent35 rfl rfl <| Ret.det (R5ref_Of2 hfm hob _) hst fun w hst => CN <| Op1.move (v := .tuple #[.agg #[.int .u16 _, str _, .bool _, .bool _, str _, str _, .int .i64 _, .int .u8 _], .bool _]) rfl <| CN <| Op1.extract (v := .agg #[.int .u16 _, str _, .bool _, .bool _, str _, str _, .int .i64 _, .int .u8 _]) rfl rfl <| CN <| Op1.extract (v := .bool _) rfl rfl <| CN <| Op1.alloc hst ty74 fun w b6 hst => CN (SO (v := .agg #[.int .u16 _, str _, .bool _, .bool _, str _, str _, .int .i64 _, .int .u8 _]) hst ty74 rfl rfl (.here) fun w hst => ?_)
   refine AB rfl <| NL <| Run.forget [(1, .pointer (some ⟨_, _, none⟩)), (2, .pointer (some ⟨_, _, none⟩)), (3, .int .i64 _), (4, .int .i64 _), (6, .pointer (some ⟨_, _, none⟩))] ⟨rfl, rfl, rfl, rfl, rfl, trivial⟩ fun f => SQ ?_
   have hrb : (roomI fm (l.getD i zeroI).args : Int) ≤ 900000003 := by have := hsm _ hmem; unfold roomI b2n; split <;> split <;> omega
   refine RunD.start [] hst (bs := [0, 0, 2, 0, 14, 30, 0, 126, 255, 511]) (ds := [some 47, some 48, some 49, some 50, some 51, some 52, some 53, some 54, some 55, some 3]) ⟨by kernel_rfl, by kernel_rfl, by kernel_rfl⟩ (fun tab12 => ?_)
   refine RunD.op (det _) tab12 1 (fun f' L' w' hc => Op1.move (v := .int .i64 _) (hc.old (v := .int .i64 _) rfl rfl rfl) ⟨[], ⟨rfl, rfl⟩, hc.st⟩) <| RunD.op (det _) tab12 2 (fun f' L' w' hc => Op1.fieldAddr fld25_2 (hc.old (v := .pointer (some ⟨_, _, none⟩)) rfl rfl rfl) ⟨[], ⟨rfl, rfl⟩, hc.st⟩) <| RunD.op (det _) tab12 3 (fun f' L' w' hc => Op1.load1 (v := .slice _ _ _) ty23 rfl (hc.det (j := 1) rfl rfl rfl rfl) (hc.st.cellL (List.mem_append_right _ (.tail _ (.tail _ (.head _)))) rfl) ⟨[], ⟨rfl, rfl⟩, hc.st⟩) <| RunD.op (det _) tab12 4 (fun f' L' w' hc => Op1.move (v := .int .i64 _) (hc.old (v := .int .i64 _) rfl rfl rfl) ⟨[], ⟨rfl, rfl⟩, hc.st⟩) <| RunD.op (det _) tab12 5 (fun f' L' w' hc => Op1.indexRs ty23 ty39 (Res.rmod_insts (hc.st.hD _ (.head _))) (hc.det (j := 2) rfl rfl rfl rfl) (hc.det (j := 3) rfl rfl rfl rfl) (by omega) (by omega) ⟨[], ⟨rfl, rfl⟩, hc.st⟩) <| RunD.op (det _) tab12 6 (fun f' L' w' hc => Op1.loadA (vs := [.int .u16 _, .int .u32 _, .int .u32 _, .slice _ _ _]) ty39 rfl (hc.det (j := 4) rfl rfl rfl rfl) rfl (Res.rs2_cells (m := 4) (Res.rmod_insts (hc.st.hD _ (.head _))) _ (flat_seg (g := instC) (d := zeroI) instC_len _ _ (by omega))) ⟨[], ⟨rfl, rfl⟩, hc.st⟩) <| RunD.op (det _) tab12 7 (fun f' L' w' hc => Op1.loadA (vs := [.int .u16 _, str _, .bool _, .bool _, str _, str _, .int .i64 _, .int .u8 _]) ty74 rfl (hc.old (v := .pointer (some ⟨_, _, none⟩)) rfl rfl rfl) rfl (cells_of_obj (n := 8) (hc.st.objL (List.mem_append_right _ (.head _))) _ rfl) ⟨[], ⟨rfl, rfl⟩, hc.st⟩) <| RunD.op (det _) tab12 8 (fun f' L' w' hc => Op1.call2 (v1 := .agg #[.int .u16 _, .int .u32 _, .int .u32 _, .slice _ _ _]) (v2 := .agg #[.int .u16 _, str _, .bool _, .bool _, str _, str _, .int .i64 _, .int .u8 _]) ent36 rfl (hc.det (j := 5) rfl rfl rfl rfl) (hc.det (j := 6) rfl rfl rfl rfl) ((R5ref4_Room (l.getD i zeroI) fm _ (Res.rmod_argsI (hc.st.hD _ (.head _)) (i := i) (by omega)) (hsm _ hmem) (hla _ hmem)).mono fun v w hp => ⟨[], ⟨hp.1, rfl⟩, hc.st.keepc hp.2⟩)) <| RunD.fin followsMixed tab12 hst rfl (fun f13 w R16 hs14 hd15 hr17 hst => ?_)
   obtain ⟨h47_, r0⟩ := hd15 0 47 rfl rfl
   obtain ⟨h48_, r1⟩ := hd15 1 48 rfl rfl
   obtain ⟨h49_, r2⟩ := hd15 2 49 rfl rfl
   obtain ⟨h50_, r3⟩ := hd15 3 50 rfl rfl
   obtain ⟨h51_, r4⟩ := hd15 4 51 rfl rfl
   obtain ⟨h52_, r5⟩ := hd15 5 52 rfl rfl
   obtain ⟨h53_, r6⟩ := hd15 6 53 rfl rfl
   obtain ⟨h54_, r7⟩ := hd15 7 54 rfl rfl
   simp only [show List.range 8 = [0, 1, 2, 3, 4, 5, 6, 7] from rfl, List.flatMap_cons, List.flatMap_nil, List.map_cons, List.map_nil, r0, r1, r2, r3, r4, r5, r6, r7, List.nil_append, List.append_nil, List.cons_append] at hst
   refine RunL.slots (sl := [(1, .pointer (some ⟨_, _, none⟩)), (2, .pointer (some ⟨_, _, none⟩)), (4, .int .i64 _), (47, .int .i64 _), (54, .int .i64 _)]) ⟨(hs14 1 rfl).trans rfl, (hs14 2 rfl).trans rfl, (hs14 4 rfl).trans rfl, h47_, h54_, trivial⟩ ?_
   clear hs14 hd15 hr17 tab12
   refine CN <| Op1.addN rfl rfl rfl (wrap_i64 (by omega) (by omega)) <| AI rfl <| NSR <| MI rfl <| CN <| Op1.gtr rfl rfl <| NL <| run_cond_dec rfl (fun g18 => ?_) (fun g18 => ?_)
   · skip
     refine SR <| MI rfl <| CN (Op1.buildStruct ty29 stf29 (.c (v := .int .i64 _) rfl (h := (.c (v := .int .i64 _) rfl (h := .nil)))) ?_)
     refine CN (SO (v := .agg #[.int .i64 _, .int .i64 _]) hst ty29 rfl rfl (.there (.here)) fun w hst => ?_)
     refine NL <| run_ret1 Try.func26 rfl (RV.cellA (vs := [.int .i64 _, .int .i64 _]) rfl ty29 rfl rfl (cells_of_obj (n := 2) (hst.objL (.tail _ (.head _))) _ rfl)) ?_
     rw [if_neg g11, if_pos (by omega)] at hsh
     have hS := shapeF_in (bound := bd) (l := (l.map InstP.L)) (by omega) (by omega)
     rw [hJ.2.1, hsh] at hS
     rw [hS]
     exact ⟨rfl, hst.pure⟩
   refine run_skip <| run_inBlock <| RG <| MI rfl <| CN <| Op1.addN rfl rfl rfl (wrap_i64 (by omega) (by omega)) <| AI rfl <| NL <| run_inLoop ?_
   rw [if_neg g11, if_neg (by omega)] at hsh
   replace hst := hst.pick (.cons (.there (.here)) (.cons (.there (.here)) .nil))
   exact ih3 ((i + 1, n + roomI fm (l.getD i zeroI).args)) _ w (by (try dsimp only); omega) hst (⟨by (try dsimp only); omega, hJ.2.1.trans hsh, by (try dsimp only); omega⟩) ⟨rfl, rfl, trivial⟩ ⟨(congrArg (Value.int .i64) (by (try dsimp only); omega)), (congrArg (Value.int .i64) (by (try dsimp only); omega)), trivial⟩
 obtain rfl : i = l.length := by omega
 refine run_exit (id := 0) rfl <| SR <| CN (Op1.buildStruct ty29 stf29 .nil ?_)
 refine CN (SO (v := .agg #[.int .i64 _, .int .i64 _]) hst ty29 rfl rfl (.here) fun w hst => ?_)
 refine NL <| run_ret1 Try.func26 rfl (RV.cellA (vs := [.int .i64 _, .int .i64 _]) rfl ty29 rfl rfl (cells_of_obj (n := 2) (hst.objL (.head _)) _ rfl)) ?_
 have hll : l.length = (l.map InstP.L).length := by rw [List.length_map]
 have hS := shapeF_in (bound := bd) (l := (l.map InstP.L)) (by omega) (by omega)
 rw [hJ.2.1, hll, shapeG_end] at hS
 rw [hS]
 exact ⟨rfl, hst.pure⟩
theorem R5ref4_Shape2 (gn bd : Int) (l : List InstP) (ao : Option Addr) (cp : Nat) {se sa : Int} (hS : shapeF bd (l.map InstP.L) = (se, sa)) (w : World) (hA : (Res.rmod ao l).holds w) (hl : l.length ≤ 3000000000000) (hop : ∀ i ∈ l, 0 ≤ i.op) (hsm : ∀ i ∈ l, (i.args.map argRoom).sum ≤ 900000000) (hla : ∀ i ∈ l, ∀ a ∈ i.args, a.s.length ≤ 100000000000) : Ret Try.prog 26 #[.agg #[.int .u32 gn, .int .u32 bd, .slice ao l.length cp]] w (fun v w' => v = .agg #[.int .i64 se, .int .i64 sa] ∧ St w NoM [] [] w') := by
 have h := R5ref4_Shape gn bd l ao cp w hA hl hop hsm hla
 rw [hS] at h; exact h
theorem R5cd_Shape2 (gn bd : Int) (l : List InstP) (ao : Option Addr) (cp : Nat) {se sa : Int} (hS : shapeF bd (l.map InstP.L) = (se, sa)) (w : World) (hA : (Res.rmod ao l).holds w) (hl : l.length ≤ 3000000000000) (hop : ∀ i ∈ l, 0 ≤ i.op) (hsm : ∀ i ∈ l, (i.args.map argRoom).sum ≤ 900000000) (hla : ∀ i ∈ l, ∀ a ∈ i.args, a.s.length ≤ 100000000000) : Ret Try.prog 32 #[.agg #[.int .u32 gn, .int .u32 bd, .slice ao l.length cp]] w (fun v w' => v = .agg #[.int .i64 se, .int .i64 sa] ∧ St w NoM [] [] w') := by
 have h := R5cd_Shape gn bd l ao cp w hA hl hop hsm hla
 rw [hS] at h; exact h
end Go.SK
namespace Go.SK
open Go Go.Proofs
theorem ent24 : Enters Try.prog 24 := ⟨Try.f24, _, Try.func24, by kernel_rfl, rfl⟩
end Go.SK
namespace Go.SK
open Go Go.Proofs
open Go.RowKit
theorem R5md_CopyInst (p : InstP) (w : World) (hA : (Res.rargs p).holds w) (hl : p.args.length ≤ 5864062014806) : Ret Try.prog 24 #[.agg #[.int .u16 p.op, .int .u32 p.ty, .int .u32 p.res, .slice p.ao p.args.length p.cap]] w (fun v w' => ∃ bC, v = .agg #[.int .u16 p.op, .int .u32 p.ty, .int .u32 p.res, .slice (some ⟨bC, 0, none⟩) p.args.length p.args.length] ∧ St w NoM [Res.sl (some ⟨bC, 0, none⟩) p.args.length p.args.length 35 3 (p.args.flatMap argC)] [] w') := by
 refine Ret.enter (args := [.agg #[.int .u16 p.op, .int .u32 p.ty, .int .u32 p.res, .slice p.ao p.args.length p.cap]]) Try.func24 rfl rfl rfl ?_
 have hst : St w NoM [] [Res.rargs p] w := St.init_D hA
 clear hA
 refine SR <| CN <| Op1.box (v := .agg #[.int .u16 _, .int .u32 _, .int .u32 _, .slice _ _ _]) hst rfl rfl fun w b1 hst => CN <| Op1.alloc hst ty39 fun w b2 hst => NSR <| CN <| Op1.fieldAddr fld39_3 rfl <| CN <| Op1.load1 (v := .slice _ _ _) ty37 rfl rfl (hst.cellL (.tail _ (.head _)) rfl) <| CN <| Op1.lenSl (rest := []) ty37 rfl <| CN (Op1.makeSlV hst ty37 ty35 rfl rfl rfl (by decide) (by omega) (by omega) fun w bC hst => ?_)
 rw [cpG_zero (g := argC) (d := zeroA) (ez := [.int .u8 0, .int .u32 0, str []]) rfl p.args] at hst
 refine AL rfl <| NL <| SQ <| SR <| AI rfl <| NL <| run_block <| run_loop <| Run.indW [(1, .pointer (some ⟨_, _, none⟩)), (2, .pointer (some ⟨_, _, none⟩)), (3, .slice _ _ _)] ⟨rfl, rfl, rfl, trivial⟩ (fun (i : Nat) => [(4, .int .i64 (i : Int))]) (fun (i : Nat) => [Res.sl (some ⟨bC, 0, none⟩) p.args.length p.args.length 35 3 ((cpG zeroA p.args p.args.length i).flatMap argC)]) (fun (i : Nat) => i ≤ p.args.length) (fun (i : Nat) => p.args.length - i) (0) hst (Nat.zero_le _) ⟨rfl, trivial⟩ ?_
 intro i f w hst hJ ih1
 refine SQ <| SR <| MI rfl <| CN <| Op1.fieldAddr fld39_3 rfl <| CN <| Op1.load1 (v := .slice _ _ _) ty37 rfl rfl (hst.cellL (.tail _ (.tail _ (.head _))) rfl) <| CN <| Op1.lenSl (rest := []) ty37 rfl <| CN <| Op1.lss rfl rfl <| NL <| run_cond_dec rfl (fun g2 => ?_) (fun g2 => ?_)
 · skip
   refine run_skip <| SQ <| run_block <| RG <| ML rfl <| MI rfl <| CN <| Op1.fieldAddr fld39_3 rfl <| CN <| Op1.load1 (v := .slice _ _ _) ty37 rfl rfl (hst.cellL (.tail _ (.tail _ (.head _))) rfl) <| MI rfl <| CN <| Op1.indexRs ty37 ty35 (hst.hD _ (.head _)) rfl rfl (by omega) (by omega) <| CN <| Op1.loadA (vs := [.int .u8 _, .int .u32 _, str _]) ty35 rfl rfl rfl (Res.rs2_cells (m := 3) (hst.hD _ (.head _)) _ (flat_seg (g := argC) (d := zeroA) argC_len _ _ (by omega))) <| CN <| Op1.indexSl ty37 ty35 rfl rfl (by omega) (by omega) <| CN <| Op1.storeSl (v := .agg #[.int .u8 _, .int .u32 _, str _]) hst ty35 rfl rfl rfl rfl rfl (.here) (by simp only [List.length_cons, List.length_nil]; omega) fun w hst => NL <| run_inBlock ?_
   refine RG <| MI rfl <| CN <| Op1.addN rfl rfl rfl (wrap_i64 (by omega) (by omega)) <| AI rfl <| NL <| run_inLoop ?_
   exact ih1 (i + 1) _ w (by omega) (by (try dsimp only); rw [← cpG_step (g := argC) (es := 3) argC_len (i := i) (x := argC (p.args.getD i zeroA)) (by omega) rfl]; exact hst) (by omega) ⟨rfl, rfl, rfl, trivial⟩ ⟨(congrArg (Value.int .i64) (by omega)), trivial⟩
 obtain rfl : i = p.args.length := by omega
 rw [cpG_all] at hst
 refine run_exit (id := 0) rfl <| SR <| ML rfl <| CN <| Op1.fieldAddr fld39_3 rfl <| CN (SO (v := .slice _ _ _) hst ty37 rfl rfl (.there (.there (.here))) fun w hst => ?_)
 refine NSR <| CN <| Op1.loadA (vs := [.int .u16 _, .int .u32 _, .int .u32 _, .slice _ _ _]) ty39 rfl rfl rfl (cells_of_obj (n := 4) (hst.objL (.tail _ (.tail _ (.head _)))) _ rfl) <| CN (SO (v := .agg #[.int .u16 _, .int .u32 _, .int .u32 _, .slice _ _ _]) hst ty39 rfl rfl (.there (.here)) fun w hst => ?_)
 refine NL <| run_ret1 Try.func24 rfl (RV.cellA (vs := [.int .u16 _, .int .u32 _, .int .u32 _, .slice _ _ _]) rfl ty39 rfl rfl (cells_of_obj (n := 4) (hst.objL (.tail _ (.head _))) _ rfl)) ?_
 replace hst := hst.pick (.cons (.here) .nil)
 exact ⟨bC, rfl, hst.noD⟩
theorem R5md_CopyModule (ga ba : Int) (l : List InstP) (ao : Option Addr) (cp : Nat) (w : World) (hA : (Res.rmod ao l).holds w) (hl : l.length ≤ 3518437208884) (hla : ∀ i ∈ l, i.args.length ≤ 5864062014806) : Ret Try.prog 9 #[.agg #[.int .u32 ga, .int .u32 ba, .slice ao l.length cp]] w (fun v w' => ∃ bC done, v = .agg #[.int .u32 ga, .int .u32 ba, .slice (some ⟨bC, 0, none⟩) done.length done.length] ∧ done.map InstP.L = l.map InstP.L ∧ St w NoM [Res.omod 39 35 (some ⟨bC, 0, none⟩) done.length done] [] w') := by
 refine Ret.enter (args := [.agg #[.int .u32 ga, .int .u32 ba, .slice ao l.length cp]]) Try.func9 rfl rfl rfl ?_
 have hst : St w NoM [] [Res.rmod ao l] w := St.init_D hA
 clear hA
 refine SR <| CN <| Op1.box (v := .agg #[.int .u32 _, .int .u32 _, .slice _ _ _]) hst rfl rfl fun w b1 hst => CN <| Op1.alloc hst ty25 fun w b2 hst => NSR <| CN <| Op1.fieldAddr fld25_2 rfl <| CN <| Op1.load1 (v := .slice _ _ _) ty23 rfl rfl (hst.cellL (.tail _ (.head _)) rfl) <| CN <| Op1.lenSl (rest := []) ty23 rfl <| CN (Op1.makeSlV hst ty23 ty39 rfl rfl rfl (by decide) (by omega) (by omega) fun w bC hst => ?_)
 rw [zeros_rep (g := instC) (d := zeroI) (ez := [.int .u16 0, .int .u32 0, .int .u32 0, .slice none 0 0]) rfl] at hst
 refine AL rfl <| NL <| SQ <| SQ ?_
 replace hst := hst.starNil
 refine RG <| AI rfl <| NL <| run_block <| run_loop <| Run.indW [(1, .pointer (some ⟨_, _, none⟩)), (2, .pointer (some ⟨_, _, none⟩)), (3, .slice _ _ _)] ⟨rfl, rfl, rfl, trivial⟩ (fun (q : Nat × List InstP) => [(4, .int .i64 (q.1 : Int))]) (fun (q : Nat × List InstP) => [Res.star (q.2.map (Res.oargs 35)), Res.sl (some ⟨bC, 0, none⟩) l.length l.length 39 4 ((q.2 ++ List.replicate (l.length - q.1) zeroI).flatMap instC)]) (fun (q : Nat × List InstP) => q.1 ≤ l.length ∧ q.2.length = q.1 ∧ q.2.map InstP.L = (l.take q.1).map InstP.L) (fun (q : Nat × List InstP) => l.length - q.1) ((0, [])) hst ⟨Nat.zero_le _, rfl, rfl⟩ ⟨rfl, trivial⟩ ?_
 intro ⟨i, done⟩ f w hst hJ ih1
 replace hst : St _ _ ([Res.star (done.map (Res.oargs 35)), Res.sl (some ⟨bC, 0, none⟩) l.length l.length 39 4 ((done ++ List.replicate (l.length - i) zeroI).flatMap instC)] ++ [_, _]) _ _ := hst
 replace hJ : i ≤ l.length ∧ done.length = i ∧ done.map InstP.L = (l.take i).map InstP.L := hJ
 refine Run.slots (sl := [(4, .int .i64 (i : Int))]) ⟨rfl, trivial⟩ <| SQ <| SR <| MI rfl <| CN <| Op1.fieldAddr fld25_2 rfl <| CN <| Op1.load1 (v := .slice _ _ _) ty23 rfl rfl (hst.cellL (.tail _ (.tail _ (.tail _ (.head _)))) rfl) <| CN <| Op1.lenSl (rest := []) ty23 rfl <| CN <| Op1.lss rfl rfl <| NL <| run_cond_dec rfl (fun g2 => ?_) (fun g2 => ?_)
 · skip
   refine run_skip <| SQ <| run_block <| RG <| ML rfl <| MI rfl <| CN <| Op1.fieldAddr fld25_2 rfl <| CN <| Op1.load1 (v := .slice _ _ _) ty23 rfl rfl (hst.cellL (.tail _ (.tail _ (.tail _ (.head _)))) rfl) <| MI rfl <| CN <| Op1.indexRs ty23 ty39 (Res.rmod_insts (hst.hD _ (.head _))) rfl rfl (by omega) (by omega) <| CN <| Op1.loadA (vs := [.int .u16 _, .int .u32 _, .int .u32 _, .slice _ _ _]) ty39 rfl rfl rfl (Res.rs2_cells (m := 4) (Res.rmod_insts (hst.hD _ (.head _))) _ (flat_seg (g := instC) (d := zeroI) instC_len _ _ (by omega))) <| CN (Op1.call1 (v1 := .agg #[.int .u16 _, .int .u32 _, .int .u32 _, .slice _ _ _]) ent24 rfl rfl ((R5md_CopyInst _ _ (Res.rmod_argsI (hst.hD _ (.head _)) (by omega)) (hla _ (getD_memD (by omega)))).mono fun v w hp => ?_))
   obtain ⟨bN, rfl, hp⟩ := hp
   replace hst := hst.call0 hp
   clear hp
   refine CN <| Op1.indexSl ty23 ty39 rfl rfl (by omega) (by omega) <| CN <| Op1.storeSl (v := .agg #[.int .u16 _, .int .u32 _, .int .u32 _, .slice _ _ _]) hst ty39 rfl rfl rfl rfl rfl (.there (.there (.here))) (by simp only [List.length_cons, List.length_nil]; omega) fun w hst => NL <| run_inBlock <| RG <| MI rfl <| CN <| Op1.addN rfl rfl rfl (wrap_i64 (by omega) (by omega)) <| AI rfl <| NL <| run_inLoop ?_
   replace hst := hst.pick (.cons (.here) (.cons (.here) (.cons (.here) (.cons (.here) (.cons (.here) .nil)))))
   replace hst := hst.starSnoc
   exact ih1 ((i + 1, done ++ [⟨(l.getD i zeroI).op, (l.getD i zeroI).ty, (l.getD i zeroI).res, some ⟨bN, 0, none⟩, (l.getD i zeroI).args.length, (l.getD i zeroI).args⟩])) _ w (by (try dsimp only); omega) (by (try dsimp only); rw [List.map_append, ← cpS_step (g := instC) (es := 4) instC_len (y := ⟨(l.getD i zeroI).op, (l.getD i zeroI).ty, (l.getD i zeroI).res, some ⟨bN, 0, none⟩, (l.getD i zeroI).args.length, (l.getD i zeroI).args⟩) (x := instC ⟨(l.getD i zeroI).op, (l.getD i zeroI).ty, (l.getD i zeroI).res, some ⟨bN, 0, none⟩, (l.getD i zeroI).args.length, (l.getD i zeroI).args⟩) hJ.2.1 (by omega) rfl]; exact hst) (⟨by (try dsimp only); omega, by simp [hJ.2.1], by rw [List.map_append, hJ.2.2, take_getD2 (d := zeroI) (by omega), List.map_append]; rfl⟩) ⟨rfl, rfl, rfl, trivial⟩ ⟨(congrArg (Value.int .i64) (by (try dsimp only); omega)), trivial⟩
 obtain rfl : i = l.length := by omega
 rw [Nat.sub_self, List.replicate_zero, List.append_nil done] at hst
 have hdl := hJ.2.1
 have hdn := hJ.2.2
 rw [List.take_length] at hdn
 refine run_exit (id := 0) rfl <| SR <| ML rfl <| CN <| Op1.fieldAddr fld25_2 rfl <| CN (SO (v := .slice _ _ _) hst ty23 rfl rfl (.there (.there (.there (.here)))) fun w hst => ?_)
 refine NSR <| CN <| Op1.loadA (vs := [.int .u32 _, .int .u32 _, .slice _ _ _]) ty25 rfl rfl rfl (cells_of_obj (n := 3) (hst.objL (.tail _ (.tail _ (.tail _ (.head _))))) _ rfl) <| CN (SO (v := .agg #[.int .u32 _, .int .u32 _, .slice _ _ _]) hst ty25 rfl rfl (.there (.there (.here))) fun w hst => ?_)
 refine NL <| run_ret1 Try.func9 rfl (RV.cellA (vs := [.int .u32 _, .int .u32 _, .slice _ _ _]) rfl ty25 rfl rfl (cells_of_obj (n := 3) (hst.objL (.tail _ (.tail _ (.head _)))) _ rfl)) ?_
 replace hst := hst.pick (.cons (.there (.here)) (.cons (.here) .nil))
 rw [← hdl] at hst
 exact ⟨bC, done, (by rw [hdl]), hdn, (St.starCons hst).noD⟩
end Go.SK
namespace Go.SK
open Go Go.Proofs
theorem ent62 : Enters Try.prog 62 := ⟨Try.f62, _, Try.func62, by kernel_rfl, rfl⟩
theorem fld74_7 : FldF Try.prog 74 7 7 := FldF.of (n := 0) (by kernel_rfl)
theorem ent51 : Enters Try.prog 51 := ⟨Try.f51, _, Try.func51, by kernel_rfl, rfl⟩
theorem ent21 : Enters Try.prog 21 := ⟨Try.f21, _, Try.func21, by kernel_rfl, rfl⟩
end Go.SK
namespace Go.SK
open Go Go.Proofs
open Go.RowKit
theorem R5ly_variable (p : InstP) (w : World) (hA : (Res.rargs p).holds w) (hl : p.args.length ≤ 9000000000000000000) : Ret Try.prog 62 #[.agg #[.int .u16 p.op, .int .u32 p.ty, .int .u32 p.res, .slice p.ao p.args.length p.cap]] w (fun v w' => v = .bool (decide (p.op = 59 ∧ 0 < p.args.length ∧ (p.args.getD 0 zeroA).n = 7)) ∧ St w NoM [] [] w') := by
 refine Ret.enter (args := [.agg #[.int .u16 p.op, .int .u32 p.ty, .int .u32 p.res, .slice p.ao p.args.length p.cap]]) Try.func62 rfl rfl rfl ?_
 have hst : St w NoM [] [Res.rargs p] w := St.init_D hA
 clear hA
 refine SR <| CN <| Op1.box (v := .agg #[.int .u16 _, .int .u32 _, .int .u32 _, .slice _ _ _]) hst rfl rfl fun w b1 hst => AB rfl <| NSR <| CN <| Op1.fieldAddr fld39_0 rfl <| CN <| Op1.load1 (v := .int .u16 _) ty33 rfl rfl (hst.cellL (.head _) rfl) <| CN <| Op1.eql rfl rfl <| MB rfl <| RunL.splitD (d := 6) rfl (fun g1 => ?_) (fun g1 => ?_)
 · skip
   refine TK (t := 6) rfl (congrArg Value.bool (decide_eq_true g1)) <| Op1.fieldAddr fld39_3 rfl <| TK (t := 6) rfl (congrArg Value.bool (decide_eq_true g1)) <| Op1.load1 (v := .slice _ _ _) ty37 rfl rfl (hst.cellL (.head _) rfl) <| TK (t := 6) rfl (congrArg Value.bool (decide_eq_true g1)) <| Op1.lenSl (rest := []) ty37 rfl <| TK (t := 6) rfl (congrArg Value.bool (decide_eq_true g1)) <| Op1.gtr rfl rfl <| CN <| Op1.pickT (u := .bool _) (congrArg Value.bool (decide_eq_true g1)) rfl <| MB rfl <| RunL.splitD (d := 12) rfl (fun g2 => ?_) (fun g2 => ?_)
   · skip
     refine TK (t := 12) rfl (congrArg Value.bool (decide_eq_true g2)) <| Op1.fieldAddr fld39_3 rfl <| TK (t := 12) rfl (congrArg Value.bool (decide_eq_true g2)) <| Op1.load1 (v := .slice _ _ _) ty37 rfl rfl (hst.cellL (.head _) rfl) <| TK (t := 12) rfl (congrArg Value.bool (decide_eq_true g2)) <| Op1.indexRs ty37 ty35 (hst.hD _ (.head _)) rfl rfl (by omega) (by omega) <| TK (t := 12) rfl (congrArg Value.bool (decide_eq_true g2)) <| Op1.fieldAddr fld35_1 rfl <| TK (t := 12) rfl (congrArg Value.bool (decide_eq_true g2)) <| Op1.load1 (v := .int .u32 _) ty22 rfl rfl (Res.rs2_cellF (hst.hD _ (.head _)) (flat_cell (g := argC) (d := zeroA) argC_len rfl (by omega))) <| TK (t := 12) rfl (congrArg Value.bool (decide_eq_true g2)) <| Op1.eql rfl rfl <| CN <| Op1.pickT (u := .bool _) (congrArg Value.bool (decide_eq_true g2)) rfl <| AB rfl <| NL <| run_ret1 Try.func62 rfl (TP (v := .bool _) rfl) ?_
     exact ⟨congrArg Value.bool (by first | (rw [decide_eq_decide]; exact ⟨fun h => ⟨by omega, by omega, h⟩, fun h => h.2.2⟩) | exact (decide_eq_false (fun h => by omega)).symm), hst.pure⟩
   refine OM (t := 12) rfl (congrArg Value.bool (decide_eq_false g2)) rfl <| OM (t := 12) rfl (congrArg Value.bool (decide_eq_false g2)) rfl <| OM (t := 12) rfl (congrArg Value.bool (decide_eq_false g2)) rfl <| OM (t := 12) rfl (congrArg Value.bool (decide_eq_false g2)) rfl <| OM (t := 12) rfl (congrArg Value.bool (decide_eq_false g2)) rfl <| OM (t := 12) rfl (congrArg Value.bool (decide_eq_false g2)) rfl <| CN <| Op1.pickF (u := .bool _) (congrArg Value.bool (decide_eq_false g2)) rfl <| AB rfl <| NL <| run_ret1 Try.func62 rfl (TP (v := .bool _) rfl) ?_
   exact ⟨congrArg Value.bool (by first | (rw [decide_eq_decide]; exact ⟨fun h => ⟨by omega, by omega, h⟩, fun h => h.2.2⟩) | exact (decide_eq_false (fun h => by omega)).symm), hst.pure⟩
 refine OM (t := 6) rfl (congrArg Value.bool (decide_eq_false g1)) rfl <| OM (t := 6) rfl (congrArg Value.bool (decide_eq_false g1)) rfl <| OM (t := 6) rfl (congrArg Value.bool (decide_eq_false g1)) rfl <| OM (t := 6) rfl (congrArg Value.bool (decide_eq_false g1)) rfl <| CN <| Op1.pickF (u := .bool _) (congrArg Value.bool (decide_eq_false g1)) rfl <| MB rfl <| OM (t := 12) rfl (congrArg Value.bool (rfl : false = _)) rfl <| OM (t := 12) rfl (congrArg Value.bool (rfl : false = _)) rfl <| OM (t := 12) rfl (congrArg Value.bool (rfl : false = _)) rfl <| OM (t := 12) rfl (congrArg Value.bool (rfl : false = _)) rfl <| OM (t := 12) rfl (congrArg Value.bool (rfl : false = _)) rfl <| OM (t := 12) rfl (congrArg Value.bool (rfl : false = _)) rfl <| CN <| Op1.pickF (u := .bool _) (congrArg Value.bool (rfl : false = _)) rfl <| AB rfl <| NL ?_
 refine run_ret1 Try.func62 rfl (TP (v := .bool _) rfl) ?_
 exact ⟨congrArg Value.bool (by first | (rw [decide_eq_decide]; exact ⟨fun h => ⟨by omega, by omega, h⟩, fun h => h.2.2⟩) | exact (decide_eq_false (fun h => by omega)).symm), hst.pure⟩
theorem R5ly_part (p : InstP) (h0 : 0 ≤ p.op) (w : World) (hA : (Res.rargs p).holds w) (hl : p.args.length ≤ 9000000000000000000) : Ret Try.prog 51 #[.agg #[.int .u16 p.op, .int .u32 p.ty, .int .u32 p.res, .slice p.ao p.args.length p.cap]] w (fun v w' => v = .int .u8 (ptF p.L) ∧ St w NoM [] [] w') := by
 refine Ret.enter (args := [.agg #[.int .u16 p.op, .int .u32 p.ty, .int .u32 p.res, .slice p.ao p.args.length p.cap]]) Try.func51 rfl rfl rfl ?_
 have hst : St w NoM [] [Res.rargs p] w := St.init_D hA
 clear hA
 obtain ⟨fm, hfm⟩ : ∃ fm, refD p.op = fm := ⟨_, rfl⟩
 obtain ⟨ob, hob⟩ : ∃ ob, (refS p.op).isSome = ob := ⟨_, rfl⟩
 refine SR <| CN <| Op1.box (v := .agg #[.int .u16 _, .int .u32 _, .int .u32 _, .slice _ _ _]) hst rfl rfl fun w b1 hst => AC rfl <| NL <| SQ <| SR <| CN <| Op1.loadA (vs := [.int .u16 _, .int .u32 _, .int .u32 _, .slice _ _ _]) ty39 rfl rfl rfl (cells_of_obj (n := 4) (hst.objL (.head _)) _ rfl) <| CN <| Op1.call1 (v1 := .agg #[.int .u16 _, .int .u32 _, .int .u32 _, .slice _ _ _]) ent62 rfl rfl <| Ret.det (R5ly_variable p _ (hst.hD _ (.head _)) hl) hst fun w hst => NL <| run_cond_split rfl (fun g1 => ?_) (fun g1 => ?_)
 · skip
   refine SR <| AC rfl <| NL <| run_ret1 Try.func51 rfl (TP (v := .int .u8 _) rfl) ?_
   exact ⟨congrArg (Value.int .u8) (by unfold ptF; rw [if_pos (of_decide_eq_true g1)]), hst.pure⟩
 refine run_skip <| SR <| CN <| Op1.fieldAddr fld39_0 rfl <| CN <| Op1.load1 (v := .int .u16 _) ty33 rfl rfl (hst.cellL (.head _) rfl) <| CN <| Op1.call1 (v1 := .int .u16 _) ent58 rfl rfl <| Ret.det (R5gr_Of2 h0 hfm hob _) hst fun w hst => CN <| Op1.move (v := .tuple #[.agg #[.int .u16 _, str _, .bool _, .bool _, str _, str _, .int .i64 _, .int .u8 _], .bool _]) rfl <| CN <| Op1.extract (v := .agg #[.int .u16 _, str _, .bool _, .bool _, str _, str _, .int .i64 _, .int .u8 _]) rfl rfl <| CN <| Op1.extract (v := .bool _) rfl rfl <| CN <| Op1.alloc hst ty74 fun w b3 hst => CN (SO (v := .agg #[.int .u16 _, str _, .bool _, .bool _, str _, str _, .int .i64 _, .int .u8 _]) hst ty74 rfl rfl (.here) fun w hst => ?_)
 refine AB rfl <| NSR <| CN <| Op1.fieldAddr fld74_7 rfl <| CN <| Op1.load1 (v := .int .u8 _) ty5 rfl rfl (hst.cellL (.head _) rfl) <| AC rfl <| NL <| run_ret1 Try.func51 rfl (TP (v := .int .u8 _) rfl) ?_
 exact ⟨congrArg (Value.int .u8) (by unfold ptF; rw [if_neg (of_decide_eq_false g1), hfm]), hst.pure⟩
theorem R5ref5_Part (p : InstP) (hkn : p.L.Known) (w : World) (hA : (Res.rargs p).holds w) (hl : p.args.length ≤ 9000000000000000000) : Ret Try.prog 28 #[.agg #[.int .u16 p.op, .int .u32 p.ty, .int .u32 p.res, .slice p.ao p.args.length p.cap]] w (fun v w' => v = .int .i64 (ptF p.L) ∧ St w NoM [] [] w') := by
 refine Ret.enter (args := [.agg #[.int .u16 p.op, .int .u32 p.ty, .int .u32 p.res, .slice p.ao p.args.length p.cap]]) Try.func28 rfl rfl rfl ?_
 have hst : St w NoM [] [Res.rargs p] w := St.init_D hA
 clear hA
 obtain ⟨fm, hfm⟩ : ∃ fm, refD p.op = fm := ⟨_, rfl⟩
 obtain ⟨ob, hob⟩ : ∃ ob, (refS p.op).isSome = ob := ⟨_, rfl⟩
 have hpb := (known_parts hkn).1
 rw [show p.L.op = p.op from rfl, hfm] at hpb
 refine SR <| CN <| Op1.box (v := .agg #[.int .u16 _, .int .u32 _, .int .u32 _, .slice _ _ _]) hst rfl rfl fun w b1 hst => AI rfl <| NL <| SQ <| SR <| CN <| Op1.fieldAddr fld39_0 rfl <| CN <| Op1.load1 (v := .int .u16 _) ty33 rfl rfl (hst.cellL (.head _) rfl) <| CN <| Op1.eql rfl rfl <| MB rfl <| RunL.splitD (d := 8) rfl (fun g1 => ?_) (fun g1 => ?_)
 · skip
   refine TK (t := 8) rfl (congrArg Value.bool (decide_eq_true g1)) <| Op1.fieldAddr fld39_3 rfl <| TK (t := 8) rfl (congrArg Value.bool (decide_eq_true g1)) <| Op1.load1 (v := .slice _ _ _) ty37 rfl rfl (hst.cellL (.head _) rfl) <| TK (t := 8) rfl (congrArg Value.bool (decide_eq_true g1)) <| Op1.lenSl (rest := []) ty37 rfl <| TK (t := 8) rfl (congrArg Value.bool (decide_eq_true g1)) <| Op1.gtr rfl rfl <| CN <| Op1.pickT (u := .bool _) (congrArg Value.bool (decide_eq_true g1)) rfl <| MB rfl <| RunL.splitD (d := 14) rfl (fun g2 => ?_) (fun g2 => ?_)
   · skip
     refine TK (t := 14) rfl (congrArg Value.bool (decide_eq_true g2)) <| Op1.fieldAddr fld39_3 rfl <| TK (t := 14) rfl (congrArg Value.bool (decide_eq_true g2)) <| Op1.load1 (v := .slice _ _ _) ty37 rfl rfl (hst.cellL (.head _) rfl) <| TK (t := 14) rfl (congrArg Value.bool (decide_eq_true g2)) <| Op1.indexRs ty37 ty35 (hst.hD _ (.head _)) rfl rfl (by omega) (by omega) <| TK (t := 14) rfl (congrArg Value.bool (decide_eq_true g2)) <| Op1.fieldAddr fld35_1 rfl <| TK (t := 14) rfl (congrArg Value.bool (decide_eq_true g2)) <| Op1.load1 (v := .int .u32 _) ty22 rfl rfl (Res.rs2_cellF (hst.hD _ (.head _)) (flat_cell (g := argC) (d := zeroA) argC_len rfl (by omega))) <| TK (t := 14) rfl (congrArg Value.bool (decide_eq_true g2)) <| Op1.eql rfl rfl <| CN <| Op1.pickT (u := .bool _) (congrArg Value.bool (decide_eq_true g2)) rfl <| NL <| Run.forget [(1, .pointer (some ⟨_, _, none⟩)), (21, .bool _)] ⟨rfl, rfl, trivial⟩ fun f => run_cond_dec rfl (fun g3 => ?_) (fun g3 => ?_)
     · skip
       refine SR <| AI rfl <| NL <| run_ret1 Try.func28 rfl (TP (v := .int .i64 _) rfl) ?_
       exact ⟨congrArg (Value.int .i64) (by unfold ptF; rw [if_pos ⟨g1, (by have h := g2; have e : p.L.args.length = p.args.length := rfl; omega), g3⟩]), hst.pure⟩
     refine run_skip <| SR <| CN <| Op1.fieldAddr fld39_0 rfl <| CN <| Op1.load1 (v := .int .u16 _) ty33 rfl rfl (hst.cellL (.head _) rfl) <| CN <| Op1.call1 (v1 := .int .u16 _) ent35 rfl rfl <| Ret.det (R5ref_Of2 hfm hob _) hst fun w hst => CN <| Op1.move (v := .tuple #[.agg #[.int .u16 _, str _, .bool _, .bool _, str _, str _, .int .i64 _, .int .u8 _], .bool _]) rfl <| CN <| Op1.extract (v := .agg #[.int .u16 _, str _, .bool _, .bool _, str _, str _, .int .i64 _, .int .u8 _]) rfl rfl <| CN <| Op1.extract (v := .bool _) rfl rfl <| CN <| Op1.alloc hst ty74 fun w b3 hst => CN (SO (v := .agg #[.int .u16 _, str _, .bool _, .bool _, str _, str _, .int .i64 _, .int .u8 _]) hst ty74 rfl rfl (.here) fun w hst => ?_)
     refine AB rfl <| NSR <| CN <| Op1.fieldAddr fld74_7 rfl <| CN (Op1.load1 (v := .int .u8 _) ty5 rfl rfl (hst.cellL (.head _) rfl) ?_)
     first | refine CN (Op1.convN ty5 ty3 rfl (wrap_i64 (by omega) (by omega)) ?_) | refine CN (Op1.convN ty5 ty3 rfl (wrapB_i64 _) ?_) | refine CN (Op1.conv ty5 ty3 rfl ?_)
     refine AI rfl <| NL <| run_ret1 Try.func28 rfl (TP (v := .int .i64 _) rfl) ?_
     exact ⟨congrArg (Value.int .i64) (by unfold ptF; rw [if_neg (fun h => g3 h.2.2), show p.L.op = p.op from rfl, hfm]), hst.pure⟩
   refine OM (t := 14) rfl (congrArg Value.bool (decide_eq_false g2)) rfl <| OM (t := 14) rfl (congrArg Value.bool (decide_eq_false g2)) rfl <| OM (t := 14) rfl (congrArg Value.bool (decide_eq_false g2)) rfl <| OM (t := 14) rfl (congrArg Value.bool (decide_eq_false g2)) rfl <| OM (t := 14) rfl (congrArg Value.bool (decide_eq_false g2)) rfl <| OM (t := 14) rfl (congrArg Value.bool (decide_eq_false g2)) rfl <| CN <| Op1.pickF (u := .bool _) (congrArg Value.bool (decide_eq_false g2)) rfl <| NL <| run_cond_false (congrArg Value.bool (rfl : false = _)) <| run_skip <| SR <| CN <| Op1.fieldAddr fld39_0 rfl <| CN <| Op1.load1 (v := .int .u16 _) ty33 rfl rfl (hst.cellL (.head _) rfl) <| CN <| Op1.call1 (v1 := .int .u16 _) ent35 rfl rfl <| Ret.det (R5ref_Of2 hfm hob _) hst fun w hst => ?_
   refine CN <| Op1.move (v := .tuple #[.agg #[.int .u16 _, str _, .bool _, .bool _, str _, str _, .int .i64 _, .int .u8 _], .bool _]) rfl <| CN <| Op1.extract (v := .agg #[.int .u16 _, str _, .bool _, .bool _, str _, str _, .int .i64 _, .int .u8 _]) rfl rfl <| CN <| Op1.extract (v := .bool _) rfl rfl <| CN <| Op1.alloc hst ty74 fun w b3 hst => CN (SO (v := .agg #[.int .u16 _, str _, .bool _, .bool _, str _, str _, .int .i64 _, .int .u8 _]) hst ty74 rfl rfl (.here) fun w hst => ?_)
   refine AB rfl <| NL <| Run.forget [(3, .pointer (some ⟨_, _, none⟩))] ⟨rfl, trivial⟩ fun f => SR <| CN <| Op1.fieldAddr fld74_7 rfl <| CN (Op1.load1 (v := .int .u8 _) ty5 rfl rfl (hst.cellL (.head _) rfl) ?_)
   first | refine CN (Op1.convN ty5 ty3 rfl (wrap_i64 (by omega) (by omega)) ?_) | refine CN (Op1.convN ty5 ty3 rfl (wrapB_i64 _) ?_) | refine CN (Op1.conv ty5 ty3 rfl ?_)
   refine AI rfl <| NL <| run_ret1 Try.func28 rfl (TP (v := .int .i64 _) rfl) ?_
   exact ⟨congrArg (Value.int .i64) (by unfold ptF; rw [if_neg (fun h => g2 (by have h1 := h.2.1; have e : p.L.args.length = p.args.length := rfl; omega)), show p.L.op = p.op from rfl, hfm]), hst.pure⟩
 refine OM (t := 8) rfl (congrArg Value.bool (decide_eq_false g1)) rfl <| OM (t := 8) rfl (congrArg Value.bool (decide_eq_false g1)) rfl <| OM (t := 8) rfl (congrArg Value.bool (decide_eq_false g1)) rfl <| OM (t := 8) rfl (congrArg Value.bool (decide_eq_false g1)) rfl <| CN <| Op1.pickF (u := .bool _) (congrArg Value.bool (decide_eq_false g1)) rfl <| MB rfl <| OM (t := 14) rfl (congrArg Value.bool (rfl : false = _)) rfl <| OM (t := 14) rfl (congrArg Value.bool (rfl : false = _)) rfl <| OM (t := 14) rfl (congrArg Value.bool (rfl : false = _)) rfl <| OM (t := 14) rfl (congrArg Value.bool (rfl : false = _)) rfl <| OM (t := 14) rfl (congrArg Value.bool (rfl : false = _)) rfl <| OM (t := 14) rfl (congrArg Value.bool (rfl : false = _)) rfl <| CN <| Op1.pickF (u := .bool _) (congrArg Value.bool (rfl : false = _)) rfl <| NL <| run_cond_false (congrArg Value.bool (rfl : false = _)) ?_
 refine run_skip <| SR <| CN <| Op1.fieldAddr fld39_0 rfl <| CN <| Op1.load1 (v := .int .u16 _) ty33 rfl rfl (hst.cellL (.head _) rfl) <| CN <| Op1.call1 (v1 := .int .u16 _) ent35 rfl rfl <| Ret.det (R5ref_Of2 hfm hob _) hst fun w hst => CN <| Op1.move (v := .tuple #[.agg #[.int .u16 _, str _, .bool _, .bool _, str _, str _, .int .i64 _, .int .u8 _], .bool _]) rfl <| CN <| Op1.extract (v := .agg #[.int .u16 _, str _, .bool _, .bool _, str _, str _, .int .i64 _, .int .u8 _]) rfl rfl <| CN <| Op1.extract (v := .bool _) rfl rfl <| CN <| Op1.alloc hst ty74 fun w b3 hst => CN (SO (v := .agg #[.int .u16 _, str _, .bool _, .bool _, str _, str _, .int .i64 _, .int .u8 _]) hst ty74 rfl rfl (.here) fun w hst => ?_)
 refine AB rfl <| NSR <| CN <| Op1.fieldAddr fld74_7 rfl <| CN (Op1.load1 (v := .int .u8 _) ty5 rfl rfl (hst.cellL (.head _) rfl) ?_)
 first | refine CN (Op1.convN ty5 ty3 rfl (wrap_i64 (by omega) (by omega)) ?_) | refine CN (Op1.convN ty5 ty3 rfl (wrapB_i64 _) ?_) | refine CN (Op1.conv ty5 ty3 rfl ?_)
 refine AI rfl <| NL <| run_ret1 Try.func28 rfl (TP (v := .int .i64 _) rfl) ?_
 exact ⟨congrArg (Value.int .i64) (by unfold ptF; rw [if_neg (fun h => g1 h.1), show p.L.op = p.op from rfl, hfm]), hst.pure⟩
theorem R5ly_may (m e : Int) (w : World) : Ret Try.prog 53 #[.int .u16 m, .int .u16 e] w (fun v w' => v = .bool (mayM m e) ∧ St w NoM [] [] w') := by
 refine Ret.enter (args := [.int .u16 m, .int .u16 e]) Try.func53 rfl rfl rfl ?_
 have hst := St.init w
 refine SR <| AB rfl <| NL <| SQ <| SR <| MH rfl <| NL <| run_block <| SR <| CN <| Op1.eql rfl rfl <| AB rfl <| NL ?_
 refine run_cond_dec rfl (fun g1 => ?_) (fun g1 => ?_)
 · skip
   refine SR <| MH rfl <| CN <| Op1.eql rfl rfl <| AB rfl <| NL <| run_ret1 Try.func53 rfl (TP (v := .bool _) rfl) ?_
   exact ⟨congrArg Value.bool (by unfold mayM; first | (rw [if_pos (by omega)]) | (rw [if_neg (by omega), if_pos (by omega)]) | (rw [if_neg (by omega), if_neg (by omega)]; first | exact (decide_eq_true (by omega)).symm | exact (decide_eq_false (by omega)).symm)), hst.pure⟩
 refine SR <| CN <| Op1.eql rfl rfl <| AB rfl <| NL <| run_cond_dec rfl (fun g2 => ?_) (fun g2 => ?_)
 · skip
   refine SR <| MH rfl <| CN <| Op1.eql rfl rfl <| AB rfl <| NL <| run_ret1 Try.func53 rfl (TP (v := .bool _) rfl) ?_
   exact ⟨congrArg Value.bool (by unfold mayM; first | (rw [if_pos (by omega)]) | (rw [if_neg (by omega), if_pos (by omega)]) | (rw [if_neg (by omega), if_neg (by omega)]; first | exact (decide_eq_true (by omega)).symm | exact (decide_eq_false (by omega)).symm)), hst.pure⟩
 refine SR <| CN <| Op1.eql rfl rfl <| AB rfl <| NL <| run_cond_dec rfl (fun g3 => ?_) (fun g3 => ?_)
 · skip
   refine SR <| AB rfl <| NL <| run_ret1 Try.func53 rfl (TP (v := .bool _) rfl) ?_
   exact ⟨congrArg Value.bool (by unfold mayM; first | (rw [if_pos (by omega)]) | (rw [if_neg (by omega), if_pos (by omega)]) | (rw [if_neg (by omega), if_neg (by omega)]; first | exact (decide_eq_true (by omega)).symm | exact (decide_eq_false (by omega)).symm)), hst.pure⟩
 refine run_skip <| run_inBlock <| SR <| AB rfl <| NL <| run_ret1 Try.func53 rfl (TP (v := .bool _) rfl) ?_
 exact ⟨congrArg Value.bool (by unfold mayM; first | (rw [if_pos (by omega)]) | (rw [if_neg (by omega), if_pos (by omega)]) | (rw [if_neg (by omega), if_neg (by omega)]; first | exact (decide_eq_true (by omega)).symm | exact (decide_eq_false (by omega)).symm)), hst.pure⟩
theorem R5ly_Ends (op : Int) (w : World) : Ret Try.prog 21 #[.int .u16 op] w (fun v w' => v = .bool (endsB op) ∧ St w NoM [] [] w') := by
 refine Ret.enter (args := [.int .u16 op]) Try.func21 rfl rfl rfl ?_
 have hst := St.init w
 refine SR <| AB rfl <| NSR <| MH rfl <| CN <| Op1.geq rfl rfl <| MB rfl <| RunL.splitD (d := 5) rfl (fun g1 => ?_) (fun g1 => ?_)
 · skip
   refine TK (t := 5) rfl (congrArg Value.bool (decide_eq_true g1)) <| Op1.move (v := .int .u16 _) rfl <| TK (t := 5) rfl (congrArg Value.bool (decide_eq_true g1)) <| Op1.leq rfl rfl <| CN <| Op1.pickT (u := .bool _) (congrArg Value.bool (decide_eq_true g1)) rfl <| AB rfl <| NL <| run_ret1 Try.func21 rfl (TP (v := .bool _) rfl) ?_
   exact ⟨congrArg Value.bool (by unfold endsB; first | (rw [decide_eq_decide]; omega) | exact (decide_eq_true (by omega)).symm | exact (decide_eq_false (by omega)).symm), hst.pure⟩
 refine OM (t := 5) rfl (congrArg Value.bool (decide_eq_false g1)) rfl <| OM (t := 5) rfl (congrArg Value.bool (decide_eq_false g1)) rfl <| CN <| Op1.pickF (u := .bool _) (congrArg Value.bool (decide_eq_false g1)) rfl <| AB rfl <| NL <| run_ret1 Try.func21 rfl (TP (v := .bool _) rfl) ?_
 exact ⟨congrArg Value.bool (by unfold endsB; first | (rw [decide_eq_decide]; omega) | exact (decide_eq_true (by omega)).symm | exact (decide_eq_false (by omega)).symm), hst.pure⟩
theorem R5ref5_Ends (op : Int) (w : World) : Ret Try.prog 30 #[.int .u16 op] w (fun v w' => v = .bool (endsB op) ∧ St w NoM [] [] w') := by
 refine Ret.enter (args := [.int .u16 op]) Try.func30 rfl rfl rfl ?_
 have hst := St.init w
 refine SR <| AB rfl <| NSR <| MH rfl <| CN <| Op1.eql rfl rfl <| MB rfl <| RunL.splitD (d := 5) rfl (fun g1 => ?_) (fun g1 => ?_)
 · skip
   refine OM (t := 5) rfl (congrArg Value.bool (decide_eq_true g1)) rfl <| OM (t := 5) rfl (congrArg Value.bool (decide_eq_true g1)) rfl <| CN <| Op1.pickT (u := .bool _) (congrArg Value.bool (decide_eq_true g1)) rfl <| MB rfl <| OM (t := 9) rfl (congrArg Value.bool (rfl : true = _)) rfl <| OM (t := 9) rfl (congrArg Value.bool (rfl : true = _)) rfl <| CN <| Op1.pickT (u := .bool _) (congrArg Value.bool (rfl : true = _)) rfl <| MB rfl <| OM (t := 13) rfl (congrArg Value.bool (rfl : true = _)) rfl <| OM (t := 13) rfl (congrArg Value.bool (rfl : true = _)) rfl <| CN <| Op1.pickT (u := .bool _) (congrArg Value.bool (rfl : true = _)) rfl <| MB rfl <| OM (t := 17) rfl (congrArg Value.bool (rfl : true = _)) rfl <| OM (t := 17) rfl (congrArg Value.bool (rfl : true = _)) rfl <| CN (Op1.pickT (u := .bool _) (congrArg Value.bool (rfl : true = _)) rfl ?_)
   refine MB rfl <| OM (t := 21) rfl (congrArg Value.bool (rfl : true = _)) rfl <| OM (t := 21) rfl (congrArg Value.bool (rfl : true = _)) rfl <| CN <| Op1.pickT (u := .bool _) (congrArg Value.bool (rfl : true = _)) rfl <| MB rfl <| OM (t := 25) rfl (congrArg Value.bool (rfl : true = _)) rfl <| OM (t := 25) rfl (congrArg Value.bool (rfl : true = _)) rfl <| CN <| Op1.pickT (u := .bool _) (congrArg Value.bool (rfl : true = _)) rfl <| AB rfl <| NL <| run_ret1 Try.func30 rfl (TP (v := .bool _) rfl) ?_
   exact ⟨congrArg Value.bool (by unfold endsB; first | (rw [decide_eq_decide]; omega) | exact (decide_eq_true (by omega)).symm | exact (decide_eq_false (by omega)).symm), hst.pure⟩
 refine TK (t := 5) rfl (congrArg Value.bool (decide_eq_false g1)) <| Op1.move (v := .int .u16 _) rfl <| TK (t := 5) rfl (congrArg Value.bool (decide_eq_false g1)) <| Op1.eql rfl rfl <| CN <| Op1.pickF (u := .bool _) (congrArg Value.bool (decide_eq_false g1)) rfl <| MB rfl <| RunL.splitD (d := 9) rfl (fun g2 => ?_) (fun g2 => ?_)
 · skip
   refine OM (t := 9) rfl (congrArg Value.bool (decide_eq_true g2)) rfl <| OM (t := 9) rfl (congrArg Value.bool (decide_eq_true g2)) rfl <| CN <| Op1.pickT (u := .bool _) (congrArg Value.bool (decide_eq_true g2)) rfl <| MB rfl <| OM (t := 13) rfl (congrArg Value.bool (rfl : true = _)) rfl <| OM (t := 13) rfl (congrArg Value.bool (rfl : true = _)) rfl <| CN <| Op1.pickT (u := .bool _) (congrArg Value.bool (rfl : true = _)) rfl <| MB rfl <| OM (t := 17) rfl (congrArg Value.bool (rfl : true = _)) rfl <| OM (t := 17) rfl (congrArg Value.bool (rfl : true = _)) rfl <| CN <| Op1.pickT (u := .bool _) (congrArg Value.bool (rfl : true = _)) rfl <| MB rfl <| OM (t := 21) rfl (congrArg Value.bool (rfl : true = _)) rfl <| OM (t := 21) rfl (congrArg Value.bool (rfl : true = _)) rfl <| CN (Op1.pickT (u := .bool _) (congrArg Value.bool (rfl : true = _)) rfl ?_)
   refine MB rfl <| OM (t := 25) rfl (congrArg Value.bool (rfl : true = _)) rfl <| OM (t := 25) rfl (congrArg Value.bool (rfl : true = _)) rfl <| CN <| Op1.pickT (u := .bool _) (congrArg Value.bool (rfl : true = _)) rfl <| AB rfl <| NL <| run_ret1 Try.func30 rfl (TP (v := .bool _) rfl) ?_
   exact ⟨congrArg Value.bool (by unfold endsB; first | (rw [decide_eq_decide]; omega) | exact (decide_eq_true (by omega)).symm | exact (decide_eq_false (by omega)).symm), hst.pure⟩
 refine TK (t := 9) rfl (congrArg Value.bool (decide_eq_false g2)) <| Op1.move (v := .int .u16 _) rfl <| TK (t := 9) rfl (congrArg Value.bool (decide_eq_false g2)) <| Op1.eql rfl rfl <| CN <| Op1.pickF (u := .bool _) (congrArg Value.bool (decide_eq_false g2)) rfl <| MB rfl <| RunL.splitD (d := 13) rfl (fun g3 => ?_) (fun g3 => ?_)
 · skip
   refine OM (t := 13) rfl (congrArg Value.bool (decide_eq_true g3)) rfl <| OM (t := 13) rfl (congrArg Value.bool (decide_eq_true g3)) rfl <| CN <| Op1.pickT (u := .bool _) (congrArg Value.bool (decide_eq_true g3)) rfl <| MB rfl <| OM (t := 17) rfl (congrArg Value.bool (rfl : true = _)) rfl <| OM (t := 17) rfl (congrArg Value.bool (rfl : true = _)) rfl <| CN <| Op1.pickT (u := .bool _) (congrArg Value.bool (rfl : true = _)) rfl <| MB rfl <| OM (t := 21) rfl (congrArg Value.bool (rfl : true = _)) rfl <| OM (t := 21) rfl (congrArg Value.bool (rfl : true = _)) rfl <| CN <| Op1.pickT (u := .bool _) (congrArg Value.bool (rfl : true = _)) rfl <| MB rfl <| OM (t := 25) rfl (congrArg Value.bool (rfl : true = _)) rfl <| OM (t := 25) rfl (congrArg Value.bool (rfl : true = _)) rfl <| CN (Op1.pickT (u := .bool _) (congrArg Value.bool (rfl : true = _)) rfl ?_)
   refine AB rfl <| NL <| run_ret1 Try.func30 rfl (TP (v := .bool _) rfl) ?_
   exact ⟨congrArg Value.bool (by unfold endsB; first | (rw [decide_eq_decide]; omega) | exact (decide_eq_true (by omega)).symm | exact (decide_eq_false (by omega)).symm), hst.pure⟩
 refine TK (t := 13) rfl (congrArg Value.bool (decide_eq_false g3)) <| Op1.move (v := .int .u16 _) rfl <| TK (t := 13) rfl (congrArg Value.bool (decide_eq_false g3)) <| Op1.eql rfl rfl <| CN <| Op1.pickF (u := .bool _) (congrArg Value.bool (decide_eq_false g3)) rfl <| MB rfl <| RunL.splitD (d := 17) rfl (fun g4 => ?_) (fun g4 => ?_)
 · skip
   refine OM (t := 17) rfl (congrArg Value.bool (decide_eq_true g4)) rfl <| OM (t := 17) rfl (congrArg Value.bool (decide_eq_true g4)) rfl <| CN <| Op1.pickT (u := .bool _) (congrArg Value.bool (decide_eq_true g4)) rfl <| MB rfl <| OM (t := 21) rfl (congrArg Value.bool (rfl : true = _)) rfl <| OM (t := 21) rfl (congrArg Value.bool (rfl : true = _)) rfl <| CN <| Op1.pickT (u := .bool _) (congrArg Value.bool (rfl : true = _)) rfl <| MB rfl <| OM (t := 25) rfl (congrArg Value.bool (rfl : true = _)) rfl <| OM (t := 25) rfl (congrArg Value.bool (rfl : true = _)) rfl <| CN <| Op1.pickT (u := .bool _) (congrArg Value.bool (rfl : true = _)) rfl <| AB rfl <| NL <| run_ret1 Try.func30 rfl (TP (v := .bool _) rfl) ?_
   exact ⟨congrArg Value.bool (by unfold endsB; first | (rw [decide_eq_decide]; omega) | exact (decide_eq_true (by omega)).symm | exact (decide_eq_false (by omega)).symm), hst.pure⟩
 refine TK (t := 17) rfl (congrArg Value.bool (decide_eq_false g4)) <| Op1.move (v := .int .u16 _) rfl <| TK (t := 17) rfl (congrArg Value.bool (decide_eq_false g4)) <| Op1.eql rfl rfl <| CN <| Op1.pickF (u := .bool _) (congrArg Value.bool (decide_eq_false g4)) rfl <| MB rfl <| RunL.splitD (d := 21) rfl (fun g5 => ?_) (fun g5 => ?_)
 · skip
   refine OM (t := 21) rfl (congrArg Value.bool (decide_eq_true g5)) rfl <| OM (t := 21) rfl (congrArg Value.bool (decide_eq_true g5)) rfl <| CN <| Op1.pickT (u := .bool _) (congrArg Value.bool (decide_eq_true g5)) rfl <| MB rfl <| OM (t := 25) rfl (congrArg Value.bool (rfl : true = _)) rfl <| OM (t := 25) rfl (congrArg Value.bool (rfl : true = _)) rfl <| CN <| Op1.pickT (u := .bool _) (congrArg Value.bool (rfl : true = _)) rfl <| AB rfl <| NL <| run_ret1 Try.func30 rfl (TP (v := .bool _) rfl) ?_
   exact ⟨congrArg Value.bool (by unfold endsB; first | (rw [decide_eq_decide]; omega) | exact (decide_eq_true (by omega)).symm | exact (decide_eq_false (by omega)).symm), hst.pure⟩
 refine TK (t := 21) rfl (congrArg Value.bool (decide_eq_false g5)) <| Op1.move (v := .int .u16 _) rfl <| TK (t := 21) rfl (congrArg Value.bool (decide_eq_false g5)) <| Op1.eql rfl rfl <| CN <| Op1.pickF (u := .bool _) (congrArg Value.bool (decide_eq_false g5)) rfl <| MB rfl <| RunL.splitD (d := 25) rfl (fun g6 => ?_) (fun g6 => ?_)
 · skip
   refine OM (t := 25) rfl (congrArg Value.bool (decide_eq_true g6)) rfl <| OM (t := 25) rfl (congrArg Value.bool (decide_eq_true g6)) rfl <| CN <| Op1.pickT (u := .bool _) (congrArg Value.bool (decide_eq_true g6)) rfl <| AB rfl <| NL <| run_ret1 Try.func30 rfl (TP (v := .bool _) rfl) ?_
   exact ⟨congrArg Value.bool (by unfold endsB; first | (rw [decide_eq_decide]; omega) | exact (decide_eq_true (by omega)).symm | exact (decide_eq_false (by omega)).symm), hst.pure⟩
 refine TK (t := 25) rfl (congrArg Value.bool (decide_eq_false g6)) <| Op1.move (v := .int .u16 _) rfl <| TK (t := 25) rfl (congrArg Value.bool (decide_eq_false g6)) <| Op1.eql rfl rfl <| CN <| Op1.pickF (u := .bool _) (congrArg Value.bool (decide_eq_false g6)) rfl <| AB rfl <| NL <| run_ret1 Try.func30 rfl (TP (v := .bool _) rfl) ?_
 exact ⟨congrArg Value.bool (by unfold endsB; first | (rw [decide_eq_decide]; omega) | exact (decide_eq_true (by omega)).symm | exact (decide_eq_false (by omega)).symm), hst.pure⟩
theorem R5ly_kind (p : InstP) (h0 : 0 ≤ p.op) (w : World) (hA : (Res.rargs p).holds w) (hl : p.args.length ≤ 9000000000000000000) : Ret Try.prog 52 #[.agg #[.int .u16 p.op, .int .u32 p.ty, .int .u32 p.res, .slice p.ao p.args.length p.cap]] w (fun v w' => v = .int .i64 (kdF p.L) ∧ St w NoM [] [] w') := by
 refine Ret.enter (args := [.agg #[.int .u16 p.op, .int .u32 p.ty, .int .u32 p.res, .slice p.ao p.args.length p.cap]]) Try.func52 rfl rfl rfl ?_
 have hst : St w NoM [] [Res.rargs p] w := St.init_D hA
 clear hA
 refine SR <| CN <| Op1.box (v := .agg #[.int .u16 _, .int .u32 _, .int .u32 _, .slice _ _ _]) hst rfl rfl fun w b1 hst => AI rfl <| NL <| SQ <| SR <| CN <| Op1.loadA (vs := [.int .u16 _, .int .u32 _, .int .u32 _, .slice _ _ _]) ty39 rfl rfl rfl (cells_of_obj (n := 4) (hst.objL (.head _)) _ rfl) <| CN <| Op1.call1 (v1 := .agg #[.int .u16 _, .int .u32 _, .int .u32 _, .slice _ _ _]) ent51 rfl rfl <| Ret.det (R5ly_part p h0 _ (hst.hD _ (.head _)) hl) hst fun w hst => CN <| Op1.neq rfl rfl <| NL <| run_cond_dec rfl (fun g1 => ?_) (fun g1 => ?_)
 · skip
   refine SR <| AI rfl <| NL <| run_ret1 Try.func52 rfl (TP (v := .int .i64 _) rfl) ?_
   exact ⟨congrArg (Value.int .i64) (kd_above g1).symm, hst.pure⟩
 refine run_skip <| SQ <| SR <| CN <| Op1.fieldAddr fld39_0 rfl <| CN <| Op1.load1 (v := .int .u16 _) ty33 rfl rfl (hst.cellL (.head _) rfl) <| NL <| run_block <| SQ <| run_block <| run_block <| SQ <| run_block <| SQ <| run_block ?_
 refine SQ <| run_block <| SQ <| run_block <| SQ <| run_block <| SQ <| run_block <| SQ <| SQ <| SR <| CN <| Op1.eql rfl rfl <| AB rfl <| NL ?_
 refine run_cond_dec rfl (fun g2 => ?_) (fun g2 => ?_)
 · skip
   refine run_exit (id := 1) rfl <| SQ <| SR <| AI rfl <| NL <| run_ret1 Try.func52 rfl (TP (v := .int .i64 _) rfl) ?_
   exact ⟨congrArg (Value.int .i64) (by have hk := kd_op (i := p.L) (Classical.not_not.1 g1); have ho : p.L.op = p.op := rfl; rw [hk, ho]; first | (rw [if_pos (by assumption)]) | skip; repeat (first | (rw [if_neg (by assumption)]) | (rw [if_pos (by assumption)]) | (rw [if_pos (by omega)]) | (rw [if_neg (by omega)]) | (rw [if_neg (by simp_all)]))), hst.pure⟩
 refine run_skip <| SQ <| SR <| CN <| Op1.eql rfl rfl <| AB rfl <| NL <| run_cond_dec rfl (fun g3 => ?_) (fun g3 => ?_)
 · skip
   refine run_exit (id := 2) rfl <| SQ <| SR <| AI rfl <| NL <| run_ret1 Try.func52 rfl (TP (v := .int .i64 _) rfl) ?_
   exact ⟨congrArg (Value.int .i64) (by have hk := kd_op (i := p.L) (Classical.not_not.1 g1); have ho : p.L.op = p.op := rfl; rw [hk, ho]; first | (rw [if_pos (by assumption)]) | skip; repeat (first | (rw [if_neg (by assumption)]) | (rw [if_pos (by assumption)]) | (rw [if_pos (by omega)]) | (rw [if_neg (by omega)]) | (rw [if_neg (by simp_all)]))), hst.pure⟩
 refine run_skip <| SQ <| SR <| CN <| Op1.eql rfl rfl <| AB rfl <| NL <| run_cond_dec rfl (fun g4 => ?_) (fun g4 => ?_)
 · skip
   refine run_exit (id := 3) rfl <| SQ <| SR <| AI rfl <| NL <| run_ret1 Try.func52 rfl (TP (v := .int .i64 _) rfl) ?_
   exact ⟨congrArg (Value.int .i64) (by have hk := kd_op (i := p.L) (Classical.not_not.1 g1); have ho : p.L.op = p.op := rfl; rw [hk, ho]; first | (rw [if_pos (by assumption)]) | skip; repeat (first | (rw [if_neg (by assumption)]) | (rw [if_pos (by assumption)]) | (rw [if_pos (by omega)]) | (rw [if_neg (by omega)]) | (rw [if_neg (by simp_all)]))), hst.pure⟩
 refine run_skip <| SQ <| SR <| CN <| Op1.eql rfl rfl <| AB rfl <| NL <| run_cond_dec rfl (fun g5 => ?_) (fun g5 => ?_)
 · skip
   refine run_exit (id := 4) rfl <| SQ <| SR <| AI rfl <| NL <| run_ret1 Try.func52 rfl (TP (v := .int .i64 _) rfl) ?_
   exact ⟨congrArg (Value.int .i64) (by have hk := kd_op (i := p.L) (Classical.not_not.1 g1); have ho : p.L.op = p.op := rfl; rw [hk, ho]; first | (rw [if_pos (by assumption)]) | skip; repeat (first | (rw [if_neg (by assumption)]) | (rw [if_pos (by assumption)]) | (rw [if_pos (by omega)]) | (rw [if_neg (by omega)]) | (rw [if_neg (by simp_all)]))), hst.pure⟩
 refine run_skip <| SQ <| SR <| CN <| Op1.eql rfl rfl <| AB rfl <| NL <| run_cond_dec rfl (fun g6 => ?_) (fun g6 => ?_)
 · skip
   refine run_exit (id := 5) rfl <| SQ <| SR <| AI rfl <| NL <| run_ret1 Try.func52 rfl (TP (v := .int .i64 _) rfl) ?_
   exact ⟨congrArg (Value.int .i64) (by have hk := kd_op (i := p.L) (Classical.not_not.1 g1); have ho : p.L.op = p.op := rfl; rw [hk, ho]; first | (rw [if_pos (by assumption)]) | skip; repeat (first | (rw [if_neg (by assumption)]) | (rw [if_pos (by assumption)]) | (rw [if_pos (by omega)]) | (rw [if_neg (by omega)]) | (rw [if_neg (by simp_all)]))), hst.pure⟩
 refine run_skip <| SQ <| SR <| CN <| Op1.eql rfl rfl <| AB rfl <| NL <| Run.forget [(1, .pointer (some ⟨_, _, none⟩)), (7, .int .u16 _), (18, .bool _)] ⟨rfl, rfl, rfl, trivial⟩ fun f => run_cond_dec rfl (fun g7 => ?_) (fun g7 => ?_)
 · skip
   refine run_exit (id := 6) rfl <| SQ <| SR <| AI rfl <| NL <| run_ret1 Try.func52 rfl (TP (v := .int .i64 _) rfl) ?_
   exact ⟨congrArg (Value.int .i64) (by have hk := kd_op (i := p.L) (Classical.not_not.1 g1); have ho : p.L.op = p.op := rfl; rw [hk, ho]; first | (rw [if_pos (by assumption)]) | skip; repeat (first | (rw [if_neg (by assumption)]) | (rw [if_pos (by assumption)]) | (rw [if_pos (by omega)]) | (rw [if_neg (by omega)]) | (rw [if_neg (by simp_all)]))), hst.pure⟩
 refine run_skip <| SQ <| SR <| CN <| Op1.eql rfl rfl <| AB rfl <| NL <| run_cond_dec rfl (fun g8 => ?_) (fun g8 => ?_)
 · skip
   refine run_exit (id := 7) rfl <| run_inBlock <| SQ <| SR <| AI rfl <| NL <| run_ret1 Try.func52 rfl (TP (v := .int .i64 _) rfl) ?_
   exact ⟨congrArg (Value.int .i64) (by have hk := kd_op (i := p.L) (Classical.not_not.1 g1); have ho : p.L.op = p.op := rfl; rw [hk, ho]; first | (rw [if_pos (by assumption)]) | skip; repeat (first | (rw [if_neg (by assumption)]) | (rw [if_pos (by assumption)]) | (rw [if_pos (by omega)]) | (rw [if_neg (by omega)]) | (rw [if_neg (by simp_all)]))), hst.pure⟩
 refine run_skip <| SR <| CN <| Op1.eql rfl rfl <| AB rfl <| NL <| run_cond_dec rfl (fun g9 => ?_) (fun g9 => ?_)
 · skip
   refine run_exit (id := 8) rfl <| SQ <| SR <| AI rfl <| NL <| run_ret1 Try.func52 rfl (TP (v := .int .i64 _) rfl) ?_
   exact ⟨congrArg (Value.int .i64) (by have hk := kd_op (i := p.L) (Classical.not_not.1 g1); have ho : p.L.op = p.op := rfl; rw [hk, ho]; first | (rw [if_pos (by assumption)]) | skip; repeat (first | (rw [if_neg (by assumption)]) | (rw [if_pos (by assumption)]) | (rw [if_pos (by omega)]) | (rw [if_neg (by omega)]) | (rw [if_neg (by simp_all)]))), hst.pure⟩
 refine run_skip <| run_exit (id := 0) rfl <| SQ <| SR <| CN <| Op1.fieldAddr fld39_0 rfl <| CN <| Op1.load1 (v := .int .u16 _) ty33 rfl rfl (hst.cellL (.head _) rfl) <| CN <| Op1.call1 (v1 := .int .u16 _) ent21 rfl rfl <| Ret.det (R5ly_Ends _ _) hst fun w hst => NL <| run_cond_split rfl (fun g10 => ?_) (fun g10 => ?_)
 · skip
   refine SR <| AI rfl <| NL <| run_ret1 Try.func52 rfl (TP (v := .int .i64 _) rfl) ?_
   exact ⟨congrArg (Value.int .i64) (by have hk := kd_op (i := p.L) (Classical.not_not.1 g1); have ho : p.L.op = p.op := rfl; rw [hk, ho]; first | (rw [if_pos (by assumption)]) | skip; repeat (first | (rw [if_neg (by assumption)]) | (rw [if_pos (by assumption)]) | (rw [if_pos (by omega)]) | (rw [if_neg (by omega)]) | (rw [if_neg (by simp_all)]))), hst.pure⟩
 refine run_skip <| SR <| AI rfl <| NL <| run_ret1 Try.func52 rfl (TP (v := .int .i64 _) rfl) ?_
 exact ⟨congrArg (Value.int .i64) (by have hk := kd_op (i := p.L) (Classical.not_not.1 g1); have ho : p.L.op = p.op := rfl; rw [hk, ho]; first | (rw [if_pos (by assumption)]) | skip; repeat (first | (rw [if_neg (by assumption)]) | (rw [if_pos (by assumption)]) | (rw [if_pos (by omega)]) | (rw [if_neg (by omega)]) | (rw [if_neg (by simp_all)]))), hst.pure⟩
end Go.SK
namespace Go.SK
open Go Go.Proofs
theorem ent28 : Enters Try.prog 28 := ⟨Try.f28, _, Try.func28, by kernel_rfl, rfl⟩
theorem ent30 : Enters Try.prog 30 := ⟨Try.f30, _, Try.func30, by kernel_rfl, rfl⟩
theorem ent37 : Enters Try.prog 37 := ⟨Try.f37, _, Try.func37, by kernel_rfl, rfl⟩
end Go.SK
