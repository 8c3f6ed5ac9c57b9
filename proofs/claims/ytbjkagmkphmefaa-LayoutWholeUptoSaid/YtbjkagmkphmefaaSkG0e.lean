/-
  Steps of functions, plain law, and walks of functions: what the laws rest on.
-/
import Derived.Test.YtbjkagmkphmefaaSkG0d
set_option linter.unusedVariables false
set_option linter.unusedSimpArgs false
set_option linter.unusedSectionVars false
namespace Go.SK
open Go Go.Proofs
open Go.RowKit
theorem R5ly_read (ga ba : Int) (l : List InstP) (ao : Option Addr) (cp : Nat) (w : World) (hA : (Res.rmod ao l).holds w) (hs : Small l) : Ret Try.prog 25 #[.agg #[.int .u32 ga, .int .u32 ba, .slice ao l.length cp]] w (fun v w' => (∃ bq fo fc xs, topA (l.map InstP.L) 2 ≠ topA (l.map InstP.L) 1 ∧ orderF (l.map InstP.L) = (0, 0) ∧ (checkF ba (l.map InstP.L)) = (0, 0) ∧ xs.map FunP.fu = funsK (l.map InstP.L) l.length ∧ v = .tuple #[.pointer (some ⟨bq, 0, none⟩), .agg #[.int .i64 0, .int .i64 0]] ∧ St w NoM [CutR 69 bq ao l.length cp l.length [.int .i64 ((topA (l.map InstP.L) 0) : Int), .int .i64 ((topA (l.map InstP.L) 1) : Int), .int .i64 ((topA (l.map InstP.L) 1) : Int), .int .i64 ((topA (l.map InstP.L) 2) : Int), .int .i64 ((topA (l.map InstP.L) 2) : Int), .int .i64 ((topA (l.map InstP.L) 3) : Int), .int .i64 ((topA (l.map InstP.L) 3) : Int), .int .i64 ((topA (l.map InstP.L) 4) : Int), .int .i64 ((topA (l.map InstP.L) 4) : Int), .int .i64 ((topA (l.map InstP.L) 5) : Int), .int .i64 ((topA (l.map InstP.L) 5) : Int), .int .i64 ((topA (l.map InstP.L) 6) : Int), .int .i64 ((topA (l.map InstP.L) 6) : Int), .int .i64 ((topA (l.map InstP.L) 7) : Int), .int .i64 ((topA (l.map InstP.L) 7) : Int), .int .i64 ((topA (l.map InstP.L) 8) : Int), .int .i64 ((topA (l.map InstP.L) 8) : Int), .int .i64 (l.length : Int), .int .i64 (l.length : Int), .int .i64 (l.length : Int), .slice fo xs.length fc], Res.ofuns 54 3 56 fo fc xs] [] w') ∨ ((checkF ba (l.map InstP.L)).1 ≠ 0 ∧ v = .tuple #[.pointer none, .agg #[.int .i64 (checkF ba (l.map InstP.L)).1, .int .i64 (checkF ba (l.map InstP.L)).2]] ∧ St w NoM [] [] w')) := by
 refine Ret.enter (args := [.agg #[.int .u32 ga, .int .u32 ba, .slice ao l.length cp]]) Try.func25 rfl rfl rfl ?_
 have hst : St w NoM [] [Res.rmod ao l] w := St.init_D hA
 clear hA
 obtain ⟨se, sa, hS⟩ : ∃ se sa, shapeF ba (l.map InstP.L) = (se, sa) := ⟨_, _, rfl⟩
 have hL : (l.map InstP.L).length = l.length := List.length_map _
 have hl := hs.len
 have hla := hs.la9
 refine SR <| CN <| Op1.box (v := .agg #[.int .u32 _, .int .u32 _, .slice _ _ _]) hst rfl rfl fun w b1 hst => CN <| Op1.assign (v := _) rfl <| CN <| Op1.alloc hst ty29 fun w b3 hst => NL <| SQ <| SR <| CN <| Op1.loadA (vs := [.int .u32 _, .int .u32 _, .slice _ _ _]) ty25 rfl rfl rfl (cells_of_obj (n := 3) (hst.objL (.tail _ (.head _))) _ rfl) <| CN <| Op1.call1 (v1 := .agg #[.int .u32 _, .int .u32 _, .slice _ _ _]) ent32 rfl rfl <| Ret.det (R5cd_Shape2 ga ba l _ _ hS _ (hst.hD _ (.head _)) hs.len hs.op hs.sum hs.txt) hst fun w hst => CN <| Op1.alloc hst ty29 fun w b4 hst => CN (SO (v := .agg #[.int .i64 _, .int .i64 _]) hst ty29 rfl rfl (.here) fun w hst => ?_)
 refine NSR <| CN <| Op1.fieldAddr fld29_0 rfl <| CN <| Op1.load1 (v := .int .i64 _) ty27 rfl rfl (hst.cellL (.head _) rfl) <| CN <| Op1.neq rfl rfl <| NL <| run_cond_dec rfl (fun g1 => ?_) (fun g1 => ?_)
 · skip
   have hC := check_shape (bd := ba) (l := (l.map InstP.L)) (by rw [hS]; exact g1)
   refine SQ <| RunD.start [] hst (bs := [0, 0, 3]) (ds := [some 11, some 2, none]) ⟨by kernel_rfl, by kernel_rfl, by kernel_rfl⟩ (fun tab2 => ?_)
   refine RunD.op (det _) tab2 1 (fun f' L' w' hc => Op1.loadA (vs := [.int .i64 _, .int .i64 _]) ty29 rfl (hc.old (v := .pointer (some ⟨_, _, none⟩)) rfl rfl rfl) rfl (cells_of_obj (n := 2) (hc.st.objL (List.mem_append_right _ (.head _))) _ rfl) ⟨[], ⟨rfl, rfl⟩, hc.st⟩) <| RunD.op (det _) tab2 2 (fun f' L' w' hc => Op1.assign (v := _) rfl ⟨[], ⟨rfl, rfl⟩, hc.st⟩) <| RunD.fin followsMixed tab2 hst rfl (fun f3 w R6 hs4 hd5 hr7 hst => ?_)
   obtain ⟨h11_, r0⟩ := hd5 0 11 rfl rfl
   obtain ⟨h2_, r1⟩ := hd5 1 2 rfl rfl
   simp only [show List.range 2 = [0, 1] from rfl, List.flatMap_cons, List.flatMap_nil, List.map_cons, List.map_nil, r0, r1, List.nil_append, List.append_nil, List.cons_append] at hst
   refine RunL.slots (sl := [(2, _), (3, .pointer (some ⟨_, _, none⟩)), (11, .agg #[.int .i64 _, .int .i64 _])]) ⟨h2_, (hs4 3 rfl).trans rfl, h11_, trivial⟩ ?_
   clear hs4 hd5 hr7 tab2
   refine CN (SO (v := .agg #[.int .i64 _, .int .i64 _]) hst ty29 rfl rfl (.there (.here)) fun w hst => ?_)
   refine NL <| run_ret2 Try.func25 rfl (TP (v := _) rfl) (RV.cellA (vs := [.int .i64 _, .int .i64 _]) rfl ty29 rfl rfl (cells_of_obj (n := 2) (hst.objL (.tail _ (.head _))) _ rfl)) ?_
   replace hst := hst.pick .nil
   have hse : se ≠ 0 := g1
   rw [hC, hS]
   exact .inr ⟨hse, rfl, hst.noD⟩
 have hS0 : (shapeF ba (l.map InstP.L)).1 = 0 := by rw [hS]; exact Classical.not_not.1 g1
 have hkn := shape_known hS0
 have hkm := known_map hkn
 have hl2 := shape_len hS0
 rw [hL] at hl2
 refine run_skip <| SR <| CN <| Op1.fieldAddr fld25_2 rfl <| CN <| Op1.load1 (v := .slice _ _ _) ty23 rfl rfl (hst.cellL (.tail _ (.tail _ (.head _))) rfl) <| CN (Op1.buildStruct ty69 stf69 (.c (v := .slice _ _ _) rfl (h := .nil)) ?_)
 refine CN <| Op1.box (v := .agg #[.slice _ _ _, .int .i64 _, .int .i64 _, .int .i64 _, .int .i64 _, .int .i64 _, .int .i64 _, .int .i64 _, .int .i64 _, .int .i64 _, .int .i64 _, .int .i64 _, .int .i64 _, .int .i64 _, .int .i64 _, .int .i64 _, .int .i64 _, .int .i64 _, .int .i64 _, .int .i64 _, .int .i64 _, .int .i64 _, .slice _ _ _]) hst rfl rfl fun w b15 hst => AP rfl <| NL <| SQ <| run_block <| SR <| MP rfl ?_
 replace hst := hst.pick (.cons (.here) (.cons (.here) (.cons (.here) (.cons (.here) .nil))))
 refine CN (Op1.call1 (v1 := .pointer (some ⟨_, _, none⟩)) ent33 rfl rfl ((R5ly_cut b15 l ao cp hkm _ (hst.hL _ (.head _)) (hst.hD _ (.head _)) (hst.sepD _ (.head _) _ (.head _)) hl2 hla hs.op).mono fun v w hp => ?_))
 rcases hp with ⟨fo, fc, xs, htp, hor, hxs, rfl, hp⟩ | ⟨e, tl, hs1, rfl, hp⟩
 · skip
   replace hst : St _ _ (_ :: _ :: _) _ _ := hst.call1 hp
   clear hp
   refine AB rfl <| NL <| run_cond_true (congrArg Value.bool (rfl : true = _)) <| SR <| MP rfl <| CN (Op1.buildStruct ty29 stf29 .nil ?_)
   refine AP rfl <| CN (SO (v := .agg #[.int .i64 _, .int .i64 _]) hst ty29 rfl rfl (.there (.there (.there (.here)))) fun w hst => ?_)
   refine NL <| run_ret2 Try.func25 rfl (TP (v := .pointer (some ⟨_, _, none⟩)) rfl) (RV.cellA (vs := [.int .i64 _, .int .i64 _]) rfl ty29 rfl rfl (cells_of_obj (n := 2) (hst.objL (.tail _ (.tail _ (.tail _ (.head _))))) _ rfl)) ?_
   replace hst := hst.pick (.cons (.here) (.cons (.here) .nil))
   exact .inl ⟨_, fo, fc, xs, htp, hor, (by rw [check_order hS0, hor]), hxs, rfl, hst.noD⟩
 · skip
   replace hst : St _ _ (_ :: _) _ _ := hst.call1 hp
   have hC := check_stuck hS0 hs1
   rw [hL] at hC
   have hsl := hs1.1
   clear hp
   refine AB rfl <| NL <| run_cond_false (congrArg Value.bool (rfl : false = _)) <| SQ <| RunD.start [] hst (bs := [0, 1, 3, 7, 0, 16, 48, 127, 255]) (ds := [some 22, some 23, some 24, some 25, some 26, some 27, some 28, some 29, some 21]) ⟨by kernel_rfl, by kernel_rfl, by kernel_rfl⟩ (fun tab8 => ?_)
   refine RunD.op (det _) tab8 1 (fun f' L' w' hc => Op1.move (v := .pointer (some ⟨_, _, none⟩)) (hc.old (v := .pointer (some ⟨_, _, none⟩)) rfl rfl rfl) ⟨[], ⟨rfl, rfl⟩, hc.st⟩) <| RunD.op (det _) tab8 2 (fun f' L' w' hc => Op1.nilCheckP (hc.det (j := 0) rfl rfl rfl rfl) ⟨[], ⟨rfl, rfl⟩, hc.st⟩) <| RunD.op (det _) tab8 3 (fun f' L' w' hc => Op1.fieldAddr fld69_1 (hc.det (j := 1) rfl rfl rfl rfl) ⟨[], ⟨rfl, rfl⟩, hc.st⟩) <| RunD.op (det _) tab8 4 (fun f' L' w' hc => Op1.load1 (v := .int .i64 _) ty3 rfl (hc.det (j := 2) rfl rfl rfl rfl) (hc.st.cellL (List.mem_append_right _ (.head _)) rfl) ⟨[], ⟨rfl, rfl⟩, hc.st⟩) <| RunD.op (det _) tab8 5 (fun f' L' w' hc => Op1.fieldAddr fld25_2 (hc.old (v := .pointer (some ⟨_, _, none⟩)) rfl rfl rfl) ⟨[], ⟨rfl, rfl⟩, hc.st⟩) <| RunD.op (det _) tab8 6 (fun f' L' w' hc => Op1.load1 (v := .slice _ _ _) ty23 rfl (hc.det (j := 4) rfl rfl rfl rfl) (hc.st.cellL (List.mem_append_right _ (.tail _ (.tail _ (.tail _ (.head _))))) rfl) ⟨[], ⟨rfl, rfl⟩, hc.st⟩) <| RunD.op (det _) tab8 7 (fun f' L' w' hc => Op1.lenSl (rest := []) ty23 (hc.det (j := 5) rfl rfl rfl rfl) ⟨[], ⟨rfl, rfl⟩, hc.st⟩) <| RunD.fin followsMixed tab8 hst rfl (fun f9 w R12 hs10 hd11 hr13 hst => ?_)
   obtain ⟨h22_, r0⟩ := hd11 0 22 rfl rfl
   obtain ⟨h23_, r1⟩ := hd11 1 23 rfl rfl
   obtain ⟨h24_, r2⟩ := hd11 2 24 rfl rfl
   obtain ⟨h25_, r3⟩ := hd11 3 25 rfl rfl
   obtain ⟨h26_, r4⟩ := hd11 4 26 rfl rfl
   obtain ⟨h27_, r5⟩ := hd11 5 27 rfl rfl
   obtain ⟨h28_, r6⟩ := hd11 6 28 rfl rfl
   simp only [show List.range 7 = [0, 1, 2, 3, 4, 5, 6] from rfl, List.flatMap_cons, List.flatMap_nil, List.map_cons, List.map_nil, r0, r1, r2, r3, r4, r5, r6, List.nil_append, List.append_nil, List.cons_append] at hst
   refine RunL.slots (sl := [(3, .pointer (some ⟨_, _, none⟩)), (5, .pointer (some ⟨_, _, none⟩)), (25, .int .i64 _), (28, .int .i64 _)]) ⟨(hs10 3 rfl).trans rfl, (hs10 5 rfl).trans rfl, h25_, h28_, trivial⟩ ?_
   clear hs10 hd11 hr13 tab8
   refine CN <| Op1.lss rfl rfl <| AB rfl <| NL <| Run.forget [(3, .pointer (some ⟨_, _, none⟩)), (5, .pointer (some ⟨_, _, none⟩)), (21, .bool _)] ⟨rfl, rfl, rfl, trivial⟩ fun f => run_cond_dec rfl (fun g14 => ?_) (fun g14 => ?_)
   · skip
     refine SQ <| RunD.start [] hst (bs := [0, 1, 3, 7, 15, 0, 63]) (ds := [some 30, some 31, some 32, some 33, some 34, some 2, none]) ⟨by kernel_rfl, by kernel_rfl, by kernel_rfl⟩ (fun tab15 => ?_)
     refine RunD.op (det _) tab15 1 (fun f' L' w' hc => Op1.move (v := .pointer (some ⟨_, _, none⟩)) (hc.old (v := .pointer (some ⟨_, _, none⟩)) rfl rfl rfl) ⟨[], ⟨rfl, rfl⟩, hc.st⟩) <| RunD.op (det _) tab15 2 (fun f' L' w' hc => Op1.nilCheckP (hc.det (j := 0) rfl rfl rfl rfl) ⟨[], ⟨rfl, rfl⟩, hc.st⟩) <| RunD.op (det _) tab15 3 (fun f' L' w' hc => Op1.fieldAddr fld69_1 (hc.det (j := 1) rfl rfl rfl rfl) ⟨[], ⟨rfl, rfl⟩, hc.st⟩) <| RunD.op (det _) tab15 4 (fun f' L' w' hc => Op1.load1 (v := .int .i64 _) ty3 rfl (hc.det (j := 2) rfl rfl rfl rfl) (hc.st.cellL (List.mem_append_right _ (.head _)) rfl) ⟨[], ⟨rfl, rfl⟩, hc.st⟩) <| RunD.op (det _) tab15 5 (fun f' L' w' hc => Op1.buildStruct ty29 stf29 (.c (v := .int .i64 _) rfl (h := (.c (v := .int .i64 _) (hc.det (j := 3) rfl rfl rfl rfl) (h := .nil)))) ⟨[], ⟨rfl, rfl⟩, hc.st⟩) ?_
     refine RunD.op (det _) tab15 6 (fun f' L' w' hc => Op1.assign (v := _) rfl ⟨[], ⟨rfl, rfl⟩, hc.st⟩) <| RunD.fin followsMixed tab15 hst rfl (fun f16 w R19 hs17 hd18 hr20 hst => ?_)
     obtain ⟨h30_, r0⟩ := hd18 0 30 rfl rfl
     obtain ⟨h31_, r1⟩ := hd18 1 31 rfl rfl
     obtain ⟨h32_, r2⟩ := hd18 2 32 rfl rfl
     obtain ⟨h33_, r3⟩ := hd18 3 33 rfl rfl
     obtain ⟨h34_, r4⟩ := hd18 4 34 rfl rfl
     obtain ⟨h2_, r5⟩ := hd18 5 2 rfl rfl
     simp only [show List.range 6 = [0, 1, 2, 3, 4, 5] from rfl, List.flatMap_cons, List.flatMap_nil, List.map_cons, List.map_nil, r0, r1, r2, r3, r4, r5, List.nil_append, List.append_nil, List.cons_append] at hst
     refine RunL.slots (sl := [(2, _), (3, .pointer (some ⟨_, _, none⟩)), (34, .agg #[.int .i64 _, .int .i64 _])]) ⟨h2_, (hs17 3 rfl).trans rfl, h34_, trivial⟩ ?_
     clear hs17 hd18 hr20 tab15
     refine CN (SO (v := .agg #[.int .i64 _, .int .i64 _]) hst ty29 rfl rfl (.there (.there (.here))) fun w hst => ?_)
     refine NL <| run_ret2 Try.func25 rfl (TP (v := _) rfl) (RV.cellA (vs := [.int .i64 _, .int .i64 _]) rfl ty29 rfl rfl (cells_of_obj (n := 2) (hst.objL (.tail _ (.tail _ (.head _)))) _ rfl)) ?_
     replace hst := hst.pick .nil
     rw [hC, if_pos (by omega)]
     exact .inr ⟨(by simp), rfl, hst.noD⟩
   refine run_skip <| run_inBlock <| SQ <| RunD.start [] hst (bs := [0, 1, 3, 7, 15, 0, 63]) (ds := [some 35, some 36, some 37, some 38, some 39, some 2, none]) ⟨by kernel_rfl, by kernel_rfl, by kernel_rfl⟩ (fun tab21 => ?_)
   refine RunD.op (det _) tab21 1 (fun f' L' w' hc => Op1.move (v := .pointer (some ⟨_, _, none⟩)) (hc.old (v := .pointer (some ⟨_, _, none⟩)) rfl rfl rfl) ⟨[], ⟨rfl, rfl⟩, hc.st⟩) <| RunD.op (det _) tab21 2 (fun f' L' w' hc => Op1.nilCheckP (hc.det (j := 0) rfl rfl rfl rfl) ⟨[], ⟨rfl, rfl⟩, hc.st⟩) <| RunD.op (det _) tab21 3 (fun f' L' w' hc => Op1.fieldAddr fld69_1 (hc.det (j := 1) rfl rfl rfl rfl) ⟨[], ⟨rfl, rfl⟩, hc.st⟩) <| RunD.op (det _) tab21 4 (fun f' L' w' hc => Op1.load1 (v := .int .i64 _) ty3 rfl (hc.det (j := 2) rfl rfl rfl rfl) (hc.st.cellL (List.mem_append_right _ (.head _)) rfl) ⟨[], ⟨rfl, rfl⟩, hc.st⟩) <| RunD.op (det _) tab21 5 (fun f' L' w' hc => Op1.buildStruct ty29 stf29 (.c (v := .int .i64 _) rfl (h := (.c (v := .int .i64 _) (hc.det (j := 3) rfl rfl rfl rfl) (h := .nil)))) ⟨[], ⟨rfl, rfl⟩, hc.st⟩) ?_
   refine RunD.op (det _) tab21 6 (fun f' L' w' hc => Op1.assign (v := _) rfl ⟨[], ⟨rfl, rfl⟩, hc.st⟩) <| RunD.fin followsMixed tab21 hst rfl (fun f22 w R25 hs23 hd24 hr26 hst => ?_)
   obtain ⟨h35_, r0⟩ := hd24 0 35 rfl rfl
   obtain ⟨h36_, r1⟩ := hd24 1 36 rfl rfl
   obtain ⟨h37_, r2⟩ := hd24 2 37 rfl rfl
   obtain ⟨h38_, r3⟩ := hd24 3 38 rfl rfl
   obtain ⟨h39_, r4⟩ := hd24 4 39 rfl rfl
   obtain ⟨h2_, r5⟩ := hd24 5 2 rfl rfl
   simp only [show List.range 6 = [0, 1, 2, 3, 4, 5] from rfl, List.flatMap_cons, List.flatMap_nil, List.map_cons, List.map_nil, r0, r1, r2, r3, r4, r5, List.nil_append, List.append_nil, List.cons_append] at hst
   refine RunL.slots (sl := [(2, _), (3, .pointer (some ⟨_, _, none⟩)), (39, .agg #[.int .i64 _, .int .i64 _])]) ⟨h2_, (hs23 3 rfl).trans rfl, h39_, trivial⟩ ?_
   clear hs23 hd24 hr26 tab21
   refine CN (SO (v := .agg #[.int .i64 _, .int .i64 _]) hst ty29 rfl rfl (.there (.there (.here))) fun w hst => ?_)
   refine NL <| run_ret2 Try.func25 rfl (TP (v := _) rfl) (RV.cellA (vs := [.int .i64 _, .int .i64 _]) rfl ty29 rfl rfl (cells_of_obj (n := 2) (hst.objL (.tail _ (.tail _ (.head _)))) _ rfl)) ?_
   replace hst := hst.pick .nil
   rw [hC, if_neg (by omega)]
   exact .inr ⟨(by simp), rfl, hst.noD⟩
end Go.SK
namespace Go.SK
open Go Go.Proofs
theorem ent25 : Enters Try.prog 25 := ⟨Try.f25, _, Try.func25, by kernel_rfl, rfl⟩
end Go.SK
namespace Go.SK
open Go Go.Proofs
open Go.RowKit
theorem R5ly_Check (ga ba : Int) (l : List InstP) (ao : Option Addr) (cp : Nat) (w : World) (hA : (Res.rmod ao l).holds w) (hs : Small l) : Ret Try.prog 10 #[.agg #[.int .u32 ga, .int .u32 ba, .slice ao l.length cp]] w (fun v w' => v = .agg #[.int .i64 (checkF ba (l.map InstP.L)).1, .int .i64 (checkF ba (l.map InstP.L)).2] ∧ St w NoM [] [] w') := by
 refine Ret.enter (args := [.agg #[.int .u32 ga, .int .u32 ba, .slice ao l.length cp]]) Try.func10 rfl rfl rfl ?_
 have hst : St w NoM [] [Res.rmod ao l] w := St.init_D hA
 clear hA
 refine SR <| CN <| Op1.box (v := .agg #[.int .u32 _, .int .u32 _, .slice _ _ _]) hst rfl rfl fun w b1 hst => CN <| Op1.alloc hst ty29 fun w b2 hst => NSR <| CN <| Op1.loadA (vs := [.int .u32 _, .int .u32 _, .slice _ _ _]) ty25 rfl rfl rfl (cells_of_obj (n := 3) (hst.objL (.tail _ (.head _))) _ rfl) <| CN (Op1.call1 (v1 := .agg #[.int .u32 _, .int .u32 _, .slice _ _ _]) ent25 rfl rfl ((R5ly_read ga ba l _ _ _ (hst.hD _ (.head _)) hs).mono fun v w hp => ?_))
 rcases hp with ⟨bqr, fo, fc, xs, htp, hor, hC, hxs, rfl, hp⟩ | ⟨hne, rfl, hp⟩
 · skip
   replace hst : St _ _ (_ :: _ :: _) _ _ := hst.call0 hp
   clear hp
   refine CN <| Op1.move (v := .tuple #[.pointer (some ⟨_, _, none⟩), .agg #[.int .i64 _, .int .i64 _]]) rfl <| CN <| Op1.extract (v := .pointer (some ⟨_, _, none⟩)) rfl rfl <| CN <| Op1.extract (v := .agg #[.int .i64 _, .int .i64 _]) rfl rfl <| CN <| Op1.alloc hst ty29 fun w b4 hst => AP rfl <| CN (SO (v := .agg #[.int .i64 _, .int .i64 _]) hst ty29 rfl rfl (.here) fun w hst => ?_)
   refine NSR <| CN <| Op1.loadA (vs := [.int .i64 _, .int .i64 _]) ty29 rfl rfl rfl (cells_of_obj (n := 2) (hst.objL (.head _)) _ rfl) <| CN (SO (v := .agg #[.int .i64 _, .int .i64 _]) hst ty29 rfl rfl (.there (.there (.there (.here)))) fun w hst => ?_)
   refine NL <| run_ret1 Try.func10 rfl (RV.cellA (vs := [.int .i64 _, .int .i64 _]) rfl ty29 rfl rfl (cells_of_obj (n := 2) (hst.objL (.tail _ (.tail _ (.tail _ (.head _))))) _ rfl)) ?_
   replace hst := hst.pick .nil
   rw [hC]
   exact ⟨rfl, hst.pure⟩
 · skip
   replace hst : St _ _ _ _ _ := hst.call0 hp
   clear hp
   refine CN <| Op1.move (v := .tuple #[_, .agg #[.int .i64 _, .int .i64 _]]) rfl <| CN <| Op1.extract (v := _) rfl rfl <| CN <| Op1.extract (v := .agg #[.int .i64 _, .int .i64 _]) rfl rfl <| CN <| Op1.alloc hst ty29 fun w b4 hst => CN <| Op1.assign (v := _) rfl <| CN (SO (v := .agg #[.int .i64 _, .int .i64 _]) hst ty29 rfl rfl (.here) fun w hst => ?_)
   refine NSR <| CN <| Op1.loadA (vs := [.int .i64 _, .int .i64 _]) ty29 rfl rfl rfl (cells_of_obj (n := 2) (hst.objL (.head _)) _ rfl) <| CN (SO (v := .agg #[.int .i64 _, .int .i64 _]) hst ty29 rfl rfl (.there (.here)) fun w hst => ?_)
   refine NL <| run_ret1 Try.func10 rfl (RV.cellA (vs := [.int .i64 _, .int .i64 _]) rfl ty29 rfl rfl (cells_of_obj (n := 2) (hst.objL (.tail _ (.head _))) _ rfl)) ?_
   replace hst := hst.pick .nil
   exact ⟨rfl, hst.pure⟩
end Go.SK
namespace Go.SK
open Go Go.Proofs
theorem ent9 : Enters Try.prog 9 := ⟨Try.f9, _, Try.func9, by kernel_rfl, rfl⟩
theorem ent10 : Enters Try.prog 10 := ⟨Try.f10, _, Try.func10, by kernel_rfl, rfl⟩
end Go.SK
namespace Go.SK
open Go Go.Proofs
open Go.RowKit
theorem R5ly_CheckD {ga ba e a : Int} {l : List InstP} (hC : checkF ba (l.map InstP.L) = (e, a)) (ao : Option Addr) (cp : Nat) (w : World) (hA : (Res.rmod ao l).holds w) (hs : Small l) : Ret Try.prog 10 #[.agg #[.int .u32 ga, .int .u32 ba, .slice ao l.length cp]] w (fun v w' => v = .agg #[.int .i64 e, .int .i64 a] ∧ St w NoM [] [] w') := by
 have h := R5ly_Check ga ba l ao cp w hA hs
 rw [hC] at h; exact h
end Go.SK
namespace Go.SK
open Go Go.Proofs
theorem stf35 : StructF Try.prog 35 [(0, 1), (1, 1), (2, 1)] := ⟨fieldsOf Try.prog 35, by kernel_rfl, fun w => by kernel_rfl⟩
theorem ent13 : Enters Try.prog 13 := ⟨Try.f13, _, Try.func13, by kernel_rfl, rfl⟩
theorem stf39 : StructF Try.prog 39 [(0, 1), (1, 1), (2, 1), (3, 1)] := ⟨fieldsOf Try.prog 39, by kernel_rfl, fun w => by kernel_rfl⟩
theorem stf25 : StructF Try.prog 25 [(0, 1), (1, 1), (2, 1)] := ⟨fieldsOf Try.prog 25, by kernel_rfl, fun w => by kernel_rfl⟩
end Go.SK
namespace Go.SK
open Go Go.Proofs
open Go.RowKit
theorem R5kit_Enum (n : Int) (w : World) : Ret Try.prog 13 #[.int .u32 n] w (fun v w' => v = .agg #[.int .u8 4, .int .u32 n, str []] ∧ St w NoM [] [] w') := by
 refine Ret.enter (args := [.int .u32 n]) Try.func13 rfl rfl rfl ?_
 have hst := St.init w
 refine SR <| CN <| Op1.alloc hst ty35 fun w b2 hst => NSR <| MU rfl <| CN (Op1.buildStruct ty35 stf35 (.c (v := .int .u8 _) rfl (h := (.c (v := .int .u32 _) rfl (h := .nil)))) ?_)
 refine CN (SO (v := .agg #[.int .u8 _, .int .u32 _, str _]) hst ty35 rfl rfl (.here) fun w hst => ?_)
 refine NL <| run_ret1 Try.func13 rfl (RV.cellA (vs := [.int .u8 _, .int .u32 _, str _]) rfl ty35 rfl rfl (cells_of_obj (n := 3) (hst.objL (.head _)) _ rfl)) ?_
 exact ⟨rfl, hst.pure⟩
theorem R5ly_CheckN {ga ba e a : Int} {l : List InstP} {m : Nat} (hm : m = l.length) (hC : checkF ba (l.map InstP.L) = (e, a)) (ao : Option Addr) (cp : Nat) (w : World) (hA : (Res.rmod ao l).holds w) (hs : Small l) : Ret Try.prog 10 #[.agg #[.int .u32 ga, .int .u32 ba, .slice ao m cp]] w (fun v w' => v = .agg #[.int .i64 e, .int .i64 a] ∧ St w NoM [] [] w') := by
 subst hm; exact R5ly_CheckD hC ao cp w hA hs
end Go.SK
namespace Go.SK
open Go Go.Proofs
theorem ty62 : TyF Try.prog 62 (.pointer 69) 1 8 [.pointer none] := TyF.of (by kernel_rfl) (by kernel_rfl)
end Go.SK
namespace Go.SK
open Go Go.Proofs
open Go.RowKit
theorem R5ly_Parts (ga ba : Int) (l : List InstP) (ao : Option Addr) (cp : Nat) (w : World) (hA : (Res.rmod ao l).holds w) (hs : Small l) : Ret Try.prog 15 #[.agg #[.int .u32 ga, .int .u32 ba, .slice ao l.length cp]] w (fun v w' => ((checkF ba (l.map InstP.L)) = (0, 0) ∧ v = .tuple #[.agg #[.int .i64 ((topA (l.map InstP.L) 0) : Int), .int .i64 ((topA (l.map InstP.L) 1) : Int), .int .i64 ((topA (l.map InstP.L) 1) : Int), .int .i64 ((topA (l.map InstP.L) 2) : Int), .int .i64 ((topA (l.map InstP.L) 2) : Int), .int .i64 ((topA (l.map InstP.L) 3) : Int), .int .i64 ((topA (l.map InstP.L) 3) : Int), .int .i64 ((topA (l.map InstP.L) 4) : Int), .int .i64 ((topA (l.map InstP.L) 4) : Int), .int .i64 ((topA (l.map InstP.L) 5) : Int), .int .i64 ((topA (l.map InstP.L) 5) : Int), .int .i64 ((topA (l.map InstP.L) 6) : Int), .int .i64 ((topA (l.map InstP.L) 6) : Int), .int .i64 ((topA (l.map InstP.L) 7) : Int), .int .i64 ((topA (l.map InstP.L) 7) : Int), .int .i64 ((topA (l.map InstP.L) 8) : Int), .int .i64 ((topA (l.map InstP.L) 8) : Int), .int .i64 (l.length : Int), .int .i64 (l.length : Int), .int .i64 (l.length : Int)], .agg #[.int .i64 0, .int .i64 0]] ∧ St w NoM [] [] w') ∨ ((checkF ba (l.map InstP.L)).1 ≠ 0 ∧ v = .tuple #[.agg #[.int .i64 0, .int .i64 0, .int .i64 0, .int .i64 0, .int .i64 0, .int .i64 0, .int .i64 0, .int .i64 0, .int .i64 0, .int .i64 0, .int .i64 0, .int .i64 0, .int .i64 0, .int .i64 0, .int .i64 0, .int .i64 0, .int .i64 0, .int .i64 0, .int .i64 0, .int .i64 0], .agg #[.int .i64 (checkF ba (l.map InstP.L)).1, .int .i64 (checkF ba (l.map InstP.L)).2]] ∧ St w NoM [] [] w')) := by
 refine Ret.enter (args := [.agg #[.int .u32 ga, .int .u32 ba, .slice ao l.length cp]]) Try.func15 rfl rfl rfl ?_
 have hst : St w NoM [] [Res.rmod ao l] w := St.init_D hA
 clear hA
 refine SR <| CN <| Op1.box (v := .agg #[.int .u32 _, .int .u32 _, .slice _ _ _]) hst rfl rfl fun w b1 hst => CN <| Op1.alloc hst ty42 fun w b2 hst => CN <| Op1.alloc hst ty29 fun w b3 hst => NSR <| CN <| Op1.loadA (vs := [.int .u32 _, .int .u32 _, .slice _ _ _]) ty25 rfl rfl rfl (cells_of_obj (n := 3) (hst.objL (.tail _ (.tail _ (.head _)))) _ rfl) <| CN (Op1.call1 (v1 := .agg #[.int .u32 _, .int .u32 _, .slice _ _ _]) ent25 rfl rfl ((R5ly_read ga ba l _ _ _ (hst.hD _ (.head _)) hs).mono fun v w hp => ?_))
 rcases hp with ⟨bqr, fo, fc, xs, htp, hor, hC, hxs, rfl, hp⟩ | ⟨hne, rfl, hp⟩
 · skip
   replace hst : St _ _ (_ :: _ :: _) _ _ := hst.call0 hp
   clear hp
   refine CN <| Op1.move (v := .tuple #[.pointer (some ⟨_, _, none⟩), .agg #[.int .i64 _, .int .i64 _]]) rfl <| CN <| Op1.extract (v := .pointer (some ⟨_, _, none⟩)) rfl rfl <| CN <| Op1.extract (v := .agg #[.int .i64 _, .int .i64 _]) rfl rfl <| CN <| Op1.alloc hst ty29 fun w b5 hst => AP rfl <| CN (SO (v := .agg #[.int .i64 _, .int .i64 _]) hst ty29 rfl rfl (.here) fun w hst => ?_)
   refine NL <| SQ <| SR <| MP rfl <| CN <| Op1.eqlPN ty62 rfl rfl <| NL <| run_cond_false (congrArg Value.bool (rfl : false = _)) <| run_skip <| SQ ?_
   replace hst := hst.pick (.cons (.there (.there (.there (.there (.here))))) (.cons (.here) (.cons (.here) (.cons (.here) (.cons (.here) (.cons (.here) .nil))))))
   apply RunD.start [(5, Res.row b2 42 _, Res.row b2 42 _)] hst (bs := [0, 1, 3, 7, 0, 15, 63]) (ds := [some 15, some 16, some 17, some 18, some 19, none, none]) (htab := ⟨by kernel_rfl, by kernel_rfl, by kernel_rfl⟩)
   intro tab1
   refine RunD.op (det _) tab1 1 (fun f' L' w' hc => Op1.move (v := .pointer (some ⟨_, _, none⟩)) (hc.old (v := .pointer (some ⟨_, _, none⟩)) rfl rfl rfl) ⟨[], ⟨rfl, rfl⟩, hc.st⟩) <| RunD.op (det _) tab1 2 (fun f' L' w' hc => Op1.nilCheckP (hc.det (j := 0) rfl rfl rfl rfl) ⟨[], ⟨rfl, rfl⟩, hc.st⟩) <| RunD.op (det _) tab1 3 (fun f' L' w' hc => Op1.fieldAddr fld69_2 (hc.det (j := 1) rfl rfl rfl rfl) ⟨[], ⟨rfl, rfl⟩, hc.st⟩) <| RunD.op (det _) tab1 4 (fun f' L' w' hc => Op1.loadA (vs := [.int .i64 _, .int .i64 _, .int .i64 _, .int .i64 _, .int .i64 _, .int .i64 _, .int .i64 _, .int .i64 _, .int .i64 _, .int .i64 _, .int .i64 _, .int .i64 _, .int .i64 _, .int .i64 _, .int .i64 _, .int .i64 _, .int .i64 _, .int .i64 _, .int .i64 _, .int .i64 _]) ty42 rfl (hc.det (j := 2) rfl rfl rfl rfl) rfl (cells_of_obj (n := 20) (hc.st.objL (List.mem_append_right _ (.tail _ (.head _)))) _ rfl) ⟨[], ⟨rfl, rfl⟩, hc.st⟩) <| RunD.op (det _) tab1 5 (fun f' L' w' hc => Op1.loadA (vs := [.int .i64 _, .int .i64 _]) ty29 rfl (hc.old (v := .pointer (some ⟨_, _, none⟩)) rfl rfl rfl) rfl (cells_of_obj (n := 2) (hc.st.objL (List.mem_append_right _ (.head _))) _ rfl) ⟨[], ⟨rfl, rfl⟩, hc.st⟩) <| RunD.own tab1 6 (.head _) (fun f' L' L2 w' hc hsel => Op1.store (v := .agg #[.int .i64 _, .int .i64 _, .int .i64 _, .int .i64 _, .int .i64 _, .int .i64 _, .int .i64 _, .int .i64 _, .int .i64 _, .int .i64 _, .int .i64 _, .int .i64 _, .int .i64 _, .int .i64 _, .int .i64 _, .int .i64 _, .int .i64 _, .int .i64 _, .int .i64 _, .int .i64 _]) hc.st ty42 (hc.old (v := .pointer (some ⟨_, _, none⟩)) rfl rfl rfl) (hc.det (j := 3) rfl rfl rfl rfl) rfl rfl rfl hsel (by repeat (first | exact Put.nil | apply Put.put | apply Put.skip)) fun w hst => ⟨rfl, hst⟩) ?_
   refine RunD.fin followsMixed tab1 hst rfl (fun f2 w R5 hs3 hd4 hr6 hst => ?_)
   obtain ⟨h15_, r0⟩ := hd4 0 15 rfl rfl
   obtain ⟨h16_, r1⟩ := hd4 1 16 rfl rfl
   obtain ⟨h17_, r2⟩ := hd4 2 17 rfl rfl
   obtain ⟨h18_, r3⟩ := hd4 3 18 rfl rfl
   obtain ⟨h19_, r4⟩ := hd4 4 19 rfl rfl
   obtain ⟨_, _, r5⟩ := hr6 5 rfl
   simp only [show List.range 6 = [0, 1, 2, 3, 4, 5] from rfl, List.flatMap_cons, List.flatMap_nil, List.map_cons, List.map_nil, r0, r1, r2, r3, r4, r5, List.nil_append, List.append_nil, List.cons_append] at hst
   refine RunL.slots (sl := [(2, .pointer (some ⟨_, _, none⟩)), (3, .pointer (some ⟨_, _, none⟩)), (19, .agg #[.int .i64 _, .int .i64 _])]) ⟨(hs3 2 rfl).trans rfl, (hs3 3 rfl).trans rfl, h19_, trivial⟩ ?_
   clear hs3 hd4 hr6 tab1
   refine CN (SO (v := .agg #[.int .i64 _, .int .i64 _]) hst ty29 rfl rfl (.there (.there (.there (.there (.here))))) fun w hst => ?_)
   refine NL <| run_ret2 Try.func15 rfl (RV.cellA (vs := [.int .i64 _, .int .i64 _, .int .i64 _, .int .i64 _, .int .i64 _, .int .i64 _, .int .i64 _, .int .i64 _, .int .i64 _, .int .i64 _, .int .i64 _, .int .i64 _, .int .i64 _, .int .i64 _, .int .i64 _, .int .i64 _, .int .i64 _, .int .i64 _, .int .i64 _, .int .i64 _]) rfl ty42 rfl rfl (cells_of_obj (n := 20) (hst.objL (.head _)) _ rfl)) (RV.cellA (vs := [.int .i64 _, .int .i64 _]) rfl ty29 rfl rfl (cells_of_obj (n := 2) (hst.objL (.tail _ (.tail _ (.tail _ (.tail _ (.head _)))))) _ rfl)) ?_
   replace hst := hst.pick .nil
   exact .inl ⟨hC, rfl, hst.noD⟩
 · skip
   replace hst : St _ _ _ _ _ := hst.call0 hp
   clear hp
   refine CN <| Op1.move (v := .tuple #[_, .agg #[.int .i64 _, .int .i64 _]]) rfl <| CN <| Op1.extract (v := _) rfl rfl <| CN <| Op1.extract (v := .agg #[.int .i64 _, .int .i64 _]) rfl rfl <| CN <| Op1.alloc hst ty29 fun w b5 hst => CN <| Op1.assign (v := _) rfl <| CN (SO (v := .agg #[.int .i64 _, .int .i64 _]) hst ty29 rfl rfl (.here) fun w hst => ?_)
   refine NL <| SQ <| SR <| CN <| Op1.move (v := _) rfl <| CN <| Op1.eqlNN ty62 rfl rfl <| NL <| run_cond_true (congrArg Value.bool (rfl : true = _)) <| SQ ?_
   replace hst := hst.pick (.cons (.there (.there (.here))) (.cons (.here) (.cons (.here) (.cons (.here) .nil))))
   apply RunD.start [(2, Res.row b2 42 _, Res.row b2 42 _)] hst (bs := [0, 0, 1, 7]) (ds := [some 13, some 14, none, none]) (htab := ⟨by kernel_rfl, by kernel_rfl, by kernel_rfl⟩)
   intro tab7
   refine RunD.op (det _) tab7 1 (fun f' L' w' hc => Op1.buildArr ty42 ty41 .nil ⟨[], ⟨rfl, rfl⟩, hc.st⟩) <| RunD.op (det _) tab7 2 (fun f' L' w' hc => Op1.loadA (vs := [.int .i64 _, .int .i64 _]) ty29 rfl (hc.old (v := .pointer (some ⟨_, _, none⟩)) rfl rfl rfl) rfl (cells_of_obj (n := 2) (hc.st.objL (List.mem_append_right _ (.head _))) _ rfl) ⟨[], ⟨rfl, rfl⟩, hc.st⟩) <| RunD.own tab7 3 (.head _) (fun f' L' L2 w' hc hsel => Op1.store (v := .agg #[.int .i64 _, .int .i64 _, .int .i64 _, .int .i64 _, .int .i64 _, .int .i64 _, .int .i64 _, .int .i64 _, .int .i64 _, .int .i64 _, .int .i64 _, .int .i64 _, .int .i64 _, .int .i64 _, .int .i64 _, .int .i64 _, .int .i64 _, .int .i64 _, .int .i64 _, .int .i64 _]) hc.st ty42 (hc.old (v := .pointer (some ⟨_, _, none⟩)) rfl rfl rfl) (hc.det (j := 0) rfl rfl rfl rfl) rfl rfl rfl hsel (by repeat (first | exact Put.nil | apply Put.put | apply Put.skip)) fun w hst => ⟨rfl, hst⟩) ?_
   refine RunD.fin followsMixed tab7 hst rfl (fun f8 w R11 hs9 hd10 hr12 hst => ?_)
   obtain ⟨h13_, r0⟩ := hd10 0 13 rfl rfl
   obtain ⟨h14_, r1⟩ := hd10 1 14 rfl rfl
   obtain ⟨_, _, r2⟩ := hr12 2 rfl
   simp only [show List.range 3 = [0, 1, 2] from rfl, List.flatMap_cons, List.flatMap_nil, List.map_cons, List.map_nil, r0, r1, r2, List.nil_append, List.append_nil, List.cons_append] at hst
   refine RunL.slots (sl := [(2, .pointer (some ⟨_, _, none⟩)), (3, .pointer (some ⟨_, _, none⟩)), (14, .agg #[.int .i64 _, .int .i64 _])]) ⟨(hs9 2 rfl).trans rfl, (hs9 3 rfl).trans rfl, h14_, trivial⟩ ?_
   clear hs9 hd10 hr12 tab7
   refine CN (SO (v := .agg #[.int .i64 _, .int .i64 _]) hst ty29 rfl rfl (.there (.there (.here))) fun w hst => ?_)
   refine NL <| run_ret2 Try.func15 rfl (RV.cellA (vs := [.int .i64 _, .int .i64 _, .int .i64 _, .int .i64 _, .int .i64 _, .int .i64 _, .int .i64 _, .int .i64 _, .int .i64 _, .int .i64 _, .int .i64 _, .int .i64 _, .int .i64 _, .int .i64 _, .int .i64 _, .int .i64 _, .int .i64 _, .int .i64 _, .int .i64 _, .int .i64 _]) rfl ty42 rfl rfl (cells_of_obj (n := 20) (hst.objL (.head _)) _ rfl)) (RV.cellA (vs := [.int .i64 _, .int .i64 _]) rfl ty29 rfl rfl (cells_of_obj (n := 2) (hst.objL (.tail _ (.tail _ (.head _)))) _ rfl)) ?_
   replace hst := hst.pick .nil
   exact .inr ⟨hne, rfl, hst.noD⟩
end Go.SK
namespace Go.SK
open Go Go.Proofs
theorem ent15 : Enters Try.prog 15 := ⟨Try.f15, _, Try.func15, by kernel_rfl, rfl⟩
end Go.SK
namespace Go.SK
open Go Go.Proofs
open Go.RowKit
theorem R5ly_PartsD {ga ba : Int} {l dm : List InstP} (hd : dm.map InstP.L = l.map InstP.L) (ao : Option Addr) (cp : Nat) (w : World) (hA : (Res.rmod ao dm).holds w) (hs : Small dm) : Ret Try.prog 15 #[.agg #[.int .u32 ga, .int .u32 ba, .slice ao dm.length cp]] w (fun v w' => ((checkF ba (l.map InstP.L)) = (0, 0) ∧ v = .tuple #[.agg #[.int .i64 ((topA (l.map InstP.L) 0) : Int), .int .i64 ((topA (l.map InstP.L) 1) : Int), .int .i64 ((topA (l.map InstP.L) 1) : Int), .int .i64 ((topA (l.map InstP.L) 2) : Int), .int .i64 ((topA (l.map InstP.L) 2) : Int), .int .i64 ((topA (l.map InstP.L) 3) : Int), .int .i64 ((topA (l.map InstP.L) 3) : Int), .int .i64 ((topA (l.map InstP.L) 4) : Int), .int .i64 ((topA (l.map InstP.L) 4) : Int), .int .i64 ((topA (l.map InstP.L) 5) : Int), .int .i64 ((topA (l.map InstP.L) 5) : Int), .int .i64 ((topA (l.map InstP.L) 6) : Int), .int .i64 ((topA (l.map InstP.L) 6) : Int), .int .i64 ((topA (l.map InstP.L) 7) : Int), .int .i64 ((topA (l.map InstP.L) 7) : Int), .int .i64 ((topA (l.map InstP.L) 8) : Int), .int .i64 ((topA (l.map InstP.L) 8) : Int), .int .i64 (l.length : Int), .int .i64 (l.length : Int), .int .i64 (l.length : Int)], .agg #[.int .i64 0, .int .i64 0]] ∧ St w NoM [] [] w') ∨ ((checkF ba (l.map InstP.L)).1 ≠ 0 ∧ v = .tuple #[.agg #[.int .i64 0, .int .i64 0, .int .i64 0, .int .i64 0, .int .i64 0, .int .i64 0, .int .i64 0, .int .i64 0, .int .i64 0, .int .i64 0, .int .i64 0, .int .i64 0, .int .i64 0, .int .i64 0, .int .i64 0, .int .i64 0, .int .i64 0, .int .i64 0, .int .i64 0, .int .i64 0], .agg #[.int .i64 (checkF ba (l.map InstP.L)).1, .int .i64 (checkF ba (l.map InstP.L)).2]] ∧ St w NoM [] [] w')) := by
 refine (R5ly_Parts ga ba dm ao cp w hA hs).mono fun v w' hp => ?_
 rw [hd, insts_len hd] at hp
 exact hp
end Go.SK
namespace Go.SK
open Go Go.Proofs
theorem fld54_1 : FldF Try.prog 54 1 1 := FldF.of (n := 0) (by kernel_rfl)
theorem fld56_1 : FldF Try.prog 56 1 1 := FldF.of (n := 0) (by kernel_rfl)
end Go.SK
namespace Go.SK
open Go Go.Proofs
open Go.RowKit
theorem R5ly_Cut (ga ba : Int) (l : List InstP) (ao : Option Addr) (cp : Nat) (w : World) (hA : (Res.rmod ao l).holds w) (hs : Small l) : Ret Try.prog 17 #[.agg #[.int .u32 ga, .int .u32 ba, .slice ao l.length cp]] w (fun v w' => (∃ fo fc xs, (checkF ba (l.map InstP.L)) = (0, 0) ∧ xs.map FunP.fu = funsK (l.map InstP.L) l.length ∧ v = .tuple #[.slice fo xs.length fc, .agg #[.int .i64 0, .int .i64 0]] ∧ St w NoM [Res.ofuns 54 3 56 fo fc xs] [] w') ∨ ((checkF ba (l.map InstP.L)).1 ≠ 0 ∧ v = .tuple #[.slice none 0 0, .agg #[.int .i64 (checkF ba (l.map InstP.L)).1, .int .i64 (checkF ba (l.map InstP.L)).2]] ∧ St w NoM [] [] w')) := by
 refine Ret.enter (args := [.agg #[.int .u32 ga, .int .u32 ba, .slice ao l.length cp]]) Try.func17 rfl rfl rfl ?_
 have hst : St w NoM [] [Res.rmod ao l] w := St.init_D hA
 clear hA
 refine SR <| CN <| Op1.box (v := .agg #[.int .u32 _, .int .u32 _, .slice _ _ _]) hst rfl rfl fun w b1 hst => AL rfl <| CN <| Op1.alloc hst ty29 fun w b3 hst => NSR <| CN <| Op1.loadA (vs := [.int .u32 _, .int .u32 _, .slice _ _ _]) ty25 rfl rfl rfl (cells_of_obj (n := 3) (hst.objL (.tail _ (.head _))) _ rfl) <| CN (Op1.call1 (v1 := .agg #[.int .u32 _, .int .u32 _, .slice _ _ _]) ent25 rfl rfl ((R5ly_read ga ba l _ _ _ (hst.hD _ (.head _)) hs).mono fun v w hp => ?_))
 rcases hp with ⟨bqr, fo, fc, xs, htp, hor, hC, hxs, rfl, hp⟩ | ⟨hne, rfl, hp⟩
 · skip
   replace hst : St _ _ (_ :: _ :: _) _ _ := hst.call0 hp
   clear hp
   refine CN <| Op1.move (v := .tuple #[.pointer (some ⟨_, _, none⟩), .agg #[.int .i64 _, .int .i64 _]]) rfl <| CN <| Op1.extract (v := .pointer (some ⟨_, _, none⟩)) rfl rfl <| CN <| Op1.extract (v := .agg #[.int .i64 _, .int .i64 _]) rfl rfl <| CN <| Op1.alloc hst ty29 fun w b5 hst => AP rfl <| CN (SO (v := .agg #[.int .i64 _, .int .i64 _]) hst ty29 rfl rfl (.here) fun w hst => ?_)
   refine NL <| SQ <| SR <| MP rfl <| CN <| Op1.eqlPN ty62 rfl rfl <| NL <| run_cond_false (congrArg Value.bool (rfl : false = _)) <| run_skip <| SQ <| RunD.start [] hst (bs := [0, 1, 3, 7, 0, 15, 63]) (ds := [some 14, some 15, some 16, some 17, some 18, some 2, none]) ⟨by kernel_rfl, by kernel_rfl, by kernel_rfl⟩ (fun tab1 => ?_)
   refine RunD.op (det _) tab1 1 (fun f' L' w' hc => Op1.move (v := .pointer (some ⟨_, _, none⟩)) (hc.old (v := .pointer (some ⟨_, _, none⟩)) rfl rfl rfl) ⟨[], ⟨rfl, rfl⟩, hc.st⟩) <| RunD.op (det _) tab1 2 (fun f' L' w' hc => Op1.nilCheckP (hc.det (j := 0) rfl rfl rfl rfl) ⟨[], ⟨rfl, rfl⟩, hc.st⟩) <| RunD.op (det _) tab1 3 (fun f' L' w' hc => Op1.fieldAddr fld69_3 (hc.det (j := 1) rfl rfl rfl rfl) ⟨[], ⟨rfl, rfl⟩, hc.st⟩) <| RunD.op (det _) tab1 4 (fun f' L' w' hc => Op1.load1 (v := .slice _ _ _) ty45 rfl (hc.det (j := 2) rfl rfl rfl rfl) (hc.st.cellL (List.mem_append_right _ (.tail _ (.head _))) rfl) ⟨[], ⟨rfl, rfl⟩, hc.st⟩) <| RunD.op (det _) tab1 5 (fun f' L' w' hc => Op1.loadA (vs := [.int .i64 _, .int .i64 _]) ty29 rfl (hc.old (v := .pointer (some ⟨_, _, none⟩)) rfl rfl rfl) rfl (cells_of_obj (n := 2) (hc.st.objL (List.mem_append_right _ (.head _))) _ rfl) ⟨[], ⟨rfl, rfl⟩, hc.st⟩) <| RunD.op (det _) tab1 6 (fun f' L' w' hc => Op1.assign (v := .slice _ _ _) (hc.det (j := 3) rfl rfl rfl rfl) ⟨[], ⟨rfl, rfl⟩, hc.st⟩) <| RunD.fin followsMixed tab1 hst rfl (fun f2 w R5 hs3 hd4 hr6 hst => ?_)
   obtain ⟨h14_, r0⟩ := hd4 0 14 rfl rfl
   obtain ⟨h15_, r1⟩ := hd4 1 15 rfl rfl
   obtain ⟨h16_, r2⟩ := hd4 2 16 rfl rfl
   obtain ⟨h17_, r3⟩ := hd4 3 17 rfl rfl
   obtain ⟨h18_, r4⟩ := hd4 4 18 rfl rfl
   obtain ⟨h2_, r5⟩ := hd4 5 2 rfl rfl
   simp only [show List.range 6 = [0, 1, 2, 3, 4, 5] from rfl, List.flatMap_cons, List.flatMap_nil, List.map_cons, List.map_nil, r0, r1, r2, r3, r4, r5, List.nil_append, List.append_nil, List.cons_append] at hst
   refine RunL.slots (sl := [(2, .slice _ _ _), (3, .pointer (some ⟨_, _, none⟩)), (18, .agg #[.int .i64 _, .int .i64 _])]) ⟨h2_, (hs3 3 rfl).trans rfl, h18_, trivial⟩ ?_
   clear hs3 hd4 hr6 tab1
   refine CN (SO (v := .agg #[.int .i64 _, .int .i64 _]) hst ty29 rfl rfl (.there (.there (.there (.here)))) fun w hst => ?_)
   refine NL <| run_ret2 Try.func17 rfl (TP (v := .slice _ _ _) rfl) (RV.cellA (vs := [.int .i64 _, .int .i64 _]) rfl ty29 rfl rfl (cells_of_obj (n := 2) (hst.objL (.tail _ (.tail _ (.tail _ (.head _))))) _ rfl)) ?_
   replace hst := hst.pick (.cons (.there (.there (.here))) .nil)
   exact .inl ⟨fo, fc, xs, hC, hxs, rfl, hst.noD⟩
 · skip
   replace hst : St _ _ _ _ _ := hst.call0 hp
   clear hp
   refine CN <| Op1.move (v := .tuple #[_, .agg #[.int .i64 _, .int .i64 _]]) rfl <| CN <| Op1.extract (v := _) rfl rfl <| CN <| Op1.extract (v := .agg #[.int .i64 _, .int .i64 _]) rfl rfl <| CN <| Op1.alloc hst ty29 fun w b5 hst => CN <| Op1.assign (v := _) rfl <| CN (SO (v := .agg #[.int .i64 _, .int .i64 _]) hst ty29 rfl rfl (.here) fun w hst => ?_)
   refine NL <| SQ <| SR <| CN <| Op1.move (v := _) rfl <| CN <| Op1.eqlNN ty62 rfl rfl <| NL <| run_cond_true (congrArg Value.bool (rfl : true = _)) <| SQ <| RunD.start [] hst (bs := [0, 0, 3]) (ds := [some 13, some 2, none]) ⟨by kernel_rfl, by kernel_rfl, by kernel_rfl⟩ (fun tab7 => ?_)
   refine RunD.op (det _) tab7 1 (fun f' L' w' hc => Op1.loadA (vs := [.int .i64 _, .int .i64 _]) ty29 rfl (hc.old (v := .pointer (some ⟨_, _, none⟩)) rfl rfl rfl) rfl (cells_of_obj (n := 2) (hc.st.objL (List.mem_append_right _ (.head _))) _ rfl) ⟨[], ⟨rfl, rfl⟩, hc.st⟩) <| RunD.op (det _) tab7 2 (fun f' L' w' hc => Op1.assign (v := .slice _ _ _) rfl ⟨[], ⟨rfl, rfl⟩, hc.st⟩) <| RunD.fin followsMixed tab7 hst rfl (fun f8 w R11 hs9 hd10 hr12 hst => ?_)
   obtain ⟨h13_, r0⟩ := hd10 0 13 rfl rfl
   obtain ⟨h2_, r1⟩ := hd10 1 2 rfl rfl
   simp only [show List.range 2 = [0, 1] from rfl, List.flatMap_cons, List.flatMap_nil, List.map_cons, List.map_nil, r0, r1, List.nil_append, List.append_nil, List.cons_append] at hst
   refine RunL.slots (sl := [(2, .slice _ _ _), (3, .pointer (some ⟨_, _, none⟩)), (13, .agg #[.int .i64 _, .int .i64 _])]) ⟨h2_, (hs9 3 rfl).trans rfl, h13_, trivial⟩ ?_
   clear hs9 hd10 hr12 tab7
   refine CN (SO (v := .agg #[.int .i64 _, .int .i64 _]) hst ty29 rfl rfl (.there (.here)) fun w hst => ?_)
   refine NL <| run_ret2 Try.func17 rfl (TP (v := .slice _ _ _) rfl) (RV.cellA (vs := [.int .i64 _, .int .i64 _]) rfl ty29 rfl rfl (cells_of_obj (n := 2) (hst.objL (.tail _ (.head _))) _ rfl)) ?_
   replace hst := hst.pick .nil
   exact .inr ⟨hne, rfl, hst.noD⟩
end Go.SK
namespace Go.SK
open Go Go.Proofs
theorem ent17 : Enters Try.prog 17 := ⟨Try.f17, _, Try.func17, by kernel_rfl, rfl⟩
theorem fld41_0 : FldF Try.prog 41 0 0 := FldF.of (n := 0) (by kernel_rfl)
theorem fld41_1 : FldF Try.prog 41 1 1 := FldF.of (n := 0) (by kernel_rfl)
theorem fld54_0 : FldF Try.prog 54 0 0 := FldF.of (n := 0) (by kernel_rfl)
theorem fld56_0 : FldF Try.prog 56 0 0 := FldF.of (n := 0) (by kernel_rfl)
end Go.SK
namespace Go.SK
open Go Go.Proofs
open Go.RowKit
theorem R5ly_CutD {ga ba : Int} {l dm : List InstP} (hd : dm.map InstP.L = l.map InstP.L) (ao : Option Addr) (cp : Nat) (w : World) (hA : (Res.rmod ao dm).holds w) (hs : Small dm) : Ret Try.prog 17 #[.agg #[.int .u32 ga, .int .u32 ba, .slice ao dm.length cp]] w (fun v w' => (∃ fo fc xs, (checkF ba (l.map InstP.L)) = (0, 0) ∧ xs.map FunP.fu = funsK (l.map InstP.L) l.length ∧ v = .tuple #[.slice fo xs.length fc, .agg #[.int .i64 0, .int .i64 0]] ∧ St w NoM [Res.ofuns 54 3 56 fo fc xs] [] w') ∨ ((checkF ba (l.map InstP.L)).1 ≠ 0 ∧ v = .tuple #[.slice none 0 0, .agg #[.int .i64 (checkF ba (l.map InstP.L)).1, .int .i64 (checkF ba (l.map InstP.L)).2]] ∧ St w NoM [] [] w')) := by
 refine (R5ly_Cut ga ba dm ao cp w hA hs).mono fun v w' hp => ?_
 rw [hd, insts_len hd] at hp
 exact hp
set_option maxHeartbeats 4000000 in
theorem R5law_LayoutWhole (ga ba : Int) (l : List InstP) (ao : Option Addr) (cp : Nat) (w : World) (hA : (Res.rmod ao l).holds w) (hs : Small l) : Ret Try.prog 7 #[.agg #[.int .u32 ga, .int .u32 ba, .slice ao l.length cp]] w (fun v w' => v = .bool true ∧ St w NoM [] [] w') := by
 refine Ret.enter (args := [.agg #[.int .u32 ga, .int .u32 ba, .slice ao l.length cp]]) Try.func7 rfl rfl rfl ?_
 have hst : St w NoM [] [Res.rmod ao l] w := St.init_D hA
 clear hA
 have hL : (l.map InstP.L).length = l.length := List.length_map _
 have hsl := hs.len
 refine SR <| CN <| Op1.box (v := .agg #[.int .u32 _, .int .u32 _, .slice _ _ _]) hst rfl rfl fun w b1 hst => AB rfl <| NSR <| CN <| Op1.loadA (vs := [.int .u32 _, .int .u32 _, .slice _ _ _]) ty25 rfl rfl rfl (cells_of_obj (n := 3) (hst.objL (.head _)) _ rfl) <| CN (Op1.call1 (v1 := .agg #[.int .u32 _, .int .u32 _, .slice _ _ _]) ent9 rfl rfl ((R5md_CopyModule _ _ l _ _ _ (hst.hD _ (.head _)) hs.lenC hs.laC).mono fun v w hp => ?_))
 obtain ⟨bM1, dM1, rfl, hdM1, hp⟩ := hp
 replace hst : St _ _ (_ :: _) _ _ := hst.call0 hp
 clear hp
 refine CN (Op1.call1 (v1 := .agg #[.int .u32 _, .int .u32 _, .slice _ _ _]) ent15 rfl rfl ((R5ly_PartsD hdM1 _ _ _ (Res.rmod_of_omod (hst.hL _ (.head _))) (Small.of hdM1 hs)).mono fun v w hp => ?_))
 rcases hp with ⟨hC, rfl, hp⟩ | ⟨hne, rfl, hp⟩
 · skip
   replace hst := hst.keepc hp
   clear hp
   refine CN <| Op1.move (v := .tuple #[.agg #[.int .i64 _, .int .i64 _, .int .i64 _, .int .i64 _, .int .i64 _, .int .i64 _, .int .i64 _, .int .i64 _, .int .i64 _, .int .i64 _, .int .i64 _, .int .i64 _, .int .i64 _, .int .i64 _, .int .i64 _, .int .i64 _, .int .i64 _, .int .i64 _, .int .i64 _, .int .i64 _], .agg #[.int .i64 _, .int .i64 _]]) rfl <| CN <| Op1.extract (v := .agg #[.int .i64 _, .int .i64 _, .int .i64 _, .int .i64 _, .int .i64 _, .int .i64 _, .int .i64 _, .int .i64 _, .int .i64 _, .int .i64 _, .int .i64 _, .int .i64 _, .int .i64 _, .int .i64 _, .int .i64 _, .int .i64 _, .int .i64 _, .int .i64 _, .int .i64 _, .int .i64 _]) rfl rfl <| CN <| Op1.extract (v := .agg #[.int .i64 _, .int .i64 _]) rfl rfl <| CN <| Op1.alloc hst ty42 fun w b3 hst => CN <| Op1.alloc hst ty29 fun w b4 hst => CN (SO (v := .agg #[.int .i64 _, .int .i64 _, .int .i64 _, .int .i64 _, .int .i64 _, .int .i64 _, .int .i64 _, .int .i64 _, .int .i64 _, .int .i64 _, .int .i64 _, .int .i64 _, .int .i64 _, .int .i64 _, .int .i64 _, .int .i64 _, .int .i64 _, .int .i64 _, .int .i64 _, .int .i64 _]) hst ty42 rfl rfl (.there (.here)) fun w hst => ?_)
   refine CN (SO (v := .agg #[.int .i64 _, .int .i64 _]) hst ty29 rfl rfl (.here) fun w hst => ?_)
   refine NSR <| CN <| Op1.loadA (vs := [.int .u32 _, .int .u32 _, .slice _ _ _]) ty25 rfl rfl rfl (cells_of_obj (n := 3) (hst.objL (.tail _ (.tail _ (.tail _ (.head _))))) _ rfl) <| CN (Op1.call1 (v1 := .agg #[.int .u32 _, .int .u32 _, .slice _ _ _]) ent9 rfl rfl ((R5md_CopyModule _ _ l _ _ _ (hst.hD _ (.head _)) hs.lenC hs.laC).mono fun v w hp => ?_))
   obtain ⟨bM2, dM2, rfl, hdM2, hp⟩ := hp
   replace hst : St _ _ (_ :: _) _ _ := hst.call0 hp
   clear hp
   refine CN (Op1.call1 (v1 := .agg #[.int .u32 _, .int .u32 _, .slice _ _ _]) ent17 rfl rfl ((R5ly_CutD hdM2 _ _ _ (Res.rmod_of_omod (hst.hL _ (.head _))) (Small.of hdM2 hs)).mono fun v w hp => ?_))
   rcases hp with ⟨fo, fc, xs, hC2, hxs, rfl, hp⟩ | ⟨hne2, _, _⟩
   · skip
     replace hst : St _ _ (_ :: _) _ _ := hst.call0 hp
     clear hp
     refine CN <| Op1.move (v := .tuple #[.slice _ _ _, .agg #[.int .i64 _, .int .i64 _]]) rfl <| CN <| Op1.extract (v := .slice _ _ _) rfl rfl <| CN <| Op1.extract (v := .agg #[.int .i64 _, .int .i64 _]) rfl rfl <| CN <| Op1.alloc hst ty29 fun w b6 hst => AL rfl <| CN (SO (v := .agg #[.int .i64 _, .int .i64 _]) hst ty29 rfl rfl (.here) fun w hst => ?_)
     refine NL <| SQ <| SQ <| RunD.start [] hst (bs := [0, 0, 3, 7, 15, 15, 47, 111, 255, 511]) (ds := [some 26, some 27, some 28, some 29, some 30, some 31, some 32, some 33, some 34, some 35]) ⟨by kernel_rfl, by kernel_rfl, by kernel_rfl⟩ (fun tab1 => ?_)
     refine RunD.op (det _) tab1 1 (fun f' L' w' hc => Op1.loadA (vs := [.int .i64 _, .int .i64 _]) ty29 rfl (hc.old (v := .pointer (some ⟨_, _, none⟩)) rfl rfl rfl) rfl (cells_of_obj (n := 2) (hc.st.objL (List.mem_append_right _ (.tail _ (.tail _ (.tail _ (.head _)))))) _ rfl) ⟨[], ⟨rfl, rfl⟩, hc.st⟩) <| RunD.op (det _) tab1 2 (fun f' L' w' hc => Op1.loadA (vs := [.int .i64 _, .int .i64 _]) ty29 rfl (hc.old (v := .pointer (some ⟨_, _, none⟩)) rfl rfl rfl) rfl (cells_of_obj (n := 2) (hc.st.objL (List.mem_append_right _ (.head _))) _ rfl) ⟨[], ⟨rfl, rfl⟩, hc.st⟩) <| RunD.op (det _) tab1 3 (fun f' L' w' hc => Op1.neqA (xs := [.int .i64 _, .int .i64 _]) (ys := [.int .i64 _, .int .i64 _]) (hc.det (j := 0) rfl rfl rfl rfl) (hc.det (j := 1) rfl rfl rfl rfl) (by kernel_rfl) (EqOk.struct Try.underlying29 (by kernel_rfl) (.cons (by decide) (PartOk.one ty27 rfl rfl) (PartOk.one ty27 rfl rfl) (EqOk.int ty27) (.cons (by decide) (PartOk.one ty3 rfl rfl) (PartOk.one ty3 rfl rfl) (EqOk.int ty3) .nil))) ⟨[], ⟨rfl, rfl⟩, hc.st⟩) <| RunD.op (det _) tab1 4 (fun f' L' w' hc => Op1.move (v := .bool _) (hc.det (j := 2) rfl rfl rfl rfl) ⟨[], ⟨rfl, rfl⟩, hc.st⟩) <| RunD.split (j := 3) rfl (fun g2 => ?_) (fun g2 => ?_)
     · skip
       exfalso
       simp at g2
     refine RunD.take (det _) tab1 5 rfl (fun f' L' w' hc => (hc.det (j := 3) rfl rfl rfl rfl).trans (congrArg Value.bool g2)) (fun f' L' w' hc => Op1.loadA (vs := [.int .i64 _, .int .i64 _]) ty29 rfl (hc.old (v := .pointer (some ⟨_, _, none⟩)) rfl rfl rfl) rfl (cells_of_obj (n := 2) (hc.st.objL (List.mem_append_right _ (.tail _ (.tail _ (.tail _ (.head _)))))) _ rfl) ⟨[], ⟨rfl, rfl⟩, hc.st⟩) <| RunD.take (det _) tab1 6 rfl (fun f' L' w' hc => (hc.det (j := 3) rfl rfl rfl rfl).trans (congrArg Value.bool g2)) (fun f' L' w' hc => Op1.loadA (vs := [.int .u32 _, .int .u32 _, .slice _ _ _]) ty25 rfl (hc.old (v := .pointer (some ⟨_, _, none⟩)) rfl rfl rfl) rfl (cells_of_obj (n := 3) (hc.st.objL (List.mem_append_right _ (.tail _ (.tail _ (.tail _ (.tail _ (.tail _ (.tail _ (.head _))))))))) _ rfl) ⟨[], ⟨rfl, rfl⟩, hc.st⟩) <| RunD.take (fun v rs => ∃ bE lE, v = .agg #[.int .u32 ga, .int .u32 ba, .slice (some ⟨bE, 0, none⟩) lE.length lE.length] ∧ lE.map InstP.L = l.map InstP.L ∧ rs = [Res.omod 39 35 (some ⟨bE, 0, none⟩) lE.length lE]) tab1 7 rfl (fun f' L' w' hc => (hc.det (j := 3) rfl rfl rfl rfl).trans (congrArg Value.bool g2)) (fun f' L' w' hc => Op1.call1 (v1 := .agg #[.int .u32 _, .int .u32 _, .slice _ _ _]) ent9 rfl (hc.det (j := 5) rfl rfl rfl rfl) ((R5md_CopyModule _ _ _ _ _ _ (hc.st.hD _ (.head _)) hs.lenC hs.laC).mono fun v w hp => (by obtain ⟨bE, lE, rfl, hdE, hp⟩ := hp; exact ⟨_, ⟨bE, lE, rfl, hdE, rfl⟩, hc.st.call0 hp⟩))) <| RunD.take (det (.agg #[.int .i64 0, .int .i64 0])) tab1 8 rfl (fun f' L' w' hc => (hc.det (j := 3) rfl rfl rfl rfl).trans (congrArg Value.bool g2)) (fun f' L' w' hc => by obtain ⟨_, rs, ⟨bE, lE, h32, hdE, hrs⟩, _, hm⟩ := hc.dep 6 32 rfl rfl; subst hrs; exact Op1.call1 (v1 := .agg #[.int .u32 _, .int .u32 _, .slice _ _ _]) ent10 rfl (evs h32 rfl) ((R5ly_CheckD (e := 0) (a := 0) (by rw [hdE]; exact hC) _ _ _ (Res.rmod_of_omod (hc.st.hL _ (List.mem_append_left _ (hm rfl _ (.head _))))) (Small.of hdE hs)).mono fun v w hp => ⟨[], ⟨hp.1, rfl⟩, hc.st.keepc hp.2⟩)) <| RunD.fin followsMixed tab1 hst rfl (fun f3 w R6 hs4 hd5 hr7 hst => ?_)
     obtain ⟨h26_, r0⟩ := hd5 0 26 rfl rfl
     obtain ⟨h27_, r1⟩ := hd5 1 27 rfl rfl
     obtain ⟨h28_, r2⟩ := hd5 2 28 rfl rfl
     obtain ⟨h29_, r3⟩ := hd5 3 29 rfl rfl
     obtain ⟨h30_, r4⟩ := hd5 4 30 rfl rfl
     obtain ⟨h31_, r5⟩ := hd5 5 31 rfl rfl
     obtain ⟨bE, lE, h32_, hdE, r6⟩ := hd5 6 32 rfl rfl
     obtain ⟨h33_, r7⟩ := hd5 7 33 rfl rfl
     simp only [show List.range 8 = [0, 1, 2, 3, 4, 5, 6, 7] from rfl, List.flatMap_cons, List.flatMap_nil, List.map_cons, List.map_nil, r0, r1, r2, r3, r4, r5, r6, r7, List.nil_append, List.append_nil, List.cons_append] at hst
     refine RunL.slots (sl := [(1, .pointer (some ⟨_, _, none⟩)), (3, .pointer (some ⟨_, _, none⟩)), (4, .pointer (some ⟨_, _, none⟩)), (5, .slice _ _ _), (29, .bool _), (30, .agg #[.int .i64 _, .int .i64 _]), (33, .agg #[.int .i64 _, .int .i64 _])]) ⟨(hs4 1 rfl).trans rfl, (hs4 3 rfl).trans rfl, (hs4 4 rfl).trans rfl, (hs4 5 rfl).trans rfl, h29_, h30_, h33_, trivial⟩ ?_
     clear hs4 hd5 hr7 tab1
     refine TK (t := 29) rfl (congrArg Value.bool g2) <| Op1.neqA (xs := [.int .i64 _, .int .i64 _]) (ys := [.int .i64 _, .int .i64 _]) rfl rfl (by kernel_rfl) (EqOk.struct Try.underlying29 (by kernel_rfl) (.cons (by decide) (PartOk.one ty27 rfl rfl) (PartOk.one ty27 rfl rfl) (EqOk.int ty27) (.cons (by decide) (PartOk.one ty3 rfl rfl) (PartOk.one ty3 rfl rfl) (EqOk.int ty3) .nil))) <| CN <| Op1.pickF (u := .bool _) (congrArg Value.bool g2) rfl <| NL <| Run.forget [(1, .pointer (some ⟨_, _, none⟩)), (3, .pointer (some ⟨_, _, none⟩)), (4, .pointer (some ⟨_, _, none⟩)), (5, .slice _ _ _), (35, .bool _)] ⟨rfl, rfl, rfl, rfl, rfl, trivial⟩ fun f => run_cond_split rfl (fun g8 => ?_) (fun g8 => ?_)
     · skip
       exfalso
       simp at g8
     refine run_skip <| SR <| CN <| Op1.call1 (v1 := .int .u32 _) ent13 rfl rfl <| Ret.det (R5kit_Enum _ _) hst fun w hst => CN <| Op1.call1 (v1 := .int .u32 _) ent13 rfl rfl <| Ret.det (R5kit_Enum _ _) hst fun w hst => CN (Op1.buildSl (z0 := [.int .u8 0, .int .u32 0, str [], .int .u8 0, .int .u32 0, str []]) hst ty37 ty35 rfl rfl (by kernel_rfl) (.c (v := .agg #[.int .u8 _, .int .u32 _, str _]) rfl (h := (.c (v := .agg #[.int .u8 _, .int .u32 _, str _]) rfl (h := .nil)))) fun w b38 hst => ?_)
     refine CN (Op1.buildStruct ty39 stf39 (.c (v := .int .u16 _) rfl (h := (.c (v := .slice _ _ _) rfl (h := .nil)))) ?_)
     refine CN (Op1.buildSl (z0 := [.int .u16 0, .int .u32 0, .int .u32 0, .slice none 0 0]) hst ty23 ty39 rfl rfl (by kernel_rfl) (.c (v := .agg #[.int .u16 _, .int .u32 _, .int .u32 _, .slice _ _ _]) rfl (h := .nil)) fun w b40 hst => ?_)
     refine CN (Op1.buildStruct ty25 stf25 (.c (v := .int .u32 _) rfl (h := (.c (v := .slice _ _ _) rfl (h := .nil)))) ?_)
     refine CN <| Op1.alloc hst ty25 fun w b7 hst => CN (SO (v := .agg #[.int .u32 _, .int .u32 _, .slice _ _ _]) hst ty25 rfl rfl (.here) fun w hst => ?_)
     refine NL <| SQ <| SQ ?_
     replace hst := hst.pick (.cons (.there (.there (.here))) (.cons (.here) (.cons (.here) (.cons (.here) (.cons (.here) (.cons (.here) (.cons (.here) (.cons (.here) (.cons (.here) (.cons (.here) (.cons (.here) .nil)))))))))))
     replace hst := St.rowSl (n := 2) (es := 3) hst rfl (by decide)
     replace hst := hst.pick (.cons (.there (.there (.here))) (.cons (.here) (.cons (.here) (.cons (.here) (.cons (.here) (.cons (.here) (.cons (.here) (.cons (.here) (.cons (.here) (.cons (.here) (.cons (.here) .nil)))))))))))
     replace hst := St.rowSl (n := 1) (es := 4) hst rfl (by decide)
     replace hst := hst.pick (.cons (.here) (.cons (.here) (.cons (.here) (.cons (.here) (.cons (.here) (.cons (.here) (.cons (.here) (.cons (.here) (.cons (.here) (.cons (.here) (.cons (.here) .nil)))))))))))
     replace hst : St _ _ (Res.omod 39 35 (some ⟨b40, 0, none⟩) 1 ([⟨14, 0, 0, some ⟨b38, 0, none⟩, 2, [⟨4, 0, []⟩, ⟨4, 0, []⟩]⟩] : List InstP) :: _) _ _ := hst.pack (L1 := [_, _])
     refine RG <| CN <| Op1.loadA (vs := [.int .u32 _, .int .u32 _, .slice _ _ _]) ty25 rfl rfl rfl (cells_of_obj (n := 3) (hst.objL (.tail _ (.head _))) _ rfl) <| CN <| Op1.call1 (v1 := .agg #[.int .u32 _, .int .u32 _, .slice _ _ _]) ent10 rfl rfl <| Ret.det (R5ly_CheckN (e := 0) (a := 0) (l := ([⟨14, 0, 0, some ⟨b38, 0, none⟩, 2, [⟨4, 0, []⟩, ⟨4, 0, []⟩]⟩] : List InstP)) rfl least_check _ _ _ (Res.rmod_of_omod (hst.hL _ (.head _))) (Small.least rfl)) hst fun w hst => CN (Op1.buildStruct ty29 stf29 .nil ?_)
     refine CN <| Op1.neqA (xs := [.int .i64 _, .int .i64 _]) (ys := [.int .i64 _, .int .i64 _]) rfl rfl (by kernel_rfl) (EqOk.struct Try.underlying29 (by kernel_rfl) (.cons (by decide) (PartOk.one ty27 rfl rfl) (PartOk.one ty27 rfl rfl) (EqOk.int ty27) (.cons (by decide) (PartOk.one ty3 rfl rfl) (PartOk.one ty3 rfl rfl) (EqOk.int ty3) .nil))) <| NL <| run_cond_split rfl (fun g9 => ?_) (fun g9 => ?_)
     · skip
       exfalso
       simp at g9
     refine run_skip <| SQ <| SR <| CN <| Op1.fieldAddr fld29_0 rfl <| CN <| Op1.load1 (v := .int .i64 _) ty27 rfl rfl (hst.cellL (.tail _ (.tail _ (.tail _ (.tail _ (.tail _ (.tail _ (.head _))))))) rfl) <| CN <| Op1.neq rfl rfl <| NL <| run_cond_dec rfl (fun g10 => ?_) (fun g10 => ?_)
     · skip
       exfalso
       exact g10 rfl
     obtain ⟨hS0, hor⟩ := check_good (bd := ba) (l := (l.map InstP.L)) (by rw [hC])
     have hor0 : orderF (l.map InstP.L) = (0, 0) := by rw [hor, hC]
     have hkm := known_map (shape_known hS0)
     have htp := top_ne hkm hor0
     have ht1 := top_one htp
     have hl2 := shape_len hS0
     rw [hL] at hl2
     have ht0 : topA (l.map InstP.L) 0 = 0 := rfl
     have hwt := whole_tile hkm hor0
     have hsz := siz_xs hxs
     have hm0 : topA (l.map InstP.L) 0 ≤ topA (l.map InstP.L) 1 := topA_mono 0
     have hm1 : topA (l.map InstP.L) 1 ≤ topA (l.map InstP.L) 2 := topA_mono 1
     have hm2 : topA (l.map InstP.L) 2 ≤ topA (l.map InstP.L) 3 := topA_mono 2
     have hm3 : topA (l.map InstP.L) 3 ≤ topA (l.map InstP.L) 4 := topA_mono 3
     have hm4 : topA (l.map InstP.L) 4 ≤ topA (l.map InstP.L) 5 := topA_mono 4
     have hm5 : topA (l.map InstP.L) 5 ≤ topA (l.map InstP.L) 6 := topA_mono 5
     have hm6 : topA (l.map InstP.L) 6 ≤ topA (l.map InstP.L) 7 := topA_mono 6
     have hm7 : topA (l.map InstP.L) 7 ≤ topA (l.map InstP.L) 8 := topA_mono 7
     have ht8 := topA_le (l := (l.map InstP.L)) 8
     rw [hL] at ht8
     have hw0 : FunW (l.map InstP.L) (topA (l.map InstP.L) 8) ((xs.map FunP.fu).drop 0) (l.map InstP.L).length := by rw [List.drop_zero, hxs, ← hL]; exact hwt
     refine run_skip <| SR <| AI rfl <| NL <| SQ <| SR <| AI rfl <| NL <| run_block <| run_loop <| SQ <| SQ <| RG ?_
     refine MI rfl <| CN <| Op1.lss rfl rfl <| NL <| Run.slots (sl := [(9, .int .i64 0)]) ⟨rfl, trivial⟩ <| run_cond_true (congrArg Value.bool (decide_eq_true (by decide))) <| run_skip <| SQ <| run_block <| SQ <| SR <| MI rfl <| CN <| Op1.indexArr ty42 ty41 rfl rfl (by decide) (by decide) <| RunL.slots (sl := [(62, .pointer (some ⟨b3, 0, none⟩))]) ⟨rfl, trivial⟩ <| CN (Op1.fieldAddr fld41_0 rfl ?_)
     refine CN <| Op1.load1 (v := .int .i64 _) ty3 rfl rfl (hst.cellL (.tail _ (.tail _ (.tail _ (.tail _ (.tail _ (.tail _ (.tail _ (.head _)))))))) rfl) <| MI rfl <| CN <| Op1.neq rfl rfl <| MB rfl <| RunL.splitD (d := 67) rfl (fun g11 => ?_) (fun g11 => ?_)
     · skip
       exfalso
       omega
     refine TK (t := 67) rfl (congrArg Value.bool (decide_eq_false g11)) <| Op1.move (v := .int .i64 _) rfl <| TK (t := 67) rfl (congrArg Value.bool (decide_eq_false g11)) <| Op1.indexArr ty42 ty41 rfl rfl (by decide) (by decide) <| RunL.slots (sl := [(69, .pointer (some ⟨b3, 0, none⟩))]) ⟨rfl, trivial⟩ <| TK (t := 67) rfl (congrArg Value.bool (decide_eq_false g11)) <| Op1.fieldAddr fld41_1 rfl <| TK (t := 67) rfl (congrArg Value.bool (decide_eq_false g11)) <| Op1.load1 (v := .int .i64 _) ty3 rfl rfl (hst.cellL (.tail _ (.tail _ (.tail _ (.tail _ (.tail _ (.tail _ (.tail _ (.head _)))))))) rfl) <| TK (t := 67) rfl (congrArg Value.bool (decide_eq_false g11)) <| Op1.move (v := .int .i64 _) rfl <| TK (t := 67) rfl (congrArg Value.bool (decide_eq_false g11)) <| Op1.lss rfl rfl <| CN <| Op1.pickF (u := .bool _) (congrArg Value.bool (decide_eq_false g11)) rfl <| NL <| Run.forget [(1, .pointer (some ⟨_, _, none⟩)), (3, .pointer (some ⟨_, _, none⟩)), (5, .slice _ _ _), (9, .int .i64 _), (74, .bool _)] ⟨rfl, rfl, rfl, rfl, rfl, trivial⟩ fun f => run_cond_dec rfl (fun g12 => ?_) (fun g12 => ?_)
     · skip
       exfalso
       omega
     refine run_skip <| RG <| MI rfl <| CN <| Op1.indexArr ty42 ty41 rfl rfl (by decide) (by decide) <| RunL.slots (sl := [(76, .pointer (some ⟨b3, 0, none⟩))]) ⟨rfl, trivial⟩ <| CN <| Op1.fieldAddr fld41_1 rfl <| CN <| Op1.load1 (v := .int .i64 _) ty3 rfl rfl (hst.cellL (.tail _ (.tail _ (.tail _ (.tail _ (.tail _ (.tail _ (.tail _ (.head _)))))))) rfl) <| AI rfl <| NL <| run_inBlock <| RG <| MI rfl <| CN <| Op1.addN rfl rfl rfl (wrap_i64 (by omega) (by omega)) <| AI rfl <| NL ?_
     refine run_inLoop <| SQ <| SR <| MI rfl <| CN <| Op1.lss rfl rfl <| NL <| Run.slots (sl := [(9, .int .i64 1)]) ⟨rfl, trivial⟩ <| run_cond_true (congrArg Value.bool (decide_eq_true (by decide))) <| run_skip <| SQ <| run_block <| SQ <| SQ <| RG ?_
     refine MI rfl <| CN <| Op1.indexArr ty42 ty41 rfl rfl (by decide) (by decide) <| RunL.slots (sl := [(62, .pointer (some ⟨b3, 2, none⟩))]) ⟨rfl, trivial⟩ <| CN <| Op1.fieldAddr fld41_0 rfl <| CN <| Op1.load1 (v := .int .i64 _) ty3 rfl rfl (hst.cellL (.tail _ (.tail _ (.tail _ (.tail _ (.tail _ (.tail _ (.tail _ (.head _)))))))) rfl) <| MI rfl <| CN <| Op1.neq rfl rfl <| MB rfl <| RunL.splitD (d := 67) rfl (fun g13 => ?_) (fun g13 => ?_)
     · skip
       exfalso
       omega
     refine TK (t := 67) rfl (congrArg Value.bool (decide_eq_false g13)) <| Op1.move (v := .int .i64 _) rfl <| TK (t := 67) rfl (congrArg Value.bool (decide_eq_false g13)) <| Op1.indexArr ty42 ty41 rfl rfl (by decide) (by decide) <| RunL.slots (sl := [(69, .pointer (some ⟨b3, 2, none⟩))]) ⟨rfl, trivial⟩ <| TK (t := 67) rfl (congrArg Value.bool (decide_eq_false g13)) <| Op1.fieldAddr fld41_1 rfl <| TK (t := 67) rfl (congrArg Value.bool (decide_eq_false g13)) <| Op1.load1 (v := .int .i64 _) ty3 rfl rfl (hst.cellL (.tail _ (.tail _ (.tail _ (.tail _ (.tail _ (.tail _ (.tail _ (.head _)))))))) rfl) <| TK (t := 67) rfl (congrArg Value.bool (decide_eq_false g13)) <| Op1.move (v := .int .i64 _) rfl <| TK (t := 67) rfl (congrArg Value.bool (decide_eq_false g13)) <| Op1.lss rfl rfl <| CN <| Op1.pickF (u := .bool _) (congrArg Value.bool (decide_eq_false g13)) rfl <| NL <| Run.forget [(1, .pointer (some ⟨_, _, none⟩)), (3, .pointer (some ⟨_, _, none⟩)), (5, .slice _ _ _), (9, .int .i64 _), (74, .bool _)] ⟨rfl, rfl, rfl, rfl, rfl, trivial⟩ fun f => run_cond_dec rfl (fun g14 => ?_) (fun g14 => ?_)
     · skip
       exfalso
       omega
     refine run_skip <| RG <| MI rfl <| CN <| Op1.indexArr ty42 ty41 rfl rfl (by decide) (by decide) <| RunL.slots (sl := [(76, .pointer (some ⟨b3, 2, none⟩))]) ⟨rfl, trivial⟩ <| CN <| Op1.fieldAddr fld41_1 rfl <| CN <| Op1.load1 (v := .int .i64 _) ty3 rfl rfl (hst.cellL (.tail _ (.tail _ (.tail _ (.tail _ (.tail _ (.tail _ (.tail _ (.head _)))))))) rfl) <| AI rfl <| NL <| run_inBlock <| RG <| MI rfl <| CN <| Op1.addN rfl rfl rfl (wrap_i64 (by omega) (by omega)) <| AI rfl <| NL ?_
     refine run_inLoop <| SQ <| SR <| MI rfl <| CN <| Op1.lss rfl rfl <| NL <| Run.slots (sl := [(9, .int .i64 2)]) ⟨rfl, trivial⟩ <| run_cond_true (congrArg Value.bool (decide_eq_true (by decide))) <| run_skip <| SQ <| run_block <| SQ <| SQ <| RG ?_
     refine MI rfl <| CN <| Op1.indexArr ty42 ty41 rfl rfl (by decide) (by decide) <| RunL.slots (sl := [(62, .pointer (some ⟨b3, 4, none⟩))]) ⟨rfl, trivial⟩ <| CN <| Op1.fieldAddr fld41_0 rfl <| CN <| Op1.load1 (v := .int .i64 _) ty3 rfl rfl (hst.cellL (.tail _ (.tail _ (.tail _ (.tail _ (.tail _ (.tail _ (.tail _ (.head _)))))))) rfl) <| MI rfl <| CN <| Op1.neq rfl rfl <| MB rfl <| RunL.splitD (d := 67) rfl (fun g15 => ?_) (fun g15 => ?_)
     · skip
       exfalso
       omega
     refine TK (t := 67) rfl (congrArg Value.bool (decide_eq_false g15)) <| Op1.move (v := .int .i64 _) rfl <| TK (t := 67) rfl (congrArg Value.bool (decide_eq_false g15)) <| Op1.indexArr ty42 ty41 rfl rfl (by decide) (by decide) <| RunL.slots (sl := [(69, .pointer (some ⟨b3, 4, none⟩))]) ⟨rfl, trivial⟩ <| TK (t := 67) rfl (congrArg Value.bool (decide_eq_false g15)) <| Op1.fieldAddr fld41_1 rfl <| TK (t := 67) rfl (congrArg Value.bool (decide_eq_false g15)) <| Op1.load1 (v := .int .i64 _) ty3 rfl rfl (hst.cellL (.tail _ (.tail _ (.tail _ (.tail _ (.tail _ (.tail _ (.tail _ (.head _)))))))) rfl) <| TK (t := 67) rfl (congrArg Value.bool (decide_eq_false g15)) <| Op1.move (v := .int .i64 _) rfl <| TK (t := 67) rfl (congrArg Value.bool (decide_eq_false g15)) <| Op1.lss rfl rfl <| CN <| Op1.pickF (u := .bool _) (congrArg Value.bool (decide_eq_false g15)) rfl <| NL <| Run.forget [(1, .pointer (some ⟨_, _, none⟩)), (3, .pointer (some ⟨_, _, none⟩)), (5, .slice _ _ _), (9, .int .i64 _), (74, .bool _)] ⟨rfl, rfl, rfl, rfl, rfl, trivial⟩ fun f => run_cond_dec rfl (fun g16 => ?_) (fun g16 => ?_)
     · skip
       exfalso
       omega
     refine run_skip <| RG <| MI rfl <| CN <| Op1.indexArr ty42 ty41 rfl rfl (by decide) (by decide) <| RunL.slots (sl := [(76, .pointer (some ⟨b3, 4, none⟩))]) ⟨rfl, trivial⟩ <| CN <| Op1.fieldAddr fld41_1 rfl <| CN <| Op1.load1 (v := .int .i64 _) ty3 rfl rfl (hst.cellL (.tail _ (.tail _ (.tail _ (.tail _ (.tail _ (.tail _ (.tail _ (.head _)))))))) rfl) <| AI rfl <| NL <| run_inBlock <| RG <| MI rfl <| CN <| Op1.addN rfl rfl rfl (wrap_i64 (by omega) (by omega)) <| AI rfl <| NL ?_
     refine run_inLoop <| SQ <| SR <| MI rfl <| CN <| Op1.lss rfl rfl <| NL <| Run.slots (sl := [(9, .int .i64 3)]) ⟨rfl, trivial⟩ <| run_cond_true (congrArg Value.bool (decide_eq_true (by decide))) <| run_skip <| SQ <| run_block <| SQ <| SQ <| RG ?_
     refine MI rfl <| CN <| Op1.indexArr ty42 ty41 rfl rfl (by decide) (by decide) <| RunL.slots (sl := [(62, .pointer (some ⟨b3, 6, none⟩))]) ⟨rfl, trivial⟩ <| CN <| Op1.fieldAddr fld41_0 rfl <| CN <| Op1.load1 (v := .int .i64 _) ty3 rfl rfl (hst.cellL (.tail _ (.tail _ (.tail _ (.tail _ (.tail _ (.tail _ (.tail _ (.head _)))))))) rfl) <| MI rfl <| CN <| Op1.neq rfl rfl <| MB rfl <| RunL.splitD (d := 67) rfl (fun g17 => ?_) (fun g17 => ?_)
     · skip
       exfalso
       omega
     refine TK (t := 67) rfl (congrArg Value.bool (decide_eq_false g17)) <| Op1.move (v := .int .i64 _) rfl <| TK (t := 67) rfl (congrArg Value.bool (decide_eq_false g17)) <| Op1.indexArr ty42 ty41 rfl rfl (by decide) (by decide) <| RunL.slots (sl := [(69, .pointer (some ⟨b3, 6, none⟩))]) ⟨rfl, trivial⟩ <| TK (t := 67) rfl (congrArg Value.bool (decide_eq_false g17)) <| Op1.fieldAddr fld41_1 rfl <| TK (t := 67) rfl (congrArg Value.bool (decide_eq_false g17)) <| Op1.load1 (v := .int .i64 _) ty3 rfl rfl (hst.cellL (.tail _ (.tail _ (.tail _ (.tail _ (.tail _ (.tail _ (.tail _ (.head _)))))))) rfl) <| TK (t := 67) rfl (congrArg Value.bool (decide_eq_false g17)) <| Op1.move (v := .int .i64 _) rfl <| TK (t := 67) rfl (congrArg Value.bool (decide_eq_false g17)) <| Op1.lss rfl rfl <| CN <| Op1.pickF (u := .bool _) (congrArg Value.bool (decide_eq_false g17)) rfl <| NL <| Run.forget [(1, .pointer (some ⟨_, _, none⟩)), (3, .pointer (some ⟨_, _, none⟩)), (5, .slice _ _ _), (9, .int .i64 _), (74, .bool _)] ⟨rfl, rfl, rfl, rfl, rfl, trivial⟩ fun f => run_cond_dec rfl (fun g18 => ?_) (fun g18 => ?_)
     · skip
       exfalso
       omega
     refine run_skip <| RG <| MI rfl <| CN <| Op1.indexArr ty42 ty41 rfl rfl (by decide) (by decide) <| RunL.slots (sl := [(76, .pointer (some ⟨b3, 6, none⟩))]) ⟨rfl, trivial⟩ <| CN <| Op1.fieldAddr fld41_1 rfl <| CN <| Op1.load1 (v := .int .i64 _) ty3 rfl rfl (hst.cellL (.tail _ (.tail _ (.tail _ (.tail _ (.tail _ (.tail _ (.tail _ (.head _)))))))) rfl) <| AI rfl <| NL <| run_inBlock <| RG <| MI rfl <| CN <| Op1.addN rfl rfl rfl (wrap_i64 (by omega) (by omega)) <| AI rfl <| NL ?_
     refine run_inLoop <| SQ <| SR <| MI rfl <| CN <| Op1.lss rfl rfl <| NL <| Run.slots (sl := [(9, .int .i64 4)]) ⟨rfl, trivial⟩ <| run_cond_true (congrArg Value.bool (decide_eq_true (by decide))) <| run_skip <| SQ <| run_block <| SQ <| SQ <| RG ?_
     refine MI rfl <| CN <| Op1.indexArr ty42 ty41 rfl rfl (by decide) (by decide) <| RunL.slots (sl := [(62, .pointer (some ⟨b3, 8, none⟩))]) ⟨rfl, trivial⟩ <| CN <| Op1.fieldAddr fld41_0 rfl <| CN <| Op1.load1 (v := .int .i64 _) ty3 rfl rfl (hst.cellL (.tail _ (.tail _ (.tail _ (.tail _ (.tail _ (.tail _ (.tail _ (.head _)))))))) rfl) <| MI rfl <| CN <| Op1.neq rfl rfl <| MB rfl <| RunL.splitD (d := 67) rfl (fun g19 => ?_) (fun g19 => ?_)
     · skip
       exfalso
       omega
     refine TK (t := 67) rfl (congrArg Value.bool (decide_eq_false g19)) <| Op1.move (v := .int .i64 _) rfl <| TK (t := 67) rfl (congrArg Value.bool (decide_eq_false g19)) <| Op1.indexArr ty42 ty41 rfl rfl (by decide) (by decide) <| RunL.slots (sl := [(69, .pointer (some ⟨b3, 8, none⟩))]) ⟨rfl, trivial⟩ <| TK (t := 67) rfl (congrArg Value.bool (decide_eq_false g19)) <| Op1.fieldAddr fld41_1 rfl <| TK (t := 67) rfl (congrArg Value.bool (decide_eq_false g19)) <| Op1.load1 (v := .int .i64 _) ty3 rfl rfl (hst.cellL (.tail _ (.tail _ (.tail _ (.tail _ (.tail _ (.tail _ (.tail _ (.head _)))))))) rfl) <| TK (t := 67) rfl (congrArg Value.bool (decide_eq_false g19)) <| Op1.move (v := .int .i64 _) rfl <| TK (t := 67) rfl (congrArg Value.bool (decide_eq_false g19)) <| Op1.lss rfl rfl <| CN <| Op1.pickF (u := .bool _) (congrArg Value.bool (decide_eq_false g19)) rfl <| NL <| Run.forget [(1, .pointer (some ⟨_, _, none⟩)), (3, .pointer (some ⟨_, _, none⟩)), (5, .slice _ _ _), (9, .int .i64 _), (74, .bool _)] ⟨rfl, rfl, rfl, rfl, rfl, trivial⟩ fun f => run_cond_dec rfl (fun g20 => ?_) (fun g20 => ?_)
     · skip
       exfalso
       omega
     refine run_skip <| RG <| MI rfl <| CN <| Op1.indexArr ty42 ty41 rfl rfl (by decide) (by decide) <| RunL.slots (sl := [(76, .pointer (some ⟨b3, 8, none⟩))]) ⟨rfl, trivial⟩ <| CN <| Op1.fieldAddr fld41_1 rfl <| CN <| Op1.load1 (v := .int .i64 _) ty3 rfl rfl (hst.cellL (.tail _ (.tail _ (.tail _ (.tail _ (.tail _ (.tail _ (.tail _ (.head _)))))))) rfl) <| AI rfl <| NL <| run_inBlock <| RG <| MI rfl <| CN <| Op1.addN rfl rfl rfl (wrap_i64 (by omega) (by omega)) <| AI rfl <| NL ?_
     refine run_inLoop <| SQ <| SR <| MI rfl <| CN <| Op1.lss rfl rfl <| NL <| Run.slots (sl := [(9, .int .i64 5)]) ⟨rfl, trivial⟩ <| run_cond_true (congrArg Value.bool (decide_eq_true (by decide))) <| run_skip <| SQ <| run_block <| SQ <| SQ <| RG ?_
     refine MI rfl <| CN <| Op1.indexArr ty42 ty41 rfl rfl (by decide) (by decide) <| RunL.slots (sl := [(62, .pointer (some ⟨b3, 10, none⟩))]) ⟨rfl, trivial⟩ <| CN <| Op1.fieldAddr fld41_0 rfl <| CN <| Op1.load1 (v := .int .i64 _) ty3 rfl rfl (hst.cellL (.tail _ (.tail _ (.tail _ (.tail _ (.tail _ (.tail _ (.tail _ (.head _)))))))) rfl) <| MI rfl <| CN <| Op1.neq rfl rfl <| MB rfl <| RunL.splitD (d := 67) rfl (fun g21 => ?_) (fun g21 => ?_)
     · skip
       exfalso
       omega
     refine TK (t := 67) rfl (congrArg Value.bool (decide_eq_false g21)) <| Op1.move (v := .int .i64 _) rfl <| TK (t := 67) rfl (congrArg Value.bool (decide_eq_false g21)) <| Op1.indexArr ty42 ty41 rfl rfl (by decide) (by decide) <| RunL.slots (sl := [(69, .pointer (some ⟨b3, 10, none⟩))]) ⟨rfl, trivial⟩ <| TK (t := 67) rfl (congrArg Value.bool (decide_eq_false g21)) <| Op1.fieldAddr fld41_1 rfl <| TK (t := 67) rfl (congrArg Value.bool (decide_eq_false g21)) <| Op1.load1 (v := .int .i64 _) ty3 rfl rfl (hst.cellL (.tail _ (.tail _ (.tail _ (.tail _ (.tail _ (.tail _ (.tail _ (.head _)))))))) rfl) <| TK (t := 67) rfl (congrArg Value.bool (decide_eq_false g21)) <| Op1.move (v := .int .i64 _) rfl <| TK (t := 67) rfl (congrArg Value.bool (decide_eq_false g21)) <| Op1.lss rfl rfl <| CN <| Op1.pickF (u := .bool _) (congrArg Value.bool (decide_eq_false g21)) rfl <| NL <| Run.forget [(1, .pointer (some ⟨_, _, none⟩)), (3, .pointer (some ⟨_, _, none⟩)), (5, .slice _ _ _), (9, .int .i64 _), (74, .bool _)] ⟨rfl, rfl, rfl, rfl, rfl, trivial⟩ fun f => run_cond_dec rfl (fun g22 => ?_) (fun g22 => ?_)
     · skip
       exfalso
       omega
     refine run_skip <| RG <| MI rfl <| CN <| Op1.indexArr ty42 ty41 rfl rfl (by decide) (by decide) <| RunL.slots (sl := [(76, .pointer (some ⟨b3, 10, none⟩))]) ⟨rfl, trivial⟩ <| CN <| Op1.fieldAddr fld41_1 rfl <| CN <| Op1.load1 (v := .int .i64 _) ty3 rfl rfl (hst.cellL (.tail _ (.tail _ (.tail _ (.tail _ (.tail _ (.tail _ (.tail _ (.head _)))))))) rfl) <| AI rfl <| NL <| run_inBlock <| RG <| MI rfl <| CN <| Op1.addN rfl rfl rfl (wrap_i64 (by omega) (by omega)) <| AI rfl <| NL ?_
     refine run_inLoop <| SQ <| SR <| MI rfl <| CN <| Op1.lss rfl rfl <| NL <| Run.slots (sl := [(9, .int .i64 6)]) ⟨rfl, trivial⟩ <| run_cond_true (congrArg Value.bool (decide_eq_true (by decide))) <| run_skip <| SQ <| run_block <| SQ <| SQ <| RG ?_
     refine MI rfl <| CN <| Op1.indexArr ty42 ty41 rfl rfl (by decide) (by decide) <| RunL.slots (sl := [(62, .pointer (some ⟨b3, 12, none⟩))]) ⟨rfl, trivial⟩ <| CN <| Op1.fieldAddr fld41_0 rfl <| CN <| Op1.load1 (v := .int .i64 _) ty3 rfl rfl (hst.cellL (.tail _ (.tail _ (.tail _ (.tail _ (.tail _ (.tail _ (.tail _ (.head _)))))))) rfl) <| MI rfl <| CN <| Op1.neq rfl rfl <| MB rfl <| RunL.splitD (d := 67) rfl (fun g23 => ?_) (fun g23 => ?_)
     · skip
       exfalso
       omega
     refine TK (t := 67) rfl (congrArg Value.bool (decide_eq_false g23)) <| Op1.move (v := .int .i64 _) rfl <| TK (t := 67) rfl (congrArg Value.bool (decide_eq_false g23)) <| Op1.indexArr ty42 ty41 rfl rfl (by decide) (by decide) <| RunL.slots (sl := [(69, .pointer (some ⟨b3, 12, none⟩))]) ⟨rfl, trivial⟩ <| TK (t := 67) rfl (congrArg Value.bool (decide_eq_false g23)) <| Op1.fieldAddr fld41_1 rfl <| TK (t := 67) rfl (congrArg Value.bool (decide_eq_false g23)) <| Op1.load1 (v := .int .i64 _) ty3 rfl rfl (hst.cellL (.tail _ (.tail _ (.tail _ (.tail _ (.tail _ (.tail _ (.tail _ (.head _)))))))) rfl) <| TK (t := 67) rfl (congrArg Value.bool (decide_eq_false g23)) <| Op1.move (v := .int .i64 _) rfl <| TK (t := 67) rfl (congrArg Value.bool (decide_eq_false g23)) <| Op1.lss rfl rfl <| CN <| Op1.pickF (u := .bool _) (congrArg Value.bool (decide_eq_false g23)) rfl <| NL <| Run.forget [(1, .pointer (some ⟨_, _, none⟩)), (3, .pointer (some ⟨_, _, none⟩)), (5, .slice _ _ _), (9, .int .i64 _), (74, .bool _)] ⟨rfl, rfl, rfl, rfl, rfl, trivial⟩ fun f => run_cond_dec rfl (fun g24 => ?_) (fun g24 => ?_)
     · skip
       exfalso
       omega
     refine run_skip <| RG <| MI rfl <| CN <| Op1.indexArr ty42 ty41 rfl rfl (by decide) (by decide) <| RunL.slots (sl := [(76, .pointer (some ⟨b3, 12, none⟩))]) ⟨rfl, trivial⟩ <| CN <| Op1.fieldAddr fld41_1 rfl <| CN <| Op1.load1 (v := .int .i64 _) ty3 rfl rfl (hst.cellL (.tail _ (.tail _ (.tail _ (.tail _ (.tail _ (.tail _ (.tail _ (.head _)))))))) rfl) <| AI rfl <| NL <| run_inBlock <| RG <| MI rfl <| CN <| Op1.addN rfl rfl rfl (wrap_i64 (by omega) (by omega)) <| AI rfl <| NL ?_
     refine run_inLoop <| SQ <| SR <| MI rfl <| CN <| Op1.lss rfl rfl <| NL <| Run.slots (sl := [(9, .int .i64 7)]) ⟨rfl, trivial⟩ <| run_cond_true (congrArg Value.bool (decide_eq_true (by decide))) <| run_skip <| SQ <| run_block <| SQ <| SQ <| RG ?_
     refine MI rfl <| CN <| Op1.indexArr ty42 ty41 rfl rfl (by decide) (by decide) <| RunL.slots (sl := [(62, .pointer (some ⟨b3, 14, none⟩))]) ⟨rfl, trivial⟩ <| CN <| Op1.fieldAddr fld41_0 rfl <| CN <| Op1.load1 (v := .int .i64 _) ty3 rfl rfl (hst.cellL (.tail _ (.tail _ (.tail _ (.tail _ (.tail _ (.tail _ (.tail _ (.head _)))))))) rfl) <| MI rfl <| CN <| Op1.neq rfl rfl <| MB rfl <| RunL.splitD (d := 67) rfl (fun g25 => ?_) (fun g25 => ?_)
     · skip
       exfalso
       omega
     refine TK (t := 67) rfl (congrArg Value.bool (decide_eq_false g25)) <| Op1.move (v := .int .i64 _) rfl <| TK (t := 67) rfl (congrArg Value.bool (decide_eq_false g25)) <| Op1.indexArr ty42 ty41 rfl rfl (by decide) (by decide) <| RunL.slots (sl := [(69, .pointer (some ⟨b3, 14, none⟩))]) ⟨rfl, trivial⟩ <| TK (t := 67) rfl (congrArg Value.bool (decide_eq_false g25)) <| Op1.fieldAddr fld41_1 rfl <| TK (t := 67) rfl (congrArg Value.bool (decide_eq_false g25)) <| Op1.load1 (v := .int .i64 _) ty3 rfl rfl (hst.cellL (.tail _ (.tail _ (.tail _ (.tail _ (.tail _ (.tail _ (.tail _ (.head _)))))))) rfl) <| TK (t := 67) rfl (congrArg Value.bool (decide_eq_false g25)) <| Op1.move (v := .int .i64 _) rfl <| TK (t := 67) rfl (congrArg Value.bool (decide_eq_false g25)) <| Op1.lss rfl rfl <| CN <| Op1.pickF (u := .bool _) (congrArg Value.bool (decide_eq_false g25)) rfl <| NL <| Run.forget [(1, .pointer (some ⟨_, _, none⟩)), (3, .pointer (some ⟨_, _, none⟩)), (5, .slice _ _ _), (9, .int .i64 _), (74, .bool _)] ⟨rfl, rfl, rfl, rfl, rfl, trivial⟩ fun f => run_cond_dec rfl (fun g26 => ?_) (fun g26 => ?_)
     · skip
       exfalso
       omega
     refine run_skip <| RG <| MI rfl <| CN <| Op1.indexArr ty42 ty41 rfl rfl (by decide) (by decide) <| RunL.slots (sl := [(76, .pointer (some ⟨b3, 14, none⟩))]) ⟨rfl, trivial⟩ <| CN <| Op1.fieldAddr fld41_1 rfl <| CN <| Op1.load1 (v := .int .i64 _) ty3 rfl rfl (hst.cellL (.tail _ (.tail _ (.tail _ (.tail _ (.tail _ (.tail _ (.tail _ (.head _)))))))) rfl) <| AI rfl <| NL <| run_inBlock <| RG <| MI rfl <| CN <| Op1.addN rfl rfl rfl (wrap_i64 (by omega) (by omega)) <| AI rfl <| NL ?_
     refine run_inLoop <| SQ <| SR <| MI rfl <| CN <| Op1.lss rfl rfl <| NL <| Run.slots (sl := [(9, .int .i64 8)]) ⟨rfl, trivial⟩ <| run_cond_true (congrArg Value.bool (decide_eq_true (by decide))) <| run_skip <| SQ <| run_block <| SQ <| SQ <| RG ?_
     refine MI rfl <| CN <| Op1.indexArr ty42 ty41 rfl rfl (by decide) (by decide) <| RunL.slots (sl := [(62, .pointer (some ⟨b3, 16, none⟩))]) ⟨rfl, trivial⟩ <| CN <| Op1.fieldAddr fld41_0 rfl <| CN <| Op1.load1 (v := .int .i64 _) ty3 rfl rfl (hst.cellL (.tail _ (.tail _ (.tail _ (.tail _ (.tail _ (.tail _ (.tail _ (.head _)))))))) rfl) <| MI rfl <| CN <| Op1.neq rfl rfl <| MB rfl <| RunL.splitD (d := 67) rfl (fun g27 => ?_) (fun g27 => ?_)
     · skip
       exfalso
       omega
     refine TK (t := 67) rfl (congrArg Value.bool (decide_eq_false g27)) <| Op1.move (v := .int .i64 _) rfl <| TK (t := 67) rfl (congrArg Value.bool (decide_eq_false g27)) <| Op1.indexArr ty42 ty41 rfl rfl (by decide) (by decide) <| RunL.slots (sl := [(69, .pointer (some ⟨b3, 16, none⟩))]) ⟨rfl, trivial⟩ <| TK (t := 67) rfl (congrArg Value.bool (decide_eq_false g27)) <| Op1.fieldAddr fld41_1 rfl <| TK (t := 67) rfl (congrArg Value.bool (decide_eq_false g27)) <| Op1.load1 (v := .int .i64 _) ty3 rfl rfl (hst.cellL (.tail _ (.tail _ (.tail _ (.tail _ (.tail _ (.tail _ (.tail _ (.head _)))))))) rfl) <| TK (t := 67) rfl (congrArg Value.bool (decide_eq_false g27)) <| Op1.move (v := .int .i64 _) rfl <| TK (t := 67) rfl (congrArg Value.bool (decide_eq_false g27)) <| Op1.lss rfl rfl <| CN <| Op1.pickF (u := .bool _) (congrArg Value.bool (decide_eq_false g27)) rfl <| NL <| Run.forget [(1, .pointer (some ⟨_, _, none⟩)), (3, .pointer (some ⟨_, _, none⟩)), (5, .slice _ _ _), (9, .int .i64 _), (74, .bool _)] ⟨rfl, rfl, rfl, rfl, rfl, trivial⟩ fun f => run_cond_dec rfl (fun g28 => ?_) (fun g28 => ?_)
     · skip
       exfalso
       omega
     refine run_skip <| RG <| MI rfl <| CN <| Op1.indexArr ty42 ty41 rfl rfl (by decide) (by decide) <| RunL.slots (sl := [(76, .pointer (some ⟨b3, 16, none⟩))]) ⟨rfl, trivial⟩ <| CN <| Op1.fieldAddr fld41_1 rfl <| CN <| Op1.load1 (v := .int .i64 _) ty3 rfl rfl (hst.cellL (.tail _ (.tail _ (.tail _ (.tail _ (.tail _ (.tail _ (.tail _ (.head _)))))))) rfl) <| AI rfl <| NL <| run_inBlock <| RG <| MI rfl <| CN <| Op1.addN rfl rfl rfl (wrap_i64 (by omega) (by omega)) <| AI rfl <| NL ?_
     refine run_inLoop <| SQ <| SR <| MI rfl <| CN <| Op1.lss rfl rfl <| NL <| Run.slots (sl := [(9, .int .i64 9)]) ⟨rfl, trivial⟩ <| run_cond_true (congrArg Value.bool (decide_eq_true (by decide))) <| run_skip <| SQ <| run_block <| SQ <| SQ <| RG ?_
     refine MI rfl <| CN <| Op1.indexArr ty42 ty41 rfl rfl (by decide) (by decide) <| RunL.slots (sl := [(62, .pointer (some ⟨b3, 18, none⟩))]) ⟨rfl, trivial⟩ <| CN <| Op1.fieldAddr fld41_0 rfl <| CN <| Op1.load1 (v := .int .i64 _) ty3 rfl rfl (hst.cellL (.tail _ (.tail _ (.tail _ (.tail _ (.tail _ (.tail _ (.tail _ (.head _)))))))) rfl) <| MI rfl <| CN <| Op1.neq rfl rfl <| MB rfl <| RunL.splitD (d := 67) rfl (fun g29 => ?_) (fun g29 => ?_)
     · skip
       exfalso
       omega
     refine TK (t := 67) rfl (congrArg Value.bool (decide_eq_false g29)) <| Op1.move (v := .int .i64 _) rfl <| TK (t := 67) rfl (congrArg Value.bool (decide_eq_false g29)) <| Op1.indexArr ty42 ty41 rfl rfl (by decide) (by decide) <| RunL.slots (sl := [(69, .pointer (some ⟨b3, 18, none⟩))]) ⟨rfl, trivial⟩ <| TK (t := 67) rfl (congrArg Value.bool (decide_eq_false g29)) <| Op1.fieldAddr fld41_1 rfl <| TK (t := 67) rfl (congrArg Value.bool (decide_eq_false g29)) <| Op1.load1 (v := .int .i64 _) ty3 rfl rfl (hst.cellL (.tail _ (.tail _ (.tail _ (.tail _ (.tail _ (.tail _ (.tail _ (.head _)))))))) rfl) <| TK (t := 67) rfl (congrArg Value.bool (decide_eq_false g29)) <| Op1.move (v := .int .i64 _) rfl <| TK (t := 67) rfl (congrArg Value.bool (decide_eq_false g29)) <| Op1.lss rfl rfl <| CN <| Op1.pickF (u := .bool _) (congrArg Value.bool (decide_eq_false g29)) rfl <| NL <| Run.forget [(1, .pointer (some ⟨_, _, none⟩)), (3, .pointer (some ⟨_, _, none⟩)), (5, .slice _ _ _), (9, .int .i64 _), (74, .bool _)] ⟨rfl, rfl, rfl, rfl, rfl, trivial⟩ fun f => run_cond_dec rfl (fun g30 => ?_) (fun g30 => ?_)
     · skip
       exfalso
       omega
     refine run_skip <| RG <| MI rfl <| CN <| Op1.indexArr ty42 ty41 rfl rfl (by decide) (by decide) <| RunL.slots (sl := [(76, .pointer (some ⟨b3, 18, none⟩))]) ⟨rfl, trivial⟩ <| CN <| Op1.fieldAddr fld41_1 rfl <| CN <| Op1.load1 (v := .int .i64 _) ty3 rfl rfl (hst.cellL (.tail _ (.tail _ (.tail _ (.tail _ (.tail _ (.tail _ (.tail _ (.head _)))))))) rfl) <| AI rfl <| NL <| run_inBlock <| RG <| MI rfl <| CN <| Op1.addN rfl rfl rfl (wrap_i64 (by omega) (by omega)) <| AI rfl <| NL ?_
     refine run_inLoop <| SQ <| SR <| MI rfl <| CN <| Op1.lss rfl rfl <| NL <| run_cond_false (congrArg Value.bool (decide_eq_false (by decide))) <| run_exit (id := 0) rfl <| SQ <| SR <| MI rfl <| CN <| Op1.fieldAddr fld25_2 rfl <| CN (Op1.load1 (v := .slice _ _ _) ty23 rfl rfl (hst.cellL (.tail _ (.tail _ (.tail _ (.tail _ (.tail _ (.tail _ (.tail _ (.tail _ (.tail _ (.head _)))))))))) rfl) ?_)
     refine CN <| Op1.lenSl (rest := []) ty23 rfl <| CN <| Op1.neq rfl rfl <| MB rfl <| RunL.splitD (d := 84) rfl (fun g31 => ?_) (fun g31 => ?_)
     · skip
       exfalso
       omega
     refine TK (t := 84) rfl (congrArg Value.bool (decide_eq_false g31)) <| Op1.indexArr ty42 ty41 rfl rfl (by decide) (by decide) <| TK (t := 84) rfl (congrArg Value.bool (decide_eq_false g31)) <| Op1.fieldAddr fld41_1 rfl <| TK (t := 84) rfl (congrArg Value.bool (decide_eq_false g31)) <| Op1.load1 (v := .int .i64 _) ty3 rfl rfl (hst.cellL (.tail _ (.tail _ (.tail _ (.tail _ (.tail _ (.tail _ (.tail _ (.head _)))))))) rfl) <| TK (t := 84) rfl (congrArg Value.bool (decide_eq_false g31)) <| Op1.indexArr ty42 ty41 rfl rfl (by decide) (by decide) <| TK (t := 84) rfl (congrArg Value.bool (decide_eq_false g31)) <| Op1.fieldAddr fld41_0 rfl <| TK (t := 84) rfl (congrArg Value.bool (decide_eq_false g31)) <| Op1.load1 (v := .int .i64 _) ty3 rfl rfl (hst.cellL (.tail _ (.tail _ (.tail _ (.tail _ (.tail _ (.tail _ (.tail _ (.head _)))))))) rfl) <| TK (t := 84) rfl (congrArg Value.bool (decide_eq_false g31)) <| Op1.addN rfl rfl rfl (wrap_i64 (by omega) (by omega)) <| TK (t := 84) rfl (congrArg Value.bool (decide_eq_false g31)) <| Op1.neq rfl rfl <| CN <| Op1.pickF (u := .bool _) (congrArg Value.bool (decide_eq_false g31)) rfl <| NL <| Run.forget [(1, .pointer (some ⟨_, _, none⟩)), (3, .pointer (some ⟨_, _, none⟩)), (5, .slice _ _ _), (93, .bool _)] ⟨rfl, rfl, rfl, rfl, trivial⟩ fun f => run_cond_dec rfl (fun g32 => ?_) (fun g32 => ?_)
     · skip
       exfalso
       omega
     refine run_skip <| SR <| CN <| Op1.indexArr ty42 ty41 rfl rfl (by decide) (by decide) <| CN <| Op1.fieldAddr fld41_0 rfl <| CN <| Op1.load1 (v := .int .i64 _) ty3 rfl rfl (hst.cellL (.tail _ (.tail _ (.tail _ (.tail _ (.tail _ (.tail _ (.tail _ (.head _)))))))) rfl) <| AI rfl <| NL <| SQ <| SR <| AI rfl <| NL <| run_block <| run_loop ?_
     refine Run.indW [(1, .pointer (some ⟨_, _, none⟩)), (3, .pointer (some ⟨_, _, none⟩)), (5, .slice _ _ _)] ⟨rfl, rfl, rfl, trivial⟩ (fun (q : Nat × Int) => [(8, .int .i64 q.2), (10, .int .i64 (q.1 : Int))]) (fun (q : Nat × Int) => []) (fun (q : Nat × Int) => FunW (l.map InstP.L) q.2 ((xs.map FunP.fu).drop q.1) (l.map InstP.L).length ∧ q.1 ≤ xs.length) (fun (q : Nat × Int) => xs.length - q.1) ((0, (topA (l.map InstP.L) 8 : Int))) hst ⟨hw0, Nat.zero_le _⟩ ⟨rfl, rfl, trivial⟩ ?_
     intro ⟨n, c⟩ f w hst hJ ih33
     replace hst : St _ _ ([] ++ [_, _, _, _, _, _, _, _, _, _]) _ _ := hst
     replace hJ : FunW (l.map InstP.L) c ((xs.map FunP.fu).drop n) (l.map InstP.L).length ∧ n ≤ xs.length := hJ
     refine Run.slots (sl := [(8, .int .i64 c), (10, .int .i64 (n : Int))]) ⟨rfl, rfl, trivial⟩ <| SQ <| SR <| MI rfl <| ML rfl <| CN <| Op1.lenSl (rest := []) ty45 rfl <| CN <| Op1.lss rfl rfl <| NL <| run_cond_dec rfl (fun g34 => ?_) (fun g34 => ?_)
     · skip
       have hlt : n < xs.length := by omega
       obtain ⟨hf0, hf1, hf2, hf3, hf4, hf5, hf6, hf7⟩ := funW_x hJ.1 hlt
       have hle := BlkW.le hf6
       have hbl := (hsz.2 n hlt).1
       have hpl := (hsz.2 n hlt).2
       replace hbl : (xs.getD (n : Int).toNat zeroFun).fu.blocks.length ≤ l.length := hbl
       replace hpl : (xs.getD (n : Int).toNat zeroFun).fu.params.length ≤ l.length := hpl
       refine run_skip <| SQ <| run_block <| SR <| ML rfl <| MI rfl <| CN <| Op1.indexRs ty45 ty54 (Res.ofuns_rows (hst.hL _ (.tail _ (.tail _ (.tail _ (.tail _ (.head _))))))) rfl rfl (by omega) (by omega) <| CN <| Op1.loadA (vs := [.int .u32 _, .int .i64 _, .slice _ _ _, .slice _ _ _, .int .i64 _]) ty54 rfl rfl rfl (Res.rs2_cells (m := 5) (Res.ofuns_rows (hst.hL _ (.tail _ (.tail _ (.tail _ (.tail _ (.head _))))))) _ (flat_seg (g := funC) (d := zeroFun) funC_len _ _ (by omega))) <| CN <| Op1.alloc hst ty54 fun w b11 hst => CN (SO (v := .agg #[.int .u32 _, .int .i64 _, .slice _ _ _, .slice _ _ _, .int .i64 _]) hst ty54 rfl rfl (.here) fun w hst => ?_)
       refine NL <| SQ <| SQ <| RunD.start [] hst (bs := [0, 1, 0, 7, 15, 31, 63, 31, 159, 415, 1023, 2047, 4095, 8191, 16383, 8191, 40959, 131071, 262143, 524287, 8191, 1056767, 4194303, 8388607, 16777215, 33554431, 67108863, 134217727, 268435455, 536870911]) (ds := [some 107, some 108, some 109, some 110, some 111, some 112, some 113, some 114, some 115, some 116, some 117, some 118, some 119, some 120, some 121, some 122, some 123, some 124, some 125, some 126, some 127, some 128, some 129, some 130, some 131, some 132, some 133, some 134, some 135, some 136]) ⟨by kernel_rfl, by kernel_rfl, by kernel_rfl⟩ (fun tab35 => ?_)
       refine RunD.op (det _) tab35 1 (fun f' L' w' hc => Op1.fieldAddr fld54_1 (hc.old (v := .pointer (some ⟨_, _, none⟩)) rfl rfl rfl) ⟨[], ⟨rfl, rfl⟩, hc.st⟩) <| RunD.op (det _) tab35 2 (fun f' L' w' hc => Op1.load1 (v := .int .i64 _) ty3 rfl (hc.det (j := 0) rfl rfl rfl rfl) (hc.st.cellL (List.mem_append_right _ (.head _)) rfl) ⟨[], ⟨rfl, rfl⟩, hc.st⟩) <| RunD.op (det _) tab35 3 (fun f' L' w' hc => Op1.move (v := .int .i64 _) (hc.old (v := .int .i64 _) rfl rfl rfl) ⟨[], ⟨rfl, rfl⟩, hc.st⟩) <| RunD.op (det _) tab35 4 (fun f' L' w' hc => Op1.neq (hc.det (j := 1) rfl rfl rfl rfl) (hc.det (j := 2) rfl rfl rfl rfl) ⟨[], ⟨rfl, rfl⟩, hc.st⟩) <| RunD.op (det _) tab35 5 (fun f' L' w' hc => Op1.move (v := .bool _) (hc.det (j := 3) rfl rfl rfl rfl) ⟨[], ⟨rfl, rfl⟩, hc.st⟩) <| RunD.splitD (j := 4) rfl (fun g36 => ?_) (fun g36 => ?_)
       · skip
         exfalso
         omega
       refine RunD.take (det _) tab35 6 rfl (fun f' L' w' hc => (hc.det (j := 4) rfl rfl rfl rfl).trans (congrArg Value.bool (decide_eq_false g36))) (fun f' L' w' hc => Op1.fieldAddr fld54_4 (hc.old (v := .pointer (some ⟨_, _, none⟩)) rfl rfl rfl) ⟨[], ⟨rfl, rfl⟩, hc.st⟩) <| RunD.take (det _) tab35 7 rfl (fun f' L' w' hc => (hc.det (j := 4) rfl rfl rfl rfl).trans (congrArg Value.bool (decide_eq_false g36))) (fun f' L' w' hc => Op1.load1 (v := .int .i64 _) ty3 rfl (hc.det (j := 5) rfl rfl rfl rfl) (hc.st.cellL (List.mem_append_right _ (.head _)) rfl) ⟨[], ⟨rfl, rfl⟩, hc.st⟩) <| RunD.take (det _) tab35 8 rfl (fun f' L' w' hc => (hc.det (j := 4) rfl rfl rfl rfl).trans (congrArg Value.bool (decide_eq_false g36))) (fun f' L' w' hc => Op1.fieldAddr fld25_2 (hc.old (v := .pointer (some ⟨_, _, none⟩)) rfl rfl rfl) ⟨[], ⟨rfl, rfl⟩, hc.st⟩) <| RunD.take (det _) tab35 9 rfl (fun f' L' w' hc => (hc.det (j := 4) rfl rfl rfl rfl).trans (congrArg Value.bool (decide_eq_false g36))) (fun f' L' w' hc => Op1.load1 (v := .slice _ _ _) ty23 rfl (hc.det (j := 7) rfl rfl rfl rfl) (hc.st.cellL (List.mem_append_right _ (.tail _ (.tail _ (.tail _ (.tail _ (.tail _ (.tail _ (.tail _ (.tail _ (.tail _ (.tail _ (.head _)))))))))))) rfl) ⟨[], ⟨rfl, rfl⟩, hc.st⟩) <| RunD.take (det _) tab35 10 rfl (fun f' L' w' hc => (hc.det (j := 4) rfl rfl rfl rfl).trans (congrArg Value.bool (decide_eq_false g36))) (fun f' L' w' hc => Op1.lenSl (rest := []) ty23 (hc.det (j := 8) rfl rfl rfl rfl) ⟨[], ⟨rfl, rfl⟩, hc.st⟩) <| RunD.take (det _) tab35 11 rfl (fun f' L' w' hc => (hc.det (j := 4) rfl rfl rfl rfl).trans (congrArg Value.bool (decide_eq_false g36))) (fun f' L' w' hc => Op1.geq (hc.det (j := 6) rfl rfl rfl rfl) (hc.det (j := 9) rfl rfl rfl rfl) ⟨[], ⟨rfl, rfl⟩, hc.st⟩) <| RunD.op (det _) tab35 12 (fun f' L' w' hc => Op1.pickF (u := .bool _) (((hc.det (j := 4) rfl rfl rfl rfl)).trans (congrArg Value.bool (decide_eq_false g36))) (hc.det (j := 10) rfl rfl rfl rfl) ⟨[], ⟨rfl, rfl⟩, hc.st⟩) <| RunD.op (det _) tab35 13 (fun f' L' w' hc => Op1.move (v := .bool _) (hc.det (j := 11) rfl rfl rfl rfl) ⟨[], ⟨rfl, rfl⟩, hc.st⟩) <| RunD.splitD (j := 12) rfl (fun g37 => ?_) (fun g37 => ?_)
       · skip
         exfalso
         omega
       refine RunD.take (det _) tab35 14 rfl (fun f' L' w' hc => (hc.det (j := 12) rfl rfl rfl rfl).trans (congrArg Value.bool (decide_eq_false g37))) (fun f' L' w' hc => Op1.fieldAddr fld25_2 (hc.old (v := .pointer (some ⟨_, _, none⟩)) rfl rfl rfl) ⟨[], ⟨rfl, rfl⟩, hc.st⟩) <| RunD.take (det _) tab35 15 rfl (fun f' L' w' hc => (hc.det (j := 12) rfl rfl rfl rfl).trans (congrArg Value.bool (decide_eq_false g37))) (fun f' L' w' hc => Op1.load1 (v := .slice _ _ _) ty23 rfl (hc.det (j := 13) rfl rfl rfl rfl) (hc.st.cellL (List.mem_append_right _ (.tail _ (.tail _ (.tail _ (.tail _ (.tail _ (.tail _ (.tail _ (.tail _ (.tail _ (.tail _ (.head _)))))))))))) rfl) ⟨[], ⟨rfl, rfl⟩, hc.st⟩) <| RunD.take (det _) tab35 16 rfl (fun f' L' w' hc => (hc.det (j := 12) rfl rfl rfl rfl).trans (congrArg Value.bool (decide_eq_false g37))) (fun f' L' w' hc => Op1.fieldAddr fld54_1 (hc.old (v := .pointer (some ⟨_, _, none⟩)) rfl rfl rfl) ⟨[], ⟨rfl, rfl⟩, hc.st⟩) <| RunD.take (det _) tab35 17 rfl (fun f' L' w' hc => (hc.det (j := 12) rfl rfl rfl rfl).trans (congrArg Value.bool (decide_eq_false g37))) (fun f' L' w' hc => Op1.load1 (v := .int .i64 _) ty3 rfl (hc.det (j := 15) rfl rfl rfl rfl) (hc.st.cellL (List.mem_append_right _ (.head _)) rfl) ⟨[], ⟨rfl, rfl⟩, hc.st⟩) <| RunD.take (det _) tab35 18 rfl (fun f' L' w' hc => (hc.det (j := 12) rfl rfl rfl rfl).trans (congrArg Value.bool (decide_eq_false g37))) (fun f' L' w' hc => Op1.indexRs ty23 ty39 (Res.rmod_insts (hc.st.hD _ (.head _))) (hc.det (j := 14) rfl rfl rfl rfl) (hc.det (j := 16) rfl rfl rfl rfl) (by omega) (by omega) ⟨[], ⟨rfl, rfl⟩, hc.st⟩) <| RunD.take (det _) tab35 19 rfl (fun f' L' w' hc => (hc.det (j := 12) rfl rfl rfl rfl).trans (congrArg Value.bool (decide_eq_false g37))) (fun f' L' w' hc => Op1.fieldAddr fld39_2 (hc.det (j := 17) rfl rfl rfl rfl) ⟨[], ⟨rfl, rfl⟩, hc.st⟩) <| RunD.take (det _) tab35 20 rfl (fun f' L' w' hc => (hc.det (j := 12) rfl rfl rfl rfl).trans (congrArg Value.bool (decide_eq_false g37))) (fun f' L' w' hc => Op1.load1 (v := .int .u32 _) ty22 rfl (hc.det (j := 18) rfl rfl rfl rfl) (Res.rs2_cellF (Res.rmod_insts (hc.st.hD _ (.head _))) (flat_cell (g := instC) (d := zeroI) instC_len rfl (by omega))) ⟨[], ⟨rfl, rfl⟩, hc.st⟩) <| RunD.take (det _) tab35 21 rfl (fun f' L' w' hc => (hc.det (j := 12) rfl rfl rfl rfl).trans (congrArg Value.bool (decide_eq_false g37))) (fun f' L' w' hc => Op1.fieldAddr fld54_0 (hc.old (v := .pointer (some ⟨_, _, none⟩)) rfl rfl rfl) ⟨[], ⟨rfl, rfl⟩, hc.st⟩) <| RunD.take (det _) tab35 22 rfl (fun f' L' w' hc => (hc.det (j := 12) rfl rfl rfl rfl).trans (congrArg Value.bool (decide_eq_false g37))) (fun f' L' w' hc => Op1.load1 (v := .int .u32 _) ty22 rfl (hc.det (j := 20) rfl rfl rfl rfl) (hc.st.cellL (List.mem_append_right _ (.head _)) rfl) ⟨[], ⟨rfl, rfl⟩, hc.st⟩) <| RunD.fin followsMixed tab35 hst rfl (fun f38 w R41 hs39 hd40 hr42 hst => ?_)
       obtain ⟨h107_, r0⟩ := hd40 0 107 rfl rfl
       obtain ⟨h108_, r1⟩ := hd40 1 108 rfl rfl
       obtain ⟨h109_, r2⟩ := hd40 2 109 rfl rfl
       obtain ⟨h110_, r3⟩ := hd40 3 110 rfl rfl
       obtain ⟨h111_, r4⟩ := hd40 4 111 rfl rfl
       obtain ⟨h112_, r5⟩ := hd40 5 112 rfl rfl
       obtain ⟨h113_, r6⟩ := hd40 6 113 rfl rfl
       obtain ⟨h114_, r7⟩ := hd40 7 114 rfl rfl
       obtain ⟨h115_, r8⟩ := hd40 8 115 rfl rfl
       obtain ⟨h116_, r9⟩ := hd40 9 116 rfl rfl
       obtain ⟨h117_, r10⟩ := hd40 10 117 rfl rfl
       obtain ⟨h118_, r11⟩ := hd40 11 118 rfl rfl
       obtain ⟨h119_, r12⟩ := hd40 12 119 rfl rfl
       obtain ⟨h120_, r13⟩ := hd40 13 120 rfl rfl
       obtain ⟨h121_, r14⟩ := hd40 14 121 rfl rfl
       obtain ⟨h122_, r15⟩ := hd40 15 122 rfl rfl
       obtain ⟨h123_, r16⟩ := hd40 16 123 rfl rfl
       obtain ⟨h124_, r17⟩ := hd40 17 124 rfl rfl
       obtain ⟨h125_, r18⟩ := hd40 18 125 rfl rfl
       obtain ⟨h126_, r19⟩ := hd40 19 126 rfl rfl
       obtain ⟨h127_, r20⟩ := hd40 20 127 rfl rfl
       obtain ⟨h128_, r21⟩ := hd40 21 128 rfl rfl
       simp only [show List.range 22 = [0, 1, 2, 3, 4, 5, 6, 7, 8, 9, 10, 11, 12, 13, 14, 15, 16, 17, 18, 19, 20, 21] from rfl, List.flatMap_cons, List.flatMap_nil, List.map_cons, List.map_nil, r0, r1, r2, r3, r4, r5, r6, r7, r8, r9, r10, r11, r12, r13, r14, r15, r16, r17, r18, r19, r20, r21, List.nil_append, List.append_nil, List.cons_append] at hst
       refine RunL.slots (sl := [(1, .pointer (some ⟨_, _, none⟩)), (3, .pointer (some ⟨_, _, none⟩)), (5, .slice _ _ _), (10, .int .i64 _), (11, .pointer (some ⟨_, _, none⟩)), (119, .bool _), (126, .int .u32 _), (128, .int .u32 _)]) ⟨(hs39 1 rfl).trans rfl, (hs39 3 rfl).trans rfl, (hs39 5 rfl).trans rfl, (hs39 10 rfl).trans rfl, (hs39 11 rfl).trans rfl, h119_, h126_, h128_, trivial⟩ ?_
       clear hs39 hd40 hr42 tab35
       refine TK (t := 119) rfl (congrArg Value.bool (decide_eq_false g37)) <| Op1.neq rfl rfl <| CN <| Op1.pickF (u := .bool _) (congrArg Value.bool (decide_eq_false g37)) rfl <| MB rfl <| RunL.splitD (d := 131) rfl (fun g43 => ?_) (fun g43 => ?_)
       · skip
         exfalso
         exact g43 hf4
       refine TK (t := 131) rfl (congrArg Value.bool (decide_eq_false g43)) <| Op1.fieldAddr fld54_3 rfl <| TK (t := 131) rfl (congrArg Value.bool (decide_eq_false g43)) <| Op1.load1 (v := .slice _ _ _) ty52 rfl rfl (hst.cellL (.head _) rfl) <| TK (t := 131) rfl (congrArg Value.bool (decide_eq_false g43)) <| Op1.lenSl (rest := []) ty52 rfl <| TK (t := 131) rfl (congrArg Value.bool (decide_eq_false g43)) <| Op1.eql rfl rfl <| CN <| Op1.pickF (u := .bool _) (congrArg Value.bool (decide_eq_false g43)) rfl <| NL <| Run.forget [(1, .pointer (some ⟨_, _, none⟩)), (3, .pointer (some ⟨_, _, none⟩)), (5, .slice _ _ _), (10, .int .i64 _), (11, .pointer (some ⟨_, _, none⟩)), (136, .bool _)] ⟨rfl, rfl, rfl, rfl, rfl, rfl, trivial⟩ fun f => run_cond_dec rfl (fun g44 => ?_) (fun g44 => ?_)
       · skip
         exfalso
         omega
       refine run_skip <| SR <| CN <| Op1.fieldAddr fld54_1 rfl <| CN <| Op1.load1 (v := .int .i64 _) ty3 rfl rfl (hst.cellL (.head _) rfl) <| CN <| Op1.addN rfl rfl rfl (wrap_i64 (by omega) (by omega)) <| CN <| Op1.fieldAddr fld54_2 rfl <| CN <| Op1.load1 (v := .slice _ _ _) ty51 rfl rfl (hst.cellL (.head _) rfl) <| CN <| Op1.lenSl (rest := []) ty51 rfl <| CN <| Op1.addN rfl rfl rfl (wrap_i64 (by omega) (by omega)) <| AI rfl <| NL <| SQ <| SQ <| RG ?_
       refine AI rfl <| NL <| run_block <| run_loop <| Run.indW [(1, .pointer (some ⟨_, _, none⟩)), (3, .pointer (some ⟨_, _, none⟩)), (5, .slice _ _ _), (10, .int .i64 _), (11, .pointer (some ⟨_, _, none⟩))] ⟨rfl, rfl, rfl, rfl, rfl, trivial⟩ (fun (r : Nat × Int) => [(8, .int .i64 r.2), (12, .int .i64 (r.1 : Int))]) (fun (r : Nat × Int) => []) (fun (r : Nat × Int) => BlkW (l.map InstP.L) r.2 ((xs.getD (n : Int).toNat zeroFun).fu.blocks.drop r.1) (xs.getD (n : Int).toNat zeroFun).fu.fin ∧ r.1 ≤ (xs.getD (n : Int).toNat zeroFun).fu.blocks.length) (fun (r : Nat × Int) => (xs.getD (n : Int).toNat zeroFun).fu.blocks.length - r.1) ((0, (xs.getD (n : Int).toNat zeroFun).fu.at_ + 1 + ((xs.getD (n : Int).toNat zeroFun).fu.params.length : Int))) hst ⟨(by (try dsimp only); rw [hf1]; exact hf6), Nat.zero_le _⟩ ⟨rfl, rfl, trivial⟩ ?_
       intro ⟨k, d⟩ f w hst hK ih45
       replace hst : St _ _ ([] ++ [_, _, _, _, _, _, _, _, _, _, _]) _ _ := hst
       replace hK : BlkW (l.map InstP.L) d ((xs.getD (n : Int).toNat zeroFun).fu.blocks.drop k) (xs.getD (n : Int).toNat zeroFun).fu.fin ∧ k ≤ (xs.getD (n : Int).toNat zeroFun).fu.blocks.length := hK
       refine Run.slots (sl := [(8, .int .i64 d), (12, .int .i64 (k : Int))]) ⟨rfl, rfl, trivial⟩ <| SQ <| SR <| MI rfl <| CN <| Op1.fieldAddr fld54_3 rfl <| CN <| Op1.load1 (v := .slice _ _ _) ty52 rfl rfl (hst.cellL (.head _) rfl) <| CN <| Op1.lenSl (rest := []) ty52 rfl <| CN <| Op1.lss rfl rfl <| NL <| run_cond_dec rfl (fun g46 => ?_) (fun g46 => ?_)
       · skip
         have hlk : k < (xs.getD (n : Int).toNat zeroFun).fu.blocks.length := by omega
         obtain ⟨hb0, hb1, hb2, hb3, hb4, hb5, hb6, hb7⟩ := blkW_x hK.1 hlk
         refine run_skip <| SQ <| run_block <| SR <| CN <| Op1.fieldAddr fld54_3 rfl <| CN <| Op1.load1 (v := .slice _ _ _) ty52 rfl rfl (hst.cellL (.head _) rfl) <| MI rfl <| CN <| Op1.indexRs ty52 ty56 (Res.ofuns_blocks (hst.hL _ (.tail _ (.tail _ (.tail _ (.tail _ (.tail _ (.head _))))))) (n := (n : Int).toNat) (by omega)) rfl rfl (by omega) (by omega) <| CN <| Op1.loadA (vs := [.int .u32 _, .int .i64 _, .int .i64 _]) ty56 rfl rfl rfl (Res.rs2_cells (m := 3) (Res.ofuns_blocks (hst.hL _ (.tail _ (.tail _ (.tail _ (.tail _ (.tail _ (.head _))))))) (n := (n : Int).toNat) (by omega)) _ (flat_seg (g := bkC) (d := zeroB) bkC_len _ _ (by omega))) <| CN <| Op1.alloc hst ty56 fun w b13 hst => CN (SO (v := .agg #[.int .u32 _, .int .i64 _, .int .i64 _]) hst ty56 rfl rfl (.here) fun w hst => ?_)
         refine NL <| SQ <| SQ <| RunD.start [] hst (bs := [0, 1, 0, 7, 15, 31, 63, 31, 159, 415, 1023, 2047, 4095, 8191, 16383, 8191, 40959, 131071, 262143, 524287, 1048575, 2097151, 1048575, 5242879, 16777215, 33554431, 67108863, 1048575, 135266303, 536870911, 1073741823, 2147483647, 4294967295, 8589934591, 4294967295, 21474836479, 55834574847, 137438953471, 274877906943, 549755813887, 1099511627775, 2199023255551, 4398046511103]) (ds := [some 156, some 157, some 158, some 159, some 160, some 161, some 162, some 163, some 164, some 165, some 166, some 167, some 168, some 169, some 170, some 171, some 172, some 173, some 174, some 175, some 176, some 177, some 178, some 179, some 180, some 181, some 182, some 183, some 184, some 185, some 186, some 187, some 188, some 189, some 190, some 191, some 192, some 193, some 194, some 195, some 196, some 197, some 198]) ⟨by kernel_rfl, by kernel_rfl, by kernel_rfl⟩ (fun tab47 => ?_)
         refine RunD.op (det _) tab47 1 (fun f' L' w' hc => Op1.fieldAddr fld56_1 (hc.old (v := .pointer (some ⟨_, _, none⟩)) rfl rfl rfl) ⟨[], ⟨rfl, rfl⟩, hc.st⟩) <| RunD.op (det _) tab47 2 (fun f' L' w' hc => Op1.load1 (v := .int .i64 _) ty3 rfl (hc.det (j := 0) rfl rfl rfl rfl) (hc.st.cellL (List.mem_append_right _ (.head _)) rfl) ⟨[], ⟨rfl, rfl⟩, hc.st⟩) <| RunD.op (det _) tab47 3 (fun f' L' w' hc => Op1.move (v := .int .i64 _) (hc.old (v := .int .i64 _) rfl rfl rfl) ⟨[], ⟨rfl, rfl⟩, hc.st⟩) <| RunD.op (det _) tab47 4 (fun f' L' w' hc => Op1.neq (hc.det (j := 1) rfl rfl rfl rfl) (hc.det (j := 2) rfl rfl rfl rfl) ⟨[], ⟨rfl, rfl⟩, hc.st⟩) <| RunD.op (det _) tab47 5 (fun f' L' w' hc => Op1.move (v := .bool _) (hc.det (j := 3) rfl rfl rfl rfl) ⟨[], ⟨rfl, rfl⟩, hc.st⟩) <| RunD.splitD (j := 4) rfl (fun g48 => ?_) (fun g48 => ?_)
         · skip
           exfalso
           omega
         refine RunD.take (det _) tab47 6 rfl (fun f' L' w' hc => (hc.det (j := 4) rfl rfl rfl rfl).trans (congrArg Value.bool (decide_eq_false g48))) (fun f' L' w' hc => Op1.fieldAddr fld56_2 (hc.old (v := .pointer (some ⟨_, _, none⟩)) rfl rfl rfl) ⟨[], ⟨rfl, rfl⟩, hc.st⟩) <| RunD.take (det _) tab47 7 rfl (fun f' L' w' hc => (hc.det (j := 4) rfl rfl rfl rfl).trans (congrArg Value.bool (decide_eq_false g48))) (fun f' L' w' hc => Op1.load1 (v := .int .i64 _) ty3 rfl (hc.det (j := 5) rfl rfl rfl rfl) (hc.st.cellL (List.mem_append_right _ (.head _)) rfl) ⟨[], ⟨rfl, rfl⟩, hc.st⟩) <| RunD.take (det _) tab47 8 rfl (fun f' L' w' hc => (hc.det (j := 4) rfl rfl rfl rfl).trans (congrArg Value.bool (decide_eq_false g48))) (fun f' L' w' hc => Op1.fieldAddr fld56_1 (hc.old (v := .pointer (some ⟨_, _, none⟩)) rfl rfl rfl) ⟨[], ⟨rfl, rfl⟩, hc.st⟩) <| RunD.take (det _) tab47 9 rfl (fun f' L' w' hc => (hc.det (j := 4) rfl rfl rfl rfl).trans (congrArg Value.bool (decide_eq_false g48))) (fun f' L' w' hc => Op1.load1 (v := .int .i64 _) ty3 rfl (hc.det (j := 7) rfl rfl rfl rfl) (hc.st.cellL (List.mem_append_right _ (.head _)) rfl) ⟨[], ⟨rfl, rfl⟩, hc.st⟩) <| RunD.take (det _) tab47 10 rfl (fun f' L' w' hc => (hc.det (j := 4) rfl rfl rfl rfl).trans (congrArg Value.bool (decide_eq_false g48))) (fun f' L' w' hc => Op1.addN (hc.det (j := 8) rfl rfl rfl rfl) rfl rfl (wrap_i64 (by omega) (by omega)) ⟨[], ⟨rfl, rfl⟩, hc.st⟩) <| RunD.take (det _) tab47 11 rfl (fun f' L' w' hc => (hc.det (j := 4) rfl rfl rfl rfl).trans (congrArg Value.bool (decide_eq_false g48))) (fun f' L' w' hc => Op1.leq (hc.det (j := 6) rfl rfl rfl rfl) (hc.det (j := 9) rfl rfl rfl rfl) ⟨[], ⟨rfl, rfl⟩, hc.st⟩) <| RunD.op (det _) tab47 12 (fun f' L' w' hc => Op1.pickF (u := .bool _) (((hc.det (j := 4) rfl rfl rfl rfl)).trans (congrArg Value.bool (decide_eq_false g48))) (hc.det (j := 10) rfl rfl rfl rfl) ⟨[], ⟨rfl, rfl⟩, hc.st⟩) <| RunD.op (det _) tab47 13 (fun f' L' w' hc => Op1.move (v := .bool _) (hc.det (j := 11) rfl rfl rfl rfl) ⟨[], ⟨rfl, rfl⟩, hc.st⟩) <| RunD.splitD (j := 12) rfl (fun g49 => ?_) (fun g49 => ?_)
         · skip
           exfalso
           omega
         refine RunD.take (det _) tab47 14 rfl (fun f' L' w' hc => (hc.det (j := 12) rfl rfl rfl rfl).trans (congrArg Value.bool (decide_eq_false g49))) (fun f' L' w' hc => Op1.fieldAddr fld56_2 (hc.old (v := .pointer (some ⟨_, _, none⟩)) rfl rfl rfl) ⟨[], ⟨rfl, rfl⟩, hc.st⟩) <| RunD.take (det _) tab47 15 rfl (fun f' L' w' hc => (hc.det (j := 12) rfl rfl rfl rfl).trans (congrArg Value.bool (decide_eq_false g49))) (fun f' L' w' hc => Op1.load1 (v := .int .i64 _) ty3 rfl (hc.det (j := 13) rfl rfl rfl rfl) (hc.st.cellL (List.mem_append_right _ (.head _)) rfl) ⟨[], ⟨rfl, rfl⟩, hc.st⟩) <| RunD.take (det _) tab47 16 rfl (fun f' L' w' hc => (hc.det (j := 12) rfl rfl rfl rfl).trans (congrArg Value.bool (decide_eq_false g49))) (fun f' L' w' hc => Op1.fieldAddr fld54_4 (hc.old (v := .pointer (some ⟨_, _, none⟩)) rfl rfl rfl) ⟨[], ⟨rfl, rfl⟩, hc.st⟩) <| RunD.take (det _) tab47 17 rfl (fun f' L' w' hc => (hc.det (j := 12) rfl rfl rfl rfl).trans (congrArg Value.bool (decide_eq_false g49))) (fun f' L' w' hc => Op1.load1 (v := .int .i64 _) ty3 rfl (hc.det (j := 15) rfl rfl rfl rfl) (hc.st.cellL (List.mem_append_right _ (.tail _ (.head _))) rfl) ⟨[], ⟨rfl, rfl⟩, hc.st⟩) <| RunD.take (det _) tab47 18 rfl (fun f' L' w' hc => (hc.det (j := 12) rfl rfl rfl rfl).trans (congrArg Value.bool (decide_eq_false g49))) (fun f' L' w' hc => Op1.gtr (hc.det (j := 14) rfl rfl rfl rfl) (hc.det (j := 16) rfl rfl rfl rfl) ⟨[], ⟨rfl, rfl⟩, hc.st⟩) <| RunD.op (det _) tab47 19 (fun f' L' w' hc => Op1.pickF (u := .bool _) (((hc.det (j := 12) rfl rfl rfl rfl)).trans (congrArg Value.bool (decide_eq_false g49))) (hc.det (j := 17) rfl rfl rfl rfl) ⟨[], ⟨rfl, rfl⟩, hc.st⟩) <| RunD.op (det _) tab47 20 (fun f' L' w' hc => Op1.move (v := .bool _) (hc.det (j := 18) rfl rfl rfl rfl) ⟨[], ⟨rfl, rfl⟩, hc.st⟩) <| RunD.splitD (j := 19) rfl (fun g50 => ?_) (fun g50 => ?_)
         · skip
           exfalso
           omega
         refine RunD.take (det _) tab47 21 rfl (fun f' L' w' hc => (hc.det (j := 19) rfl rfl rfl rfl).trans (congrArg Value.bool (decide_eq_false g50))) (fun f' L' w' hc => Op1.fieldAddr fld25_2 (hc.old (v := .pointer (some ⟨_, _, none⟩)) rfl rfl rfl) ⟨[], ⟨rfl, rfl⟩, hc.st⟩) <| RunD.take (det _) tab47 22 rfl (fun f' L' w' hc => (hc.det (j := 19) rfl rfl rfl rfl).trans (congrArg Value.bool (decide_eq_false g50))) (fun f' L' w' hc => Op1.load1 (v := .slice _ _ _) ty23 rfl (hc.det (j := 20) rfl rfl rfl rfl) (hc.st.cellL (List.mem_append_right _ (.tail _ (.tail _ (.tail _ (.tail _ (.tail _ (.tail _ (.tail _ (.tail _ (.tail _ (.tail _ (.tail _ (.head _))))))))))))) rfl) ⟨[], ⟨rfl, rfl⟩, hc.st⟩) <| RunD.take (det _) tab47 23 rfl (fun f' L' w' hc => (hc.det (j := 19) rfl rfl rfl rfl).trans (congrArg Value.bool (decide_eq_false g50))) (fun f' L' w' hc => Op1.fieldAddr fld56_1 (hc.old (v := .pointer (some ⟨_, _, none⟩)) rfl rfl rfl) ⟨[], ⟨rfl, rfl⟩, hc.st⟩) <| RunD.take (det _) tab47 24 rfl (fun f' L' w' hc => (hc.det (j := 19) rfl rfl rfl rfl).trans (congrArg Value.bool (decide_eq_false g50))) (fun f' L' w' hc => Op1.load1 (v := .int .i64 _) ty3 rfl (hc.det (j := 22) rfl rfl rfl rfl) (hc.st.cellL (List.mem_append_right _ (.head _)) rfl) ⟨[], ⟨rfl, rfl⟩, hc.st⟩) <| RunD.take (det _) tab47 25 rfl (fun f' L' w' hc => (hc.det (j := 19) rfl rfl rfl rfl).trans (congrArg Value.bool (decide_eq_false g50))) (fun f' L' w' hc => Op1.indexRs ty23 ty39 (Res.rmod_insts (hc.st.hD _ (.head _))) (hc.det (j := 21) rfl rfl rfl rfl) (hc.det (j := 23) rfl rfl rfl rfl) (by omega) (by omega) ⟨[], ⟨rfl, rfl⟩, hc.st⟩) <| RunD.take (det _) tab47 26 rfl (fun f' L' w' hc => (hc.det (j := 19) rfl rfl rfl rfl).trans (congrArg Value.bool (decide_eq_false g50))) (fun f' L' w' hc => Op1.fieldAddr fld39_2 (hc.det (j := 24) rfl rfl rfl rfl) ⟨[], ⟨rfl, rfl⟩, hc.st⟩) <| RunD.take (det _) tab47 27 rfl (fun f' L' w' hc => (hc.det (j := 19) rfl rfl rfl rfl).trans (congrArg Value.bool (decide_eq_false g50))) (fun f' L' w' hc => Op1.load1 (v := .int .u32 _) ty22 rfl (hc.det (j := 25) rfl rfl rfl rfl) (Res.rs2_cellF (Res.rmod_insts (hc.st.hD _ (.head _))) (flat_cell (g := instC) (d := zeroI) instC_len rfl (by omega))) ⟨[], ⟨rfl, rfl⟩, hc.st⟩) <| RunD.take (det _) tab47 28 rfl (fun f' L' w' hc => (hc.det (j := 19) rfl rfl rfl rfl).trans (congrArg Value.bool (decide_eq_false g50))) (fun f' L' w' hc => Op1.fieldAddr fld56_0 (hc.old (v := .pointer (some ⟨_, _, none⟩)) rfl rfl rfl) ⟨[], ⟨rfl, rfl⟩, hc.st⟩) <| RunD.take (det _) tab47 29 rfl (fun f' L' w' hc => (hc.det (j := 19) rfl rfl rfl rfl).trans (congrArg Value.bool (decide_eq_false g50))) (fun f' L' w' hc => Op1.load1 (v := .int .u32 _) ty22 rfl (hc.det (j := 27) rfl rfl rfl rfl) (hc.st.cellL (List.mem_append_right _ (.head _)) rfl) ⟨[], ⟨rfl, rfl⟩, hc.st⟩) <| RunD.take (det _) tab47 30 rfl (fun f' L' w' hc => (hc.det (j := 19) rfl rfl rfl rfl).trans (congrArg Value.bool (decide_eq_false g50))) (fun f' L' w' hc => Op1.neq (hc.det (j := 26) rfl rfl rfl rfl) (hc.det (j := 28) rfl rfl rfl rfl) ⟨[], ⟨rfl, rfl⟩, hc.st⟩) <| RunD.op (det _) tab47 31 (fun f' L' w' hc => Op1.pickF (u := .bool _) (((hc.det (j := 19) rfl rfl rfl rfl)).trans (congrArg Value.bool (decide_eq_false g50))) (hc.det (j := 29) rfl rfl rfl rfl) ⟨[], ⟨rfl, rfl⟩, hc.st⟩) <| RunD.op (det _) tab47 32 (fun f' L' w' hc => Op1.move (v := .bool _) (hc.det (j := 30) rfl rfl rfl rfl) ⟨[], ⟨rfl, rfl⟩, hc.st⟩) <| RunD.splitD (j := 31) rfl (fun g51 => ?_) (fun g51 => ?_)
         · skip
           exfalso
           exact g51 hb5
         refine RunD.take (det _) tab47 33 rfl (fun f' L' w' hc => (hc.det (j := 31) rfl rfl rfl rfl).trans (congrArg Value.bool (decide_eq_false g51))) (fun f' L' w' hc => Op1.fieldAddr fld25_2 (hc.old (v := .pointer (some ⟨_, _, none⟩)) rfl rfl rfl) ⟨[], ⟨rfl, rfl⟩, hc.st⟩) <| RunD.take (det _) tab47 34 rfl (fun f' L' w' hc => (hc.det (j := 31) rfl rfl rfl rfl).trans (congrArg Value.bool (decide_eq_false g51))) (fun f' L' w' hc => Op1.load1 (v := .slice _ _ _) ty23 rfl (hc.det (j := 32) rfl rfl rfl rfl) (hc.st.cellL (List.mem_append_right _ (.tail _ (.tail _ (.tail _ (.tail _ (.tail _ (.tail _ (.tail _ (.tail _ (.tail _ (.tail _ (.tail _ (.head _))))))))))))) rfl) ⟨[], ⟨rfl, rfl⟩, hc.st⟩) <| RunD.take (det _) tab47 35 rfl (fun f' L' w' hc => (hc.det (j := 31) rfl rfl rfl rfl).trans (congrArg Value.bool (decide_eq_false g51))) (fun f' L' w' hc => Op1.fieldAddr fld56_2 (hc.old (v := .pointer (some ⟨_, _, none⟩)) rfl rfl rfl) ⟨[], ⟨rfl, rfl⟩, hc.st⟩) <| RunD.take (det _) tab47 36 rfl (fun f' L' w' hc => (hc.det (j := 31) rfl rfl rfl rfl).trans (congrArg Value.bool (decide_eq_false g51))) (fun f' L' w' hc => Op1.load1 (v := .int .i64 _) ty3 rfl (hc.det (j := 34) rfl rfl rfl rfl) (hc.st.cellL (List.mem_append_right _ (.head _)) rfl) ⟨[], ⟨rfl, rfl⟩, hc.st⟩) <| RunD.take (det _) tab47 37 rfl (fun f' L' w' hc => (hc.det (j := 31) rfl rfl rfl rfl).trans (congrArg Value.bool (decide_eq_false g51))) (fun f' L' w' hc => Op1.subN (hc.det (j := 35) rfl rfl rfl rfl) rfl rfl (wrap_i64 (by omega) (by omega)) ⟨[], ⟨rfl, rfl⟩, hc.st⟩) <| RunD.fin followsMixed tab47 hst rfl (fun f52 w R55 hs53 hd54 hr56 hst => ?_)
         obtain ⟨h156_, r0⟩ := hd54 0 156 rfl rfl
         obtain ⟨h157_, r1⟩ := hd54 1 157 rfl rfl
         obtain ⟨h158_, r2⟩ := hd54 2 158 rfl rfl
         obtain ⟨h159_, r3⟩ := hd54 3 159 rfl rfl
         obtain ⟨h160_, r4⟩ := hd54 4 160 rfl rfl
         obtain ⟨h161_, r5⟩ := hd54 5 161 rfl rfl
         obtain ⟨h162_, r6⟩ := hd54 6 162 rfl rfl
         obtain ⟨h163_, r7⟩ := hd54 7 163 rfl rfl
         obtain ⟨h164_, r8⟩ := hd54 8 164 rfl rfl
         obtain ⟨h165_, r9⟩ := hd54 9 165 rfl rfl
         obtain ⟨h166_, r10⟩ := hd54 10 166 rfl rfl
         obtain ⟨h167_, r11⟩ := hd54 11 167 rfl rfl
         obtain ⟨h168_, r12⟩ := hd54 12 168 rfl rfl
         obtain ⟨h169_, r13⟩ := hd54 13 169 rfl rfl
         obtain ⟨h170_, r14⟩ := hd54 14 170 rfl rfl
         obtain ⟨h171_, r15⟩ := hd54 15 171 rfl rfl
         obtain ⟨h172_, r16⟩ := hd54 16 172 rfl rfl
         obtain ⟨h173_, r17⟩ := hd54 17 173 rfl rfl
         obtain ⟨h174_, r18⟩ := hd54 18 174 rfl rfl
         obtain ⟨h175_, r19⟩ := hd54 19 175 rfl rfl
         obtain ⟨h176_, r20⟩ := hd54 20 176 rfl rfl
         obtain ⟨h177_, r21⟩ := hd54 21 177 rfl rfl
         obtain ⟨h178_, r22⟩ := hd54 22 178 rfl rfl
         obtain ⟨h179_, r23⟩ := hd54 23 179 rfl rfl
         obtain ⟨h180_, r24⟩ := hd54 24 180 rfl rfl
         obtain ⟨h181_, r25⟩ := hd54 25 181 rfl rfl
         obtain ⟨h182_, r26⟩ := hd54 26 182 rfl rfl
         obtain ⟨h183_, r27⟩ := hd54 27 183 rfl rfl
         obtain ⟨h184_, r28⟩ := hd54 28 184 rfl rfl
         obtain ⟨h185_, r29⟩ := hd54 29 185 rfl rfl
         obtain ⟨h186_, r30⟩ := hd54 30 186 rfl rfl
         obtain ⟨h187_, r31⟩ := hd54 31 187 rfl rfl
         obtain ⟨h188_, r32⟩ := hd54 32 188 rfl rfl
         obtain ⟨h189_, r33⟩ := hd54 33 189 rfl rfl
         obtain ⟨h190_, r34⟩ := hd54 34 190 rfl rfl
         obtain ⟨h191_, r35⟩ := hd54 35 191 rfl rfl
         obtain ⟨h192_, r36⟩ := hd54 36 192 rfl rfl
         simp only [show List.range 37 = [0, 1, 2, 3, 4, 5, 6, 7, 8, 9, 10, 11, 12, 13, 14, 15, 16, 17, 18, 19, 20, 21, 22, 23, 24, 25, 26, 27, 28, 29, 30, 31, 32, 33, 34, 35, 36] from rfl, List.flatMap_cons, List.flatMap_nil, List.map_cons, List.map_nil, r0, r1, r2, r3, r4, r5, r6, r7, r8, r9, r10, r11, r12, r13, r14, r15, r16, r17, r18, r19, r20, r21, r22, r23, r24, r25, r26, r27, r28, r29, r30, r31, r32, r33, r34, r35, r36, List.nil_append, List.append_nil, List.cons_append] at hst
         refine RunL.slots (sl := [(1, .pointer (some ⟨_, _, none⟩)), (3, .pointer (some ⟨_, _, none⟩)), (5, .slice _ _ _), (10, .int .i64 _), (11, .pointer (some ⟨_, _, none⟩)), (12, .int .i64 _), (13, .pointer (some ⟨_, _, none⟩)), (187, .bool _), (189, .slice _ _ _), (192, .int .i64 _)]) ⟨(hs53 1 rfl).trans rfl, (hs53 3 rfl).trans rfl, (hs53 5 rfl).trans rfl, (hs53 10 rfl).trans rfl, (hs53 11 rfl).trans rfl, (hs53 12 rfl).trans rfl, (hs53 13 rfl).trans rfl, h187_, h189_, h192_, trivial⟩ ?_
         clear hs53 hd54 hr56 tab47
         refine TK (t := 187) rfl (congrArg Value.bool (decide_eq_false g51)) <| Op1.indexRs ty23 ty39 (Res.rmod_insts (hst.hD _ (.head _))) rfl rfl (by omega) (by omega) <| TK (t := 187) rfl (congrArg Value.bool (decide_eq_false g51)) <| Op1.fieldAddr fld39_0 rfl <| TK (t := 187) rfl (congrArg Value.bool (decide_eq_false g51)) <| Op1.load1 (v := .int .u16 _) ty33 rfl rfl (Res.rs2_cellF (Res.rmod_insts (hst.hD _ (.head _))) (flat_cell (g := instC) (d := zeroI) instC_len rfl (by omega))) <| TK (t := 187) rfl (congrArg Value.bool (decide_eq_false g51)) (Op1.call1 (v1 := .int .u16 _) ent21 rfl rfl ((R5ly_Ends _ _).mono fun v w hp => ?_))
         obtain ⟨rfl, hp⟩ := hp
         replace hst := hst.keepc hp
         clear hp
         refine TK (t := 187) rfl (congrArg Value.bool (decide_eq_false g51)) <| Op1.not rfl <| CN <| Op1.pickF (u := .bool _) (congrArg Value.bool (decide_eq_false g51)) rfl <| NL <| Run.forget [(1, .pointer (some ⟨_, _, none⟩)), (3, .pointer (some ⟨_, _, none⟩)), (5, .slice _ _ _), (10, .int .i64 _), (11, .pointer (some ⟨_, _, none⟩)), (12, .int .i64 _), (13, .pointer (some ⟨_, _, none⟩)), (198, .bool _)] ⟨rfl, rfl, rfl, rfl, rfl, rfl, rfl, rfl, trivial⟩ fun f => run_cond_split rfl (fun g57 => ?_) (fun g57 => ?_)
         · skip
           exfalso
           rw [hb6] at g57; cases g57
         refine run_skip <| RG <| CN <| Op1.fieldAddr fld56_2 rfl <| CN <| Op1.load1 (v := .int .i64 _) ty3 rfl rfl (hst.cellL (.head _) rfl) <| AI rfl <| NL <| run_inBlock <| RG <| MI rfl <| CN <| Op1.addN rfl rfl rfl (wrap_i64 (by omega) (by omega)) <| AI rfl <| NL <| run_inLoop ?_
         replace hst := hst.pick (.cons (.there (.here)) (.cons (.there (.here)) (.cons (.there (.here)) (.cons (.there (.here)) (.cons (.there (.here)) (.cons (.there (.here)) (.cons (.there (.here)) (.cons (.there (.here)) (.cons (.there (.here)) (.cons (.there (.here)) (.cons (.there (.here)) .nil)))))))))))
         exact ih45 ((k + 1, ((xs.getD (n : Int).toNat zeroFun).fu.blocks.getD (k : Int).toNat zeroB).to)) _ w (by (try dsimp only); omega) hst (⟨hb7, by (try dsimp only); omega⟩) ⟨rfl, rfl, rfl, rfl, rfl, trivial⟩ ⟨rfl, (congrArg (Value.int .i64) (by (try dsimp only); omega)), trivial⟩
       have hbe := blkW_end hK.1 (by omega)
       refine run_exit (id := 4) rfl <| SQ <| SR <| CN <| Op1.fieldAddr fld54_4 rfl <| CN <| Op1.load1 (v := .int .i64 _) ty3 rfl rfl (hst.cellL (.head _) rfl) <| MI rfl <| CN <| Op1.neq rfl rfl <| NL <| run_cond_dec rfl (fun g58 => ?_) (fun g58 => ?_)
       · skip
         exfalso
         omega
       refine run_skip <| RG <| MI rfl <| CN <| Op1.addN rfl rfl rfl (wrap_i64 (by omega) (by omega)) <| AI rfl <| NL <| run_inBlock <| RG <| MI rfl <| CN <| Op1.addN rfl rfl rfl (wrap_i64 (by omega) (by omega)) <| AI rfl <| NL <| run_inLoop ?_
       replace hst := hst.pick (.cons (.there (.here)) (.cons (.there (.here)) (.cons (.there (.here)) (.cons (.there (.here)) (.cons (.there (.here)) (.cons (.there (.here)) (.cons (.there (.here)) (.cons (.there (.here)) (.cons (.there (.here)) (.cons (.there (.here)) .nil))))))))))
       exact ih33 ((n + 1, (xs.getD (n : Int).toNat zeroFun).fu.fin + 1)) _ w (by (try dsimp only); omega) hst (⟨hf7, by (try dsimp only); omega⟩) ⟨rfl, rfl, rfl, trivial⟩ ⟨(congrArg (Value.int .i64) (by (try dsimp only); omega)), (congrArg (Value.int .i64) (by (try dsimp only); omega)), trivial⟩
     have hend := funW_end hJ.1 (by rw [List.length_map]; omega)
     rw [hL] at hend
     refine run_exit (id := 2) rfl <| SR <| MI rfl <| CN <| Op1.indexArr ty42 ty41 rfl rfl (by decide) (by decide) <| CN <| Op1.fieldAddr fld41_1 rfl <| CN <| Op1.load1 (v := .int .i64 _) ty3 rfl rfl (hst.cellL (.tail _ (.tail _ (.tail _ (.tail _ (.tail _ (.tail _ (.tail _ (.head _)))))))) rfl) <| CN <| Op1.eql rfl rfl <| AB rfl <| NL <| run_ret1 Try.func7 rfl (TP (v := .bool _) rfl) ?_
     exact ⟨congrArg Value.bool (decide_eq_true (by omega)), hst.pure⟩
   · skip
     exact absurd (by rw [hC]) hne2
 · skip
   replace hst := hst.keepc hp
   clear hp
   refine CN <| Op1.move (v := .tuple #[.agg #[.int .i64 _, .int .i64 _, .int .i64 _, .int .i64 _, .int .i64 _, .int .i64 _, .int .i64 _, .int .i64 _, .int .i64 _, .int .i64 _, .int .i64 _, .int .i64 _, .int .i64 _, .int .i64 _, .int .i64 _, .int .i64 _, .int .i64 _, .int .i64 _, .int .i64 _, .int .i64 _], .agg #[.int .i64 _, .int .i64 _]]) rfl <| CN <| Op1.extract (v := .agg #[.int .i64 _, .int .i64 _, .int .i64 _, .int .i64 _, .int .i64 _, .int .i64 _, .int .i64 _, .int .i64 _, .int .i64 _, .int .i64 _, .int .i64 _, .int .i64 _, .int .i64 _, .int .i64 _, .int .i64 _, .int .i64 _, .int .i64 _, .int .i64 _, .int .i64 _, .int .i64 _]) rfl rfl <| CN <| Op1.extract (v := .agg #[.int .i64 _, .int .i64 _]) rfl rfl <| CN <| Op1.alloc hst ty42 fun w b3 hst => CN <| Op1.alloc hst ty29 fun w b4 hst => CN (SO (v := .agg #[.int .i64 _, .int .i64 _, .int .i64 _, .int .i64 _, .int .i64 _, .int .i64 _, .int .i64 _, .int .i64 _, .int .i64 _, .int .i64 _, .int .i64 _, .int .i64 _, .int .i64 _, .int .i64 _, .int .i64 _, .int .i64 _, .int .i64 _, .int .i64 _, .int .i64 _, .int .i64 _]) hst ty42 rfl rfl (.there (.here)) fun w hst => ?_)
   refine CN (SO (v := .agg #[.int .i64 _, .int .i64 _]) hst ty29 rfl rfl (.here) fun w hst => ?_)
   refine NSR <| CN <| Op1.loadA (vs := [.int .u32 _, .int .u32 _, .slice _ _ _]) ty25 rfl rfl rfl (cells_of_obj (n := 3) (hst.objL (.tail _ (.tail _ (.tail _ (.head _))))) _ rfl) <| CN (Op1.call1 (v1 := .agg #[.int .u32 _, .int .u32 _, .slice _ _ _]) ent9 rfl rfl ((R5md_CopyModule _ _ l _ _ _ (hst.hD _ (.head _)) hs.lenC hs.laC).mono fun v w hp => ?_))
   obtain ⟨bM2, dM2, rfl, hdM2, hp⟩ := hp
   replace hst : St _ _ (_ :: _) _ _ := hst.call0 hp
   clear hp
   refine CN (Op1.call1 (v1 := .agg #[.int .u32 _, .int .u32 _, .slice _ _ _]) ent17 rfl rfl ((R5ly_CutD hdM2 _ _ _ (Res.rmod_of_omod (hst.hL _ (.head _))) (Small.of hdM2 hs)).mono fun v w hp => ?_))
   rcases hp with ⟨fo, fc, xs, hC2, _, _, _⟩ | ⟨hne2, rfl, hp⟩
   · skip
     exact absurd (by rw [hC2]) hne
   · skip
     replace hst := hst.keepc hp
     clear hp
     refine CN <| Op1.move (v := .tuple #[.slice _ _ _, .agg #[.int .i64 _, .int .i64 _]]) rfl <| CN <| Op1.extract (v := .slice _ _ _) rfl rfl <| CN <| Op1.extract (v := .agg #[.int .i64 _, .int .i64 _]) rfl rfl <| CN <| Op1.alloc hst ty29 fun w b6 hst => AL rfl <| CN (SO (v := .agg #[.int .i64 _, .int .i64 _]) hst ty29 rfl rfl (.here) fun w hst => ?_)
     refine NL <| SQ <| SQ <| RunD.start [] hst (bs := [0, 0, 3, 7, 15, 15, 47, 111, 255, 511]) (ds := [some 26, some 27, some 28, some 29, some 30, some 31, some 32, some 33, some 34, some 35]) ⟨by kernel_rfl, by kernel_rfl, by kernel_rfl⟩ (fun tab59 => ?_)
     refine RunD.op (det _) tab59 1 (fun f' L' w' hc => Op1.loadA (vs := [.int .i64 _, .int .i64 _]) ty29 rfl (hc.old (v := .pointer (some ⟨_, _, none⟩)) rfl rfl rfl) rfl (cells_of_obj (n := 2) (hc.st.objL (List.mem_append_right _ (.tail _ (.tail _ (.head _))))) _ rfl) ⟨[], ⟨rfl, rfl⟩, hc.st⟩) <| RunD.op (det _) tab59 2 (fun f' L' w' hc => Op1.loadA (vs := [.int .i64 _, .int .i64 _]) ty29 rfl (hc.old (v := .pointer (some ⟨_, _, none⟩)) rfl rfl rfl) rfl (cells_of_obj (n := 2) (hc.st.objL (List.mem_append_right _ (.head _))) _ rfl) ⟨[], ⟨rfl, rfl⟩, hc.st⟩) <| RunD.op (det _) tab59 3 (fun f' L' w' hc => Op1.neqA (xs := [.int .i64 _, .int .i64 _]) (ys := [.int .i64 _, .int .i64 _]) (hc.det (j := 0) rfl rfl rfl rfl) (hc.det (j := 1) rfl rfl rfl rfl) (by kernel_rfl) (EqOk.struct Try.underlying29 (by kernel_rfl) (.cons (by decide) (PartOk.one ty27 rfl rfl) (PartOk.one ty27 rfl rfl) (EqOk.int ty27) (.cons (by decide) (PartOk.one ty3 rfl rfl) (PartOk.one ty3 rfl rfl) (EqOk.int ty3) .nil))) ⟨[], ⟨rfl, rfl⟩, hc.st⟩) <| RunD.op (det _) tab59 4 (fun f' L' w' hc => Op1.move (v := .bool _) (hc.det (j := 2) rfl rfl rfl rfl) ⟨[], ⟨rfl, rfl⟩, hc.st⟩) <| RunD.split (j := 3) rfl (fun g60 => ?_) (fun g60 => ?_)
     · skip
       exfalso
       simp at g60
     refine RunD.take (det _) tab59 5 rfl (fun f' L' w' hc => (hc.det (j := 3) rfl rfl rfl rfl).trans (congrArg Value.bool g60)) (fun f' L' w' hc => Op1.loadA (vs := [.int .i64 _, .int .i64 _]) ty29 rfl (hc.old (v := .pointer (some ⟨_, _, none⟩)) rfl rfl rfl) rfl (cells_of_obj (n := 2) (hc.st.objL (List.mem_append_right _ (.tail _ (.tail _ (.head _))))) _ rfl) ⟨[], ⟨rfl, rfl⟩, hc.st⟩) <| RunD.take (det _) tab59 6 rfl (fun f' L' w' hc => (hc.det (j := 3) rfl rfl rfl rfl).trans (congrArg Value.bool g60)) (fun f' L' w' hc => Op1.loadA (vs := [.int .u32 _, .int .u32 _, .slice _ _ _]) ty25 rfl (hc.old (v := .pointer (some ⟨_, _, none⟩)) rfl rfl rfl) rfl (cells_of_obj (n := 3) (hc.st.objL (List.mem_append_right _ (.tail _ (.tail _ (.tail _ (.tail _ (.tail _ (.head _)))))))) _ rfl) ⟨[], ⟨rfl, rfl⟩, hc.st⟩) <| RunD.take (fun v rs => ∃ bE lE, v = .agg #[.int .u32 ga, .int .u32 ba, .slice (some ⟨bE, 0, none⟩) lE.length lE.length] ∧ lE.map InstP.L = l.map InstP.L ∧ rs = [Res.omod 39 35 (some ⟨bE, 0, none⟩) lE.length lE]) tab59 7 rfl (fun f' L' w' hc => (hc.det (j := 3) rfl rfl rfl rfl).trans (congrArg Value.bool g60)) (fun f' L' w' hc => Op1.call1 (v1 := .agg #[.int .u32 _, .int .u32 _, .slice _ _ _]) ent9 rfl (hc.det (j := 5) rfl rfl rfl rfl) ((R5md_CopyModule _ _ _ _ _ _ (hc.st.hD _ (.head _)) hs.lenC hs.laC).mono fun v w hp => (by obtain ⟨bE, lE, rfl, hdE, hp⟩ := hp; exact ⟨_, ⟨bE, lE, rfl, hdE, rfl⟩, hc.st.call0 hp⟩))) <| RunD.take (det (.agg #[.int .i64 (checkF ba (l.map InstP.L)).1, .int .i64 (checkF ba (l.map InstP.L)).2])) tab59 8 rfl (fun f' L' w' hc => (hc.det (j := 3) rfl rfl rfl rfl).trans (congrArg Value.bool g60)) (fun f' L' w' hc => by obtain ⟨_, rs, ⟨bE, lE, h32, hdE, hrs⟩, _, hm⟩ := hc.dep 6 32 rfl rfl; subst hrs; exact Op1.call1 (v1 := .agg #[.int .u32 _, .int .u32 _, .slice _ _ _]) ent10 rfl (evs h32 rfl) ((R5ly_CheckD (e := (checkF ba (l.map InstP.L)).1) (a := (checkF ba (l.map InstP.L)).2) (by rw [hdE]) _ _ _ (Res.rmod_of_omod (hc.st.hL _ (List.mem_append_left _ (hm rfl _ (.head _))))) (Small.of hdE hs)).mono fun v w hp => ⟨[], ⟨hp.1, rfl⟩, hc.st.keepc hp.2⟩)) <| RunD.fin followsMixed tab59 hst rfl (fun f61 w R64 hs62 hd63 hr65 hst => ?_)
     obtain ⟨h26_, r0⟩ := hd63 0 26 rfl rfl
     obtain ⟨h27_, r1⟩ := hd63 1 27 rfl rfl
     obtain ⟨h28_, r2⟩ := hd63 2 28 rfl rfl
     obtain ⟨h29_, r3⟩ := hd63 3 29 rfl rfl
     obtain ⟨h30_, r4⟩ := hd63 4 30 rfl rfl
     obtain ⟨h31_, r5⟩ := hd63 5 31 rfl rfl
     obtain ⟨bE, lE, h32_, hdE, r6⟩ := hd63 6 32 rfl rfl
     obtain ⟨h33_, r7⟩ := hd63 7 33 rfl rfl
     simp only [show List.range 8 = [0, 1, 2, 3, 4, 5, 6, 7] from rfl, List.flatMap_cons, List.flatMap_nil, List.map_cons, List.map_nil, r0, r1, r2, r3, r4, r5, r6, r7, List.nil_append, List.append_nil, List.cons_append] at hst
     refine RunL.slots (sl := [(1, .pointer (some ⟨_, _, none⟩)), (3, .pointer (some ⟨_, _, none⟩)), (4, .pointer (some ⟨_, _, none⟩)), (5, .slice _ _ _), (29, .bool _), (30, .agg #[.int .i64 _, .int .i64 _]), (33, .agg #[.int .i64 _, .int .i64 _])]) ⟨(hs62 1 rfl).trans rfl, (hs62 3 rfl).trans rfl, (hs62 4 rfl).trans rfl, (hs62 5 rfl).trans rfl, h29_, h30_, h33_, trivial⟩ ?_
     clear hs62 hd63 hr65 tab59
     refine TK (t := 29) rfl (congrArg Value.bool g60) <| Op1.neqA (xs := [.int .i64 _, .int .i64 _]) (ys := [.int .i64 _, .int .i64 _]) rfl rfl (by kernel_rfl) (EqOk.struct Try.underlying29 (by kernel_rfl) (.cons (by decide) (PartOk.one ty27 rfl rfl) (PartOk.one ty27 rfl rfl) (EqOk.int ty27) (.cons (by decide) (PartOk.one ty3 rfl rfl) (PartOk.one ty3 rfl rfl) (EqOk.int ty3) .nil))) <| CN <| Op1.pickF (u := .bool _) (congrArg Value.bool g60) rfl <| NL <| Run.forget [(1, .pointer (some ⟨_, _, none⟩)), (3, .pointer (some ⟨_, _, none⟩)), (4, .pointer (some ⟨_, _, none⟩)), (5, .slice _ _ _), (35, .bool _)] ⟨rfl, rfl, rfl, rfl, rfl, trivial⟩ fun f => run_cond_split rfl (fun g66 => ?_) (fun g66 => ?_)
     · skip
       exfalso
       simp at g66
     refine run_skip <| SR <| CN <| Op1.call1 (v1 := .int .u32 _) ent13 rfl rfl <| Ret.det (R5kit_Enum _ _) hst fun w hst => CN <| Op1.call1 (v1 := .int .u32 _) ent13 rfl rfl <| Ret.det (R5kit_Enum _ _) hst fun w hst => CN (Op1.buildSl (z0 := [.int .u8 0, .int .u32 0, str [], .int .u8 0, .int .u32 0, str []]) hst ty37 ty35 rfl rfl (by kernel_rfl) (.c (v := .agg #[.int .u8 _, .int .u32 _, str _]) rfl (h := (.c (v := .agg #[.int .u8 _, .int .u32 _, str _]) rfl (h := .nil)))) fun w b38 hst => ?_)
     refine CN (Op1.buildStruct ty39 stf39 (.c (v := .int .u16 _) rfl (h := (.c (v := .slice _ _ _) rfl (h := .nil)))) ?_)
     refine CN (Op1.buildSl (z0 := [.int .u16 0, .int .u32 0, .int .u32 0, .slice none 0 0]) hst ty23 ty39 rfl rfl (by kernel_rfl) (.c (v := .agg #[.int .u16 _, .int .u32 _, .int .u32 _, .slice _ _ _]) rfl (h := .nil)) fun w b40 hst => ?_)
     refine CN (Op1.buildStruct ty25 stf25 (.c (v := .int .u32 _) rfl (h := (.c (v := .slice _ _ _) rfl (h := .nil)))) ?_)
     refine CN <| Op1.alloc hst ty25 fun w b7 hst => CN (SO (v := .agg #[.int .u32 _, .int .u32 _, .slice _ _ _]) hst ty25 rfl rfl (.here) fun w hst => ?_)
     refine NL <| SQ <| SQ ?_
     replace hst := hst.pick (.cons (.there (.there (.here))) (.cons (.here) (.cons (.here) (.cons (.here) (.cons (.here) (.cons (.here) (.cons (.here) (.cons (.here) (.cons (.here) (.cons (.here) .nil))))))))))
     replace hst := St.rowSl (n := 2) (es := 3) hst rfl (by decide)
     replace hst := hst.pick (.cons (.there (.there (.here))) (.cons (.here) (.cons (.here) (.cons (.here) (.cons (.here) (.cons (.here) (.cons (.here) (.cons (.here) (.cons (.here) (.cons (.here) .nil))))))))))
     replace hst := St.rowSl (n := 1) (es := 4) hst rfl (by decide)
     replace hst := hst.pick (.cons (.here) (.cons (.here) (.cons (.here) (.cons (.here) (.cons (.here) (.cons (.here) (.cons (.here) (.cons (.here) (.cons (.here) (.cons (.here) .nil))))))))))
     replace hst : St _ _ (Res.omod 39 35 (some ⟨b40, 0, none⟩) 1 ([⟨14, 0, 0, some ⟨b38, 0, none⟩, 2, [⟨4, 0, []⟩, ⟨4, 0, []⟩]⟩] : List InstP) :: _) _ _ := hst.pack (L1 := [_, _])
     refine RG <| CN <| Op1.loadA (vs := [.int .u32 _, .int .u32 _, .slice _ _ _]) ty25 rfl rfl rfl (cells_of_obj (n := 3) (hst.objL (.tail _ (.head _))) _ rfl) <| CN <| Op1.call1 (v1 := .agg #[.int .u32 _, .int .u32 _, .slice _ _ _]) ent10 rfl rfl <| Ret.det (R5ly_CheckN (e := 0) (a := 0) (l := ([⟨14, 0, 0, some ⟨b38, 0, none⟩, 2, [⟨4, 0, []⟩, ⟨4, 0, []⟩]⟩] : List InstP)) rfl least_check _ _ _ (Res.rmod_of_omod (hst.hL _ (.head _))) (Small.least rfl)) hst fun w hst => CN (Op1.buildStruct ty29 stf29 .nil ?_)
     refine CN <| Op1.neqA (xs := [.int .i64 _, .int .i64 _]) (ys := [.int .i64 _, .int .i64 _]) rfl rfl (by kernel_rfl) (EqOk.struct Try.underlying29 (by kernel_rfl) (.cons (by decide) (PartOk.one ty27 rfl rfl) (PartOk.one ty27 rfl rfl) (EqOk.int ty27) (.cons (by decide) (PartOk.one ty3 rfl rfl) (PartOk.one ty3 rfl rfl) (EqOk.int ty3) .nil))) <| NL <| run_cond_split rfl (fun g67 => ?_) (fun g67 => ?_)
     · skip
       exfalso
       simp at g67
     refine run_skip <| SQ <| SR <| CN <| Op1.fieldAddr fld29_0 rfl <| CN <| Op1.load1 (v := .int .i64 _) ty27 rfl rfl (hst.cellL (.tail _ (.tail _ (.tail _ (.tail _ (.tail _ (.head _)))))) rfl) <| CN <| Op1.neq rfl rfl <| NL <| run_cond_dec rfl (fun g68 => ?_) (fun g68 => ?_)
     · skip
       refine SR <| ML rfl <| CN <| Op1.lenSl (rest := []) ty45 rfl <| CN <| Op1.eql rfl rfl <| MB rfl <| RunL.splitD (d := 52) rfl (fun g69 => ?_) (fun g69 => ?_)
       · skip
         refine TK (t := 52) rfl (congrArg Value.bool (decide_eq_true g69)) <| Op1.loadA (vs := [.int .i64 _, .int .i64 _, .int .i64 _, .int .i64 _, .int .i64 _, .int .i64 _, .int .i64 _, .int .i64 _, .int .i64 _, .int .i64 _, .int .i64 _, .int .i64 _, .int .i64 _, .int .i64 _, .int .i64 _, .int .i64 _, .int .i64 _, .int .i64 _, .int .i64 _, .int .i64 _]) ty42 rfl rfl rfl (cells_of_obj (n := 20) (hst.objL (.tail _ (.tail _ (.tail _ (.tail _ (.tail _ (.tail _ (.head _)))))))) _ rfl) <| TK (t := 52) rfl (congrArg Value.bool (decide_eq_true g69)) <| Op1.buildArr ty42 ty41 .nil <| TK (t := 52) rfl (congrArg Value.bool (decide_eq_true g69)) <| Op1.eqlA (xs := [.int .i64 _, .int .i64 _, .int .i64 _, .int .i64 _, .int .i64 _, .int .i64 _, .int .i64 _, .int .i64 _, .int .i64 _, .int .i64 _, .int .i64 _, .int .i64 _, .int .i64 _, .int .i64 _, .int .i64 _, .int .i64 _, .int .i64 _, .int .i64 _, .int .i64 _, .int .i64 _]) (ys := [.int .i64 _, .int .i64 _, .int .i64 _, .int .i64 _, .int .i64 _, .int .i64 _, .int .i64 _, .int .i64 _, .int .i64 _, .int .i64 _, .int .i64 _, .int .i64 _, .int .i64 _, .int .i64 _, .int .i64 _, .int .i64 _, .int .i64 _, .int .i64 _, .int .i64 _, .int .i64 _]) rfl rfl (by kernel_rfl) (EqOk.array Try.underlying42 ty41 (.cons (PartOk.agg ty41 rfl rfl) (PartOk.agg ty41 rfl rfl) (EqOk.struct Try.underlying41 (by kernel_rfl) (.cons (by decide) (PartOk.one ty3 rfl rfl) (PartOk.one ty3 rfl rfl) (EqOk.int ty3) (.cons (by decide) (PartOk.one ty3 rfl rfl) (PartOk.one ty3 rfl rfl) (EqOk.int ty3) .nil))) (.cons (PartOk.agg ty41 rfl rfl) (PartOk.agg ty41 rfl rfl) (EqOk.struct Try.underlying41 (by kernel_rfl) (.cons (by decide) (PartOk.one ty3 rfl rfl) (PartOk.one ty3 rfl rfl) (EqOk.int ty3) (.cons (by decide) (PartOk.one ty3 rfl rfl) (PartOk.one ty3 rfl rfl) (EqOk.int ty3) .nil))) (.cons (PartOk.agg ty41 rfl rfl) (PartOk.agg ty41 rfl rfl) (EqOk.struct Try.underlying41 (by kernel_rfl) (.cons (by decide) (PartOk.one ty3 rfl rfl) (PartOk.one ty3 rfl rfl) (EqOk.int ty3) (.cons (by decide) (PartOk.one ty3 rfl rfl) (PartOk.one ty3 rfl rfl) (EqOk.int ty3) .nil))) (.cons (PartOk.agg ty41 rfl rfl) (PartOk.agg ty41 rfl rfl) (EqOk.struct Try.underlying41 (by kernel_rfl) (.cons (by decide) (PartOk.one ty3 rfl rfl) (PartOk.one ty3 rfl rfl) (EqOk.int ty3) (.cons (by decide) (PartOk.one ty3 rfl rfl) (PartOk.one ty3 rfl rfl) (EqOk.int ty3) .nil))) (.cons (PartOk.agg ty41 rfl rfl) (PartOk.agg ty41 rfl rfl) (EqOk.struct Try.underlying41 (by kernel_rfl) (.cons (by decide) (PartOk.one ty3 rfl rfl) (PartOk.one ty3 rfl rfl) (EqOk.int ty3) (.cons (by decide) (PartOk.one ty3 rfl rfl) (PartOk.one ty3 rfl rfl) (EqOk.int ty3) .nil))) (.cons (PartOk.agg ty41 rfl rfl) (PartOk.agg ty41 rfl rfl) (EqOk.struct Try.underlying41 (by kernel_rfl) (.cons (by decide) (PartOk.one ty3 rfl rfl) (PartOk.one ty3 rfl rfl) (EqOk.int ty3) (.cons (by decide) (PartOk.one ty3 rfl rfl) (PartOk.one ty3 rfl rfl) (EqOk.int ty3) .nil))) (.cons (PartOk.agg ty41 rfl rfl) (PartOk.agg ty41 rfl rfl) (EqOk.struct Try.underlying41 (by kernel_rfl) (.cons (by decide) (PartOk.one ty3 rfl rfl) (PartOk.one ty3 rfl rfl) (EqOk.int ty3) (.cons (by decide) (PartOk.one ty3 rfl rfl) (PartOk.one ty3 rfl rfl) (EqOk.int ty3) .nil))) (.cons (PartOk.agg ty41 rfl rfl) (PartOk.agg ty41 rfl rfl) (EqOk.struct Try.underlying41 (by kernel_rfl) (.cons (by decide) (PartOk.one ty3 rfl rfl) (PartOk.one ty3 rfl rfl) (EqOk.int ty3) (.cons (by decide) (PartOk.one ty3 rfl rfl) (PartOk.one ty3 rfl rfl) (EqOk.int ty3) .nil))) (.cons (PartOk.agg ty41 rfl rfl) (PartOk.agg ty41 rfl rfl) (EqOk.struct Try.underlying41 (by kernel_rfl) (.cons (by decide) (PartOk.one ty3 rfl rfl) (PartOk.one ty3 rfl rfl) (EqOk.int ty3) (.cons (by decide) (PartOk.one ty3 rfl rfl) (PartOk.one ty3 rfl rfl) (EqOk.int ty3) .nil))) (.cons (PartOk.agg ty41 rfl rfl) (PartOk.agg ty41 rfl rfl) (EqOk.struct Try.underlying41 (by kernel_rfl) (.cons (by decide) (PartOk.one ty3 rfl rfl) (PartOk.one ty3 rfl rfl) (EqOk.int ty3) (.cons (by decide) (PartOk.one ty3 rfl rfl) (PartOk.one ty3 rfl rfl) (EqOk.int ty3) .nil))) .nil))))))))))) <| CN <| Op1.pickT (u := .bool _) (congrArg Value.bool (decide_eq_true g69)) rfl <| AB rfl <| NL <| run_ret1 Try.func7 rfl (TP (v := .bool _) rfl) ?_
         exact ⟨congrArg Value.bool (by simp), hst.pure⟩
       exfalso
       exact g69 rfl
     exfalso
     exact g68 hne
end Go.SK
