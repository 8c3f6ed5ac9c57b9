/-
  Steps of functions, plain law, and walks of functions: what the laws rest on.
-/
import Derived.Test.YtbjkagmkphmefaaSkG0d
set_option linter.unusedVariables false
set_option linter.unusedSimpArgs false
set_option linter.unusedSectionVars false
namespace Go.SK
open Go Go.Proofs
open Go.RowKit
theorem R5ly_read (ga ba : Int) (l : List InstP) (ao : Option Addr) (cp : Nat) (w : World) (hA : (Res.rmod ao l).holds w) (hs : Small l) : Ret Try.prog 25 #[.agg #[.int .u32 ga, .int .u32 ba, .slice ao l.length cp]] w (fun v w' => (∃ bq fo fc xs, topA (l.map InstP.L) 2 ≠ topA (l.map InstP.L) 1 ∧ orderF (l.map InstP.L) = (0, 0) ∧ (checkF ba (l.map InstP.L)) = (0, 0) ∧ xs.map FunP.fu = funsK (l.map InstP.L) l.length ∧ v = .tuple #[.pointer (some ⟨bq, 0, none⟩), .agg #[.int .i64 0, .int .i64 0]] ∧ St w NoM [CutR 69 bq ao l.length cp l.length [.int .i64 ((topA (l.map InstP.L) 0) : Int), .int .i64 ((topA (l.map InstP.L) 1) : Int), .int .i64 ((topA (l.map InstP.L) 1) : Int), .int .i64 ((topA (l.map InstP.L) 2) : Int), .int .i64 ((topA (l.map InstP.L) 2) : Int), .int .i64 ((topA (l.map InstP.L) 3) : Int), .int .i64 ((topA (l.map InstP.L) 3) : Int), .int .i64 ((topA (l.map InstP.L) 4) : Int), .int .i64 ((topA (l.map InstP.L) 4) : Int), .int .i64 ((topA (l.map InstP.L) 5) : Int), .int .i64 ((topA (l.map InstP.L) 5) : Int), .int .i64 ((topA (l.map InstP.L) 6) : Int), .int .i64 ((topA (l.map InstP.L) 6) : Int), .int .i64 ((topA (l.map InstP.L) 7) : Int), .int .i64 ((topA (l.map InstP.L) 7) : Int), .int .i64 ((topA (l.map InstP.L) 8) : Int), .int .i64 ((topA (l.map InstP.L) 8) : Int), .int .i64 (l.length : Int), .int .i64 (l.length : Int), .int .i64 (l.length : Int), .slice fo xs.length fc], Res.ofuns 54 3 56 fo fc xs] [] w') ∨ ((checkF ba (l.map InstP.L)).1 ≠ 0 ∧ v = .tuple #[.pointer none, .agg #[.int .i64 (checkF ba (l.map InstP.L)).1, .int .i64 (checkF ba (l.map InstP.L)).2]] ∧ St w NoM [] [] w')) := by
 refine Ret.enter (args := [.agg #[.int .u32 ga, .int .u32 ba, .slice ao l.length cp]]) Try.func25 rfl rfl rfl ?_
 have hst : St w NoM [] [Res.rmod ao l] w := St.init_D hA
 clear hA
 obtain ⟨se, sa, hS⟩ : ∃ se sa, shapeF ba (l.map InstP.L) = (se, sa) := ⟨_, _, rfl⟩
 have hL : (l.map InstP.L).length = l.length := List.length_map _
 have hl := hs.len
 have hla := hs.la9
 refine SR <| CN <| Op1.box (v := .agg #[.int .u32 _, .int .u32 _, .slice _ _ _]) hst rfl rfl fun w b1 hst => CN <| Op1.assign (v := _) rfl <| CN <| Op1.alloc hst ty29 fun w b3 hst => NL <| SQ <| SR <| CN <| Op1.loadA (vs := [.int .u32 _, .int .u32 _, .slice _ _ _]) ty25 rfl rfl rfl (cells_of_obj (n := 3) (hst.objL (.tail _ (.head _))) _ rfl) <| CN <| Op1.call1 (v1 := .agg #[.int .u32 _, .int .u32 _, .slice _ _ _]) ent32 rfl rfl <| Ret.det (R5cd_Shape2 ga ba l _ _ hS _ (hst.hD _ (.head _)) hs.len hs.op hs.sum hs.txt) hst fun w hst => CN <| Op1.alloc hst ty29 fun w b4 hst => CN (SO (v := .agg #[.int .i64 _, .int .i64 _]) hst ty29 rfl rfl (.here) fun w hst => ?_)
 refine NSR <| CN <| Op1.fieldAddr fld29_0 rfl <| CN <| Op1.load1 (v := .int .i64 _) ty27 rfl rfl (hst.cellL (.head _) rfl) <| CN <| Op1.neq rfl rfl <| NL <| run_cond_dec rfl (fun g1 => ?_) (fun g1 => ?_)
 · skip
   have hC := check_shape (bd := ba) (l := (l.map InstP.L)) (by rw [hS]; exact g1)
   refine SQ <| RunD.start [] hst (bs := [0, 0, 3]) (ds := [some 11, some 2, none]) ⟨by kernel_rfl, by kernel_rfl, by kernel_rfl⟩ (fun tab2 => ?_)
   refine RunD.op (det _) tab2 1 (fun f' L' w' hc => Op1.loadA (vs := [.int .i64 _, .int .i64 _]) ty29 rfl (hc.old (v := .pointer (some ⟨_, _, none⟩)) rfl rfl rfl) rfl (cells_of_obj (n := 2) (hc.st.objL (List.mem_append_right _ (.head _))) _ rfl) ⟨[], ⟨rfl, rfl⟩, hc.st⟩) <| RunD.op (det _) tab2 2 (fun f' L' w' hc => Op1.assign (v := _) rfl ⟨[], ⟨rfl, rfl⟩, hc.st⟩) <| RunD.fin followsMixed tab2 hst rfl (fun f3 w R6 hs4 hd5 hr7 hst => ?_)
   obtain ⟨h11_, r0⟩ := hd5 0 11 rfl rfl
   obtain ⟨h2_, r1⟩ := hd5 1 2 rfl rfl
   simp only [show List.range 2 = [0, 1] from rfl, List.flatMap_cons, List.flatMap_nil, List.map_cons, List.map_nil, r0, r1, List.nil_append, List.append_nil, List.cons_append] at hst
   refine RunL.slots (sl := [(2, _), (3, .pointer (some ⟨_, _, none⟩)), (11, .agg #[.int .i64 _, .int .i64 _])]) ⟨h2_, (hs4 3 rfl).trans rfl, h11_, trivial⟩ ?_
   clear hs4 hd5 hr7 tab2
   refine CN (SO (v := .agg #[.int .i64 _, .int .i64 _]) hst ty29 rfl rfl (.there (.here)) fun w hst => ?_)
   refine NL <| run_ret2 Try.func25 rfl (TP (v := _) rfl) (RV.cellA (vs := [.int .i64 _, .int .i64 _]) rfl ty29 rfl rfl (cells_of_obj (n := 2) (hst.objL (.tail _ (.head _))) _ rfl)) ?_
   replace hst := hst.pick .nil
   have hse : se ≠ 0 := g1
   rw [hC, hS]
   exact .inr ⟨hse, rfl, hst.noD⟩
 have hS0 : (shapeF ba (l.map InstP.L)).1 = 0 := by rw [hS]; exact Classical.not_not.1 g1
 have hkn := shape_known hS0
 have hkm := known_map hkn
 have hl2 := shape_len hS0
 rw [hL] at hl2
 refine run_skip <| SR <| CN <| Op1.fieldAddr fld25_2 rfl <| CN <| Op1.load1 (v := .slice _ _ _) ty23 rfl rfl (hst.cellL (.tail _ (.tail _ (.head _))) rfl) <| CN (Op1.buildStruct ty69 stf69 (.c (v := .slice _ _ _) rfl (h := .nil)) ?_)
 refine CN <| Op1.box (v := .agg #[.slice _ _ _, .int .i64 _, .int .i64 _, .int .i64 _, .int .i64 _, .int .i64 _, .int .i64 _, .int .i64 _, .int .i64 _, .int .i64 _, .int .i64 _, .int .i64 _, .int .i64 _, .int .i64 _, .int .i64 _, .int .i64 _, .int .i64 _, .int .i64 _, .int .i64 _, .int .i64 _, .int .i64 _, .int .i64 _, .slice _ _ _]) hst rfl rfl fun w b15 hst => AP rfl <| NL <| SQ <| run_block <| SR <| MP rfl ?_
 replace hst := hst.pick (.cons (.here) (.cons (.here) (.cons (.here) (.cons (.here) .nil))))
 refine CN (Op1.call1 (v1 := .pointer (some ⟨_, _, none⟩)) ent33 rfl rfl ((R5ly_cut b15 l ao cp hkm _ (hst.hL _ (.head _)) (hst.hD _ (.head _)) (hst.sepD _ (.head _) _ (.head _)) hl2 hla hs.op).mono fun v w hp => ?_))
 rcases hp with ⟨fo, fc, xs, htp, hor, hxs, rfl, hp⟩ | ⟨e, tl, hs1, rfl, hp⟩
 · skip
   replace hst : St _ _ (_ :: _ :: _) _ _ := hst.call1 hp
   clear hp
   refine AB rfl <| NL <| run_cond_true (congrArg Value.bool (rfl : true = _)) <| SR <| MP rfl <| CN (Op1.buildStruct ty29 stf29 .nil ?_)
   refine AP rfl <| CN (SO (v := .agg #[.int .i64 _, .int .i64 _]) hst ty29 rfl rfl (.there (.there (.there (.here)))) fun w hst => ?_)
   refine NL <| run_ret2 Try.func25 rfl (TP (v := .pointer (some ⟨_, _, none⟩)) rfl) (RV.cellA (vs := [.int .i64 _, .int .i64 _]) rfl ty29 rfl rfl (cells_of_obj (n := 2) (hst.objL (.tail _ (.tail _ (.tail _ (.head _))))) _ rfl)) ?_
   replace hst := hst.pick (.cons (.here) (.cons (.here) .nil))
   exact .inl ⟨_, fo, fc, xs, htp, hor, (by rw [check_order hS0, hor]), hxs, rfl, hst.noD⟩
 · skip
   replace hst : St _ _ (_ :: _) _ _ := hst.call1 hp
   have hC := check_stuck hS0 hs1
   rw [hL] at hC
   have hsl := hs1.1
   clear hp
   refine AB rfl <| NL <| run_cond_false (congrArg Value.bool (rfl : false = _)) <| SQ <| RunD.start [] hst (bs := [0, 1, 3, 7, 0, 16, 48, 127, 255]) (ds := [some 22, some 23, some 24, some 25, some 26, some 27, some 28, some 29, some 21]) ⟨by kernel_rfl, by kernel_rfl, by kernel_rfl⟩ (fun tab8 => ?_)
   refine RunD.op (det _) tab8 1 (fun f' L' w' hc => Op1.move (v := .pointer (some ⟨_, _, none⟩)) (hc.old (v := .pointer (some ⟨_, _, none⟩)) rfl rfl rfl) ⟨[], ⟨rfl, rfl⟩, hc.st⟩) <| RunD.op (det _) tab8 2 (fun f' L' w' hc => Op1.nilCheckP (hc.det (j := 0) rfl rfl rfl rfl) ⟨[], ⟨rfl, rfl⟩, hc.st⟩) <| RunD.op (det _) tab8 3 (fun f' L' w' hc => Op1.fieldAddr fld69_1 (hc.det (j := 1) rfl rfl rfl rfl) ⟨[], ⟨rfl, rfl⟩, hc.st⟩) <| RunD.op (det _) tab8 4 (fun f' L' w' hc => Op1.load1 (v := .int .i64 _) ty3 rfl (hc.det (j := 2) rfl rfl rfl rfl) (hc.st.cellL (List.mem_append_right _ (.head _)) rfl) ⟨[], ⟨rfl, rfl⟩, hc.st⟩) <| RunD.op (det _) tab8 5 (fun f' L' w' hc => Op1.fieldAddr fld25_2 (hc.old (v := .pointer (some ⟨_, _, none⟩)) rfl rfl rfl) ⟨[], ⟨rfl, rfl⟩, hc.st⟩) <| RunD.op (det _) tab8 6 (fun f' L' w' hc => Op1.load1 (v := .slice _ _ _) ty23 rfl (hc.det (j := 4) rfl rfl rfl rfl) (hc.st.cellL (List.mem_append_right _ (.tail _ (.tail _ (.tail _ (.head _))))) rfl) ⟨[], ⟨rfl, rfl⟩, hc.st⟩) <| RunD.op (det _) tab8 7 (fun f' L' w' hc => Op1.lenSl (rest := []) ty23 (hc.det (j := 5) rfl rfl rfl rfl) ⟨[], ⟨rfl, rfl⟩, hc.st⟩) <| RunD.fin followsMixed tab8 hst rfl (fun f9 w R12 hs10 hd11 hr13 hst => ?_)
   obtain ⟨h22_, r0⟩ := hd11 0 22 rfl rfl
   obtain ⟨h23_, r1⟩ := hd11 1 23 rfl rfl
   obtain ⟨h24_, r2⟩ := hd11 2 24 rfl rfl
   obtain ⟨h25_, r3⟩ := hd11 3 25 rfl rfl
   obtain ⟨h26_, r4⟩ := hd11 4 26 rfl rfl
   obtain ⟨h27_, r5⟩ := hd11 5 27 rfl rfl
   obtain ⟨h28_, r6⟩ := hd11 6 28 rfl rfl
   simp only [show List.range 7 = [0, 1, 2, 3, 4, 5, 6] from rfl, List.flatMap_cons, List.flatMap_nil, List.map_cons, List.map_nil, r0, r1, r2, r3, r4, r5, r6, List.nil_append, List.append_nil, List.cons_append] at hst
   refine RunL.slots (sl := [(3, .pointer (some ⟨_, _, none⟩)), (5, .pointer (some ⟨_, _, none⟩)), (25, .int .i64 _), (28, .int .i64 _)]) ⟨(hs10 3 rfl).trans rfl, (hs10 5 rfl).trans rfl, h25_, h28_, trivial⟩ ?_
   clear hs10 hd11 hr13 tab8
   refine CN <| Op1.lss rfl rfl <| AB rfl <| NL <| Run.forget [(3, .pointer (some ⟨_, _, none⟩)), (5, .pointer (some ⟨_, _, none⟩)), (21, .bool _)] ⟨rfl, rfl, rfl, trivial⟩ fun f => run_cond_dec rfl (fun g14 => ?_) (fun g14 => ?_)
   · skip
     refine SQ <| RunD.start [] hst (bs := [0, 1, 3, 7, 15, 0, 63]) (ds := [some 30, some 31, some 32, some 33, some 34, some 2, none]) ⟨by kernel_rfl, by kernel_rfl, by kernel_rfl⟩ (fun tab15 => ?_)
     refine RunD.op (det _) tab15 1 (fun f' L' w' hc => Op1.move (v := .pointer (some ⟨_, _, none⟩)) (hc.old (v := .pointer (some ⟨_, _, none⟩)) rfl rfl rfl) ⟨[], ⟨rfl, rfl⟩, hc.st⟩) <| RunD.op (det _) tab15 2 (fun f' L' w' hc => Op1.nilCheckP (hc.det (j := 0) rfl rfl rfl rfl) ⟨[], ⟨rfl, rfl⟩, hc.st⟩) <| RunD.op (det _) tab15 3 (fun f' L' w' hc => Op1.fieldAddr fld69_1 (hc.det (j := 1) rfl rfl rfl rfl) ⟨[], ⟨rfl, rfl⟩, hc.st⟩) <| RunD.op (det _) tab15 4 (fun f' L' w' hc => Op1.load1 (v := .int .i64 _) ty3 rfl (hc.det (j := 2) rfl rfl rfl rfl) (hc.st.cellL (List.mem_append_right _ (.head _)) rfl) ⟨[], ⟨rfl, rfl⟩, hc.st⟩) <| RunD.op (det _) tab15 5 (fun f' L' w' hc => Op1.buildStruct ty29 stf29 (.c (v := .int .i64 _) rfl (h := (.c (v := .int .i64 _) (hc.det (j := 3) rfl rfl rfl rfl) (h := .nil)))) ⟨[], ⟨rfl, rfl⟩, hc.st⟩) ?_
     refine RunD.op (det _) tab15 6 (fun f' L' w' hc => Op1.assign (v := _) rfl ⟨[], ⟨rfl, rfl⟩, hc.st⟩) <| RunD.fin followsMixed tab15 hst rfl (fun f16 w R19 hs17 hd18 hr20 hst => ?_)
     obtain ⟨h30_, r0⟩ := hd18 0 30 rfl rfl
     obtain ⟨h31_, r1⟩ := hd18 1 31 rfl rfl
     obtain ⟨h32_, r2⟩ := hd18 2 32 rfl rfl
     obtain ⟨h33_, r3⟩ := hd18 3 33 rfl rfl
     obtain ⟨h34_, r4⟩ := hd18 4 34 rfl rfl
     obtain ⟨h2_, r5⟩ := hd18 5 2 rfl rfl
     simp only [show List.range 6 = [0, 1, 2, 3, 4, 5] from rfl, List.flatMap_cons, List.flatMap_nil, List.map_cons, List.map_nil, r0, r1, r2, r3, r4, r5, List.nil_append, List.append_nil, List.cons_append] at hst
     refine RunL.slots (sl := [(2, _), (3, .pointer (some ⟨_, _, none⟩)), (34, .agg #[.int .i64 _, .int .i64 _])]) ⟨h2_, (hs17 3 rfl).trans rfl, h34_, trivial⟩ ?_
     clear hs17 hd18 hr20 tab15
     refine CN (SO (v := .agg #[.int .i64 _, .int .i64 _]) hst ty29 rfl rfl (.there (.there (.here))) fun w hst => ?_)
     refine NL <| run_ret2 Try.func25 rfl (TP (v := _) rfl) (RV.cellA (vs := [.int .i64 _, .int .i64 _]) rfl ty29 rfl rfl (cells_of_obj (n := 2) (hst.objL (.tail _ (.tail _ (.head _)))) _ rfl)) ?_
     replace hst := hst.pick .nil
     rw [hC, if_pos (by omega)]
     exact .inr ⟨(by simp), rfl, hst.noD⟩
   refine run_skip <| run_inBlock <| SQ <| RunD.start [] hst (bs := [0, 1, 3, 7, 15, 0, 63]) (ds := [some 35, some 36, some 37, some 38, some 39, some 2, none]) ⟨by kernel_rfl, by kernel_rfl, by kernel_rfl⟩ (fun tab21 => ?_)
   refine RunD.op (det _) tab21 1 (fun f' L' w' hc => Op1.move (v := .pointer (some ⟨_, _, none⟩)) (hc.old (v := .pointer (some ⟨_, _, none⟩)) rfl rfl rfl) ⟨[], ⟨rfl, rfl⟩, hc.st⟩) <| RunD.op (det _) tab21 2 (fun f' L' w' hc => Op1.nilCheckP (hc.det (j := 0) rfl rfl rfl rfl) ⟨[], ⟨rfl, rfl⟩, hc.st⟩) <| RunD.op (det _) tab21 3 (fun f' L' w' hc => Op1.fieldAddr fld69_1 (hc.det (j := 1) rfl rfl rfl rfl) ⟨[], ⟨rfl, rfl⟩, hc.st⟩) <| RunD.op (det _) tab21 4 (fun f' L' w' hc => Op1.load1 (v := .int .i64 _) ty3 rfl (hc.det (j := 2) rfl rfl rfl rfl) (hc.st.cellL (List.mem_append_right _ (.head _)) rfl) ⟨[], ⟨rfl, rfl⟩, hc.st⟩) <| RunD.op (det _) tab21 5 (fun f' L' w' hc => Op1.buildStruct ty29 stf29 (.c (v := .int .i64 _) rfl (h := (.c (v := .int .i64 _) (hc.det (j := 3) rfl rfl rfl rfl) (h := .nil)))) ⟨[], ⟨rfl, rfl⟩, hc.st⟩) ?_
   refine RunD.op (det _) tab21 6 (fun f' L' w' hc => Op1.assign (v := _) rfl ⟨[], ⟨rfl, rfl⟩, hc.st⟩) <| RunD.fin followsMixed tab21 hst rfl (fun f22 w R25 hs23 hd24 hr26 hst => ?_)
   obtain ⟨h35_, r0⟩ := hd24 0 35 rfl rfl
   obtain ⟨h36_, r1⟩ := hd24 1 36 rfl rfl
   obtain ⟨h37_, r2⟩ := hd24 2 37 rfl rfl
   obtain ⟨h38_, r3⟩ := hd24 3 38 rfl rfl
   obtain ⟨h39_, r4⟩ := hd24 4 39 rfl rfl
   obtain ⟨h2_, r5⟩ := hd24 5 2 rfl rfl
   simp only [show List.range 6 = [0, 1, 2, 3, 4, 5] from rfl, List.flatMap_cons, List.flatMap_nil, List.map_cons, List.map_nil, r0, r1, r2, r3, r4, r5, List.nil_append, List.append_nil, List.cons_append] at hst
   refine RunL.slots (sl := [(2, _), (3, .pointer (some ⟨_, _, none⟩)), (39, .agg #[.int .i64 _, .int .i64 _])]) ⟨h2_, (hs23 3 rfl).trans rfl, h39_, trivial⟩ ?_
   clear hs23 hd24 hr26 tab21
   refine CN (SO (v := .agg #[.int .i64 _, .int .i64 _]) hst ty29 rfl rfl (.there (.there (.here))) fun w hst => ?_)
   refine NL <| run_ret2 Try.func25 rfl (TP (v := _) rfl) (RV.cellA (vs := [.int .i64 _, .int .i64 _]) rfl ty29 rfl rfl (cells_of_obj (n := 2) (hst.objL (.tail _ (.tail _ (.head _)))) _ rfl)) ?_
   replace hst := hst.pick .nil
   rw [hC, if_neg (by omega)]
   exact .inr ⟨(by simp), rfl, hst.noD⟩
end Go.SK
namespace Go.SK
open Go Go.Proofs
theorem ent25 : Enters Try.prog 25 := ⟨Try.f25, _, Try.func25, by kernel_rfl, rfl⟩
end Go.SK
namespace Go.SK
open Go Go.Proofs
theorem ent9 : Enters Try.prog 9 := ⟨Try.f9, _, Try.func9, by kernel_rfl, rfl⟩
end Go.SK
