/-
  Steps of functions, plain law, and walks of functions: what the laws rest on.
-/
import Derived.Test.YtoodfjpigminkaaSkG0c
set_option linter.unusedVariables false
set_option linter.unusedSimpArgs false
set_option linter.unusedSectionVars false
namespace Go.SK
open Go Go.Proofs
open Go.RowKit
theorem R3wd_RText (b : Nat) (ao : Option Addr) (cp : Nat) (l : List Int) (a : Nat) (w : World) (hR : (RdR 135 23 b ao cp l a).holds w) (hl : l.length ≤ 35184372088832) (ha : a < l.length) : Ret Try.prog 88 #[.pointer (some ⟨b, 0, none⟩)] w (fun v w' => (∃ (s : List UInt8) (n : Nat), textF (l.drop a) = (s, (n : Int), 0) ∧ 1 ≤ n ∧ a + n ≤ l.length ∧ v = .tuple #[str s, .int .i64 0] ∧ St w (RdR 135 23 b ao cp l a).foot [RdR 135 23 b ao cp l (a + n)] [] w') ∨ (∃ e : Int, textF (l.drop a) = ([], 0, e) ∧ e ≠ 0 ∧ v = .tuple #[str [], .int .i64 e] ∧ St w (RdR 135 23 b ao cp l a).foot [RdR 135 23 b ao cp l a] [] w')) := by
 have hlen : (l.drop a).length = l.length - a := List.length_drop
 rcases textF_cases (l.drop a) with ⟨e, he, h4⟩ | ⟨s, n, he, h4, h5, h6⟩
 · exact (R3wd_RTextErr b ao cp l a e w hR hl he (by omega) (by omega)).mono fun v w' hp => .inr ⟨e, he, by omega, hp⟩
 · exact (R3wd_RTextOk b ao cp l a s n w hR hl he (by omega)).mono fun v w' hp => .inl ⟨s, n, he, h4, by omega, hp⟩
theorem R3gr_Letter3 {op c : Int} {fm : FormL} {i : Int} (h0 : 0 ≤ op) (hfm : refD op = fm) (hc : letterS fm i = c) (h1 : i ≤ 9223372036854775807) (w : World) : Ret Try.prog 86 #[.int .u16 op, .int .i64 i] w (fun v w' => v = .int .u8 c ∧ St w NoM [] [] w') := by
 subst hfm; subst hc; exact R3gr_Letter op h0 i h1 w
theorem R3gr_Kind2 {c kd : Int} (hk : kindS c = kd) (w : World) : Ret Try.prog 87 #[.int .u8 c] w (fun v w' => v = .int .u8 kd ∧ St w NoM [] [] w') := by
 subst hk; exact R3gr_Kind c w
theorem R3cd_arg (bq : Nat) (fm : FormL) (b : Nat) (bound op ty res : Int) (aa : Option Addr) (ca : Nat) (ags : List ArgP) (ao : Option Addr) (cp : Nat) (l : List Int) (a : Nat) (c : Int) (hfm : refD fm.op = fm) (hc : letterS fm (ags.length : Int) = c) (w : World) (hR : (RdC 93 135 23 71 bq fm b bound op ty res aa ca ags ao cp l a).holds w) (hl : l.length ≤ 35184372088832) (ha : a ≤ l.length) (hn : ags.length ≤ 1000000) : Ret Try.prog 57 #[.pointer (some ⟨bq, 0, none⟩)] w (fun v w' => ∃ a' aa' ca' ags', v = .int .i64 (argE c (l.drop a) bound).2.2 ∧ ((argE c (l.drop a) bound).2.2 = 0 → a' = a + (argE c (l.drop a) bound).2.1 ∧ ags' = ags ++ [(argE c (l.drop a) bound).1]) ∧ a' ≤ l.length ∧ a ≤ a' ∧ ags'.length ≤ ags.length + 1 ∧ St w (RdC 93 135 23 71 bq fm b bound op ty res aa ca ags ao cp l a).foot [RdC 93 135 23 71 bq fm b bound op ty res aa' ca' ags' ao cp l (a')] [] w') := by
 refine Ret.enter (args := [.pointer (some ⟨bq, 0, none⟩)]) Try.func57 rfl rfl rfl ?_
 have hst : St w (RdC 93 135 23 71 bq fm b bound op ty res aa ca ags ao cp l a).foot [RdC 93 135 23 71 bq fm b bound op ty res aa ca ags ao cp l a] [] w := St.enter1 hR (fun d hd => by cases hd) (fun d hd => by cases hd)
 replace hst : St _ _ [_, _, _] _ _ := hst.unpack
 have hf : FOk fm := hfm ▸ refD_fok fm.op
 have hop := hf.op
 have hcb : 0 ≤ c ∧ c ≤ 255 := hc ▸ letterS_bd fm _
 obtain ⟨kd, hkd⟩ : ∃ kd, kindS c = kd := ⟨_, rfl⟩
 have hlen : (l.drop a).length = l.length - a := List.length_drop
 refine SR <| AI rfl <| NL <| SQ <| RunD.start [] hst (bs := [0, 1, 3, 7, 15, 0, 32, 96, 224, 480, 992, 2047, 4095]) (ds := [some 6, some 7, some 8, some 9, some 10, some 11, some 12, some 13, some 14, some 15, some 16, some 17, some 3]) ⟨by kernel_rfl, by kernel_rfl, by kernel_rfl⟩ (fun tab1 => ?_)
 refine RunD.op (det _) tab1 1 (fun f' L' w' hc => Op1.move (v := .pointer (some ⟨_, _, none⟩)) (hc.old (v := .pointer (some ⟨_, _, none⟩)) rfl rfl rfl) ⟨[], ⟨rfl, rfl⟩, hc.st⟩) <| RunD.op (det _) tab1 2 (fun f' L' w' hc => Op1.nilCheckP (hc.det (j := 0) rfl rfl rfl rfl) ⟨[], ⟨rfl, rfl⟩, hc.st⟩) <| RunD.op (det _) tab1 3 (fun f' L' w' hc => Op1.fieldAddr fld93_0 (hc.det (j := 1) rfl rfl rfl rfl) ⟨[], ⟨rfl, rfl⟩, hc.st⟩) <| RunD.op (det _) tab1 4 (fun f' L' w' hc => Op1.fieldAddr fld80_0 (hc.det (j := 2) rfl rfl rfl rfl) ⟨[], ⟨rfl, rfl⟩, hc.st⟩) <| RunD.op (det _) tab1 5 (fun f' L' w' hc => Op1.load1 (v := .int .u16 _) ty42 rfl (hc.det (j := 3) rfl rfl rfl rfl) (hc.st.cellL (List.mem_append_right _ (.head _)) rfl) ⟨[], ⟨rfl, rfl⟩, hc.st⟩) <| RunD.op (det _) tab1 6 (fun f' L' w' hc => Op1.move (v := .pointer (some ⟨_, _, none⟩)) (hc.old (v := .pointer (some ⟨_, _, none⟩)) rfl rfl rfl) ⟨[], ⟨rfl, rfl⟩, hc.st⟩) <| RunD.op (det _) tab1 7 (fun f' L' w' hc => Op1.nilCheckP (hc.det (j := 5) rfl rfl rfl rfl) ⟨[], ⟨rfl, rfl⟩, hc.st⟩) <| RunD.op (det _) tab1 8 (fun f' L' w' hc => Op1.fieldAddr fld93_3 (hc.det (j := 6) rfl rfl rfl rfl) ⟨[], ⟨rfl, rfl⟩, hc.st⟩) <| RunD.op (det _) tab1 9 (fun f' L' w' hc => Op1.fieldAddr fld48_3 (hc.det (j := 7) rfl rfl rfl rfl) ⟨[], ⟨rfl, rfl⟩, hc.st⟩) <| RunD.op (det _) tab1 10 (fun f' L' w' hc => Op1.load1 (v := .slice _ _ _) ty46 rfl (hc.det (j := 8) rfl rfl rfl rfl) (hc.st.cellL (List.mem_append_right _ (.head _)) rfl) ⟨[], ⟨rfl, rfl⟩, hc.st⟩) <| RunD.op (det _) tab1 11 (fun f' L' w' hc => Op1.lenSl (rest := []) ty46 (hc.det (j := 9) rfl rfl rfl rfl) ⟨[], ⟨rfl, rfl⟩, hc.st⟩) <| RunD.fin followsMixed tab1 hst rfl (fun f2 w R5 hs3 hd4 hr6 hst => ?_)
 obtain ⟨h6_, r0⟩ := hd4 0 6 rfl rfl
 obtain ⟨h7_, r1⟩ := hd4 1 7 rfl rfl
 obtain ⟨h8_, r2⟩ := hd4 2 8 rfl rfl
 obtain ⟨h9_, r3⟩ := hd4 3 9 rfl rfl
 obtain ⟨h10_, r4⟩ := hd4 4 10 rfl rfl
 obtain ⟨h11_, r5⟩ := hd4 5 11 rfl rfl
 obtain ⟨h12_, r6⟩ := hd4 6 12 rfl rfl
 obtain ⟨h13_, r7⟩ := hd4 7 13 rfl rfl
 obtain ⟨h14_, r8⟩ := hd4 8 14 rfl rfl
 obtain ⟨h15_, r9⟩ := hd4 9 15 rfl rfl
 obtain ⟨h16_, r10⟩ := hd4 10 16 rfl rfl
 simp only [show List.range 11 = [0, 1, 2, 3, 4, 5, 6, 7, 8, 9, 10] from rfl, List.flatMap_cons, List.flatMap_nil, List.map_cons, List.map_nil, r0, r1, r2, r3, r4, r5, r6, r7, r8, r9, r10, List.nil_append, List.append_nil, List.cons_append] at hst
 refine RunL.slots (sl := [(0, .pointer (some ⟨_, _, none⟩)), (10, .int .u16 _), (16, .int .i64 _)]) ⟨(hs3 0 rfl).trans rfl, h10_, h16_, trivial⟩ ?_
 clear hs3 hd4 hr6 tab1
 refine CN <| Op1.call2 (v1 := .int .u16 _) (v2 := .int .i64 _) ent86 rfl rfl rfl <| Ret.det (R3gr_Letter3 hop.1 hfm hc (by omega) _) hst fun w hst => AC rfl <| NSR <| MC rfl <| CN <| Op1.call1 (v1 := .int .u8 _) ent87 rfl rfl <| Ret.det (R3gr_Kind2 hkd _) hst fun w hst => CN (Op1.buildStruct ty71 stf71 (.c (v := .int .u8 _) rfl (h := .nil)) ?_)
 refine CN <| Op1.alloc hst ty71 fun w b4 hst => CN (SO (v := .agg #[.int .u8 _, .int .u32 _, str _]) hst ty71 rfl rfl (.here) fun w hst => ?_)
 refine NSR <| AI rfl <| NL <| Run.forget [(0, .pointer (some ⟨_, _, none⟩)), (3, .int .u8 _), (4, .pointer (some ⟨_, _, none⟩)), (5, .int .i64 _)] ⟨rfl, rfl, rfl, rfl, trivial⟩ fun f => SQ <| run_block <| SR <| MC rfl <| CN <| Op1.eql rfl rfl <| MB rfl <| RunL.splitD (d := 33) rfl (fun g7 => ?_) (fun g7 => ?_)
 · skip
   refine OM (t := 33) rfl (congrArg Value.bool (decide_eq_true g7)) rfl <| OM (t := 33) rfl (congrArg Value.bool (decide_eq_true g7)) rfl <| OM (t := 33) rfl (congrArg Value.bool (decide_eq_true g7)) rfl <| OM (t := 33) rfl (congrArg Value.bool (decide_eq_true g7)) rfl <| OM (t := 33) rfl (congrArg Value.bool (decide_eq_true g7)) rfl <| OM (t := 33) rfl (congrArg Value.bool (decide_eq_true g7)) rfl <| CN <| Op1.pickT (u := .bool _) (congrArg Value.bool (decide_eq_true g7)) rfl <| AB rfl <| NL <| run_cond_true (congrArg Value.bool (rfl : true = _)) <| SR <| AI rfl <| NL <| run_ret1 Try.func57 rfl (TP (v := .int .i64 _) rfl) ?_
   replace hst := hst.pick (.cons (.there (.here)) (.cons (.there (.here)) (.cons (.there (.here)) .nil)))
   have hE := argE_none (c := c) (ws := l.drop a) (b := bound) (by rw [hlen]; omega)
   rw [hE]
   exact ⟨a, aa, ca, ags, rfl, fun h => (absurd h (by decide)), ha, Nat.le_refl _, by omega, (St.pack (L1 := [_, _, _]) (L2 := []) hst)⟩
 refine TK (t := 33) rfl (congrArg Value.bool (decide_eq_false g7)) <| Op1.move (v := .pointer (some ⟨_, _, none⟩)) rfl <| TK (t := 33) rfl (congrArg Value.bool (decide_eq_false g7)) <| Op1.nilCheckP rfl <| TK (t := 33) rfl (congrArg Value.bool (decide_eq_false g7)) <| Op1.fieldAddr fld93_1 rfl <| TK (t := 33) rfl (congrArg Value.bool (decide_eq_false g7)) <| Op1.load1 (v := .pointer (some ⟨_, _, none⟩)) ty90 rfl rfl (hst.cellL (.tail _ (.head _)) rfl) <| TK (t := 33) rfl (congrArg Value.bool (decide_eq_false g7)) (Op1.call1 (v1 := .pointer (some ⟨_, _, none⟩)) ent56 rfl rfl ((R3wd_Left b _ _ l a _ (hst.hL _ (.tail _ (.tail _ (.head _)))) (by omega) (by omega)).mono fun v w hp => ?_))
 obtain ⟨rfl, hp⟩ := hp
 replace hst := hst.keepc hp
 clear hp
 refine TK (t := 33) rfl (congrArg Value.bool (decide_eq_false g7)) <| Op1.eql rfl rfl <| CN <| Op1.pickF (u := .bool _) (congrArg Value.bool (decide_eq_false g7)) rfl <| AB rfl <| NL <| run_cond_dec rfl (fun g8 => ?_) (fun g8 => ?_)
 · skip
   refine SR <| AI rfl <| NL <| run_ret1 Try.func57 rfl (TP (v := .int .i64 _) rfl) ?_
   replace hst := hst.pick (.cons (.there (.here)) (.cons (.there (.here)) (.cons (.there (.here)) .nil)))
   have hE := argE_none (c := c) (ws := l.drop a) (b := bound) (by rw [hlen]; omega)
   rw [hE]
   exact ⟨a, aa, ca, ags, rfl, fun h => (absurd h (by decide)), ha, Nat.le_refl _, by omega, (St.pack (L1 := [_, _, _]) (L2 := []) hst)⟩
 refine SR <| CN <| Op1.fieldAddr fld71_0 rfl <| CN <| Op1.load1 (v := .int .u8 _) ty5 rfl rfl (hst.cellL (.head _) rfl) <| CN <| Op1.eql rfl rfl <| AB rfl <| NL <| run_cond_dec rfl (fun g9 => ?_) (fun g9 => ?_)
 · skip
   refine RG <| MP rfl <| CN <| Op1.nilCheckP rfl <| CN <| Op1.fieldAddr fld93_1 rfl <| CN (Op1.load1 (v := .pointer (some ⟨_, _, none⟩)) ty90 rfl rfl (hst.cellL (.tail _ (.head _)) rfl) ?_)
   replace hst := hst.pick (.cons (.there (.there (.here))) (.cons (.here) (.cons (.here) (.cons (.here) .nil))))
   refine CN (Op1.call1 (v1 := .pointer (some ⟨_, _, none⟩)) ent88 rfl rfl ((R3wd_RText _ _ _ l a _ (hst.hL _ (.head _)) hl (by omega)).mono fun v w hp => ?_))
   rcases hp with ⟨s, n, ht, hn1, hn2, rfl, hp⟩ | ⟨e, ht, he0, rfl, hp⟩
   · skip
     replace hst : St _ _ (RdR 135 23 b ao cp l (a + n) :: _) _ _ := hst.call1 hp
     clear hp
     refine CN <| Op1.move (v := .tuple #[str _, .int .i64 _]) rfl <| CN <| Op1.extract (v := str _) rfl rfl <| CN <| Op1.extract (v := .int .i64 _) rfl rfl <| CN <| Op1.fieldAddr fld71_2 rfl <| CN (SO (v := str _) hst ty9 rfl rfl (.there (.here)) fun w hst => ?_)
     refine AI rfl <| NL <| run_inBlock <| Run.forget [(0, .pointer (some ⟨_, _, none⟩)), (3, .int .u8 _), (4, .pointer (some ⟨_, _, none⟩)), (5, .int .i64 _)] ⟨rfl, rfl, rfl, rfl, trivial⟩ fun f => SQ <| SR <| CN <| Op1.fieldAddr fld71_0 rfl <| CN <| Op1.load1 (v := .int .u8 _) ty5 rfl rfl (hst.cellL (.tail _ (.head _)) rfl) <| NL <| run_block <| SR <| CN <| Op1.eql rfl rfl <| AB rfl ?_
     refine NL <| run_cond_dec rfl (fun g10 => ?_) (fun g10 => ?_)
     · skip
       exfalso
       omega
     refine SR <| CN <| Op1.eql rfl rfl <| AB rfl <| NL <| run_cond_dec rfl (fun g11 => ?_) (fun g11 => ?_)
     · skip
       exfalso
       omega
     refine run_skip <| run_inBlock <| SQ ?_
     replace hst := hst.pick (.cons (.there (.there (.there (.here)))) (.cons (.here) (.cons (.here) (.cons (.here) .nil))))
     apply RunD.start [(8, Res.sl _ _ _ _ _ _, Res.emp)] hst (bs := [0, 0, 2, 6, 14, 30, 0, 64, 254, 511, 1023, 2047, 4095]) (ds := [some 71, some 72, some 73, some 74, some 75, some 76, some 77, some 78, some 79, some 80, some 81, some 82, none]) (htab := ⟨by kernel_rfl, by kernel_rfl, by kernel_rfl⟩)
     intro tab12
     refine RunD.op (det _) tab12 1 (fun f' L' w' hc => Op1.move (v := .pointer (some ⟨_, _, none⟩)) (hc.old (v := .pointer (some ⟨_, _, none⟩)) rfl rfl rfl) ⟨[], ⟨rfl, rfl⟩, hc.st⟩) <| RunD.op (det _) tab12 2 (fun f' L' w' hc => Op1.move (v := .pointer (some ⟨_, _, none⟩)) (hc.old (v := .pointer (some ⟨_, _, none⟩)) rfl rfl rfl) ⟨[], ⟨rfl, rfl⟩, hc.st⟩) <| RunD.op (det _) tab12 3 (fun f' L' w' hc => Op1.nilCheckP (hc.det (j := 1) rfl rfl rfl rfl) ⟨[], ⟨rfl, rfl⟩, hc.st⟩) <| RunD.op (det _) tab12 4 (fun f' L' w' hc => Op1.fieldAddr fld93_3 (hc.det (j := 2) rfl rfl rfl rfl) ⟨[], ⟨rfl, rfl⟩, hc.st⟩) <| RunD.op (det _) tab12 5 (fun f' L' w' hc => Op1.fieldAddr fld48_3 (hc.det (j := 3) rfl rfl rfl rfl) ⟨[], ⟨rfl, rfl⟩, hc.st⟩) <| RunD.op (det _) tab12 6 (fun f' L' w' hc => Op1.load1 (v := .slice _ _ _) ty46 rfl (hc.det (j := 4) rfl rfl rfl rfl) (hc.st.cellL (List.mem_append_right _ (.tail _ (.tail _ (.head _)))) rfl) ⟨[], ⟨rfl, rfl⟩, hc.st⟩) <| RunD.op (det _) tab12 7 (fun f' L' w' hc => Op1.loadA (vs := [.int .u8 _, .int .u32 _, str _]) ty71 rfl (hc.old (v := .pointer (some ⟨_, _, none⟩)) rfl rfl rfl) rfl (cells_of_obj (n := 3) (hc.st.objL (List.mem_append_right _ (.tail _ (.head _)))) _ rfl) ⟨[], ⟨rfl, rfl⟩, hc.st⟩) <| RunD.op (fun v rs => ∃ b, v = .slice (some ⟨b, 0, none⟩) 1 1 ∧ rs = [Res.row b 71 ([.int .u8 kd, .int .u32 0, str s])]) tab12 8 (fun f' L' w' hc => Op1.buildSl (z0 := [.int .u8 0, .int .u32 0, str []]) hc.st ty46 ty71 rfl rfl (by kernel_rfl) (.c (v := .agg #[.int .u8 _, .int .u32 _, str _]) (hc.det (j := 6) rfl rfl rfl rfl) (h := .nil)) fun w b hst => ⟨[_], ⟨b, rfl, rfl⟩, hst⟩) ?_
     refine RunD.ownC (fun g v rs => ∃ ao2 cp2, v = .slice ao2 (ags.length + 1) cp2 ∧ rs = [Res.sl ao2 (ags.length + 1) cp2 71 3 (ags.flatMap argC ++ [.int .u8 kd, .int .u32 0, str s])]) tab12 9 (.head _) (fun f' L' L'' w' hc ⟨X, hrem, hX⟩ => by obtain ⟨_, rs, ⟨b78, h78, hrs⟩, _, hm⟩ := hc.dep 7 78 rfl rfl; subst hrs; exact Op1.append (news := [.int .u8 kd, .int .u32 0, str s]) hc.st ty46 ty71 rfl rfl hrem (hc.det (j := 5) rfl rfl rfl rfl) (evs h78 rfl) rfl (cells_of_obj (n := 3) (hc.st.objL (List.mem_append_left _ (hm rfl _ (.head _)))) _ rfl) rfl rfl (by omega) fun w ao2 cp2 hst => ⟨[_], fun g hg => ⟨_, _, rfl, rfl⟩, hX _ _ hst⟩) <| RunD.fin followsMixed tab12 hst rfl (fun f13 w R16 hs14 hd15 hr17 hst => ?_)
     obtain ⟨h71_, r0⟩ := hd15 0 71 rfl rfl
     obtain ⟨h72_, r1⟩ := hd15 1 72 rfl rfl
     obtain ⟨h73_, r2⟩ := hd15 2 73 rfl rfl
     obtain ⟨h74_, r3⟩ := hd15 3 74 rfl rfl
     obtain ⟨h75_, r4⟩ := hd15 4 75 rfl rfl
     obtain ⟨h76_, r5⟩ := hd15 5 76 rfl rfl
     obtain ⟨h77_, r6⟩ := hd15 6 77 rfl rfl
     obtain ⟨b78, h78_, r7⟩ := hd15 7 78 rfl rfl
     obtain ⟨ao2, cp2, h79_, r8⟩ := hd15 8 79 rfl rfl
     simp only [show List.range 9 = [0, 1, 2, 3, 4, 5, 6, 7, 8] from rfl, List.flatMap_cons, List.flatMap_nil, List.map_cons, List.map_nil, r0, r1, r2, r3, r4, r5, r6, r7, r8, List.nil_append, List.append_nil, List.cons_append] at hst
     refine RunL.slots (sl := [(5, .int .i64 _), (71, .pointer (some ⟨_, _, none⟩)), (79, .slice _ _ _)]) ⟨(hs14 5 rfl).trans rfl, h71_, h79_, trivial⟩ ?_
     clear hs14 hd15 hr17 tab12
     refine CN <| Op1.nilCheckP rfl <| CN <| Op1.fieldAddr fld93_3 rfl <| CN <| Op1.fieldAddr fld48_3 rfl <| CN (SO (v := .slice _ _ _) hst ty46 rfl rfl (.there (.there (.there (.there (.there (.here)))))) fun w hst => ?_)
     refine NSR <| MI rfl <| AI rfl <| NL <| run_ret1 Try.func57 rfl (TP (v := .int .i64 _) rfl) ?_
     replace hst := hst.pick (.cons (.there (.there (.there (.there (.there (.here)))))) (.cons (.there (.there (.there (.here)))) (.cons (.there (.here)) .nil)))
     have e1 : ags.length + 1 = (ags ++ [(⟨kd, 0, s⟩ : ArgP)]).length := by simp
     have e2 : ags.flatMap argC ++ [.int .u8 kd, .int .u32 0, str s] = (ags ++ [(⟨kd, 0, s⟩ : ArgP)]).flatMap argC := by simp
     rw [e1, e2] at hst
     have hk3 : kd = 3 := by omega
     have hE := argE_text (c := c) (ws := l.drop a) (b := bound) (by omega) (by rw [hlen]; omega) (hkd.trans hk3)
     rw [ht] at hE
     rw [hE]
     exact ⟨a + n, ao2, cp2, ags ++ [(⟨kd, 0, s⟩ : ArgP)], rfl, fun _ => ⟨by (try dsimp only); omega, by rw [hk3]⟩, by omega, by omega, by simp, (St.pack (L1 := [_, _, _]) (L2 := []) hst)⟩
   · skip
     replace hst : St _ _ (RdR 135 23 b ao cp l a :: _) _ _ := hst.call1 hp
     clear hp
     refine CN <| Op1.move (v := .tuple #[str _, .int .i64 _]) rfl <| CN <| Op1.extract (v := str _) rfl rfl <| CN <| Op1.extract (v := .int .i64 _) rfl rfl <| CN <| Op1.fieldAddr fld71_2 rfl <| CN (SO (v := str _) hst ty9 rfl rfl (.there (.here)) fun w hst => ?_)
     refine AI rfl <| NL <| run_inBlock <| Run.forget [(0, .pointer (some ⟨_, _, none⟩)), (3, .int .u8 _), (4, .pointer (some ⟨_, _, none⟩)), (5, .int .i64 _)] ⟨rfl, rfl, rfl, rfl, trivial⟩ fun f => SQ <| SR <| CN <| Op1.fieldAddr fld71_0 rfl <| CN <| Op1.load1 (v := .int .u8 _) ty5 rfl rfl (hst.cellL (.tail _ (.head _)) rfl) <| NL <| run_block <| SR <| CN <| Op1.eql rfl rfl <| AB rfl ?_
     refine NL <| run_cond_dec rfl (fun g18 => ?_) (fun g18 => ?_)
     · skip
       exfalso
       omega
     refine SR <| CN <| Op1.eql rfl rfl <| AB rfl <| NL <| run_cond_dec rfl (fun g19 => ?_) (fun g19 => ?_)
     · skip
       exfalso
       omega
     refine run_skip <| run_inBlock <| SQ ?_
     replace hst := hst.pick (.cons (.there (.there (.there (.here)))) (.cons (.here) (.cons (.here) (.cons (.here) .nil))))
     apply RunD.start [(8, Res.sl _ _ _ _ _ _, Res.emp)] hst (bs := [0, 0, 2, 6, 14, 30, 0, 64, 254, 511, 1023, 2047, 4095]) (ds := [some 71, some 72, some 73, some 74, some 75, some 76, some 77, some 78, some 79, some 80, some 81, some 82, none]) (htab := ⟨by kernel_rfl, by kernel_rfl, by kernel_rfl⟩)
     intro tab20
     refine RunD.op (det _) tab20 1 (fun f' L' w' hc => Op1.move (v := .pointer (some ⟨_, _, none⟩)) (hc.old (v := .pointer (some ⟨_, _, none⟩)) rfl rfl rfl) ⟨[], ⟨rfl, rfl⟩, hc.st⟩) <| RunD.op (det _) tab20 2 (fun f' L' w' hc => Op1.move (v := .pointer (some ⟨_, _, none⟩)) (hc.old (v := .pointer (some ⟨_, _, none⟩)) rfl rfl rfl) ⟨[], ⟨rfl, rfl⟩, hc.st⟩) <| RunD.op (det _) tab20 3 (fun f' L' w' hc => Op1.nilCheckP (hc.det (j := 1) rfl rfl rfl rfl) ⟨[], ⟨rfl, rfl⟩, hc.st⟩) <| RunD.op (det _) tab20 4 (fun f' L' w' hc => Op1.fieldAddr fld93_3 (hc.det (j := 2) rfl rfl rfl rfl) ⟨[], ⟨rfl, rfl⟩, hc.st⟩) <| RunD.op (det _) tab20 5 (fun f' L' w' hc => Op1.fieldAddr fld48_3 (hc.det (j := 3) rfl rfl rfl rfl) ⟨[], ⟨rfl, rfl⟩, hc.st⟩) <| RunD.op (det _) tab20 6 (fun f' L' w' hc => Op1.load1 (v := .slice _ _ _) ty46 rfl (hc.det (j := 4) rfl rfl rfl rfl) (hc.st.cellL (List.mem_append_right _ (.tail _ (.tail _ (.head _)))) rfl) ⟨[], ⟨rfl, rfl⟩, hc.st⟩) <| RunD.op (det _) tab20 7 (fun f' L' w' hc => Op1.loadA (vs := [.int .u8 _, .int .u32 _, str _]) ty71 rfl (hc.old (v := .pointer (some ⟨_, _, none⟩)) rfl rfl rfl) rfl (cells_of_obj (n := 3) (hc.st.objL (List.mem_append_right _ (.tail _ (.head _)))) _ rfl) ⟨[], ⟨rfl, rfl⟩, hc.st⟩) <| RunD.op (fun v rs => ∃ b, v = .slice (some ⟨b, 0, none⟩) 1 1 ∧ rs = [Res.row b 71 ([.int .u8 kd, .int .u32 0, str []])]) tab20 8 (fun f' L' w' hc => Op1.buildSl (z0 := [.int .u8 0, .int .u32 0, str []]) hc.st ty46 ty71 rfl rfl (by kernel_rfl) (.c (v := .agg #[.int .u8 _, .int .u32 _, str _]) (hc.det (j := 6) rfl rfl rfl rfl) (h := .nil)) fun w b hst => ⟨[_], ⟨b, rfl, rfl⟩, hst⟩) ?_
     refine RunD.ownC (fun g v rs => ∃ ao2 cp2, v = .slice ao2 (ags.length + 1) cp2 ∧ rs = [Res.sl ao2 (ags.length + 1) cp2 71 3 (ags.flatMap argC ++ [.int .u8 kd, .int .u32 0, str []])]) tab20 9 (.head _) (fun f' L' L'' w' hc ⟨X, hrem, hX⟩ => by obtain ⟨_, rs, ⟨b78, h78, hrs⟩, _, hm⟩ := hc.dep 7 78 rfl rfl; subst hrs; exact Op1.append (news := [.int .u8 kd, .int .u32 0, str []]) hc.st ty46 ty71 rfl rfl hrem (hc.det (j := 5) rfl rfl rfl rfl) (evs h78 rfl) rfl (cells_of_obj (n := 3) (hc.st.objL (List.mem_append_left _ (hm rfl _ (.head _)))) _ rfl) rfl rfl (by omega) fun w ao2 cp2 hst => ⟨[_], fun g hg => ⟨_, _, rfl, rfl⟩, hX _ _ hst⟩) <| RunD.fin followsMixed tab20 hst rfl (fun f21 w R24 hs22 hd23 hr25 hst => ?_)
     obtain ⟨h71_, r0⟩ := hd23 0 71 rfl rfl
     obtain ⟨h72_, r1⟩ := hd23 1 72 rfl rfl
     obtain ⟨h73_, r2⟩ := hd23 2 73 rfl rfl
     obtain ⟨h74_, r3⟩ := hd23 3 74 rfl rfl
     obtain ⟨h75_, r4⟩ := hd23 4 75 rfl rfl
     obtain ⟨h76_, r5⟩ := hd23 5 76 rfl rfl
     obtain ⟨h77_, r6⟩ := hd23 6 77 rfl rfl
     obtain ⟨b78, h78_, r7⟩ := hd23 7 78 rfl rfl
     obtain ⟨ao2, cp2, h79_, r8⟩ := hd23 8 79 rfl rfl
     simp only [show List.range 9 = [0, 1, 2, 3, 4, 5, 6, 7, 8] from rfl, List.flatMap_cons, List.flatMap_nil, List.map_cons, List.map_nil, r0, r1, r2, r3, r4, r5, r6, r7, r8, List.nil_append, List.append_nil, List.cons_append] at hst
     refine RunL.slots (sl := [(5, .int .i64 _), (71, .pointer (some ⟨_, _, none⟩)), (79, .slice _ _ _)]) ⟨(hs22 5 rfl).trans rfl, h71_, h79_, trivial⟩ ?_
     clear hs22 hd23 hr25 tab20
     refine CN <| Op1.nilCheckP rfl <| CN <| Op1.fieldAddr fld93_3 rfl <| CN <| Op1.fieldAddr fld48_3 rfl <| CN (SO (v := .slice _ _ _) hst ty46 rfl rfl (.there (.there (.there (.there (.there (.here)))))) fun w hst => ?_)
     refine NSR <| MI rfl <| AI rfl <| NL <| run_ret1 Try.func57 rfl (TP (v := .int .i64 _) rfl) ?_
     replace hst := hst.pick (.cons (.there (.there (.there (.there (.there (.here)))))) (.cons (.there (.there (.there (.here)))) (.cons (.there (.here)) .nil)))
     have e1 : ags.length + 1 = (ags ++ [(⟨kd, 0, []⟩ : ArgP)]).length := by simp
     have e2 : ags.flatMap argC ++ [.int .u8 kd, .int .u32 0, str []] = (ags ++ [(⟨kd, 0, []⟩ : ArgP)]).flatMap argC := by simp
     rw [e1, e2] at hst
     have hk3 : kd = 3 := by omega
     have hE := argE_text (c := c) (ws := l.drop a) (b := bound) (by omega) (by rw [hlen]; omega) (hkd.trans hk3)
     rw [ht] at hE
     rw [hE]
     exact ⟨a, ao2, cp2, ags ++ [(⟨kd, 0, []⟩ : ArgP)], rfl, fun h => absurd h he0, ha, Nat.le_refl _, by simp, (St.pack (L1 := [_, _, _]) (L2 := []) hst)⟩
 refine RG <| MP rfl <| CN <| Op1.nilCheckP rfl <| CN <| Op1.fieldAddr fld93_1 rfl <| CN (Op1.load1 (v := .pointer (some ⟨_, _, none⟩)) ty90 rfl rfl (hst.cellL (.tail _ (.head _)) rfl) ?_)
 replace hst := hst.pick (.cons (.there (.there (.here))) (.cons (.here) (.cons (.here) (.cons (.here) .nil))))
 refine CN (Op1.call1 (v1 := .pointer (some ⟨_, _, none⟩)) ent84 rfl rfl ((R3wd_WordOk _ _ _ l a _ (hst.hL _ (.head _)) hl (by omega)).mono fun v w hp => ?_))
 obtain ⟨rfl, hp⟩ := hp
 replace hst : St _ _ (RdR 135 23 b ao cp l (a + 1) :: _) _ _ := hst.call1 hp
 clear hp
 refine CN <| Op1.move (v := .tuple #[.int .u32 _, .int .i64 _]) rfl <| CN <| Op1.extract (v := .int .u32 _) rfl rfl <| CN <| Op1.extract (v := .int .i64 _) rfl rfl <| CN <| Op1.fieldAddr fld71_1 rfl <| CN (SO (v := .int .u32 _) hst ty23 rfl rfl (.there (.here)) fun w hst => ?_)
 refine NL <| run_inBlock <| Run.forget [(0, .pointer (some ⟨_, _, none⟩)), (3, .int .u8 _), (4, .pointer (some ⟨_, _, none⟩)), (5, .int .i64 _)] ⟨rfl, rfl, rfl, rfl, trivial⟩ fun f => SQ <| SR <| CN <| Op1.fieldAddr fld71_0 rfl <| CN <| Op1.load1 (v := .int .u8 _) ty5 rfl rfl (hst.cellL (.tail _ (.head _)) rfl) <| NL <| run_block <| SR <| CN <| Op1.eql rfl rfl <| AB rfl <| NL ?_
 refine run_cond_dec rfl (fun g26 => ?_) (fun g26 => ?_)
 · skip
   refine RunD.start [] hst (bs := [0, 1, 0, 4, 12, 28, 63, 127]) (ds := [some 58, some 59, some 60, some 61, some 62, some 63, some 64, some 5]) ⟨by kernel_rfl, by kernel_rfl, by kernel_rfl⟩ (fun tab27 => ?_)
   refine RunD.op (det _) tab27 1 (fun f' L' w' hc => Op1.fieldAddr fld71_1 (hc.old (v := .pointer (some ⟨_, _, none⟩)) rfl rfl rfl) ⟨[], ⟨rfl, rfl⟩, hc.st⟩) <| RunD.op (det _) tab27 2 (fun f' L' w' hc => Op1.load1 (v := .int .u32 _) ty23 rfl (hc.det (j := 0) rfl rfl rfl rfl) (hc.st.cellL (List.mem_append_right _ (.tail _ (.head _))) rfl) ⟨[], ⟨rfl, rfl⟩, hc.st⟩) <| RunD.op (det _) tab27 3 (fun f' L' w' hc => Op1.move (v := .pointer (some ⟨_, _, none⟩)) (hc.old (v := .pointer (some ⟨_, _, none⟩)) rfl rfl rfl) ⟨[], ⟨rfl, rfl⟩, hc.st⟩) <| RunD.op (det _) tab27 4 (fun f' L' w' hc => Op1.nilCheckP (hc.det (j := 2) rfl rfl rfl rfl) ⟨[], ⟨rfl, rfl⟩, hc.st⟩) <| RunD.op (det _) tab27 5 (fun f' L' w' hc => Op1.fieldAddr fld93_2 (hc.det (j := 3) rfl rfl rfl rfl) ⟨[], ⟨rfl, rfl⟩, hc.st⟩) <| RunD.op (det _) tab27 6 (fun f' L' w' hc => Op1.load1 (v := .int .u32 _) ty23 rfl (hc.det (j := 4) rfl rfl rfl rfl) (hc.st.cellL (List.mem_append_right _ (.tail _ (.tail _ (.head _)))) rfl) ⟨[], ⟨rfl, rfl⟩, hc.st⟩) <| RunD.fin followsMixed tab27 hst rfl (fun f28 w R31 hs29 hd30 hr32 hst => ?_)
   obtain ⟨h58_, r0⟩ := hd30 0 58 rfl rfl
   obtain ⟨h59_, r1⟩ := hd30 1 59 rfl rfl
   obtain ⟨h60_, r2⟩ := hd30 2 60 rfl rfl
   obtain ⟨h61_, r3⟩ := hd30 3 61 rfl rfl
   obtain ⟨h62_, r4⟩ := hd30 4 62 rfl rfl
   obtain ⟨h63_, r5⟩ := hd30 5 63 rfl rfl
   simp only [show List.range 6 = [0, 1, 2, 3, 4, 5] from rfl, List.flatMap_cons, List.flatMap_nil, List.map_cons, List.map_nil, r0, r1, r2, r3, r4, r5, List.nil_append, List.append_nil, List.cons_append] at hst
   refine RunL.slots (sl := [(0, .pointer (some ⟨_, _, none⟩)), (4, .pointer (some ⟨_, _, none⟩)), (59, .int .u32 _), (63, .int .u32 _)]) ⟨(hs29 0 rfl).trans rfl, (hs29 4 rfl).trans rfl, h59_, h63_, trivial⟩ ?_
   clear hs29 hd30 hr32 tab27
   refine CN <| Op1.call2 (v1 := .int .u32 _) (v2 := .int .u32 _) ent85 rfl rfl rfl <| Ret.det (R3cd_id _ _ _) hst fun w hst => AI rfl <| NL <| run_inBlock <| SQ ?_
   replace hst := hst.pick (.cons (.there (.there (.there (.here)))) (.cons (.here) (.cons (.here) (.cons (.here) .nil))))
   apply RunD.start [(8, Res.sl _ _ _ _ _ _, Res.emp)] hst (bs := [0, 0, 2, 6, 14, 30, 0, 64, 254, 511, 1023, 2047, 4095]) (ds := [some 71, some 72, some 73, some 74, some 75, some 76, some 77, some 78, some 79, some 80, some 81, some 82, none]) (htab := ⟨by kernel_rfl, by kernel_rfl, by kernel_rfl⟩)
   intro tab33
   refine RunD.op (det _) tab33 1 (fun f' L' w' hc => Op1.move (v := .pointer (some ⟨_, _, none⟩)) (hc.old (v := .pointer (some ⟨_, _, none⟩)) rfl rfl rfl) ⟨[], ⟨rfl, rfl⟩, hc.st⟩) <| RunD.op (det _) tab33 2 (fun f' L' w' hc => Op1.move (v := .pointer (some ⟨_, _, none⟩)) (hc.old (v := .pointer (some ⟨_, _, none⟩)) rfl rfl rfl) ⟨[], ⟨rfl, rfl⟩, hc.st⟩) <| RunD.op (det _) tab33 3 (fun f' L' w' hc => Op1.nilCheckP (hc.det (j := 1) rfl rfl rfl rfl) ⟨[], ⟨rfl, rfl⟩, hc.st⟩) <| RunD.op (det _) tab33 4 (fun f' L' w' hc => Op1.fieldAddr fld93_3 (hc.det (j := 2) rfl rfl rfl rfl) ⟨[], ⟨rfl, rfl⟩, hc.st⟩) <| RunD.op (det _) tab33 5 (fun f' L' w' hc => Op1.fieldAddr fld48_3 (hc.det (j := 3) rfl rfl rfl rfl) ⟨[], ⟨rfl, rfl⟩, hc.st⟩) <| RunD.op (det _) tab33 6 (fun f' L' w' hc => Op1.load1 (v := .slice _ _ _) ty46 rfl (hc.det (j := 4) rfl rfl rfl rfl) (hc.st.cellL (List.mem_append_right _ (.tail _ (.tail _ (.head _)))) rfl) ⟨[], ⟨rfl, rfl⟩, hc.st⟩) <| RunD.op (det _) tab33 7 (fun f' L' w' hc => Op1.loadA (vs := [.int .u8 _, .int .u32 _, str _]) ty71 rfl (hc.old (v := .pointer (some ⟨_, _, none⟩)) rfl rfl rfl) rfl (cells_of_obj (n := 3) (hc.st.objL (List.mem_append_right _ (.tail _ (.head _)))) _ rfl) ⟨[], ⟨rfl, rfl⟩, hc.st⟩) <| RunD.op (fun v rs => ∃ b, v = .slice (some ⟨b, 0, none⟩) 1 1 ∧ rs = [Res.row b 71 ([.int .u8 kd, .int .u32 (l.getD a 0), str []])]) tab33 8 (fun f' L' w' hc => Op1.buildSl (z0 := [.int .u8 0, .int .u32 0, str []]) hc.st ty46 ty71 rfl rfl (by kernel_rfl) (.c (v := .agg #[.int .u8 _, .int .u32 _, str _]) (hc.det (j := 6) rfl rfl rfl rfl) (h := .nil)) fun w b hst => ⟨[_], ⟨b, rfl, rfl⟩, hst⟩) ?_
   refine RunD.ownC (fun g v rs => ∃ ao2 cp2, v = .slice ao2 (ags.length + 1) cp2 ∧ rs = [Res.sl ao2 (ags.length + 1) cp2 71 3 (ags.flatMap argC ++ [.int .u8 kd, .int .u32 (l.getD a 0), str []])]) tab33 9 (.head _) (fun f' L' L'' w' hc ⟨X, hrem, hX⟩ => by obtain ⟨_, rs, ⟨b78, h78, hrs⟩, _, hm⟩ := hc.dep 7 78 rfl rfl; subst hrs; exact Op1.append (news := [.int .u8 kd, .int .u32 (l.getD a 0), str []]) hc.st ty46 ty71 rfl rfl hrem (hc.det (j := 5) rfl rfl rfl rfl) (evs h78 rfl) rfl (cells_of_obj (n := 3) (hc.st.objL (List.mem_append_left _ (hm rfl _ (.head _)))) _ rfl) rfl rfl (by omega) fun w ao2 cp2 hst => ⟨[_], fun g hg => ⟨_, _, rfl, rfl⟩, hX _ _ hst⟩) <| RunD.fin followsMixed tab33 hst rfl (fun f34 w R37 hs35 hd36 hr38 hst => ?_)
   obtain ⟨h71_, r0⟩ := hd36 0 71 rfl rfl
   obtain ⟨h72_, r1⟩ := hd36 1 72 rfl rfl
   obtain ⟨h73_, r2⟩ := hd36 2 73 rfl rfl
   obtain ⟨h74_, r3⟩ := hd36 3 74 rfl rfl
   obtain ⟨h75_, r4⟩ := hd36 4 75 rfl rfl
   obtain ⟨h76_, r5⟩ := hd36 5 76 rfl rfl
   obtain ⟨h77_, r6⟩ := hd36 6 77 rfl rfl
   obtain ⟨b78, h78_, r7⟩ := hd36 7 78 rfl rfl
   obtain ⟨ao2, cp2, h79_, r8⟩ := hd36 8 79 rfl rfl
   simp only [show List.range 9 = [0, 1, 2, 3, 4, 5, 6, 7, 8] from rfl, List.flatMap_cons, List.flatMap_nil, List.map_cons, List.map_nil, r0, r1, r2, r3, r4, r5, r6, r7, r8, List.nil_append, List.append_nil, List.cons_append] at hst
   refine RunL.slots (sl := [(5, .int .i64 _), (71, .pointer (some ⟨_, _, none⟩)), (79, .slice _ _ _)]) ⟨(hs35 5 rfl).trans rfl, h71_, h79_, trivial⟩ ?_
   clear hs35 hd36 hr38 tab33
   refine CN <| Op1.nilCheckP rfl <| CN <| Op1.fieldAddr fld93_3 rfl <| CN <| Op1.fieldAddr fld48_3 rfl <| CN (SO (v := .slice _ _ _) hst ty46 rfl rfl (.there (.there (.there (.there (.there (.here)))))) fun w hst => ?_)
   refine NL <| Run.forget [(5, .int .i64 _)] ⟨rfl, trivial⟩ fun f => SR <| MI rfl <| AI rfl <| NL <| run_ret1 Try.func57 rfl (TP (v := .int .i64 _) rfl) ?_
   replace hst := hst.pick (.cons (.there (.there (.there (.there (.there (.here)))))) (.cons (.there (.there (.there (.here)))) (.cons (.there (.here)) .nil)))
   have e1 : ags.length + 1 = (ags ++ [(⟨kd, (l.getD a 0), []⟩ : ArgP)]).length := by simp
   have e2 : ags.flatMap argC ++ [.int .u8 kd, .int .u32 (l.getD a 0), str []] = (ags ++ [(⟨kd, (l.getD a 0), []⟩ : ArgP)]).flatMap argC := by simp
   rw [e1, e2] at hst
   have hE := argE_one (c := c) (ws := l.drop a) (b := bound) (by omega) (by rw [hlen]; omega) (by rw [hkd]; omega)
   have hd0 : (l.drop a).getD 0 0 = l.getD a 0 := by simp [List.getD]
   rw [hd0, hkd] at hE
   rw [if_pos (by omega)] at hE
   rw [hE]
   exact ⟨a + 1, ao2, cp2, ags ++ [(⟨kd, (l.getD a 0), []⟩ : ArgP)], rfl, fun _ => ⟨rfl, rfl⟩, by omega, by omega, by simp, (St.pack (L1 := [_, _, _]) (L2 := []) hst)⟩
 refine SR <| CN <| Op1.eql rfl rfl <| AB rfl <| NL <| run_cond_dec rfl (fun g39 => ?_) (fun g39 => ?_)
 · skip
   refine RG <| MC rfl <| CN <| Op1.fieldAddr fld71_1 rfl <| CN <| Op1.load1 (v := .int .u32 _) ty23 rfl rfl (hst.cellL (.tail _ (.head _)) rfl) <| CN <| Op1.call2 (v1 := .int .u8 _) (v2 := .int .u32 _) ent89 rfl rfl rfl <| Ret.det (R3cd_named _ _ hcb.1 hcb.2 _) hst fun w hst => AI rfl <| NL <| run_inBlock <| SQ ?_
   replace hst := hst.pick (.cons (.there (.there (.there (.here)))) (.cons (.here) (.cons (.here) (.cons (.here) .nil))))
   apply RunD.start [(8, Res.sl _ _ _ _ _ _, Res.emp)] hst (bs := [0, 0, 2, 6, 14, 30, 0, 64, 254, 511, 1023, 2047, 4095]) (ds := [some 71, some 72, some 73, some 74, some 75, some 76, some 77, some 78, some 79, some 80, some 81, some 82, none]) (htab := ⟨by kernel_rfl, by kernel_rfl, by kernel_rfl⟩)
   intro tab40
   refine RunD.op (det _) tab40 1 (fun f' L' w' hc => Op1.move (v := .pointer (some ⟨_, _, none⟩)) (hc.old (v := .pointer (some ⟨_, _, none⟩)) rfl rfl rfl) ⟨[], ⟨rfl, rfl⟩, hc.st⟩) <| RunD.op (det _) tab40 2 (fun f' L' w' hc => Op1.move (v := .pointer (some ⟨_, _, none⟩)) (hc.old (v := .pointer (some ⟨_, _, none⟩)) rfl rfl rfl) ⟨[], ⟨rfl, rfl⟩, hc.st⟩) <| RunD.op (det _) tab40 3 (fun f' L' w' hc => Op1.nilCheckP (hc.det (j := 1) rfl rfl rfl rfl) ⟨[], ⟨rfl, rfl⟩, hc.st⟩) <| RunD.op (det _) tab40 4 (fun f' L' w' hc => Op1.fieldAddr fld93_3 (hc.det (j := 2) rfl rfl rfl rfl) ⟨[], ⟨rfl, rfl⟩, hc.st⟩) <| RunD.op (det _) tab40 5 (fun f' L' w' hc => Op1.fieldAddr fld48_3 (hc.det (j := 3) rfl rfl rfl rfl) ⟨[], ⟨rfl, rfl⟩, hc.st⟩) <| RunD.op (det _) tab40 6 (fun f' L' w' hc => Op1.load1 (v := .slice _ _ _) ty46 rfl (hc.det (j := 4) rfl rfl rfl rfl) (hc.st.cellL (List.mem_append_right _ (.tail _ (.tail _ (.head _)))) rfl) ⟨[], ⟨rfl, rfl⟩, hc.st⟩) <| RunD.op (det _) tab40 7 (fun f' L' w' hc => Op1.loadA (vs := [.int .u8 _, .int .u32 _, str _]) ty71 rfl (hc.old (v := .pointer (some ⟨_, _, none⟩)) rfl rfl rfl) rfl (cells_of_obj (n := 3) (hc.st.objL (List.mem_append_right _ (.tail _ (.head _)))) _ rfl) ⟨[], ⟨rfl, rfl⟩, hc.st⟩) <| RunD.op (fun v rs => ∃ b, v = .slice (some ⟨b, 0, none⟩) 1 1 ∧ rs = [Res.row b 71 ([.int .u8 kd, .int .u32 (l.getD a 0), str []])]) tab40 8 (fun f' L' w' hc => Op1.buildSl (z0 := [.int .u8 0, .int .u32 0, str []]) hc.st ty46 ty71 rfl rfl (by kernel_rfl) (.c (v := .agg #[.int .u8 _, .int .u32 _, str _]) (hc.det (j := 6) rfl rfl rfl rfl) (h := .nil)) fun w b hst => ⟨[_], ⟨b, rfl, rfl⟩, hst⟩) ?_
   refine RunD.ownC (fun g v rs => ∃ ao2 cp2, v = .slice ao2 (ags.length + 1) cp2 ∧ rs = [Res.sl ao2 (ags.length + 1) cp2 71 3 (ags.flatMap argC ++ [.int .u8 kd, .int .u32 (l.getD a 0), str []])]) tab40 9 (.head _) (fun f' L' L'' w' hc ⟨X, hrem, hX⟩ => by obtain ⟨_, rs, ⟨b78, h78, hrs⟩, _, hm⟩ := hc.dep 7 78 rfl rfl; subst hrs; exact Op1.append (news := [.int .u8 kd, .int .u32 (l.getD a 0), str []]) hc.st ty46 ty71 rfl rfl hrem (hc.det (j := 5) rfl rfl rfl rfl) (evs h78 rfl) rfl (cells_of_obj (n := 3) (hc.st.objL (List.mem_append_left _ (hm rfl _ (.head _)))) _ rfl) rfl rfl (by omega) fun w ao2 cp2 hst => ⟨[_], fun g hg => ⟨_, _, rfl, rfl⟩, hX _ _ hst⟩) <| RunD.fin followsMixed tab40 hst rfl (fun f41 w R44 hs42 hd43 hr45 hst => ?_)
   obtain ⟨h71_, r0⟩ := hd43 0 71 rfl rfl
   obtain ⟨h72_, r1⟩ := hd43 1 72 rfl rfl
   obtain ⟨h73_, r2⟩ := hd43 2 73 rfl rfl
   obtain ⟨h74_, r3⟩ := hd43 3 74 rfl rfl
   obtain ⟨h75_, r4⟩ := hd43 4 75 rfl rfl
   obtain ⟨h76_, r5⟩ := hd43 5 76 rfl rfl
   obtain ⟨h77_, r6⟩ := hd43 6 77 rfl rfl
   obtain ⟨b78, h78_, r7⟩ := hd43 7 78 rfl rfl
   obtain ⟨ao2, cp2, h79_, r8⟩ := hd43 8 79 rfl rfl
   simp only [show List.range 9 = [0, 1, 2, 3, 4, 5, 6, 7, 8] from rfl, List.flatMap_cons, List.flatMap_nil, List.map_cons, List.map_nil, r0, r1, r2, r3, r4, r5, r6, r7, r8, List.nil_append, List.append_nil, List.cons_append] at hst
   refine RunL.slots (sl := [(5, .int .i64 _), (71, .pointer (some ⟨_, _, none⟩)), (79, .slice _ _ _)]) ⟨(hs42 5 rfl).trans rfl, h71_, h79_, trivial⟩ ?_
   clear hs42 hd43 hr45 tab40
   refine CN <| Op1.nilCheckP rfl <| CN <| Op1.fieldAddr fld93_3 rfl <| CN <| Op1.fieldAddr fld48_3 rfl <| CN (SO (v := .slice _ _ _) hst ty46 rfl rfl (.there (.there (.there (.there (.there (.here)))))) fun w hst => ?_)
   refine NL <| Run.forget [(5, .int .i64 _)] ⟨rfl, trivial⟩ fun f => SR <| MI rfl <| AI rfl <| NL <| run_ret1 Try.func57 rfl (TP (v := .int .i64 _) rfl) ?_
   replace hst := hst.pick (.cons (.there (.there (.there (.there (.there (.here)))))) (.cons (.there (.there (.there (.here)))) (.cons (.there (.here)) .nil)))
   have e1 : ags.length + 1 = (ags ++ [(⟨kd, (l.getD a 0), []⟩ : ArgP)]).length := by simp
   have e2 : ags.flatMap argC ++ [.int .u8 kd, .int .u32 (l.getD a 0), str []] = (ags ++ [(⟨kd, (l.getD a 0), []⟩ : ArgP)]).flatMap argC := by simp
   rw [e1, e2] at hst
   have hE := argE_one (c := c) (ws := l.drop a) (b := bound) (by omega) (by rw [hlen]; omega) (by rw [hkd]; omega)
   have hd0 : (l.drop a).getD 0 0 = l.getD a 0 := by simp [List.getD]
   rw [hd0, hkd] at hE
   rw [if_neg (by omega), if_pos (by omega)] at hE
   rw [hE]
   exact ⟨a + 1, ao2, cp2, ags ++ [(⟨kd, (l.getD a 0), []⟩ : ArgP)], rfl, fun _ => ⟨rfl, rfl⟩, by omega, by omega, by simp, (St.pack (L1 := [_, _, _]) (L2 := []) hst)⟩
 refine run_skip <| run_inBlock <| SQ ?_
 replace hst := hst.pick (.cons (.there (.there (.there (.here)))) (.cons (.here) (.cons (.here) (.cons (.here) .nil))))
 apply RunD.start [(8, Res.sl _ _ _ _ _ _, Res.emp)] hst (bs := [0, 0, 2, 6, 14, 30, 0, 64, 254, 511, 1023, 2047, 4095]) (ds := [some 71, some 72, some 73, some 74, some 75, some 76, some 77, some 78, some 79, some 80, some 81, some 82, none]) (htab := ⟨by kernel_rfl, by kernel_rfl, by kernel_rfl⟩)
 intro tab46
 refine RunD.op (det _) tab46 1 (fun f' L' w' hc => Op1.move (v := .pointer (some ⟨_, _, none⟩)) (hc.old (v := .pointer (some ⟨_, _, none⟩)) rfl rfl rfl) ⟨[], ⟨rfl, rfl⟩, hc.st⟩) <| RunD.op (det _) tab46 2 (fun f' L' w' hc => Op1.move (v := .pointer (some ⟨_, _, none⟩)) (hc.old (v := .pointer (some ⟨_, _, none⟩)) rfl rfl rfl) ⟨[], ⟨rfl, rfl⟩, hc.st⟩) <| RunD.op (det _) tab46 3 (fun f' L' w' hc => Op1.nilCheckP (hc.det (j := 1) rfl rfl rfl rfl) ⟨[], ⟨rfl, rfl⟩, hc.st⟩) <| RunD.op (det _) tab46 4 (fun f' L' w' hc => Op1.fieldAddr fld93_3 (hc.det (j := 2) rfl rfl rfl rfl) ⟨[], ⟨rfl, rfl⟩, hc.st⟩) <| RunD.op (det _) tab46 5 (fun f' L' w' hc => Op1.fieldAddr fld48_3 (hc.det (j := 3) rfl rfl rfl rfl) ⟨[], ⟨rfl, rfl⟩, hc.st⟩) <| RunD.op (det _) tab46 6 (fun f' L' w' hc => Op1.load1 (v := .slice _ _ _) ty46 rfl (hc.det (j := 4) rfl rfl rfl rfl) (hc.st.cellL (List.mem_append_right _ (.tail _ (.tail _ (.head _)))) rfl) ⟨[], ⟨rfl, rfl⟩, hc.st⟩) <| RunD.op (det _) tab46 7 (fun f' L' w' hc => Op1.loadA (vs := [.int .u8 _, .int .u32 _, str _]) ty71 rfl (hc.old (v := .pointer (some ⟨_, _, none⟩)) rfl rfl rfl) rfl (cells_of_obj (n := 3) (hc.st.objL (List.mem_append_right _ (.tail _ (.head _)))) _ rfl) ⟨[], ⟨rfl, rfl⟩, hc.st⟩) <| RunD.op (fun v rs => ∃ b, v = .slice (some ⟨b, 0, none⟩) 1 1 ∧ rs = [Res.row b 71 ([.int .u8 kd, .int .u32 (l.getD a 0), str []])]) tab46 8 (fun f' L' w' hc => Op1.buildSl (z0 := [.int .u8 0, .int .u32 0, str []]) hc.st ty46 ty71 rfl rfl (by kernel_rfl) (.c (v := .agg #[.int .u8 _, .int .u32 _, str _]) (hc.det (j := 6) rfl rfl rfl rfl) (h := .nil)) fun w b hst => ⟨[_], ⟨b, rfl, rfl⟩, hst⟩) ?_
 refine RunD.ownC (fun g v rs => ∃ ao2 cp2, v = .slice ao2 (ags.length + 1) cp2 ∧ rs = [Res.sl ao2 (ags.length + 1) cp2 71 3 (ags.flatMap argC ++ [.int .u8 kd, .int .u32 (l.getD a 0), str []])]) tab46 9 (.head _) (fun f' L' L'' w' hc ⟨X, hrem, hX⟩ => by obtain ⟨_, rs, ⟨b78, h78, hrs⟩, _, hm⟩ := hc.dep 7 78 rfl rfl; subst hrs; exact Op1.append (news := [.int .u8 kd, .int .u32 (l.getD a 0), str []]) hc.st ty46 ty71 rfl rfl hrem (hc.det (j := 5) rfl rfl rfl rfl) (evs h78 rfl) rfl (cells_of_obj (n := 3) (hc.st.objL (List.mem_append_left _ (hm rfl _ (.head _)))) _ rfl) rfl rfl (by omega) fun w ao2 cp2 hst => ⟨[_], fun g hg => ⟨_, _, rfl, rfl⟩, hX _ _ hst⟩) <| RunD.fin followsMixed tab46 hst rfl (fun f47 w R50 hs48 hd49 hr51 hst => ?_)
 obtain ⟨h71_, r0⟩ := hd49 0 71 rfl rfl
 obtain ⟨h72_, r1⟩ := hd49 1 72 rfl rfl
 obtain ⟨h73_, r2⟩ := hd49 2 73 rfl rfl
 obtain ⟨h74_, r3⟩ := hd49 3 74 rfl rfl
 obtain ⟨h75_, r4⟩ := hd49 4 75 rfl rfl
 obtain ⟨h76_, r5⟩ := hd49 5 76 rfl rfl
 obtain ⟨h77_, r6⟩ := hd49 6 77 rfl rfl
 obtain ⟨b78, h78_, r7⟩ := hd49 7 78 rfl rfl
 obtain ⟨ao2, cp2, h79_, r8⟩ := hd49 8 79 rfl rfl
 simp only [show List.range 9 = [0, 1, 2, 3, 4, 5, 6, 7, 8] from rfl, List.flatMap_cons, List.flatMap_nil, List.map_cons, List.map_nil, r0, r1, r2, r3, r4, r5, r6, r7, r8, List.nil_append, List.append_nil, List.cons_append] at hst
 refine RunL.slots (sl := [(5, .int .i64 _), (71, .pointer (some ⟨_, _, none⟩)), (79, .slice _ _ _)]) ⟨(hs48 5 rfl).trans rfl, h71_, h79_, trivial⟩ ?_
 clear hs48 hd49 hr51 tab46
 refine CN <| Op1.nilCheckP rfl <| CN <| Op1.fieldAddr fld93_3 rfl <| CN <| Op1.fieldAddr fld48_3 rfl <| CN (SO (v := .slice _ _ _) hst ty46 rfl rfl (.there (.there (.there (.there (.there (.here)))))) fun w hst => ?_)
 refine NSR <| MI rfl <| AI rfl <| NL <| run_ret1 Try.func57 rfl (TP (v := .int .i64 _) rfl) ?_
 replace hst := hst.pick (.cons (.there (.there (.there (.there (.there (.here)))))) (.cons (.there (.there (.there (.here)))) (.cons (.there (.here)) .nil)))
 have e1 : ags.length + 1 = (ags ++ [(⟨kd, (l.getD a 0), []⟩ : ArgP)]).length := by simp
 have e2 : ags.flatMap argC ++ [.int .u8 kd, .int .u32 (l.getD a 0), str []] = (ags ++ [(⟨kd, (l.getD a 0), []⟩ : ArgP)]).flatMap argC := by simp
 rw [e1, e2] at hst
 have hE := argE_one (c := c) (ws := l.drop a) (b := bound) (by omega) (by rw [hlen]; omega) (by rw [hkd]; omega)
 have hd0 : (l.drop a).getD 0 0 = l.getD a 0 := by simp [List.getD]
 rw [hd0, hkd] at hE
 rw [if_neg (by omega), if_neg (by omega)] at hE
 rw [hE]
 exact ⟨a + 1, ao2, cp2, ags ++ [(⟨kd, (l.getD a 0), []⟩ : ArgP)], rfl, fun _ => ⟨rfl, rfl⟩, by omega, by omega, by simp, (St.pack (L1 := [_, _, _]) (L2 := []) hst)⟩
end Go.SK
namespace Go.SK
open Go Go.Proofs
theorem stf48 : StructF Try.prog 48 [(0, 1), (1, 1), (2, 1), (3, 1)] := ⟨fieldsOf Try.prog 48, by kernel_rfl, fun w => by kernel_rfl⟩
theorem ty93 : TyF Try.prog 93 (.struct (fieldsOf Try.prog 93)) 14 136 [.int .u16 0, str [], .bool false, .bool false, str [], str [], .int .i64 0, .int .u8 0, .pointer none, .int .u32 0, .int .u16 0, .int .u32 0, .int .u32 0, .slice none 0 0] := TyF.of (by kernel_rfl) (by kernel_rfl)
theorem stf93 : StructF Try.prog 93 [(0, 8), (8, 1), (9, 1), (10, 4)] := ⟨fieldsOf Try.prog 93, by kernel_rfl, fun w => by kernel_rfl⟩
theorem ent57 : Enters Try.prog 57 := ⟨Try.f57, _, Try.func57, by kernel_rfl, rfl⟩
theorem ent58 : Enters Try.prog 58 := ⟨Try.f58, _, Try.func58, by kernel_rfl, rfl⟩
theorem ent55 : Enters Try.prog 55 := ⟨Try.f55, _, Try.func55, by kernel_rfl, rfl⟩
end Go.SK
namespace Go.SK
open Go Go.Proofs
open Go.RowKit
theorem R3cd_Inst (op : Int) (l : List Int) (ao : Option Addr) (cp : Nat) (bound : Int) (h0 : 0 ≤ op) (w : World) (hA : (Res.rs ao l.length 1 (l.flatMap u32C)).holds w) (hl : l.length ≤ 35184372088832) : Ret Try.prog 26 #[.agg #[.int .u16 op, .slice ao l.length cp], .int .u32 bound] w (fun v w' => ∃ ro rc, v = .tuple #[.agg #[.int .u16 (instF bound op l).1.op, .int .u32 (instF bound op l).1.ty, .int .u32 (instF bound op l).1.res, .slice ro (instF bound op l).1.args.length rc], .int .i64 (instF bound op l).2] ∧ St w NoM [Res.sl ro (instF bound op l).1.args.length rc 71 3 ((instF bound op l).1.args.flatMap argC)] [] w') := by
 refine Ret.enter (args := [.agg #[.int .u16 op, .slice ao l.length cp], .int .u32 bound]) Try.func26 rfl rfl rfl ?_
 have hst : St w NoM [] [Res.rs ao l.length 1 (l.flatMap u32C)] w := St.init_D hA
 clear hA
 obtain ⟨fm, hfm⟩ : ∃ fm, refD op = fm := ⟨_, rfl⟩
 obtain ⟨ob, hob⟩ : ∃ ob, (refS op).isSome = ob := ⟨_, rfl⟩
 have hf : FOk fm := hfm ▸ refD_fok op
 refine SR <| CN <| Op1.box (v := .agg #[.int .u16 _, .slice _ _ _]) hst rfl rfl fun w b2 hst => CN <| Op1.alloc hst ty48 fun w b4 hst => AI rfl <| NL <| SQ <| SR <| CN <| Op1.fieldAddr fld45_1 rfl <| CN <| Op1.load1 (v := .slice _ _ _) ty43 rfl rfl (hst.cellL (.tail _ (.head _)) rfl) <| CN <| Op1.lenSl (rest := []) ty43 rfl <| CN <| Op1.geq rfl rfl <| NL <| run_cond_dec rfl (fun g1 => ?_) (fun g1 => ?_)
 · skip
   refine SR <| CN (Op1.buildStruct ty48 stf48 .nil ?_)
   refine CN (SO (v := .agg #[.int .u16 _, .int .u32 _, .int .u32 _, .slice _ _ _]) hst ty48 rfl rfl (.here) fun w hst => ?_)
   refine AI rfl <| NL <| run_ret2 Try.func26 rfl (RV.cellA (vs := [.int .u16 _, .int .u32 _, .int .u32 _, .slice _ _ _]) rfl ty48 rfl rfl (cells_of_obj (n := 4) (hst.objL (.head _)) _ rfl)) (TP (v := .int .i64 _) rfl) ?_
   replace hst := hst.pick .nil
   have hI := instF_count (op := op) (bound := bound) (l := l) (by omega)
   rw [hI]
   exact ⟨none, 0, rfl, (hst.pushNil 71 3).noD⟩
 refine run_skip <| SR <| CN <| Op1.fieldAddr fld45_0 rfl <| CN <| Op1.load1 (v := .int .u16 _) ty42 rfl rfl (hst.cellL (.tail _ (.head _)) rfl) <| CN <| Op1.call1 (v1 := .int .u16 _) ent53 rfl rfl <| Ret.det (R3gr_Of2 h0 hfm hob _) hst fun w hst => CN <| Op1.move (v := .tuple #[.agg #[.int .u16 _, str _, .bool _, .bool _, str _, str _, .int .i64 _, .int .u8 _], .bool _]) rfl <| CN <| Op1.extract (v := .agg #[.int .u16 _, str _, .bool _, .bool _, str _, str _, .int .i64 _, .int .u8 _]) rfl rfl <| CN <| Op1.extract (v := .bool _) rfl rfl <| CN <| Op1.alloc hst ty80 fun w b6 hst => CN (SO (v := .agg #[.int .u16 _, str _, .bool _, .bool _, str _, str _, .int .i64 _, .int .u8 _]) hst ty80 rfl rfl (.here) fun w hst => ?_)
 refine AB rfl <| NL <| SQ <| SR <| MB rfl <| CN <| Op1.not rfl <| NL <| run_cond_split rfl (fun g2 => ?_) (fun g2 => ?_)
 · skip
   refine SR <| CN (Op1.buildStruct ty48 stf48 .nil ?_)
   refine CN (SO (v := .agg #[.int .u16 _, .int .u32 _, .int .u32 _, .slice _ _ _]) hst ty48 rfl rfl (.there (.here)) fun w hst => ?_)
   refine AI rfl <| NL <| run_ret2 Try.func26 rfl (RV.cellA (vs := [.int .u16 _, .int .u32 _, .int .u32 _, .slice _ _ _]) rfl ty48 rfl rfl (cells_of_obj (n := 4) (hst.objL (.tail _ (.head _))) _ rfl)) (TP (v := .int .i64 _) rfl) ?_
   replace hst := hst.pick .nil
   have hI := instF_op (op := op) (bound := bound) (l := l) (by omega) (by rw [hob]; simpa using g2)
   rw [hI]
   exact ⟨none, 0, rfl, (hst.pushNil 71 3).noD⟩
 have hobt : ob = true := by simpa using g2
 have hfo : fm.op = op := by rw [← hfm]; exact (refD_some (hob.trans hobt)).2
 have hfm2 : refD fm.op = fm := by rw [hfo]; exact hfm
 refine run_skip <| SQ <| RunD.start [] hst (bs := [0, 0, 2, 6, 0, 0, 32, 96, 255, 511, 1023]) (ds := [some 24, some 25, some 26, some 27, some 28, some 29, some 30, some 31, some 32, some 33, some 8]) ⟨by kernel_rfl, by kernel_rfl, by kernel_rfl⟩ (fun tab3 => ?_)
 refine RunD.op (det _) tab3 1 (fun f' L' w' hc => Op1.loadA (vs := [.int .u16 _, str _, .bool _, .bool _, str _, str _, .int .i64 _, .int .u8 _]) ty80 rfl (hc.old (v := .pointer (some ⟨_, _, none⟩)) rfl rfl rfl) rfl (cells_of_obj (n := 8) (hc.st.objL (List.mem_append_right _ (.head _))) _ rfl) ⟨[], ⟨rfl, rfl⟩, hc.st⟩) <| RunD.op (det _) tab3 2 (fun f' L' w' hc => Op1.fieldAddr fld45_1 (hc.old (v := .pointer (some ⟨_, _, none⟩)) rfl rfl rfl) ⟨[], ⟨rfl, rfl⟩, hc.st⟩) <| RunD.op (det _) tab3 3 (fun f' L' w' hc => Op1.load1 (v := .slice _ _ _) ty43 rfl (hc.det (j := 1) rfl rfl rfl rfl) (hc.st.cellL (List.mem_append_right _ (.tail _ (.tail _ (.head _)))) rfl) ⟨[], ⟨rfl, rfl⟩, hc.st⟩) <| RunD.op (fun v rs => ∃ b ro rc, v = .pointer (some ⟨b, 0, none⟩) ∧ rs = [RdR 135 23 b ro rc l 0]) tab3 4 (fun f' L' w' hc => Op1.call1 (v1 := .slice _ _ _) ent54 rfl (hc.det (j := 2) rfl rfl rfl rfl) ((R3wd_New l _ _ _ (hc.st.hD _ (.head _)) hl).mono fun v w hp => (by obtain ⟨b, ro, rc, rfl, hp⟩ := hp; exact ⟨_, ⟨b, ro, rc, rfl, rfl⟩, hc.st.call0 hp⟩))) <| RunD.op (det _) tab3 5 (fun f' L' w' hc => Op1.move (v := .int .u32 _) (hc.old (v := .int .u32 _) rfl rfl rfl) ⟨[], ⟨rfl, rfl⟩, hc.st⟩) <| RunD.op (det _) tab3 6 (fun f' L' w' hc => Op1.fieldAddr fld45_0 (hc.old (v := .pointer (some ⟨_, _, none⟩)) rfl rfl rfl) ⟨[], ⟨rfl, rfl⟩, hc.st⟩) <| RunD.op (det _) tab3 7 (fun f' L' w' hc => Op1.load1 (v := .int .u16 _) ty42 rfl (hc.det (j := 5) rfl rfl rfl rfl) (hc.st.cellL (List.mem_append_right _ (.tail _ (.tail _ (.head _)))) rfl) ⟨[], ⟨rfl, rfl⟩, hc.st⟩) <| RunD.op (det _) tab3 8 (fun f' L' w' hc => Op1.buildStruct ty48 stf48 (.c (v := .int .u16 _) (hc.det (j := 6) rfl rfl rfl rfl) (h := .nil)) ⟨[], ⟨rfl, rfl⟩, hc.st⟩) ?_
 refine RunD.fin followsMixed tab3 hst rfl (fun f4 w R7 hs5 hd6 hr8 hst => ?_)
 obtain ⟨h24_, r0⟩ := hd6 0 24 rfl rfl
 obtain ⟨h25_, r1⟩ := hd6 1 25 rfl rfl
 obtain ⟨h26_, r2⟩ := hd6 2 26 rfl rfl
 obtain ⟨bR, aR, cR, h27_, r3⟩ := hd6 3 27 rfl rfl
 obtain ⟨h28_, r4⟩ := hd6 4 28 rfl rfl
 obtain ⟨h29_, r5⟩ := hd6 5 29 rfl rfl
 obtain ⟨h30_, r6⟩ := hd6 6 30 rfl rfl
 obtain ⟨h31_, r7⟩ := hd6 7 31 rfl rfl
 simp only [show List.range 8 = [0, 1, 2, 3, 4, 5, 6, 7] from rfl, List.flatMap_cons, List.flatMap_nil, List.map_cons, List.map_nil, r0, r1, r2, r3, r4, r5, r6, r7, List.nil_append, List.append_nil, List.cons_append] at hst
 refine RunL.slots (sl := [(4, .pointer (some ⟨_, _, none⟩)), (6, .pointer (some ⟨_, _, none⟩)), (24, .agg #[.int .u16 _, str _, .bool _, .bool _, str _, str _, .int .i64 _, .int .u8 _]), (27, .pointer (some ⟨_, _, none⟩)), (28, .int .u32 _), (31, .agg #[.int .u16 _, .int .u32 _, .int .u32 _, .slice _ _ _])]) ⟨(hs5 4 rfl).trans rfl, (hs5 6 rfl).trans rfl, h24_, h27_, h28_, h31_, trivial⟩ ?_
 clear hs5 hd6 hr8 tab3
 refine CN (Op1.buildStruct ty93 stf93 (.c (v := .agg #[.int .u16 _, str _, .bool _, .bool _, str _, str _, .int .i64 _, .int .u8 _]) rfl (h := (.c (v := .pointer (some ⟨_, _, none⟩)) rfl (h := (.c (v := .int .u32 _) rfl (h := (.c (v := .agg #[.int .u16 _, .int .u32 _, .int .u32 _, .slice _ _ _]) rfl (h := .nil)))))))) ?_)
 refine CN <| Op1.box (v := .agg #[.int .u16 _, str _, .bool _, .bool _, str _, str _, .int .i64 _, .int .u8 _, .pointer _, .int .u32 _, .int .u16 _, .int .u32 _, .int .u32 _, .slice _ _ _]) hst rfl rfl fun w b33 hst => AP rfl <| NL <| Run.forget [(4, .pointer (some ⟨_, _, none⟩)), (6, .pointer (some ⟨_, _, none⟩)), (8, .pointer (some ⟨_, _, none⟩))] ⟨rfl, rfl, rfl, trivial⟩ fun f => SQ ?_
 replace hst := hst.pushNil 71 3
 replace hst : St _ _ (Res.sl none 0 0 71 3 ([].flatMap argC) :: _) _ _ := hst
 refine RG <| AI rfl <| NL <| SQ ?_
 replace hst := hst.pick (.cons (.there (.here)) (.cons (.there (.here)) (.cons (.here) (.cons (.here) (.cons (.here) (.cons (.here) .nil))))))
 refine Run.cutW (L1 := [_, _]) [(4, .pointer (some ⟨_, _, none⟩)), (6, .pointer (some ⟨_, _, none⟩)), (8, .pointer (some ⟨_, _, none⟩))] hst ⟨rfl, rfl, rfl, trivial⟩ (fun (q : Nat × Int × Int) => [(9, .int .i64 q.2.2)]) (fun (q : Nat × Int × Int) => [Res.row b33 93 [.int .u16 fm.op, str fm.name, .bool fm.ty, .bool fm.res, str fm.fixed, str fm.rest, .int .i64 fm.most, .int .u8 fm.part, .pointer (some ⟨bR, 0, none⟩), .int .u32 bound, .int .u16 op, .int .u32 q.2.1, .int .u32 0, .slice none 0 0], RdR 135 23 bR aR cR l q.1]) (fun (q : Nat × Int × Int) => H1 fm l bound q.1 q.2.1 q.2.2) (fun ⟨a1, ty1, e1⟩ f w hst hJ1 => ?_) (fun cut9 => ?_)
 replace hst : St _ _ ([Res.row b33 93 [.int .u16 fm.op, str fm.name, .bool fm.ty, .bool fm.res, str fm.fixed, str fm.rest, .int .i64 fm.most, .int .u8 fm.part, .pointer (some ⟨bR, 0, none⟩), .int .u32 bound, .int .u16 op, .int .u32 ty1, .int .u32 0, .slice none 0 0], RdR 135 23 bR aR cR l a1] ++ [_, _, _, _]) _ _ := hst
 replace hJ1 : H1 fm l bound a1 ty1 e1 := hJ1
 refine Run.slots (sl := [(9, .int .i64 e1)]) ⟨rfl, trivial⟩ ?_
 · skip
   refine SQ <| Run.cutW (L1 := [_, _]) [(4, .pointer (some ⟨_, _, none⟩)), (6, .pointer (some ⟨_, _, none⟩)), (8, .pointer (some ⟨_, _, none⟩))] hst ⟨rfl, rfl, rfl, trivial⟩ (fun (q : Nat × Int × Int) => [(9, .int .i64 q.2.2)]) (fun (q : Nat × Int × Int) => [Res.row b33 93 [.int .u16 fm.op, str fm.name, .bool fm.ty, .bool fm.res, str fm.fixed, str fm.rest, .int .i64 fm.most, .int .u8 fm.part, .pointer (some ⟨bR, 0, none⟩), .int .u32 bound, .int .u16 op, .int .u32 ty1, .int .u32 q.2.1, .slice none 0 0], RdR 135 23 bR aR cR l q.1]) (fun (q : Nat × Int × Int) => H2 fm l bound q.1 ty1 q.2.1 q.2.2) (fun ⟨a3, res1, e3⟩ f w hst hJ2 => ?_) (fun cut11 => ?_)
   replace hst : St _ _ ([Res.row b33 93 [.int .u16 fm.op, str fm.name, .bool fm.ty, .bool fm.res, str fm.fixed, str fm.rest, .int .i64 fm.most, .int .u8 fm.part, .pointer (some ⟨bR, 0, none⟩), .int .u32 bound, .int .u16 op, .int .u32 ty1, .int .u32 res1, .slice none 0 0], RdR 135 23 bR aR cR l a3] ++ [_, _, _, _]) _ _ := hst
   replace hJ2 : H2 fm l bound a3 ty1 res1 e3 := hJ2
   refine Run.slots (sl := [(9, .int .i64 e3)]) ⟨rfl, trivial⟩ ?_
   · skip
     refine SQ <| run_block <| run_loop <| Run.indW [(4, .pointer (some ⟨_, _, none⟩)), (6, .pointer (some ⟨_, _, none⟩)), (8, .pointer (some ⟨_, _, none⟩))] ⟨rfl, rfl, rfl, trivial⟩ (fun (q : Nat × Int × Option Addr × Nat × List ArgP) => [(9, .int .i64 q.2.1)]) (fun (q : Nat × Int × Option Addr × Nat × List ArgP) => [Res.row b33 93 [.int .u16 fm.op, str fm.name, .bool fm.ty, .bool fm.res, str fm.fixed, str fm.rest, .int .i64 fm.most, .int .u8 fm.part, .pointer (some ⟨bR, 0, none⟩), .int .u32 bound, .int .u16 op, .int .u32 ty1, .int .u32 res1, .slice q.2.2.1 q.2.2.2.2.length q.2.2.2.1], RdR 135 23 bR aR cR l q.1, Res.sl q.2.2.1 q.2.2.2.2.length q.2.2.2.1 71 3 (q.2.2.2.2.flatMap argC)]) (fun (q : Nat × Int × Option Addr × Nat × List ArgP) => A1 fm l bound q.1 q.2.1 q.2.2.2.2) (fun (q : Nat × Int × Option Addr × Nat × List ArgP) => A1mu l.length q.1 q.2.1) ((a3, e3, none, 0, [])) hst (A1.start hJ2) ⟨rfl, trivial⟩ ?_
     intro ⟨a, e, aa, ca, ags⟩ f w hst hK ih13
     replace hst : St _ _ ([Res.row b33 93 [.int .u16 fm.op, str fm.name, .bool fm.ty, .bool fm.res, str fm.fixed, str fm.rest, .int .i64 fm.most, .int .u8 fm.part, .pointer (some ⟨bR, 0, none⟩), .int .u32 bound, .int .u16 op, .int .u32 ty1, .int .u32 res1, .slice aa ags.length ca], RdR 135 23 bR aR cR l a, Res.sl aa ags.length ca 71 3 (ags.flatMap argC)] ++ [_, _, _]) _ _ := hst
     replace hK : A1 fm l bound a e ags := hK
     refine Run.slots (sl := [(9, .int .i64 e)]) ⟨rfl, trivial⟩ <| SQ <| SQ <| RunD.start [] hst (bs := [0, 1, 3, 7, 15, 31, 63, 127, 255, 511, 1023, 2047, 4095, 8191, 16383, 32767, 1023, 66559, 197631, 524287, 1048575, 2097151]) (ds := [some 60, some 61, some 62, some 63, some 64, some 65, some 66, some 67, some 68, some 69, some 70, some 71, some 72, some 73, some 74, some 75, some 76, some 77, some 78, some 79, some 80, some 81]) ⟨by kernel_rfl, by kernel_rfl, by kernel_rfl⟩ (fun tab14 => ?_)
     refine RunD.op (det _) tab14 1 (fun f' L' w' hc => Op1.move (v := .int .i64 _) (hc.old (v := .int .i64 _) rfl rfl rfl) ⟨[], ⟨rfl, rfl⟩, hc.st⟩) <| RunD.op (det _) tab14 2 (fun f' L' w' hc => Op1.eql (hc.det (j := 0) rfl rfl rfl rfl) rfl ⟨[], ⟨rfl, rfl⟩, hc.st⟩) <| RunD.op (det _) tab14 3 (fun f' L' w' hc => Op1.move (v := .bool _) (hc.det (j := 1) rfl rfl rfl rfl) ⟨[], ⟨rfl, rfl⟩, hc.st⟩) <| RunD.splitD (j := 2) rfl (fun g15 => ?_) (fun g15 => ?_)
     · skip
       refine RunD.take (det _) tab14 4 rfl (fun f' L' w' hc => (hc.det (j := 2) rfl rfl rfl rfl).trans (congrArg Value.bool (decide_eq_true g15))) (fun f' L' w' hc => Op1.move (v := .pointer (some ⟨_, _, none⟩)) (hc.old (v := .pointer (some ⟨_, _, none⟩)) rfl rfl rfl) ⟨[], ⟨rfl, rfl⟩, hc.st⟩) <| RunD.take (det _) tab14 5 rfl (fun f' L' w' hc => (hc.det (j := 2) rfl rfl rfl rfl).trans (congrArg Value.bool (decide_eq_true g15))) (fun f' L' w' hc => Op1.nilCheckP (hc.det (j := 3) rfl rfl rfl rfl) ⟨[], ⟨rfl, rfl⟩, hc.st⟩) <| RunD.take (det _) tab14 6 rfl (fun f' L' w' hc => (hc.det (j := 2) rfl rfl rfl rfl).trans (congrArg Value.bool (decide_eq_true g15))) (fun f' L' w' hc => Op1.fieldAddr fld93_1 (hc.det (j := 4) rfl rfl rfl rfl) ⟨[], ⟨rfl, rfl⟩, hc.st⟩) <| RunD.take (det _) tab14 7 rfl (fun f' L' w' hc => (hc.det (j := 2) rfl rfl rfl rfl).trans (congrArg Value.bool (decide_eq_true g15))) (fun f' L' w' hc => Op1.load1 (v := .pointer (some ⟨_, _, none⟩)) ty90 rfl (hc.det (j := 5) rfl rfl rfl rfl) (hc.st.cellL (List.mem_append_right _ (.head _)) rfl) ⟨[], ⟨rfl, rfl⟩, hc.st⟩) <| RunD.take (det _) tab14 8 rfl (fun f' L' w' hc => (hc.det (j := 2) rfl rfl rfl rfl).trans (congrArg Value.bool (decide_eq_true g15))) (fun f' L' w' hc => Op1.call1 (v1 := .pointer (some ⟨_, _, none⟩)) ent56 rfl (hc.det (j := 6) rfl rfl rfl rfl) ((R3wd_Left bR _ _ l a _ (hc.st.hL _ (List.mem_append_right _ (.tail _ (.head _)))) hl hK.1).mono fun v w hp => ⟨[], ⟨hp.1, rfl⟩, hc.st.keepc hp.2⟩)) <| RunD.take (det _) tab14 9 rfl (fun f' L' w' hc => (hc.det (j := 2) rfl rfl rfl rfl).trans (congrArg Value.bool (decide_eq_true g15))) (fun f' L' w' hc => Op1.gtr (hc.det (j := 7) rfl rfl rfl rfl) rfl ⟨[], ⟨rfl, rfl⟩, hc.st⟩) <| RunD.take (det _) tab14 10 rfl (fun f' L' w' hc => (hc.det (j := 2) rfl rfl rfl rfl).trans (congrArg Value.bool (decide_eq_true g15))) (fun f' L' w' hc => Op1.move (v := .bool _) (hc.det (j := 8) rfl rfl rfl rfl) ⟨[], ⟨rfl, rfl⟩, hc.st⟩) <| RunD.splitD (j := 9) rfl (fun g16 => ?_) (fun g16 => ?_)
       · skip
         refine RunD.omit tab14 11 rfl rfl (fun f' L' w' hc => (hc.det (j := 9) rfl rfl rfl rfl).trans (congrArg Value.bool (decide_eq_true g16))) <| RunD.omit tab14 12 rfl rfl (fun f' L' w' hc => (hc.det (j := 9) rfl rfl rfl rfl).trans (congrArg Value.bool (decide_eq_true g16))) <| RunD.omit tab14 13 rfl rfl (fun f' L' w' hc => (hc.det (j := 9) rfl rfl rfl rfl).trans (congrArg Value.bool (decide_eq_true g16))) <| RunD.omit tab14 14 rfl rfl (fun f' L' w' hc => (hc.det (j := 9) rfl rfl rfl rfl).trans (congrArg Value.bool (decide_eq_true g16))) <| RunD.omit tab14 15 rfl rfl (fun f' L' w' hc => (hc.det (j := 9) rfl rfl rfl rfl).trans (congrArg Value.bool (decide_eq_true g16))) <| RunD.omit tab14 16 rfl rfl (fun f' L' w' hc => (hc.det (j := 9) rfl rfl rfl rfl).trans (congrArg Value.bool (decide_eq_true g16))) <| RunD.omit tab14 17 rfl rfl (fun f' L' w' hc => (hc.det (j := 9) rfl rfl rfl rfl).trans (congrArg Value.bool (decide_eq_true g16))) <| RunD.omit tab14 18 rfl rfl (fun f' L' w' hc => (hc.det (j := 9) rfl rfl rfl rfl).trans (congrArg Value.bool (decide_eq_true g16))) <| RunD.omit tab14 19 rfl rfl (fun f' L' w' hc => (hc.det (j := 9) rfl rfl rfl rfl).trans (congrArg Value.bool (decide_eq_true g16))) <| RunD.fin followsMixed tab14 hst rfl (fun f17 w R20 hs18 hd19 hr21 hst => ?_)
         obtain ⟨h60_, r0⟩ := hd19 0 60 rfl rfl
         obtain ⟨h61_, r1⟩ := hd19 1 61 rfl rfl
         obtain ⟨h62_, r2⟩ := hd19 2 62 rfl rfl
         obtain ⟨h63_, r3⟩ := hd19 3 63 rfl rfl
         obtain ⟨h64_, r4⟩ := hd19 4 64 rfl rfl
         obtain ⟨h65_, r5⟩ := hd19 5 65 rfl rfl
         obtain ⟨h66_, r6⟩ := hd19 6 66 rfl rfl
         obtain ⟨h67_, r7⟩ := hd19 7 67 rfl rfl
         obtain ⟨h68_, r8⟩ := hd19 8 68 rfl rfl
         obtain ⟨h69_, r9⟩ := hd19 9 69 rfl rfl
         obtain ⟨h70_, r10⟩ := hd19 10 70 rfl rfl
         obtain ⟨h71_, r11⟩ := hd19 11 71 rfl rfl
         obtain ⟨h72_, r12⟩ := hd19 12 72 rfl rfl
         obtain ⟨h73_, r13⟩ := hd19 13 73 rfl rfl
         obtain ⟨h74_, r14⟩ := hd19 14 74 rfl rfl
         obtain ⟨h75_, r15⟩ := hd19 15 75 rfl rfl
         obtain ⟨h76_, r16⟩ := hd19 16 76 rfl rfl
         obtain ⟨h77_, r17⟩ := hd19 17 77 rfl rfl
         obtain ⟨h78_, r18⟩ := hd19 18 78 rfl rfl
         simp only [show List.range 19 = [0, 1, 2, 3, 4, 5, 6, 7, 8, 9, 10, 11, 12, 13, 14, 15, 16, 17, 18] from rfl, List.flatMap_cons, List.flatMap_nil, List.map_cons, List.map_nil, r0, r1, r2, r3, r4, r5, r6, r7, r8, r9, r10, r11, r12, r13, r14, r15, r16, r17, r18, List.nil_append, List.append_nil, List.cons_append] at hst
         refine RunL.slots (sl := [(4, .pointer (some ⟨_, _, none⟩)), (6, .pointer (some ⟨_, _, none⟩)), (8, .pointer (some ⟨_, _, none⟩)), (9, .int .i64 _), (62, .bool _), (69, .bool _), (75, _), (78, _)]) ⟨(hs18 4 rfl).trans rfl, (hs18 6 rfl).trans rfl, (hs18 8 rfl).trans rfl, (hs18 9 rfl).trans rfl, h62_, h69_, h75_, h78_, trivial⟩ ?_
         clear hs18 hd19 hr21 tab14
         refine OM (t := 69) rfl (congrArg Value.bool (decide_eq_true g16)) rfl <| TK (t := 62) rfl (congrArg Value.bool (decide_eq_true g15)) <| Op1.pickT (u := .bool _) (congrArg Value.bool (decide_eq_true g16)) rfl <| CN <| Op1.pickT (u := .bool _) (congrArg Value.bool (decide_eq_true g15)) rfl <| NL <| run_cond_true (congrArg Value.bool (rfl : true = _)) <| run_skip <| run_block <| RG <| MP rfl ?_
         obtain rfl : e = 0 := by omega
         have hnl : ags.length ≤ 1000000 := by have := hK.2.1; have := hK.1; omega
         replace hst := hst.pick (.cons (.here) (.cons (.here) (.cons (.here) (.cons (.here) (.cons (.here) (.cons (.here) .nil))))))
         replace hst : St _ _ (RdC 93 135 23 71 b33 fm bR bound op ty1 res1 aa ca ags aR cR l a :: _) _ _ := hst.pack (L1 := [_, _, _])
         refine CN (Op1.call1 (v1 := .pointer (some ⟨_, _, none⟩)) ent57 rfl rfl ((R3cd_arg b33 fm bR bound op ty1 res1 aa ca ags aR cR l a _ hfm2 rfl _ (hst.hL _ (.head _)) hl hK.1 hnl).mono fun v w hp => ?_))
         obtain ⟨a2, aa2, ca2, ags2, rfl, hE, ha2, hle, hn2, hp⟩ := hp
         replace hst : St _ _ (RdC 93 135 23 71 b33 fm bR bound op ty1 res1 aa2 ca2 ags2 aR cR l a2 :: _) _ _ := hst.call1 hp
         replace hst : St _ _ (_ :: _ :: _ :: _) _ _ := hst.unpack
         clear hp
         refine AI rfl <| NL <| run_inBlock <| run_inLoop ?_
         have hgo : l.length - a > 0 ∨ ags.length < fm.fixed.length := by omega
         have hst2 := hK.step rfl hgo hE ha2 hn2 (.inl hle)
         exact ih13 ((a2, (argE (letterS fm (ags.length : Int)) (l.drop a) bound).2.2, aa2, ca2, ags2)) _ w (A1mu.step fun he => ⟨by (try dsimp only at he); have := (hE he).1; have := (argE_ok he).1; omega, ha2⟩) hst (hst2) ⟨rfl, rfl, rfl, trivial⟩ ⟨rfl, trivial⟩
       refine RunD.take (det _) tab14 11 rfl (fun f' L' w' hc => (hc.det (j := 9) rfl rfl rfl rfl).trans (congrArg Value.bool (decide_eq_false g16))) (fun f' L' w' hc => Op1.move (v := .pointer (some ⟨_, _, none⟩)) (hc.old (v := .pointer (some ⟨_, _, none⟩)) rfl rfl rfl) ⟨[], ⟨rfl, rfl⟩, hc.st⟩) <| RunD.take (det _) tab14 12 rfl (fun f' L' w' hc => (hc.det (j := 9) rfl rfl rfl rfl).trans (congrArg Value.bool (decide_eq_false g16))) (fun f' L' w' hc => Op1.nilCheckP (hc.det (j := 10) rfl rfl rfl rfl) ⟨[], ⟨rfl, rfl⟩, hc.st⟩) <| RunD.take (det _) tab14 13 rfl (fun f' L' w' hc => (hc.det (j := 9) rfl rfl rfl rfl).trans (congrArg Value.bool (decide_eq_false g16))) (fun f' L' w' hc => Op1.fieldAddr fld93_3 (hc.det (j := 11) rfl rfl rfl rfl) ⟨[], ⟨rfl, rfl⟩, hc.st⟩) <| RunD.take (det _) tab14 14 rfl (fun f' L' w' hc => (hc.det (j := 9) rfl rfl rfl rfl).trans (congrArg Value.bool (decide_eq_false g16))) (fun f' L' w' hc => Op1.fieldAddr fld48_3 (hc.det (j := 12) rfl rfl rfl rfl) ⟨[], ⟨rfl, rfl⟩, hc.st⟩) <| RunD.take (det _) tab14 15 rfl (fun f' L' w' hc => (hc.det (j := 9) rfl rfl rfl rfl).trans (congrArg Value.bool (decide_eq_false g16))) (fun f' L' w' hc => Op1.load1 (v := .slice _ _ _) ty46 rfl (hc.det (j := 13) rfl rfl rfl rfl) (hc.st.cellL (List.mem_append_right _ (.head _)) rfl) ⟨[], ⟨rfl, rfl⟩, hc.st⟩) <| RunD.take (det _) tab14 16 rfl (fun f' L' w' hc => (hc.det (j := 9) rfl rfl rfl rfl).trans (congrArg Value.bool (decide_eq_false g16))) (fun f' L' w' hc => Op1.lenSl (rest := []) ty46 (hc.det (j := 14) rfl rfl rfl rfl) ⟨[], ⟨rfl, rfl⟩, hc.st⟩) <| RunD.take (det _) tab14 17 rfl (fun f' L' w' hc => (hc.det (j := 9) rfl rfl rfl rfl).trans (congrArg Value.bool (decide_eq_false g16))) (fun f' L' w' hc => Op1.fieldAddr fld80_4 (hc.old (v := .pointer (some ⟨_, _, none⟩)) rfl rfl rfl) ⟨[], ⟨rfl, rfl⟩, hc.st⟩) <| RunD.take (det _) tab14 18 rfl (fun f' L' w' hc => (hc.det (j := 9) rfl rfl rfl rfl).trans (congrArg Value.bool (decide_eq_false g16))) (fun f' L' w' hc => Op1.load1 (v := str _) ty9 rfl (hc.det (j := 16) rfl rfl rfl rfl) (hc.st.cellL (List.mem_append_right _ (.tail _ (.tail _ (.tail _ (.head _))))) rfl) ⟨[], ⟨rfl, rfl⟩, hc.st⟩) <| RunD.take (det _) tab14 19 rfl (fun f' L' w' hc => (hc.det (j := 9) rfl rfl rfl rfl).trans (congrArg Value.bool (decide_eq_false g16))) (fun f' L' w' hc => Op1.lenS (rest := []) ty9 (hc.det (j := 17) rfl rfl rfl rfl) ⟨[], ⟨rfl, rfl⟩, hc.st⟩) <| RunD.fin followsMixed tab14 hst rfl (fun f22 w R25 hs23 hd24 hr26 hst => ?_)
       obtain ⟨h60_, r0⟩ := hd24 0 60 rfl rfl
       obtain ⟨h61_, r1⟩ := hd24 1 61 rfl rfl
       obtain ⟨h62_, r2⟩ := hd24 2 62 rfl rfl
       obtain ⟨h63_, r3⟩ := hd24 3 63 rfl rfl
       obtain ⟨h64_, r4⟩ := hd24 4 64 rfl rfl
       obtain ⟨h65_, r5⟩ := hd24 5 65 rfl rfl
       obtain ⟨h66_, r6⟩ := hd24 6 66 rfl rfl
       obtain ⟨h67_, r7⟩ := hd24 7 67 rfl rfl
       obtain ⟨h68_, r8⟩ := hd24 8 68 rfl rfl
       obtain ⟨h69_, r9⟩ := hd24 9 69 rfl rfl
       obtain ⟨h70_, r10⟩ := hd24 10 70 rfl rfl
       obtain ⟨h71_, r11⟩ := hd24 11 71 rfl rfl
       obtain ⟨h72_, r12⟩ := hd24 12 72 rfl rfl
       obtain ⟨h73_, r13⟩ := hd24 13 73 rfl rfl
       obtain ⟨h74_, r14⟩ := hd24 14 74 rfl rfl
       obtain ⟨h75_, r15⟩ := hd24 15 75 rfl rfl
       obtain ⟨h76_, r16⟩ := hd24 16 76 rfl rfl
       obtain ⟨h77_, r17⟩ := hd24 17 77 rfl rfl
       obtain ⟨h78_, r18⟩ := hd24 18 78 rfl rfl
       simp only [show List.range 19 = [0, 1, 2, 3, 4, 5, 6, 7, 8, 9, 10, 11, 12, 13, 14, 15, 16, 17, 18] from rfl, List.flatMap_cons, List.flatMap_nil, List.map_cons, List.map_nil, r0, r1, r2, r3, r4, r5, r6, r7, r8, r9, r10, r11, r12, r13, r14, r15, r16, r17, r18, List.nil_append, List.append_nil, List.cons_append] at hst
       refine RunL.slots (sl := [(4, .pointer (some ⟨_, _, none⟩)), (6, .pointer (some ⟨_, _, none⟩)), (8, .pointer (some ⟨_, _, none⟩)), (9, .int .i64 _), (62, .bool _), (69, .bool _), (75, .int .i64 _), (78, .int .i64 _)]) ⟨(hs23 4 rfl).trans rfl, (hs23 6 rfl).trans rfl, (hs23 8 rfl).trans rfl, (hs23 9 rfl).trans rfl, h62_, h69_, h75_, h78_, trivial⟩ ?_
       clear hs23 hd24 hr26 tab14
       refine TK (t := 69) rfl (congrArg Value.bool (decide_eq_false g16)) <| Op1.lss rfl rfl <| TK (t := 62) rfl (congrArg Value.bool (decide_eq_true g15)) <| Op1.pickF (u := .bool _) (congrArg Value.bool (decide_eq_false g16)) rfl <| CN <| Op1.pickT (u := .bool _) (congrArg Value.bool (decide_eq_true g15)) rfl <| NL <| Run.forget [(4, .pointer (some ⟨_, _, none⟩)), (6, .pointer (some ⟨_, _, none⟩)), (8, .pointer (some ⟨_, _, none⟩)), (9, .int .i64 _), (81, .bool _)] ⟨rfl, rfl, rfl, rfl, rfl, trivial⟩ fun f => run_cond_dec rfl (fun g27 => ?_) (fun g27 => ?_)
       · skip
         refine run_skip <| run_block <| RG <| MP rfl ?_
         obtain rfl : e = 0 := by omega
         have hnl : ags.length ≤ 1000000 := by have := hK.2.1; have := hK.1; omega
         replace hst := hst.pick (.cons (.here) (.cons (.here) (.cons (.here) (.cons (.here) (.cons (.here) (.cons (.here) .nil))))))
         replace hst : St _ _ (RdC 93 135 23 71 b33 fm bR bound op ty1 res1 aa ca ags aR cR l a :: _) _ _ := hst.pack (L1 := [_, _, _])
         refine CN (Op1.call1 (v1 := .pointer (some ⟨_, _, none⟩)) ent57 rfl rfl ((R3cd_arg b33 fm bR bound op ty1 res1 aa ca ags aR cR l a _ hfm2 rfl _ (hst.hL _ (.head _)) hl hK.1 hnl).mono fun v w hp => ?_))
         obtain ⟨a2, aa2, ca2, ags2, rfl, hE, ha2, hle, hn2, hp⟩ := hp
         replace hst : St _ _ (RdC 93 135 23 71 b33 fm bR bound op ty1 res1 aa2 ca2 ags2 aR cR l a2 :: _) _ _ := hst.call1 hp
         replace hst : St _ _ (_ :: _ :: _ :: _) _ _ := hst.unpack
         clear hp
         refine AI rfl <| NL <| run_inBlock <| run_inLoop ?_
         have hgo : l.length - a > 0 ∨ ags.length < fm.fixed.length := by omega
         have hst2 := hK.step rfl hgo hE ha2 hn2 (.inl hle)
         exact ih13 ((a2, (argE (letterS fm (ags.length : Int)) (l.drop a) bound).2.2, aa2, ca2, ags2)) _ w (A1mu.step fun he => ⟨by (try dsimp only at he); have := (hE he).1; have := (argE_ok he).1; omega, ha2⟩) hst (hst2) ⟨rfl, rfl, rfl, trivial⟩ ⟨rfl, trivial⟩
       refine run_exit (id := 0) rfl <| SQ <| SR <| MI rfl <| CN <| Op1.eql rfl rfl <| NL <| run_cond_dec rfl (fun g28 => ?_) (fun g28 => ?_)
       · skip
         obtain rfl : e = 0 := by omega
         have hstop := hK.stop (by omega) (by omega)
         have hn9 : ags.length ≤ 9000000000000 := by have := hK.2.1; have := hK.1; omega
         refine RunD.start [] hst (bs := [0, 0, 2, 6, 14, 30, 63, 127]) (ds := [some 86, some 87, some 88, some 89, some 90, some 91, some 92, some 9]) ⟨by kernel_rfl, by kernel_rfl, by kernel_rfl⟩ (fun tab29 => ?_)
         refine RunD.op (det _) tab29 1 (fun f' L' w' hc => Op1.loadA (vs := [.int .u16 _, str _, .bool _, .bool _, str _, str _, .int .i64 _, .int .u8 _]) ty80 rfl (hc.old (v := .pointer (some ⟨_, _, none⟩)) rfl rfl rfl) rfl (cells_of_obj (n := 8) (hc.st.objL (List.mem_append_right _ (.tail _ (.tail _ (.tail _ (.head _)))))) _ rfl) ⟨[], ⟨rfl, rfl⟩, hc.st⟩) <| RunD.op (det _) tab29 2 (fun f' L' w' hc => Op1.move (v := .pointer (some ⟨_, _, none⟩)) (hc.old (v := .pointer (some ⟨_, _, none⟩)) rfl rfl rfl) ⟨[], ⟨rfl, rfl⟩, hc.st⟩) <| RunD.op (det _) tab29 3 (fun f' L' w' hc => Op1.nilCheckP (hc.det (j := 1) rfl rfl rfl rfl) ⟨[], ⟨rfl, rfl⟩, hc.st⟩) <| RunD.op (det _) tab29 4 (fun f' L' w' hc => Op1.fieldAddr fld93_3 (hc.det (j := 2) rfl rfl rfl rfl) ⟨[], ⟨rfl, rfl⟩, hc.st⟩) <| RunD.op (det _) tab29 5 (fun f' L' w' hc => Op1.fieldAddr fld48_3 (hc.det (j := 3) rfl rfl rfl rfl) ⟨[], ⟨rfl, rfl⟩, hc.st⟩) <| RunD.op (det _) tab29 6 (fun f' L' w' hc => Op1.load1 (v := .slice _ _ _) ty46 rfl (hc.det (j := 4) rfl rfl rfl rfl) (hc.st.cellL (List.mem_append_right _ (.head _)) rfl) ⟨[], ⟨rfl, rfl⟩, hc.st⟩) <| RunD.fin followsMixed tab29 hst rfl (fun f30 w R33 hs31 hd32 hr34 hst => ?_)
         obtain ⟨h86_, r0⟩ := hd32 0 86 rfl rfl
         obtain ⟨h87_, r1⟩ := hd32 1 87 rfl rfl
         obtain ⟨h88_, r2⟩ := hd32 2 88 rfl rfl
         obtain ⟨h89_, r3⟩ := hd32 3 89 rfl rfl
         obtain ⟨h90_, r4⟩ := hd32 4 90 rfl rfl
         obtain ⟨h91_, r5⟩ := hd32 5 91 rfl rfl
         simp only [show List.range 6 = [0, 1, 2, 3, 4, 5] from rfl, List.flatMap_cons, List.flatMap_nil, List.map_cons, List.map_nil, r0, r1, r2, r3, r4, r5, List.nil_append, List.append_nil, List.cons_append] at hst
         refine RunL.slots (sl := [(4, .pointer (some ⟨_, _, none⟩)), (8, .pointer (some ⟨_, _, none⟩)), (86, .agg #[.int .u16 _, str _, .bool _, .bool _, str _, str _, .int .i64 _, .int .u8 _]), (91, .slice _ _ _)]) ⟨(hs31 4 rfl).trans rfl, (hs31 8 rfl).trans rfl, h86_, h91_, trivial⟩ ?_
         clear hs31 hd32 hr34 tab29
         refine CN <| Op1.call2 (v1 := .agg #[.int .u16 _, str _, .bool _, .bool _, str _, str _, .int .i64 _, .int .u8 _]) (v2 := .slice _ _ _) ent58 rfl rfl rfl <| Ret.det (R3cd_whole fm hf ags _ _ _ (Res.rs_of_sl (hst.hL _ (.tail _ (.tail _ (.head _))))) hn9) hst fun w hst => AI rfl <| NL <| SQ <| SR <| MI rfl <| CN <| Op1.neq rfl rfl <| NL <| run_cond_dec rfl (fun g35 => ?_) (fun g35 => ?_)
         · skip
           refine SR <| CN (Op1.buildStruct ty48 stf48 .nil ?_)
           refine MI rfl <| CN (SO (v := .agg #[.int .u16 _, .int .u32 _, .int .u32 _, .slice _ _ _]) hst ty48 rfl rfl (.there (.there (.there (.there (.here))))) fun w hst => ?_)
           refine AI rfl <| NL <| run_ret2 Try.func26 rfl (RV.cellA (vs := [.int .u16 _, .int .u32 _, .int .u32 _, .slice _ _ _]) rfl ty48 rfl rfl (cells_of_obj (n := 4) (hst.objL (.tail _ (.tail _ (.tail _ (.tail _ (.head _)))))) _ rfl)) (TP (v := .int .i64 _) rfl) ?_
           replace hst := hst.pick .nil
           have hI := instF_whole (op := op) (bound := bound) (l := l) (e := wholeE fm.op ags) (by omega) (by rw [hob]; simpa using g2) (by rw [hfm]; exact hstop.2) (by rw [hfm, ← hstop.1, hfo]) g35
           rw [hI]
           exact ⟨none, 0, rfl, (hst.pushNil 71 3).noD⟩
         refine run_skip <| SR <| MP rfl <| CN <| Op1.nilCheckP rfl <| CN <| Op1.fieldAddr fld93_3 rfl <| CN <| Op1.loadA (vs := [.int .u16 _, .int .u32 _, .int .u32 _, .slice _ _ _]) ty48 rfl rfl rfl (cells_of_obj (n := 4) (hst.objL (.head _)) _ rfl) <| CN (SO (v := .agg #[.int .u16 _, .int .u32 _, .int .u32 _, .slice _ _ _]) hst ty48 rfl rfl (.there (.there (.there (.there (.here))))) fun w hst => ?_)
         refine AI rfl <| NL <| run_ret2 Try.func26 rfl (RV.cellA (vs := [.int .u16 _, .int .u32 _, .int .u32 _, .slice _ _ _]) rfl ty48 rfl rfl (cells_of_obj (n := 4) (hst.objL (.tail _ (.tail _ (.tail _ (.tail _ (.head _)))))) _ rfl)) (TP (v := .int .i64 _) rfl) ?_
         replace hst := hst.pick (.cons (.there (.there (.here))) .nil)
         have hI := instF_ok (op := op) (bound := bound) (l := l) (by omega) (by rw [hob]; simpa using g2) (by rw [hfm]; exact hstop.2) (by rw [hfm, ← hstop.1, ← hfo]; exact Classical.not_not.1 g35)
         rw [hfm, ← hstop.1] at hI
         rw [hI]
         have hT := (hJ2.2.1 (hJ2.zero hstop.2)).2.2
         rw [← hT.1, ← hT.2]
         exact ⟨aa, ca, rfl, hst.noD⟩
       refine run_skip <| SQ <| SR <| MI rfl <| CN <| Op1.neq rfl rfl <| NL <| run_cond_dec rfl (fun g36 => ?_) (fun g36 => ?_)
       · skip
         refine SR <| CN (Op1.buildStruct ty48 stf48 .nil ?_)
         refine MI rfl <| CN (SO (v := .agg #[.int .u16 _, .int .u32 _, .int .u32 _, .slice _ _ _]) hst ty48 rfl rfl (.there (.there (.there (.there (.here))))) fun w hst => ?_)
         refine AI rfl <| NL <| run_ret2 Try.func26 rfl (RV.cellA (vs := [.int .u16 _, .int .u32 _, .int .u32 _, .slice _ _ _]) rfl ty48 rfl rfl (cells_of_obj (n := 4) (hst.objL (.tail _ (.tail _ (.tail _ (.tail _ (.head _)))))) _ rfl)) (TP (v := .int .i64 _) rfl) ?_
         replace hst := hst.pick .nil
         have hI := instF_err (op := op) (bound := bound) (l := l) (e := e) (by omega) (by rw [hob]; simpa using g2) (by rw [hfm]; exact hK.2.2.2 g28) g28
         rw [hI]
         exact ⟨none, 0, rfl, (hst.pushNil 71 3).noD⟩
       exfalso
       omega
     refine RunD.omit tab14 4 rfl rfl (fun f' L' w' hc => (hc.det (j := 2) rfl rfl rfl rfl).trans (congrArg Value.bool (decide_eq_false g15))) <| RunD.omit tab14 5 rfl rfl (fun f' L' w' hc => (hc.det (j := 2) rfl rfl rfl rfl).trans (congrArg Value.bool (decide_eq_false g15))) <| RunD.omit tab14 6 rfl rfl (fun f' L' w' hc => (hc.det (j := 2) rfl rfl rfl rfl).trans (congrArg Value.bool (decide_eq_false g15))) <| RunD.omit tab14 7 rfl rfl (fun f' L' w' hc => (hc.det (j := 2) rfl rfl rfl rfl).trans (congrArg Value.bool (decide_eq_false g15))) <| RunD.omit tab14 8 rfl rfl (fun f' L' w' hc => (hc.det (j := 2) rfl rfl rfl rfl).trans (congrArg Value.bool (decide_eq_false g15))) <| RunD.omit tab14 9 rfl rfl (fun f' L' w' hc => (hc.det (j := 2) rfl rfl rfl rfl).trans (congrArg Value.bool (decide_eq_false g15))) <| RunD.omit tab14 10 rfl rfl (fun f' L' w' hc => (hc.det (j := 2) rfl rfl rfl rfl).trans (congrArg Value.bool (decide_eq_false g15))) <| RunD.omitU tab14 11 rfl (fun f' L' w' hc => hc.det (j := 9) rfl rfl rfl rfl) <| RunD.omitU tab14 12 rfl (fun f' L' w' hc => hc.det (j := 9) rfl rfl rfl rfl) <| RunD.omitU tab14 13 rfl (fun f' L' w' hc => hc.det (j := 9) rfl rfl rfl rfl) <| RunD.omitU tab14 14 rfl (fun f' L' w' hc => hc.det (j := 9) rfl rfl rfl rfl) <| RunD.omitU tab14 15 rfl (fun f' L' w' hc => hc.det (j := 9) rfl rfl rfl rfl) <| RunD.omitU tab14 16 rfl (fun f' L' w' hc => hc.det (j := 9) rfl rfl rfl rfl) <| RunD.omitU tab14 17 rfl (fun f' L' w' hc => hc.det (j := 9) rfl rfl rfl rfl) <| RunD.omitU tab14 18 rfl (fun f' L' w' hc => hc.det (j := 9) rfl rfl rfl rfl) ?_
     refine RunD.omitU tab14 19 rfl (fun f' L' w' hc => hc.det (j := 9) rfl rfl rfl rfl) <| RunD.fin followsMixed tab14 hst rfl (fun f37 w R40 hs38 hd39 hr41 hst => ?_)
     obtain ⟨h60_, r0⟩ := hd39 0 60 rfl rfl
     obtain ⟨h61_, r1⟩ := hd39 1 61 rfl rfl
     obtain ⟨h62_, r2⟩ := hd39 2 62 rfl rfl
     obtain ⟨h63_, r3⟩ := hd39 3 63 rfl rfl
     obtain ⟨h64_, r4⟩ := hd39 4 64 rfl rfl
     obtain ⟨h65_, r5⟩ := hd39 5 65 rfl rfl
     obtain ⟨h66_, r6⟩ := hd39 6 66 rfl rfl
     obtain ⟨h67_, r7⟩ := hd39 7 67 rfl rfl
     obtain ⟨h68_, r8⟩ := hd39 8 68 rfl rfl
     obtain ⟨h69_, r9⟩ := hd39 9 69 rfl rfl
     obtain ⟨h70_, r10⟩ := hd39 10 70 rfl rfl
     obtain ⟨h71_, r11⟩ := hd39 11 71 rfl rfl
     obtain ⟨h72_, r12⟩ := hd39 12 72 rfl rfl
     obtain ⟨h73_, r13⟩ := hd39 13 73 rfl rfl
     obtain ⟨h74_, r14⟩ := hd39 14 74 rfl rfl
     obtain ⟨h75_, r15⟩ := hd39 15 75 rfl rfl
     obtain ⟨h76_, r16⟩ := hd39 16 76 rfl rfl
     obtain ⟨h77_, r17⟩ := hd39 17 77 rfl rfl
     obtain ⟨h78_, r18⟩ := hd39 18 78 rfl rfl
     simp only [show List.range 19 = [0, 1, 2, 3, 4, 5, 6, 7, 8, 9, 10, 11, 12, 13, 14, 15, 16, 17, 18] from rfl, List.flatMap_cons, List.flatMap_nil, List.map_cons, List.map_nil, r0, r1, r2, r3, r4, r5, r6, r7, r8, r9, r10, r11, r12, r13, r14, r15, r16, r17, r18, List.nil_append, List.append_nil, List.cons_append] at hst
     refine RunL.slots (sl := [(4, .pointer (some ⟨_, _, none⟩)), (6, .pointer (some ⟨_, _, none⟩)), (8, .pointer (some ⟨_, _, none⟩)), (9, .int .i64 _), (62, .bool _), (69, _), (75, _), (78, _)]) ⟨(hs38 4 rfl).trans rfl, (hs38 6 rfl).trans rfl, (hs38 8 rfl).trans rfl, (hs38 9 rfl).trans rfl, h62_, h69_, h75_, h78_, trivial⟩ ?_
     clear hs38 hd39 hr41 tab14
     refine RunL.omitU (t := 69) rfl rfl <| OM (t := 62) rfl (congrArg Value.bool (decide_eq_false g15)) rfl <| CN <| Op1.pickF (u := .bool _) (congrArg Value.bool (decide_eq_false g15)) rfl <| NL <| run_cond_false (congrArg Value.bool (rfl : false = _)) <| run_exit (id := 0) rfl <| SQ <| SR <| MI rfl <| CN <| Op1.eql rfl rfl <| NL <| run_cond_dec rfl (fun g42 => ?_) (fun g42 => ?_)
     · skip
       obtain rfl : e = 0 := by omega
       have hstop := hK.stop (by omega) (by omega)
       have hn9 : ags.length ≤ 9000000000000 := by have := hK.2.1; have := hK.1; omega
       refine RunD.start [] hst (bs := [0, 0, 2, 6, 14, 30, 63, 127]) (ds := [some 86, some 87, some 88, some 89, some 90, some 91, some 92, some 9]) ⟨by kernel_rfl, by kernel_rfl, by kernel_rfl⟩ (fun tab43 => ?_)
       refine RunD.op (det _) tab43 1 (fun f' L' w' hc => Op1.loadA (vs := [.int .u16 _, str _, .bool _, .bool _, str _, str _, .int .i64 _, .int .u8 _]) ty80 rfl (hc.old (v := .pointer (some ⟨_, _, none⟩)) rfl rfl rfl) rfl (cells_of_obj (n := 8) (hc.st.objL (List.mem_append_right _ (.tail _ (.tail _ (.tail _ (.head _)))))) _ rfl) ⟨[], ⟨rfl, rfl⟩, hc.st⟩) <| RunD.op (det _) tab43 2 (fun f' L' w' hc => Op1.move (v := .pointer (some ⟨_, _, none⟩)) (hc.old (v := .pointer (some ⟨_, _, none⟩)) rfl rfl rfl) ⟨[], ⟨rfl, rfl⟩, hc.st⟩) <| RunD.op (det _) tab43 3 (fun f' L' w' hc => Op1.nilCheckP (hc.det (j := 1) rfl rfl rfl rfl) ⟨[], ⟨rfl, rfl⟩, hc.st⟩) <| RunD.op (det _) tab43 4 (fun f' L' w' hc => Op1.fieldAddr fld93_3 (hc.det (j := 2) rfl rfl rfl rfl) ⟨[], ⟨rfl, rfl⟩, hc.st⟩) <| RunD.op (det _) tab43 5 (fun f' L' w' hc => Op1.fieldAddr fld48_3 (hc.det (j := 3) rfl rfl rfl rfl) ⟨[], ⟨rfl, rfl⟩, hc.st⟩) <| RunD.op (det _) tab43 6 (fun f' L' w' hc => Op1.load1 (v := .slice _ _ _) ty46 rfl (hc.det (j := 4) rfl rfl rfl rfl) (hc.st.cellL (List.mem_append_right _ (.head _)) rfl) ⟨[], ⟨rfl, rfl⟩, hc.st⟩) <| RunD.fin followsMixed tab43 hst rfl (fun f44 w R47 hs45 hd46 hr48 hst => ?_)
       obtain ⟨h86_, r0⟩ := hd46 0 86 rfl rfl
       obtain ⟨h87_, r1⟩ := hd46 1 87 rfl rfl
       obtain ⟨h88_, r2⟩ := hd46 2 88 rfl rfl
       obtain ⟨h89_, r3⟩ := hd46 3 89 rfl rfl
       obtain ⟨h90_, r4⟩ := hd46 4 90 rfl rfl
       obtain ⟨h91_, r5⟩ := hd46 5 91 rfl rfl
       simp only [show List.range 6 = [0, 1, 2, 3, 4, 5] from rfl, List.flatMap_cons, List.flatMap_nil, List.map_cons, List.map_nil, r0, r1, r2, r3, r4, r5, List.nil_append, List.append_nil, List.cons_append] at hst
       refine RunL.slots (sl := [(4, .pointer (some ⟨_, _, none⟩)), (8, .pointer (some ⟨_, _, none⟩)), (86, .agg #[.int .u16 _, str _, .bool _, .bool _, str _, str _, .int .i64 _, .int .u8 _]), (91, .slice _ _ _)]) ⟨(hs45 4 rfl).trans rfl, (hs45 8 rfl).trans rfl, h86_, h91_, trivial⟩ ?_
       clear hs45 hd46 hr48 tab43
       refine CN <| Op1.call2 (v1 := .agg #[.int .u16 _, str _, .bool _, .bool _, str _, str _, .int .i64 _, .int .u8 _]) (v2 := .slice _ _ _) ent58 rfl rfl rfl <| Ret.det (R3cd_whole fm hf ags _ _ _ (Res.rs_of_sl (hst.hL _ (.tail _ (.tail _ (.head _))))) hn9) hst fun w hst => AI rfl <| NL <| SQ <| SR <| MI rfl <| CN <| Op1.neq rfl rfl <| NL <| run_cond_dec rfl (fun g49 => ?_) (fun g49 => ?_)
       · skip
         refine SR <| CN (Op1.buildStruct ty48 stf48 .nil ?_)
         refine MI rfl <| CN (SO (v := .agg #[.int .u16 _, .int .u32 _, .int .u32 _, .slice _ _ _]) hst ty48 rfl rfl (.there (.there (.there (.there (.here))))) fun w hst => ?_)
         refine AI rfl <| NL <| run_ret2 Try.func26 rfl (RV.cellA (vs := [.int .u16 _, .int .u32 _, .int .u32 _, .slice _ _ _]) rfl ty48 rfl rfl (cells_of_obj (n := 4) (hst.objL (.tail _ (.tail _ (.tail _ (.tail _ (.head _)))))) _ rfl)) (TP (v := .int .i64 _) rfl) ?_
         replace hst := hst.pick .nil
         have hI := instF_whole (op := op) (bound := bound) (l := l) (e := wholeE fm.op ags) (by omega) (by rw [hob]; simpa using g2) (by rw [hfm]; exact hstop.2) (by rw [hfm, ← hstop.1, hfo]) g49
         rw [hI]
         exact ⟨none, 0, rfl, (hst.pushNil 71 3).noD⟩
       refine run_skip <| SR <| MP rfl <| CN <| Op1.nilCheckP rfl <| CN <| Op1.fieldAddr fld93_3 rfl <| CN <| Op1.loadA (vs := [.int .u16 _, .int .u32 _, .int .u32 _, .slice _ _ _]) ty48 rfl rfl rfl (cells_of_obj (n := 4) (hst.objL (.head _)) _ rfl) <| CN (SO (v := .agg #[.int .u16 _, .int .u32 _, .int .u32 _, .slice _ _ _]) hst ty48 rfl rfl (.there (.there (.there (.there (.here))))) fun w hst => ?_)
       refine AI rfl <| NL <| run_ret2 Try.func26 rfl (RV.cellA (vs := [.int .u16 _, .int .u32 _, .int .u32 _, .slice _ _ _]) rfl ty48 rfl rfl (cells_of_obj (n := 4) (hst.objL (.tail _ (.tail _ (.tail _ (.tail _ (.head _)))))) _ rfl)) (TP (v := .int .i64 _) rfl) ?_
       replace hst := hst.pick (.cons (.there (.there (.here))) .nil)
       have hI := instF_ok (op := op) (bound := bound) (l := l) (by omega) (by rw [hob]; simpa using g2) (by rw [hfm]; exact hstop.2) (by rw [hfm, ← hstop.1, ← hfo]; exact Classical.not_not.1 g49)
       rw [hfm, ← hstop.1] at hI
       rw [hI]
       have hT := (hJ2.2.1 (hJ2.zero hstop.2)).2.2
       rw [← hT.1, ← hT.2]
       exact ⟨aa, ca, rfl, hst.noD⟩
     refine run_skip <| SQ <| SR <| MI rfl <| CN <| Op1.neq rfl rfl <| NL <| run_cond_dec rfl (fun g50 => ?_) (fun g50 => ?_)
     · skip
       refine SR <| CN (Op1.buildStruct ty48 stf48 .nil ?_)
       refine MI rfl <| CN (SO (v := .agg #[.int .u16 _, .int .u32 _, .int .u32 _, .slice _ _ _]) hst ty48 rfl rfl (.there (.there (.there (.there (.here))))) fun w hst => ?_)
       refine AI rfl <| NL <| run_ret2 Try.func26 rfl (RV.cellA (vs := [.int .u16 _, .int .u32 _, .int .u32 _, .slice _ _ _]) rfl ty48 rfl rfl (cells_of_obj (n := 4) (hst.objL (.tail _ (.tail _ (.tail _ (.tail _ (.head _)))))) _ rfl)) (TP (v := .int .i64 _) rfl) ?_
       replace hst := hst.pick .nil
       have hI := instF_err (op := op) (bound := bound) (l := l) (e := e) (by omega) (by rw [hob]; simpa using g2) (by rw [hfm]; exact hK.2.2.2 g42) g42
       rw [hI]
       exact ⟨none, 0, rfl, (hst.pushNil 71 3).noD⟩
     exfalso
     omega
   · skip
     refine SR <| CN <| Op1.fieldAddr fld80_3 rfl <| CN <| Op1.load1 (v := .bool _) ty4 rfl rfl (hst.cellL (.tail _ (.tail _ (.tail _ (.head _)))) rfl) <| MB rfl <| RunL.split (d := 47) rfl (fun g51 => ?_) (fun g51 => ?_)
     · skip
       refine TK (t := 47) rfl (congrArg Value.bool g51) <| Op1.move (v := .int .i64 _) rfl <| TK (t := 47) rfl (congrArg Value.bool g51) <| Op1.eql rfl rfl <| CN <| Op1.pickT (u := .bool _) (congrArg Value.bool g51) rfl <| NL <| run_cond_dec rfl (fun g52 => ?_) (fun g52 => ?_)
       · skip
         refine RG <| MP rfl <| MP rfl ?_
         replace hst := hst.pick (.cons (.here) (.cons (.here) (.cons (.here) (.cons (.here) (.cons (.here) (.cons (.here) .nil))))))
         replace hst : St _ _ (RdC 93 135 23 71 b33 fm bR bound op ty1 0 none 0 [] aR cR l a1 :: _) _ _ := hst.pack (L1 := [_, _, _])
         refine CN (Op1.call2 (v1 := .pointer (some ⟨_, _, none⟩)) (v2 := .int .i64 _) ent55 rfl rfl rfl ((R3cd_rhead b33 fm bR bound op ty1 0 none 0 [] aR cR l a1 _ _ (hst.hL _ (.head _)) hl hJ1.1).mono fun v w hp => ?_))
         rcases hp with ⟨hin, rfl, hp⟩ | ⟨hin, rfl, hp⟩
         · skip
           replace hst : St _ _ (RdC 93 135 23 71 b33 fm bR bound op ty1 0 none 0 [] aR cR l (a1 + 1) :: _) _ _ := hst.call1 hp
           replace hst : St _ _ (_ :: _ :: _ :: _) _ _ := hst.unpack
           clear hp
           refine CN <| Op1.move (v := .tuple #[.int .u32 _, .int .i64 _]) rfl <| CN <| Op1.extract (v := .int .u32 _) rfl rfl <| CN <| Op1.extract (v := .int .i64 _) rfl rfl <| CN <| Op1.nilCheckP rfl <| CN <| Op1.fieldAddr fld93_3 rfl <| CN <| Op1.fieldAddr fld48_2 rfl <| CN (SO (v := .int .u32 _) hst ty23 rfl rfl (.here) fun w hst => ?_)
           refine AI rfl <| NL ?_
           have h0 : e1 = 0 := by simpa using g52
           subst h0
           exact cut11 ((a1 + 1, l.getD a1 0, idE (l.getD a1 0) bound)) _ w (hst) (H2.word hJ1 (by simpa using g51) hin) ⟨rfl, rfl, rfl, trivial⟩ ⟨rfl, trivial⟩
         · skip
           replace hst : St _ _ (RdC 93 135 23 71 b33 fm bR bound op ty1 0 none 0 [] aR cR l a1 :: _) _ _ := hst.call1 hp
           replace hst : St _ _ (_ :: _ :: _ :: _) _ _ := hst.unpack
           clear hp
           refine CN <| Op1.move (v := .tuple #[.int .u32 _, .int .i64 _]) rfl <| CN <| Op1.extract (v := .int .u32 _) rfl rfl <| CN <| Op1.extract (v := .int .i64 _) rfl rfl <| CN <| Op1.nilCheckP rfl <| CN <| Op1.fieldAddr fld93_3 rfl <| CN <| Op1.fieldAddr fld48_2 rfl <| CN (SO (v := .int .u32 _) hst ty23 rfl rfl (.here) fun w hst => ?_)
           refine AI rfl <| NL ?_
           have h0 : e1 = 0 := by simpa using g52
           subst h0
           exact cut11 ((a1, 0, 41)) _ w (hst) (H2.lacks hJ1 (by simpa using g51) hin) ⟨rfl, rfl, rfl, trivial⟩ ⟨rfl, trivial⟩
       refine run_skip ?_
       exact cut11 ((a1, 0, e1)) _ w (hst) (H2.err hJ1 (by simpa using g52)) ⟨rfl, rfl, rfl, trivial⟩ ⟨rfl, trivial⟩
     refine OM (t := 47) rfl (congrArg Value.bool g51) rfl <| OM (t := 47) rfl (congrArg Value.bool g51) rfl <| CN <| Op1.pickF (u := .bool _) (congrArg Value.bool g51) rfl <| NL <| run_cond_false (congrArg Value.bool (rfl : false = _)) <| run_skip ?_
     exact cut11 ((a1, 0, e1)) _ w (hst) ((if he : e1 = 0 then H2.no hJ1 (by simpa using g51) he else H2.err hJ1 he)) ⟨rfl, rfl, rfl, trivial⟩ ⟨rfl, trivial⟩
 · skip
   refine SR <| CN <| Op1.fieldAddr fld80_2 rfl <| CN <| Op1.load1 (v := .bool _) ty4 rfl rfl (hst.cellL (.tail _ (.tail _ (.tail _ (.head _)))) rfl) <| NL <| run_cond_split rfl (fun g53 => ?_) (fun g53 => ?_)
   · skip
     refine RG <| MP rfl <| MP rfl ?_
     replace hst := hst.pick (.cons (.here) (.cons (.here) (.cons (.here) (.cons (.here) (.cons (.here) (.cons (.here) .nil))))))
     replace hst : St _ _ (RdC 93 135 23 71 b33 fm bR bound op 0 0 none 0 [] aR cR l 0 :: _) _ _ := hst.pack (L1 := [_, _, _])
     refine CN (Op1.call2 (v1 := .pointer (some ⟨_, _, none⟩)) (v2 := .int .i64 _) ent55 rfl rfl rfl ((R3cd_rhead b33 fm bR bound op 0 0 none 0 [] aR cR l 0 _ _ (hst.hL _ (.head _)) hl (Nat.zero_le _)).mono fun v w hp => ?_))
     rcases hp with ⟨hin, rfl, hp⟩ | ⟨hin, rfl, hp⟩
     · skip
       replace hst : St _ _ (RdC 93 135 23 71 b33 fm bR bound op 0 0 none 0 [] aR cR l (0 + 1) :: _) _ _ := hst.call1 hp
       replace hst : St _ _ (_ :: _ :: _ :: _) _ _ := hst.unpack
       clear hp
       refine CN <| Op1.move (v := .tuple #[.int .u32 _, .int .i64 _]) rfl <| CN <| Op1.extract (v := .int .u32 _) rfl rfl <| CN <| Op1.extract (v := .int .i64 _) rfl rfl <| CN <| Op1.nilCheckP rfl <| CN <| Op1.fieldAddr fld93_3 rfl <| CN <| Op1.fieldAddr fld48_1 rfl <| CN (SO (v := .int .u32 _) hst ty23 rfl rfl (.here) fun w hst => ?_)
       refine AI rfl <| NL ?_
       exact cut9 ((1, l.getD 0 0, idE (l.getD 0 0) bound)) _ w (hst) (H1.word (by simpa using g53) hin) ⟨rfl, rfl, rfl, trivial⟩ ⟨rfl, trivial⟩
     · skip
       replace hst : St _ _ (RdC 93 135 23 71 b33 fm bR bound op 0 0 none 0 [] aR cR l 0 :: _) _ _ := hst.call1 hp
       replace hst : St _ _ (_ :: _ :: _ :: _) _ _ := hst.unpack
       clear hp
       refine CN <| Op1.move (v := .tuple #[.int .u32 _, .int .i64 _]) rfl <| CN <| Op1.extract (v := .int .u32 _) rfl rfl <| CN <| Op1.extract (v := .int .i64 _) rfl rfl <| CN <| Op1.nilCheckP rfl <| CN <| Op1.fieldAddr fld93_3 rfl <| CN <| Op1.fieldAddr fld48_1 rfl <| CN (SO (v := .int .u32 _) hst ty23 rfl rfl (.here) fun w hst => ?_)
       refine AI rfl <| NL ?_
       exact cut9 ((0, 0, 40)) _ w (hst) (H1.lacks (by simpa using g53) hin.symm) ⟨rfl, rfl, rfl, trivial⟩ ⟨rfl, trivial⟩
   refine run_skip ?_
   exact cut9 ((0, 0, 0)) _ w (hst) (H1.no (by simpa using g53)) ⟨rfl, rfl, rfl, trivial⟩ ⟨rfl, trivial⟩
end Go.SK
namespace Go.SK
open Go Go.Proofs
theorem ent117 : Enters Try.prog 117 := ⟨Try.f117, _, Try.func117, by kernel_rfl, rfl⟩
end Go.SK
namespace Go.SK
open Go Go.Proofs
open Go.RowKit
theorem R3ix_lite (s : List UInt8) (w : World) : Ret Try.prog 117 #[str s, .int .u8 0] w (fun v w' => v = .int .i64 (idxZ s) ∧ St w NoM [] [] w') := by
 refine Ret.enter (args := [str s, .int .u8 0]) Try.func117 rfl rfl rfl ?_
 have hst := St.init w
 refine SR <| AI rfl <| NSR <| MS rfl <| MC rfl <| CN <| Op1.ext2 (v1 := str s) (v2 := .int .u8 0) Try.func120 (by kernel_rfl) (by kernel_rfl) (by kernel_rfl) (by kernel_rfl) rfl rfl rfl (run_indexByte_string ⟨s.toArray⟩ 0 _) <| AI rfl <| NL <| run_ret1 Try.func117 rfl (TP (v := .int .i64 _) rfl) ?_
 exact ⟨congrArg (Value.int .i64) (firstIdx_zero s), hst.pure⟩
theorem R3ix_strings (s : List UInt8) (w : World) : Ret Try.prog 109 #[str s, .int .u8 0] w (fun v w' => v = .int .i64 (idxZ s) ∧ St w NoM [] [] w') := by
 refine Ret.enter (args := [str s, .int .u8 0]) Try.func109 rfl rfl rfl ?_
 have hst := St.init w
 refine SR <| AI rfl <| NSR <| MS rfl <| MC rfl <| CN <| Op1.call2 (v1 := str _) (v2 := .int .u8 _) ent117 rfl rfl rfl <| Ret.det (R3ix_lite _ _) hst fun w hst => AI rfl <| NL <| run_ret1 Try.func109 rfl (TP (v := .int .i64 _) rfl) ?_
 exact ⟨rfl, hst.pure⟩
end Go.SK
namespace Go.SK
open Go Go.Proofs
theorem fld103_2 : FldF Try.prog 103 2 9 := FldF.of (n := 0) (by kernel_rfl)
theorem fld103_3 : FldF Try.prog 103 3 10 := FldF.of (n := 0) (by kernel_rfl)
theorem ent94 : Enters Try.prog 94 := ⟨Try.f94, _, Try.func94, by kernel_rfl, rfl⟩
theorem fld103_1 : FldF Try.prog 103 1 8 := FldF.of (n := 0) (by kernel_rfl)
theorem ent109 : Enters Try.prog 109 := ⟨Try.f109, _, Try.func109, by kernel_rfl, rfl⟩
theorem ent110 : Enters Try.prog 110 := ⟨Try.f110, _, Try.func110, by kernel_rfl, rfl⟩
end Go.SK
namespace Go.SK
open Go Go.Proofs
open Go.RowKit
theorem R3cd_put (bq : Nat) (fm : FormL) (bound : Int) (ao : Option Addr) (cp : Nat) (ws : List Int) (room : Int) (n : Int) (w : World) (hR : (WrC 103 23 bq fm bound ao cp ws room).holds w) (hl : ws.length ≤ 1000000000000) (hr0 : 0 ≤ room) (hr1 : room ≤ 1000000000000) : Ret Try.prog 94 #[.pointer (some ⟨bq, 0, none⟩), .int .u32 n] w (fun v w' => ∃ ao' cp', St w (WrC 103 23 bq fm bound ao cp ws room).foot [WrC 103 23 bq fm bound ao' cp' (ws ++ [n]) (room + 1)] [] w') := by
 refine Ret.enter (args := [.pointer (some ⟨bq, 0, none⟩), .int .u32 n]) Try.func94 rfl rfl rfl ?_
 have hst : St w (WrC 103 23 bq fm bound ao cp ws room).foot [WrC 103 23 bq fm bound ao cp ws room] [] w := St.enter1 hR (fun d hd => by cases hd) (fun d hd => by cases hd)
 replace hst : St _ _ [_, _] _ _ := hst.unpack
 refine SR <| MP rfl <| MP rfl <| CN <| Op1.nilCheckP rfl <| CN <| Op1.fieldAddr fld103_2 rfl <| CN <| Op1.load1 (v := .slice _ _ _) ty43 rfl rfl (hst.cellL (.head _) rfl) <| MU rfl <| CN (Op1.buildSl (z0 := [.int .u32 0]) hst ty43 ty23 rfl rfl (by kernel_rfl) (.c (v := .int .u32 _) rfl (h := .nil)) fun w b10 hst => ?_)
 refine CN (Op1.append (news := [.int .u32 _]) hst ty43 ty23 rfl rfl (.there (.there (.here))) rfl rfl rfl (cells_of_obj (n := 1) (hst.objL (.head _)) _ rfl) rfl rfl (by omega) fun w ao1 cp2 hst => ?_)
 replace hst := hst.drop (.there (.here))
 refine CN <| Op1.nilCheckP rfl <| CN <| Op1.fieldAddr fld103_2 rfl <| CN (SO (v := .slice _ _ _) hst ty43 rfl rfl (.there (.here)) fun w hst => ?_)
 refine NR <| MP rfl <| CN <| Op1.nilCheckP rfl <| CN <| Op1.fieldAddr fld103_3 rfl <| CN <| Op1.load1 (v := .int .i64 _) ty3 rfl rfl (hst.cellL (.tail _ (.head _)) rfl) <| CN <| Op1.addN rfl rfl rfl (wrap_i64 (by omega) (by omega)) <| CN <| Op1.nilCheckP rfl <| CN <| Op1.fieldAddr fld103_3 rfl <| CN (SO (v := .int .i64 _) hst ty3 rfl rfl (.there (.here)) fun w hst => ?_)
 refine NL <| run_end0 Try.func94 rfl  ?_
 replace hst := hst.pick (.cons (.there (.here)) (.cons (.here) .nil))
 have e1 : ws.length + 1 = (ws ++ [n]).length := by simp
 have e2 : ws.flatMap u32C ++ [.int .u32 n] = (ws ++ [n]).flatMap u32C := by simp
 rw [e1, e2] at hst
 exact ⟨_, _, (St.pack (L1 := [_, _]) (L2 := []) hst)⟩
theorem R3cd_whead (bq : Nat) (fm : FormL) (bound : Int) (ao : Option Addr) (cp : Nat) (ws : List Int) (room : Int) (must : Bool) (n lacks : Int) (hk : lacks ≠ 0) (w : World) (hR : (WrC 103 23 bq fm bound ao cp ws room).holds w) (hl : ws.length ≤ 1000000000000) (hr0 : 0 ≤ room) (hr1 : room ≤ 1000000000000) : Ret Try.prog 61 #[.pointer (some ⟨bq, 0, none⟩), .bool must, .int .u32 n, .int .i64 lacks] w (fun v w' => ∃ ao' cp' ws' room', v = .int .i64 (idH must n bound lacks) ∧ ((idH must n bound lacks) = 0 → ws' = ws ++ mustW must n ∧ room' = room + b2n must) ∧ ws'.length ≤ ws.length + 1 ∧ 0 ≤ room' ∧ room' ≤ room + 1 ∧ St w (WrC 103 23 bq fm bound ao cp ws room).foot [WrC 103 23 bq fm bound ao' cp' ws' room'] [] w') := by
 refine Ret.enter (args := [.pointer (some ⟨bq, 0, none⟩), .bool must, .int .u32 n, .int .i64 lacks]) Try.func61 rfl rfl rfl ?_
 have hst : St w (WrC 103 23 bq fm bound ao cp ws room).foot [WrC 103 23 bq fm bound ao cp ws room] [] w := St.enter1 hR (fun d hd => by cases hd) (fun d hd => by cases hd)
 replace hst : St _ _ [_, _] _ _ := hst.unpack
 refine SR <| AI rfl <| NL <| SQ <| run_block <| SR <| MB rfl <| MU rfl <| CN <| Op1.neq rfl rfl <| CN <| Op1.neqB ty4 rfl rfl <| AB rfl <| NL <| run_cond_split rfl (fun g1 => ?_) (fun g1 => ?_)
 · skip
   refine SR <| MI rfl <| AI rfl <| NL <| run_ret1 Try.func61 rfl (TP (v := .int .i64 _) rfl) ?_
   replace hst := hst.pick (.cons (.here) (.cons (.here) .nil))
   have hE := idH_lacks (must := must) (n := n) (bound := bound) (e := lacks) (bne_iff_ne.1 g1)
   rw [hE]
   exact ⟨ao, cp, ws, room, rfl, fun h => absurd h hk, by omega, hr0, by omega, (St.pack (L1 := [_, _]) (L2 := []) hst)⟩
 refine SR <| MB rfl <| CN <| Op1.not rfl <| AB rfl <| NL <| run_cond_split rfl (fun g2 => ?_) (fun g2 => ?_)
 · skip
   refine SR <| AI rfl <| NL <| run_ret1 Try.func61 rfl (TP (v := .int .i64 _) rfl) ?_
   replace hst := hst.pick (.cons (.here) (.cons (.here) .nil))
   have hm : must = false := by simpa using g2
   have hE := idH_no (must := must) (n := n) (bound := bound) (e := lacks) (fun hx => by have hy := bne_iff_ne.2 hx; rw [g1] at hy; cases hy) hm
   rw [hE]
   exact ⟨ao, cp, ws, room, rfl, fun _ => ⟨by rw [mustW, hm]; simp, by rw [b2n, hm]; simp⟩, by omega, hr0, by omega, (St.pack (L1 := [_, _]) (L2 := []) hst)⟩
 refine run_skip <| run_inBlock <| SR <| MP rfl <| MU rfl ?_
 replace hst := hst.pick (.cons (.here) (.cons (.here) .nil))
 replace hst : St _ _ (WrC 103 23 bq fm bound ao cp ws room :: _) _ _ := hst.pack (L1 := [_, _])
 refine CN (Op1.call2 (v1 := .pointer (some ⟨_, _, none⟩)) (v2 := .int .u32 _) ent94 rfl rfl rfl ((R3cd_put bq fm bound ao cp ws room _ _ (hst.hL _ (.head _)) hl hr0 hr1).mono fun v w hp => ?_))
 obtain ⟨ao2, cp2, hp⟩ := hp
 replace hst : St _ _ (WrC 103 23 bq fm bound ao2 cp2 (ws ++ [n]) (room + 1) :: _) _ _ := hst.call1 hp
 replace hst : St _ _ (_ :: _ :: _) _ _ := hst.unpack
 clear hp
 refine NSR <| MU rfl <| MP rfl <| CN <| Op1.nilCheckP rfl <| CN <| Op1.fieldAddr fld103_1 rfl <| CN <| Op1.load1 (v := .int .u32 _) ty23 rfl rfl (hst.cellL (.head _) rfl) <| CN <| Op1.call2 (v1 := .int .u32 _) (v2 := .int .u32 _) ent85 rfl rfl rfl <| Ret.det (R3cd_id _ _ _) hst fun w hst => AI rfl <| NL <| run_ret1 Try.func61 rfl (TP (v := .int .i64 _) rfl) ?_
 replace hst := hst.pick (.cons (.here) (.cons (.here) .nil))
 have hm : must = true := by simpa using g2
 have hE := idH_id (must := must) (n := n) (bound := bound) (e := lacks) (fun hx => by have hy := bne_iff_ne.2 hx; rw [g1] at hy; cases hy) hm
 rw [hE]
 exact ⟨ao2, cp2, ws ++ [n], room + 1, rfl, fun _ => ⟨by rw [mustW, hm]; rfl, by rw [b2n, hm]; rfl⟩, by simp, by omega, by omega, (St.pack (L1 := [_, _]) (L2 := []) hst)⟩
theorem R3cd_wtext (bq : Nat) (fm : FormL) (bound : Int) (ao : Option Addr) (cp : Nat) (ws : List Int) (room : Int) (s : List UInt8) (hs : s.length ≤ 100000000000) (w : World) (hR : (WrC 103 23 bq fm bound ao cp ws room).holds w) (hl : ws.length ≤ 1000000000000) (hr0 : 0 ≤ room) (hr1 : room ≤ 1000000000000) : Ret Try.prog 95 #[.pointer (some ⟨bq, 0, none⟩), str s] w (fun v w' => ∃ ao' cp' ws' room', v = .int .i64 (textE s) ∧ ((textE s) = 0 → ws' = ws ++ ofTextL s ∧ room' = room + ((s.length / 4 + 1 : Nat) : Int)) ∧ ws'.length ≤ ws.length + (s.length / 4 + 1) ∧ 0 ≤ room' ∧ room' ≤ room + ((s.length / 4 + 1 : Nat) : Int) ∧ St w (WrC 103 23 bq fm bound ao cp ws room).foot [WrC 103 23 bq fm bound ao' cp' ws' room'] [] w') := by
 refine Ret.enter (args := [.pointer (some ⟨bq, 0, none⟩), str s]) Try.func95 rfl rfl rfl ?_
 have hst : St w (WrC 103 23 bq fm bound ao cp ws room).foot [WrC 103 23 bq fm bound ao cp ws room] [] w := St.enter1 hR (fun d hd => by cases hd) (fun d hd => by cases hd)
 replace hst : St _ _ [_, _] _ _ := hst.unpack
 have hle := ofText_le s
 refine SR <| AI rfl <| NL <| SQ <| SR <| MS rfl <| CN <| Op1.call2 (v1 := str _) (v2 := .int .u8 _) ent109 rfl rfl rfl <| Ret.det (R3ix_strings s _) hst fun w hst => CN <| Op1.geq rfl rfl <| NL <| run_cond_dec rfl (fun g1 => ?_) (fun g1 => ?_)
 · skip
   refine SR <| AI rfl <| NL <| run_ret1 Try.func95 rfl (TP (v := .int .i64 _) rfl) ?_
   replace hst := hst.pick (.cons (.here) (.cons (.here) .nil))
   have hE : textE s = 13 := if_pos (idxZ_neg.1 (by omega))
   rw [hE]
   exact ⟨ao, cp, ws, room, rfl, fun h => absurd h (by decide), by omega, hr0, by omega, (St.pack (L1 := [_, _]) (L2 := []) hst)⟩
 refine run_skip <| SR <| MS rfl <| CN (Op1.call1 (v1 := str _) ent110 rfl rfl ((R3wd_OfText s _ (by omega)).mono fun v w hp => ?_))
 obtain ⟨aT, cT, rfl, hp⟩ := hp
 replace hst : St _ _ (_ :: _) _ _ := hst.call0 hp
 clear hp
 refine CN <| Op1.move (v := .tuple #[.slice _ _ _, .int .i64 _]) rfl <| CN <| Op1.extract (v := .slice _ _ _) rfl rfl <| CN <| Op1.extract (v := .int .i64 _) rfl rfl <| AL rfl <| AI rfl <| NL <| SQ <| SR <| MI rfl <| CN <| Op1.neq rfl rfl <| NL <| run_cond_dec rfl (fun g2 => ?_) (fun g2 => ?_)
 · skip
   refine SQ <| RunD.start [] hst (bs := [0, 1, 3, 7, 0, 16, 63, 127, 255, 511]) (ds := [some 17, some 18, some 19, some 20, some 21, some 22, some 23, some 24, some 25, none]) ⟨by kernel_rfl, by kernel_rfl, by kernel_rfl⟩ (fun tab3 => ?_)
   refine RunD.op (det _) tab3 1 (fun f' L' w' hc => Op1.move (v := .pointer (some ⟨_, _, none⟩)) (hc.old (v := .pointer (some ⟨_, _, none⟩)) rfl rfl rfl) ⟨[], ⟨rfl, rfl⟩, hc.st⟩) <| RunD.op (det _) tab3 2 (fun f' L' w' hc => Op1.nilCheckP (hc.det (j := 0) rfl rfl rfl rfl) ⟨[], ⟨rfl, rfl⟩, hc.st⟩) <| RunD.op (det _) tab3 3 (fun f' L' w' hc => Op1.fieldAddr fld103_3 (hc.det (j := 1) rfl rfl rfl rfl) ⟨[], ⟨rfl, rfl⟩, hc.st⟩) <| RunD.op (det _) tab3 4 (fun f' L' w' hc => Op1.load1 (v := .int .i64 _) ty3 rfl (hc.det (j := 2) rfl rfl rfl rfl) (hc.st.cellL (List.mem_append_right _ (.tail _ (.head _))) rfl) ⟨[], ⟨rfl, rfl⟩, hc.st⟩) <| RunD.op (det _) tab3 5 (fun f' L' w' hc => Op1.move (v := str _) (hc.old (v := str _) rfl rfl rfl) ⟨[], ⟨rfl, rfl⟩, hc.st⟩) <| RunD.op (det _) tab3 6 (fun f' L' w' hc => Op1.call1 (v1 := str _) ent111 rfl (hc.det (j := 4) rfl rfl rfl rfl) ((R3wd_Room s _ (by omega)).mono fun v w hp => ⟨[], ⟨hp.1, rfl⟩, hc.st.keepc hp.2⟩)) <| RunD.fin followsMixed tab3 hst rfl (fun f4 w R7 hs5 hd6 hr8 hst => ?_)
   obtain ⟨h17_, r0⟩ := hd6 0 17 rfl rfl
   obtain ⟨h18_, r1⟩ := hd6 1 18 rfl rfl
   obtain ⟨h19_, r2⟩ := hd6 2 19 rfl rfl
   obtain ⟨h20_, r3⟩ := hd6 3 20 rfl rfl
   obtain ⟨h21_, r4⟩ := hd6 4 21 rfl rfl
   obtain ⟨h22_, r5⟩ := hd6 5 22 rfl rfl
   simp only [show List.range 6 = [0, 1, 2, 3, 4, 5] from rfl, List.flatMap_cons, List.flatMap_nil, List.map_cons, List.map_nil, r0, r1, r2, r3, r4, r5, List.nil_append, List.append_nil, List.cons_append] at hst
   refine RunL.slots (sl := [(17, .pointer (some ⟨_, _, none⟩)), (20, .int .i64 _), (22, .int .i64 _)]) ⟨h17_, h20_, h22_, trivial⟩ ?_
   clear hs5 hd6 hr8 tab3
   refine CN <| Op1.addN rfl rfl rfl (wrap_i64 (by omega) (by omega)) <| CN <| Op1.nilCheckP rfl <| CN <| Op1.fieldAddr fld103_3 rfl <| CN (SO (v := .int .i64 _) hst ty3 rfl rfl (.there (.here)) fun w hst => ?_)
   refine NL <| Run.forget [] trivial fun f => SR <| AI rfl <| NL <| run_ret1 Try.func95 rfl (TP (v := .int .i64 _) rfl) ?_
   replace hst := hst.pick (.cons (.there (.here)) (.cons (.there (.here)) .nil))
   have hE : textE s = 0 := if_neg (fun h => by have := idxZ_neg.2 h; omega)
   rw [hE]
   have hT : ofTextL s = [] := ofTextL_err g2
   exact ⟨ao, cp, ws, room + ((s.length / 4 + 1 : Nat) : Int), rfl, fun _ => ⟨by rw [hT]; simp, rfl⟩, by omega, by omega, by omega, (St.pack (L1 := [_, _]) (L2 := []) hst)⟩
 refine run_skip <| SR <| MP rfl <| MP rfl <| CN <| Op1.nilCheckP rfl <| CN <| Op1.fieldAddr fld103_2 rfl <| CN <| Op1.load1 (v := .slice _ _ _) ty43 rfl rfl (hst.cellL (.tail _ (.head _)) rfl) <| ML rfl <| CN <| Op1.appendRs hst ty43 ty23 rfl rfl (.there (.there (.here))) rfl rfl (Res.rs_of_sl (hst.hL _ (.head _))) (flat_ok (fun _ => rfl) _) rfl (by omega) fun w ao2 cp2 hst => CN <| Op1.nilCheckP rfl <| CN <| Op1.fieldAddr fld103_2 rfl <| CN (SO (v := .slice _ _ _) hst ty43 rfl rfl (.there (.there (.here))) fun w hst => ?_)
 refine NL <| Run.forget [(0, .pointer (some ⟨_, _, none⟩)), (5, .slice _ _ _)] ⟨rfl, rfl, trivial⟩ fun f => SR <| MP rfl <| CN <| Op1.nilCheckP rfl <| CN <| Op1.fieldAddr fld103_3 rfl <| CN <| Op1.load1 (v := .int .i64 _) ty3 rfl rfl (hst.cellL (.tail _ (.tail _ (.head _))) rfl) <| ML rfl <| CN <| Op1.lenSl (rest := []) ty43 rfl <| CN <| Op1.addN rfl rfl rfl (wrap_i64 (by omega) (by omega)) <| CN <| Op1.nilCheckP rfl <| CN <| Op1.fieldAddr fld103_3 rfl <| CN (SO (v := .int .i64 _) hst ty3 rfl rfl (.there (.there (.here))) fun w hst => ?_)
 refine NSR <| AI rfl <| NL <| run_ret1 Try.func95 rfl (TP (v := .int .i64 _) rfl) ?_
 replace hst := hst.pick (.cons (.there (.there (.here))) (.cons (.here) .nil))
 have hE : textE s = 0 := if_neg (fun h => by have := idxZ_neg.2 h; omega)
 rw [hE]
 have hT := ofText_len (Classical.not_not.1 g2)
 have e1 : ws.length + (ofTextL s).length = (ws ++ ofTextL s).length := by simp
 have e2 : ws.flatMap u32C ++ (ofTextL s).flatMap u32C = (ws ++ ofTextL s).flatMap u32C := by simp
 rw [e1, e2] at hst
 exact ⟨ao2, cp2, ws ++ ofTextL s, room + ((ofTextL s).length : Int), rfl, fun _ => ⟨rfl, by rw [hT]⟩, by rw [List.length_append]; omega, by omega, by omega, (St.pack (L1 := [_, _]) (L2 := []) hst)⟩
end Go.SK
namespace Go.SK
open Go Go.Proofs
theorem fld103_0 : FldF Try.prog 103 0 0 := FldF.of (n := 7) (by kernel_rfl)
theorem ent95 : Enters Try.prog 95 := ⟨Try.f95, _, Try.func95, by kernel_rfl, rfl⟩
end Go.SK
namespace Go.SK
open Go Go.Proofs
open Go.RowKit
theorem R3cd_warg (bq : Nat) (fm : FormL) (bound : Int) (ao : Option Addr) (cp : Nat) (ws : List Int) (room : Int) (k : Nat) (hk : k ≤ 9000000000000000) (a : ArgP) (hs : a.s.length ≤ 100000000000) (c : Int) (hfm : refD fm.op = fm) (hc : letterS fm (k : Int) = c) (w : World) (hR : (WrC 103 23 bq fm bound ao cp ws room).holds w) (hl : ws.length ≤ 1000000000000) (hr0 : 0 ≤ room) (hr1 : room ≤ 1000000000000) : Ret Try.prog 62 #[.pointer (some ⟨bq, 0, none⟩), .int .i64 (k : Int), .agg #[.int .u8 a.kind, .int .u32 a.n, str a.s]] w (fun v w' => ∃ ao' cp' ws' room', v = .int .i64 (wrongA c a bound) ∧ ((wrongA c a bound) = 0 → ws' = ws ++ argW a ∧ room' = room + (argRoom a : Int)) ∧ ws'.length ≤ ws.length + argRoom a ∧ 0 ≤ room' ∧ room' ≤ room + (argRoom a : Int) ∧ St w (WrC 103 23 bq fm bound ao cp ws room).foot [WrC 103 23 bq fm bound ao' cp' ws' room'] [] w') := by
 refine Ret.enter (args := [.pointer (some ⟨bq, 0, none⟩), .int .i64 (k : Int), .agg #[.int .u8 a.kind, .int .u32 a.n, str a.s]]) Try.func62 rfl rfl rfl ?_
 have hst : St w (WrC 103 23 bq fm bound ao cp ws room).foot [WrC 103 23 bq fm bound ao cp ws room] [] w := St.enter1 hR (fun d hd => by cases hd) (fun d hd => by cases hd)
 replace hst : St _ _ [_, _] _ _ := hst.unpack
 have hf : FOk fm := hfm ▸ refD_fok fm.op
 have hop := hf.op
 have hcb : 0 ≤ c ∧ c ≤ 255 := hc ▸ letterS_bd fm _
 obtain ⟨kd, hkd⟩ : ∃ kd, kindS c = kd := ⟨_, rfl⟩
 refine SR <| CN <| Op1.box (v := .agg #[.int .u8 _, .int .u32 _, str _]) hst rfl rfl fun w b5 hst => AI rfl <| NSR <| MP rfl <| CN <| Op1.nilCheckP rfl <| CN <| Op1.fieldAddr fld103_0 rfl <| CN <| Op1.fieldAddr fld80_0 rfl <| CN <| Op1.load1 (v := .int .u16 _) ty42 rfl rfl (hst.cellL (.tail _ (.head _)) rfl) <| MI rfl <| CN <| Op1.call2 (v1 := .int .u16 _) (v2 := .int .i64 _) ent86 rfl rfl rfl <| Ret.det (R3gr_Letter3 hop.1 hfm hc (by omega) _) hst fun w hst => AC rfl ?_
 refine NSR <| CN <| Op1.fieldAddr fld71_0 rfl <| CN <| Op1.load1 (v := .int .u8 _) ty5 rfl rfl (hst.cellL (.head _) rfl) <| CN <| Op1.eql rfl rfl <| AB rfl <| NL <| SQ <| run_block <| SQ <| RunD.start [] hst (bs := [0, 1, 3, 7, 15, 7, 39, 127, 255, 511, 1023, 2047, 4095, 8191, 16383, 32767, 65535, 131071, 262143, 524287, 1048575, 2097151, 4194303, 8388607, 16777215, 33554431, 67108863]) (ds := [some 20, some 21, some 22, some 23, some 24, some 25, some 26, some 27, some 28, some 29, some 30, some 31, some 32, some 33, some 34, some 35, some 36, some 37, some 38, some 39, some 40, some 41, some 42, some 43, some 44, some 45, some 19]) ⟨by kernel_rfl, by kernel_rfl, by kernel_rfl⟩ (fun tab1 => ?_)
 refine RunD.op (det _) tab1 1 (fun f' L' w' hc => Op1.move (v := .int .u8 _) (hc.old (v := .int .u8 _) rfl rfl rfl) ⟨[], ⟨rfl, rfl⟩, hc.st⟩) <| RunD.op (det _) tab1 2 (fun f' L' w' hc => Op1.eql (hc.det (j := 0) rfl rfl rfl rfl) rfl ⟨[], ⟨rfl, rfl⟩, hc.st⟩) <| RunD.op (det _) tab1 3 (fun f' L' w' hc => Op1.move (v := .bool _) (hc.det (j := 1) rfl rfl rfl rfl) ⟨[], ⟨rfl, rfl⟩, hc.st⟩) <| RunD.splitD (j := 2) rfl (fun g2 => ?_) (fun g2 => ?_)
 · skip
   refine RunD.omit tab1 4 rfl rfl (fun f' L' w' hc => (hc.det (j := 2) rfl rfl rfl rfl).trans (congrArg Value.bool (decide_eq_true g2))) <| RunD.omit tab1 5 rfl rfl (fun f' L' w' hc => (hc.det (j := 2) rfl rfl rfl rfl).trans (congrArg Value.bool (decide_eq_true g2))) <| RunD.omit tab1 6 rfl rfl (fun f' L' w' hc => (hc.det (j := 2) rfl rfl rfl rfl).trans (congrArg Value.bool (decide_eq_true g2))) <| RunD.omit tab1 7 rfl rfl (fun f' L' w' hc => (hc.det (j := 2) rfl rfl rfl rfl).trans (congrArg Value.bool (decide_eq_true g2))) <| RunD.fin followsMixed tab1 hst rfl (fun f3 w R6 hs4 hd5 hr7 hst => ?_)
   obtain ⟨h20_, r0⟩ := hd5 0 20 rfl rfl
   obtain ⟨h21_, r1⟩ := hd5 1 21 rfl rfl
   obtain ⟨h22_, r2⟩ := hd5 2 22 rfl rfl
   obtain ⟨h23_, r3⟩ := hd5 3 23 rfl rfl
   obtain ⟨h24_, r4⟩ := hd5 4 24 rfl rfl
   obtain ⟨h25_, r5⟩ := hd5 5 25 rfl rfl
   obtain ⟨h26_, r6⟩ := hd5 6 26 rfl rfl
   simp only [show List.range 7 = [0, 1, 2, 3, 4, 5, 6] from rfl, List.flatMap_cons, List.flatMap_nil, List.map_cons, List.map_nil, r0, r1, r2, r3, r4, r5, r6, List.nil_append, List.append_nil, List.cons_append] at hst
   refine RunL.slots (sl := [(0, .pointer (some ⟨_, _, none⟩)), (5, .pointer (some ⟨_, _, none⟩)), (7, .int .u8 _), (8, .bool _), (22, .bool _), (24, _), (26, _)]) ⟨(hs4 0 rfl).trans rfl, (hs4 5 rfl).trans rfl, (hs4 7 rfl).trans rfl, (hs4 8 rfl).trans rfl, h22_, h24_, h26_, trivial⟩ ?_
   clear hs4 hd5 hr7 tab1
   refine OM (t := 22) rfl (congrArg Value.bool (decide_eq_true g2)) rfl <| CN <| Op1.pickT (u := .bool _) (congrArg Value.bool (decide_eq_true g2)) rfl <| MB rfl <| OM (t := 29) rfl (congrArg Value.bool (rfl : true = _)) rfl <| OM (t := 29) rfl (congrArg Value.bool (rfl : true = _)) rfl <| RunL.omitU (t := 31) rfl rfl <| RunL.omitU (t := 31) rfl rfl <| RunL.omitU (t := 31) rfl rfl <| OM (t := 29) rfl (congrArg Value.bool (rfl : true = _)) rfl <| CN <| Op1.pickT (u := .bool _) (congrArg Value.bool (rfl : true = _)) rfl <| MB rfl <| OM (t := 37) rfl (congrArg Value.bool (rfl : true = _)) rfl <| OM (t := 37) rfl (congrArg Value.bool (rfl : true = _)) rfl <| OM (t := 37) rfl (congrArg Value.bool (rfl : true = _)) rfl <| RunL.omitU (t := 40) rfl rfl ?_
   refine RunL.omitU (t := 40) rfl rfl <| RunL.omitU (t := 40) rfl rfl <| OM (t := 37) rfl (congrArg Value.bool (rfl : true = _)) rfl <| CN <| Op1.pickT (u := .bool _) (congrArg Value.bool (rfl : true = _)) rfl <| AB rfl <| NL <| Run.forget [(0, .pointer (some ⟨_, _, none⟩)), (5, .pointer (some ⟨_, _, none⟩)), (7, .int .u8 _), (8, .bool _), (19, .bool _)] ⟨rfl, rfl, rfl, rfl, rfl, trivial⟩ fun f => run_cond_true (congrArg Value.bool (rfl : true = _)) <| SR <| AI rfl <| NL <| run_ret1 Try.func62 rfl (TP (v := .int .i64 _) rfl) ?_
   replace hst := hst.pick (.cons (.there (.here)) (.cons (.there (.here)) .nil))
   have hX : wrongA c a bound = 42 := wrongA_form (.inl (by omega))
   rw [hX]
   exact ⟨ao, cp, ws, room, rfl, fun h => absurd h (by decide), by omega, hr0, by omega, (St.pack (L1 := [_, _]) (L2 := []) hst)⟩
 refine RunD.take (det _) tab1 4 rfl (fun f' L' w' hc => (hc.det (j := 2) rfl rfl rfl rfl).trans (congrArg Value.bool (decide_eq_false g2))) (fun f' L' w' hc => Op1.fieldAddr fld71_0 (hc.old (v := .pointer (some ⟨_, _, none⟩)) rfl rfl rfl) ⟨[], ⟨rfl, rfl⟩, hc.st⟩) <| RunD.take (det _) tab1 5 rfl (fun f' L' w' hc => (hc.det (j := 2) rfl rfl rfl rfl).trans (congrArg Value.bool (decide_eq_false g2))) (fun f' L' w' hc => Op1.load1 (v := .int .u8 _) ty5 rfl (hc.det (j := 3) rfl rfl rfl rfl) (hc.st.cellL (List.mem_append_right _ (.head _)) rfl) ⟨[], ⟨rfl, rfl⟩, hc.st⟩) <| RunD.take (det _) tab1 6 rfl (fun f' L' w' hc => (hc.det (j := 2) rfl rfl rfl rfl).trans (congrArg Value.bool (decide_eq_false g2))) (fun f' L' w' hc => Op1.move (v := .int .u8 _) (hc.old (v := .int .u8 _) rfl rfl rfl) ⟨[], ⟨rfl, rfl⟩, hc.st⟩) <| RunD.take (det _) tab1 7 rfl (fun f' L' w' hc => (hc.det (j := 2) rfl rfl rfl rfl).trans (congrArg Value.bool (decide_eq_false g2))) (fun f' L' w' hc => Op1.call1 (v1 := .int .u8 _) ent87 rfl (hc.det (j := 5) rfl rfl rfl rfl) ((R3gr_Kind2 hkd _).mono fun v w hp => ⟨[], ⟨hp.1, rfl⟩, hc.st.keepc hp.2⟩)) <| RunD.fin followsMixed tab1 hst rfl (fun f8 w R11 hs9 hd10 hr12 hst => ?_)
 obtain ⟨h20_, r0⟩ := hd10 0 20 rfl rfl
 obtain ⟨h21_, r1⟩ := hd10 1 21 rfl rfl
 obtain ⟨h22_, r2⟩ := hd10 2 22 rfl rfl
 obtain ⟨h23_, r3⟩ := hd10 3 23 rfl rfl
 obtain ⟨h24_, r4⟩ := hd10 4 24 rfl rfl
 obtain ⟨h25_, r5⟩ := hd10 5 25 rfl rfl
 obtain ⟨h26_, r6⟩ := hd10 6 26 rfl rfl
 simp only [show List.range 7 = [0, 1, 2, 3, 4, 5, 6] from rfl, List.flatMap_cons, List.flatMap_nil, List.map_cons, List.map_nil, r0, r1, r2, r3, r4, r5, r6, List.nil_append, List.append_nil, List.cons_append] at hst
 refine RunL.slots (sl := [(0, .pointer (some ⟨_, _, none⟩)), (5, .pointer (some ⟨_, _, none⟩)), (7, .int .u8 _), (8, .bool _), (22, .bool _), (24, .int .u8 _), (26, .int .u8 _)]) ⟨(hs9 0 rfl).trans rfl, (hs9 5 rfl).trans rfl, (hs9 7 rfl).trans rfl, (hs9 8 rfl).trans rfl, h22_, h24_, h26_, trivial⟩ ?_
 clear hs9 hd10 hr12 tab1
 refine TK (t := 22) rfl (congrArg Value.bool (decide_eq_false g2)) <| Op1.neq rfl rfl <| CN <| Op1.pickF (u := .bool _) (congrArg Value.bool (decide_eq_false g2)) rfl <| MB rfl <| RunL.splitD (d := 29) rfl (fun g13 => ?_) (fun g13 => ?_)
 · skip
   refine OM (t := 29) rfl (congrArg Value.bool (decide_eq_true g13)) rfl <| OM (t := 29) rfl (congrArg Value.bool (decide_eq_true g13)) rfl <| RunL.omitU (t := 31) rfl rfl <| RunL.omitU (t := 31) rfl rfl <| RunL.omitU (t := 31) rfl rfl <| OM (t := 29) rfl (congrArg Value.bool (decide_eq_true g13)) rfl <| CN <| Op1.pickT (u := .bool _) (congrArg Value.bool (decide_eq_true g13)) rfl <| MB rfl <| OM (t := 37) rfl (congrArg Value.bool (rfl : true = _)) rfl <| OM (t := 37) rfl (congrArg Value.bool (rfl : true = _)) rfl <| OM (t := 37) rfl (congrArg Value.bool (rfl : true = _)) rfl <| RunL.omitU (t := 40) rfl rfl <| RunL.omitU (t := 40) rfl rfl <| RunL.omitU (t := 40) rfl rfl <| OM (t := 37) rfl (congrArg Value.bool (rfl : true = _)) rfl ?_
   refine CN <| Op1.pickT (u := .bool _) (congrArg Value.bool (rfl : true = _)) rfl <| AB rfl <| NL <| Run.forget [(0, .pointer (some ⟨_, _, none⟩)), (5, .pointer (some ⟨_, _, none⟩)), (7, .int .u8 _), (8, .bool _), (19, .bool _)] ⟨rfl, rfl, rfl, rfl, rfl, trivial⟩ fun f => run_cond_true (congrArg Value.bool (rfl : true = _)) <| SR <| AI rfl <| NL <| run_ret1 Try.func62 rfl (TP (v := .int .i64 _) rfl) ?_
   replace hst := hst.pick (.cons (.there (.here)) (.cons (.there (.here)) .nil))
   have hX : wrongA c a bound = 42 := wrongA_form (.inr (.inl (by rw [hkd]; omega)))
   rw [hX]
   exact ⟨ao, cp, ws, room, rfl, fun h => absurd h (by decide), by omega, hr0, by omega, (St.pack (L1 := [_, _]) (L2 := []) hst)⟩
 refine TK (t := 29) rfl (congrArg Value.bool (decide_eq_false g13)) <| Op1.move (v := .bool _) rfl <| TK (t := 29) rfl (congrArg Value.bool (decide_eq_false g13)) <| Op1.move (v := .bool _) rfl <| RunL.splitD (d := 31) rfl (fun g14 => ?_) (fun g14 => ?_)
 · skip
   refine TK (t := 31) rfl (congrArg Value.bool (decide_eq_true g14)) <| Op1.fieldAddr fld71_1 rfl <| TK (t := 31) rfl (congrArg Value.bool (decide_eq_true g14)) <| Op1.load1 (v := .int .u32 _) ty23 rfl rfl (hst.cellL (.head _) rfl) <| TK (t := 31) rfl (congrArg Value.bool (decide_eq_true g14)) <| Op1.neq rfl rfl <| TK (t := 29) rfl (congrArg Value.bool (decide_eq_false g13)) <| Op1.pickT (u := .bool _) (congrArg Value.bool (decide_eq_true g14)) rfl <| CN <| Op1.pickF (u := .bool _) (congrArg Value.bool (decide_eq_false g13)) rfl <| MB rfl <| RunL.splitD (d := 37) rfl (fun g15 => ?_) (fun g15 => ?_)
   · skip
     refine OM (t := 37) rfl (congrArg Value.bool (decide_eq_true g15)) rfl <| OM (t := 37) rfl (congrArg Value.bool (decide_eq_true g15)) rfl <| OM (t := 37) rfl (congrArg Value.bool (decide_eq_true g15)) rfl <| RunL.omitU (t := 40) rfl rfl <| RunL.omitU (t := 40) rfl rfl <| RunL.omitU (t := 40) rfl rfl <| OM (t := 37) rfl (congrArg Value.bool (decide_eq_true g15)) rfl <| CN <| Op1.pickT (u := .bool _) (congrArg Value.bool (decide_eq_true g15)) rfl <| AB rfl <| NL <| Run.forget [(0, .pointer (some ⟨_, _, none⟩)), (5, .pointer (some ⟨_, _, none⟩)), (7, .int .u8 _), (8, .bool _), (19, .bool _)] ⟨rfl, rfl, rfl, rfl, rfl, trivial⟩ fun f => run_cond_true (congrArg Value.bool (rfl : true = _)) <| SR <| AI rfl ?_
     refine NL <| run_ret1 Try.func62 rfl (TP (v := .int .i64 _) rfl) ?_
     replace hst := hst.pick (.cons (.there (.here)) (.cons (.there (.here)) .nil))
     have hX : wrongA c a bound = 42 := wrongA_form (.inr (.inr (.inl ⟨by omega, by omega⟩)))
     rw [hX]
     exact ⟨ao, cp, ws, room, rfl, fun h => absurd h (by decide), by omega, hr0, by omega, (St.pack (L1 := [_, _]) (L2 := []) hst)⟩
   refine TK (t := 37) rfl (congrArg Value.bool (decide_eq_false g15)) <| Op1.move (v := .bool _) rfl <| TK (t := 37) rfl (congrArg Value.bool (decide_eq_false g15)) <| Op1.notD rfl <| TK (t := 37) rfl (congrArg Value.bool (decide_eq_false g15)) <| Op1.move (v := .bool _) rfl <| RunL.splitD (d := 40) rfl (fun g16 => ?_) (fun g16 => ?_)
   · skip
     exfalso
     omega
   refine OM (t := 40) rfl (congrArg Value.bool (decide_eq_false g16)) rfl <| OM (t := 40) rfl (congrArg Value.bool (decide_eq_false g16)) rfl <| OM (t := 40) rfl (congrArg Value.bool (decide_eq_false g16)) rfl <| TK (t := 37) rfl (congrArg Value.bool (decide_eq_false g15)) <| Op1.pickF (u := .bool _) (congrArg Value.bool (decide_eq_false g16)) rfl <| CN <| Op1.pickF (u := .bool _) (congrArg Value.bool (decide_eq_false g15)) rfl <| AB rfl <| NL <| Run.forget [(0, .pointer (some ⟨_, _, none⟩)), (5, .pointer (some ⟨_, _, none⟩)), (7, .int .u8 _), (8, .bool _), (19, .bool _)] ⟨rfl, rfl, rfl, rfl, rfl, trivial⟩ fun f => run_cond_false (congrArg Value.bool (rfl : false = _)) <| SR <| MB rfl <| AB rfl <| NL <| run_cond_dec rfl (fun g17 => ?_) (fun g17 => ?_)
   · skip
     refine SR <| MP rfl <| CN <| Op1.fieldAddr fld71_2 rfl <| CN (Op1.load1 (v := str _) ty9 rfl rfl (hst.cellL (.head _) rfl) ?_)
     replace hst := hst.pick (.cons (.there (.here)) (.cons (.there (.here)) (.cons (.here) .nil)))
     replace hst : St _ _ (WrC 103 23 bq fm bound ao cp ws room :: _) _ _ := hst.pack (L1 := [_, _])
     refine CN (Op1.call2 (v1 := .pointer (some ⟨_, _, none⟩)) (v2 := str _) ent95 rfl rfl rfl ((R3cd_wtext bq fm bound ao cp ws room a.s hs _ (hst.hL _ (.head _)) hl hr0 hr1).mono fun v w hp => ?_))
     obtain ⟨ao2, cp2, ws2, room2, rfl, hE, hw2, hr2, hr3, hp⟩ := hp
     replace hst : St _ _ (WrC 103 23 bq fm bound ao2 cp2 ws2 room2 :: _) _ _ := hst.call1 hp
     clear hp
     refine AI rfl <| NL <| run_ret1 Try.func62 rfl (TP (v := .int .i64 _) rfl) ?_
     replace hst := hst.pick (.cons (.here) .nil)
     have hX := wrongA_text (c := c) (a := a) (bound := bound) (by omega) (by rw [hkd]; omega) (by omega) (by omega)
     have hY := argW_text (a := a) (by omega)
     rw [hX, hY.1, hY.2]
     exact ⟨ao2, cp2, ws2, room2, rfl, hE, hw2, hr2, hr3, hst⟩
   exfalso
   omega
 refine OM (t := 31) rfl (congrArg Value.bool (decide_eq_false g14)) rfl <| OM (t := 31) rfl (congrArg Value.bool (decide_eq_false g14)) rfl <| OM (t := 31) rfl (congrArg Value.bool (decide_eq_false g14)) rfl <| TK (t := 29) rfl (congrArg Value.bool (decide_eq_false g13)) <| Op1.pickF (u := .bool _) (congrArg Value.bool (decide_eq_false g14)) rfl <| CN <| Op1.pickF (u := .bool _) (congrArg Value.bool (decide_eq_false g13)) rfl <| MB rfl <| TK (t := 37) rfl (congrArg Value.bool (rfl : false = _)) <| Op1.move (v := .bool _) rfl <| TK (t := 37) rfl (congrArg Value.bool (rfl : false = _)) <| Op1.notD rfl <| TK (t := 37) rfl (congrArg Value.bool (rfl : false = _)) <| Op1.move (v := .bool _) rfl <| RunL.splitD (d := 40) rfl (fun g18 => ?_) (fun g18 => ?_)
 · skip
   refine TK (t := 40) rfl (congrArg Value.bool (decide_eq_true g18)) <| Op1.fieldAddr fld71_2 rfl <| TK (t := 40) rfl (congrArg Value.bool (decide_eq_true g18)) <| Op1.load1 (v := str _) ty9 rfl rfl (hst.cellL (.head _) rfl) <| TK (t := 40) rfl (congrArg Value.bool (decide_eq_true g18)) <| Op1.neqS rfl rfl <| TK (t := 37) rfl (congrArg Value.bool (rfl : false = _)) <| Op1.pickT (u := .bool _) (congrArg Value.bool (decide_eq_true g18)) rfl <| CN <| Op1.pickF (u := .bool _) (congrArg Value.bool (rfl : false = _)) rfl <| AB rfl <| NL <| Run.forget [(0, .pointer (some ⟨_, _, none⟩)), (5, .pointer (some ⟨_, _, none⟩)), (7, .int .u8 _), (8, .bool _), (19, .bool _)] ⟨rfl, rfl, rfl, rfl, rfl, trivial⟩ fun f => run_cond_dec rfl (fun g19 => ?_) (fun g19 => ?_)
   · skip
     refine SR <| AI rfl <| NL <| run_ret1 Try.func62 rfl (TP (v := .int .i64 _) rfl) ?_
     replace hst := hst.pick (.cons (.there (.here)) (.cons (.there (.here)) .nil))
     have hX : wrongA c a bound = 42 := wrongA_form (.inr (.inr (.inr ⟨by omega, by simpa using g19⟩)))
     rw [hX]
     exact ⟨ao, cp, ws, room, rfl, fun h => absurd h (by decide), by omega, hr0, by omega, (St.pack (L1 := [_, _]) (L2 := []) hst)⟩
   refine SR <| MB rfl <| AB rfl <| NL <| run_cond_dec rfl (fun g20 => ?_) (fun g20 => ?_)
   · skip
     exfalso
     omega
   refine run_skip <| run_inBlock <| SR <| MP rfl <| CN <| Op1.fieldAddr fld71_1 rfl <| CN (Op1.load1 (v := .int .u32 _) ty23 rfl rfl (hst.cellL (.head _) rfl) ?_)
   replace hst := hst.pick (.cons (.there (.here)) (.cons (.there (.here)) (.cons (.here) .nil)))
   replace hst : St _ _ (WrC 103 23 bq fm bound ao cp ws room :: _) _ _ := hst.pack (L1 := [_, _])
   refine CN (Op1.call2 (v1 := .pointer (some ⟨_, _, none⟩)) (v2 := .int .u32 _) ent94 rfl rfl rfl ((R3cd_put bq fm bound ao cp ws room _ _ (hst.hL _ (.head _)) hl hr0 hr1).mono fun v w hp => ?_))
   obtain ⟨ao2, cp2, hp⟩ := hp
   replace hst : St _ _ (WrC 103 23 bq fm bound ao2 cp2 (ws ++ [a.n]) (room + 1) :: _) _ _ := hst.call1 hp
   replace hst : St _ _ (_ :: _ :: _) _ _ := hst.unpack
   clear hp
   refine NL <| SQ <| SR <| CN <| Op1.fieldAddr fld71_0 rfl <| CN <| Op1.load1 (v := .int .u8 _) ty5 rfl rfl (hst.cellL (.tail _ (.tail _ (.head _))) rfl) <| NL <| run_block <| SR <| CN <| Op1.eql rfl rfl <| AB rfl <| NL <| run_cond_dec rfl (fun g21 => ?_) (fun g21 => ?_)
   · skip
     refine SQ <| RunD.start [] hst (bs := [0, 1, 0, 4, 12, 28, 63, 127]) (ds := [some 60, some 61, some 62, some 63, some 64, some 65, some 66, some 6]) ⟨by kernel_rfl, by kernel_rfl, by kernel_rfl⟩ (fun tab22 => ?_)
     refine RunD.op (det _) tab22 1 (fun f' L' w' hc => Op1.fieldAddr fld71_1 (hc.old (v := .pointer (some ⟨_, _, none⟩)) rfl rfl rfl) ⟨[], ⟨rfl, rfl⟩, hc.st⟩) <| RunD.op (det _) tab22 2 (fun f' L' w' hc => Op1.load1 (v := .int .u32 _) ty23 rfl (hc.det (j := 0) rfl rfl rfl rfl) (hc.st.cellL (List.mem_append_right _ (.tail _ (.tail _ (.head _)))) rfl) ⟨[], ⟨rfl, rfl⟩, hc.st⟩) <| RunD.op (det _) tab22 3 (fun f' L' w' hc => Op1.move (v := .pointer (some ⟨_, _, none⟩)) (hc.old (v := .pointer (some ⟨_, _, none⟩)) rfl rfl rfl) ⟨[], ⟨rfl, rfl⟩, hc.st⟩) <| RunD.op (det _) tab22 4 (fun f' L' w' hc => Op1.nilCheckP (hc.det (j := 2) rfl rfl rfl rfl) ⟨[], ⟨rfl, rfl⟩, hc.st⟩) <| RunD.op (det _) tab22 5 (fun f' L' w' hc => Op1.fieldAddr fld103_1 (hc.det (j := 3) rfl rfl rfl rfl) ⟨[], ⟨rfl, rfl⟩, hc.st⟩) <| RunD.op (det _) tab22 6 (fun f' L' w' hc => Op1.load1 (v := .int .u32 _) ty23 rfl (hc.det (j := 4) rfl rfl rfl rfl) (hc.st.cellL (List.mem_append_right _ (.head _)) rfl) ⟨[], ⟨rfl, rfl⟩, hc.st⟩) <| RunD.fin followsMixed tab22 hst rfl (fun f23 w R26 hs24 hd25 hr27 hst => ?_)
     obtain ⟨h60_, r0⟩ := hd25 0 60 rfl rfl
     obtain ⟨h61_, r1⟩ := hd25 1 61 rfl rfl
     obtain ⟨h62_, r2⟩ := hd25 2 62 rfl rfl
     obtain ⟨h63_, r3⟩ := hd25 3 63 rfl rfl
     obtain ⟨h64_, r4⟩ := hd25 4 64 rfl rfl
     obtain ⟨h65_, r5⟩ := hd25 5 65 rfl rfl
     simp only [show List.range 6 = [0, 1, 2, 3, 4, 5] from rfl, List.flatMap_cons, List.flatMap_nil, List.map_cons, List.map_nil, r0, r1, r2, r3, r4, r5, List.nil_append, List.append_nil, List.cons_append] at hst
     refine RunL.slots (sl := [(61, .int .u32 _), (65, .int .u32 _)]) ⟨h61_, h65_, trivial⟩ ?_
     clear hs24 hd25 hr27 tab22
     refine CN <| Op1.call2 (v1 := .int .u32 _) (v2 := .int .u32 _) ent85 rfl rfl rfl <| Ret.det (R3cd_id _ _ _) hst fun w hst => AI rfl <| NL <| run_ret1 Try.func62 rfl (TP (v := .int .i64 _) rfl) ?_
     replace hst := hst.pick (.cons (.here) (.cons (.here) .nil))
     have hX := wrongA_one (c := c) (a := a) (bound := bound) (by omega) (by rw [hkd]; omega) (by omega) (by simpa using g19)
     have hY := argW_one (a := a) (by omega)
     rw [if_pos (by omega)] at hX
     rw [hX, hY.1, hY.2]
     exact ⟨ao2, cp2, ws ++ [a.n], room + 1, rfl, fun _ => ⟨rfl, rfl⟩, by simp, by omega, by omega, (St.pack (L1 := [_, _]) (L2 := []) hst)⟩
   refine SR <| CN <| Op1.eql rfl rfl <| AB rfl <| NL <| run_cond_dec rfl (fun g28 => ?_) (fun g28 => ?_)
   · skip
     refine SR <| MC rfl <| CN <| Op1.fieldAddr fld71_1 rfl <| CN <| Op1.load1 (v := .int .u32 _) ty23 rfl rfl (hst.cellL (.tail _ (.tail _ (.head _))) rfl) <| CN <| Op1.call2 (v1 := .int .u8 _) (v2 := .int .u32 _) ent89 rfl rfl rfl <| Ret.det (R3cd_named _ _ hcb.1 hcb.2 _) hst fun w hst => AI rfl <| NL <| run_ret1 Try.func62 rfl (TP (v := .int .i64 _) rfl) ?_
     replace hst := hst.pick (.cons (.here) (.cons (.here) .nil))
     have hX := wrongA_one (c := c) (a := a) (bound := bound) (by omega) (by rw [hkd]; omega) (by omega) (by simpa using g19)
     have hY := argW_one (a := a) (by omega)
     rw [if_neg (by omega), if_pos (by omega)] at hX
     rw [hX, hY.1, hY.2]
     exact ⟨ao2, cp2, ws ++ [a.n], room + 1, rfl, fun _ => ⟨rfl, rfl⟩, by simp, by omega, by omega, (St.pack (L1 := [_, _]) (L2 := []) hst)⟩
   refine run_skip <| run_inBlock <| SR <| AI rfl <| NL <| run_ret1 Try.func62 rfl (TP (v := .int .i64 _) rfl) ?_
   replace hst := hst.pick (.cons (.here) (.cons (.here) .nil))
   have hX := wrongA_one (c := c) (a := a) (bound := bound) (by omega) (by rw [hkd]; omega) (by omega) (by simpa using g19)
   have hY := argW_one (a := a) (by omega)
   rw [if_neg (by omega), if_neg (by omega)] at hX
   rw [hX, hY.1, hY.2]
   exact ⟨ao2, cp2, ws ++ [a.n], room + 1, rfl, fun _ => ⟨rfl, rfl⟩, by simp, by omega, by omega, (St.pack (L1 := [_, _]) (L2 := []) hst)⟩
 exfalso
 omega
end Go.SK
namespace Go.SK
open Go Go.Proofs
theorem ty103 : TyF Try.prog 103 (.struct (fieldsOf Try.prog 103)) 11 120 [.int .u16 0, str [], .bool false, .bool false, str [], str [], .int .i64 0, .int .u8 0, .int .u32 0, .slice none 0 0, .int .i64 0] := TyF.of (by kernel_rfl) (by kernel_rfl)
theorem stf103 : StructF Try.prog 103 [(0, 8), (8, 1), (9, 1), (10, 1)] := ⟨fieldsOf Try.prog 103, by kernel_rfl, fun w => by kernel_rfl⟩
theorem ent61 : Enters Try.prog 61 := ⟨Try.f61, _, Try.func61, by kernel_rfl, rfl⟩
theorem ent62 : Enters Try.prog 62 := ⟨Try.f62, _, Try.func62, by kernel_rfl, rfl⟩
end Go.SK
namespace Go.SK
open Go Go.Proofs
open Go.RowKit
theorem R3cd_Raw (p : InstP) (bound : Int) (h0 : 0 ≤ p.op) (w : World) (hA : (Res.rargs p).holds w) (hsm : (p.args.map argRoom).sum ≤ 900000000) (hla : ∀ a ∈ p.args, a.s.length ≤ 100000000000) : Ret Try.prog 32 #[.agg #[.int .u16 p.op, .int .u32 p.ty, .int .u32 p.res, .slice p.ao p.args.length p.cap], .int .u32 bound] w (fun v w' => ∃ ro rc, v = .tuple #[.agg #[.int .u16 (rawF bound p.L).1.1, .slice ro (rawF bound p.L).1.2.length rc], .int .i64 (rawF bound p.L).2] ∧ St w NoM [Res.sl ro (rawF bound p.L).1.2.length rc 23 1 ((rawF bound p.L).1.2.flatMap u32C)] [] w') := by
 refine Ret.enter (args := [.agg #[.int .u16 p.op, .int .u32 p.ty, .int .u32 p.res, .slice p.ao p.args.length p.cap], .int .u32 bound]) Try.func32 rfl rfl rfl ?_
 have hst : St w NoM [] [Res.rargs p] w := St.init_D hA
 clear hA
 obtain ⟨fm, hfm⟩ : ∃ fm, refD p.op = fm := ⟨_, rfl⟩
 obtain ⟨ob, hob⟩ : ∃ ob, (refS p.op).isSome = ob := ⟨_, rfl⟩
 obtain ⟨we, hwe⟩ : ∃ we, wholeE fm.op p.args = we := ⟨_, rfl⟩
 have hf : FOk fm := hfm ▸ refD_fok p.op
 have hlen := len_sum p.args
 refine SR <| CN <| Op1.box (v := .agg #[.int .u16 _, .int .u32 _, .int .u32 _, .slice _ _ _]) hst rfl rfl fun w b2 hst => CN <| Op1.alloc hst ty45 fun w b4 hst => AI rfl <| NSR <| CN <| Op1.fieldAddr fld48_0 rfl <| CN <| Op1.load1 (v := .int .u16 _) ty42 rfl rfl (hst.cellL (.tail _ (.head _)) rfl) <| CN <| Op1.call1 (v1 := .int .u16 _) ent53 rfl rfl <| Ret.det (R3gr_Of2 h0 hfm hob _) hst fun w hst => CN <| Op1.move (v := .tuple #[.agg #[.int .u16 _, str _, .bool _, .bool _, str _, str _, .int .i64 _, .int .u8 _], .bool _]) rfl <| CN <| Op1.extract (v := .agg #[.int .u16 _, str _, .bool _, .bool _, str _, str _, .int .i64 _, .int .u8 _]) rfl rfl <| CN <| Op1.extract (v := .bool _) rfl rfl <| CN (Op1.alloc hst ty80 fun w b6 hst => ?_)
 refine CN (SO (v := .agg #[.int .u16 _, str _, .bool _, .bool _, str _, str _, .int .i64 _, .int .u8 _]) hst ty80 rfl rfl (.here) fun w hst => ?_)
 refine AB rfl <| NL <| SQ <| SR <| MB rfl <| CN <| Op1.not rfl <| NL <| run_cond_split rfl (fun g1 => ?_) (fun g1 => ?_)
 · skip
   refine SR <| CN (Op1.buildStruct ty45 stf45 .nil ?_)
   refine CN (SO (v := .agg #[.int .u16 _, .slice _ _ _]) hst ty45 rfl rfl (.there (.here)) fun w hst => ?_)
   refine AI rfl <| NL <| run_ret2 Try.func32 rfl (RV.cellA (vs := [.int .u16 _, .slice _ _ _]) rfl ty45 rfl rfl (cells_of_obj (n := 2) (hst.objL (.tail _ (.head _))) _ rfl)) (TP (v := .int .i64 _) rfl) ?_
   replace hst := hst.pick .nil
   have hI := rawF_err (bound := bound) (i := p.L) (faultF_op (by rw [hob]; simpa using g1)) (by decide)
   rw [hI]
   exact ⟨none, 0, rfl, (hst.pushNil 23 1).noD⟩
 have hobt : ob = true := by simpa using g1
 have hisS : (refS p.op).isSome = true := hob.trans hobt
 have hfo : fm.op = p.op := by rw [← hfm]; exact (refD_some hisS).2
 have hfm2 : refD fm.op = fm := by rw [hfo]; exact hfm
 refine run_skip <| SR <| CN <| Op1.loadA (vs := [.int .u16 _, str _, .bool _, .bool _, str _, str _, .int .i64 _, .int .u8 _]) ty80 rfl rfl rfl (cells_of_obj (n := 8) (hst.objL (.head _)) _ rfl) <| MU rfl <| CN (Op1.buildStruct ty103 stf103 (.c (v := .agg #[.int .u16 _, str _, .bool _, .bool _, str _, str _, .int .i64 _, .int .u8 _]) rfl (h := (.c (v := .int .u32 _) rfl (h := .nil)))) ?_)
 refine CN <| Op1.box (v := .agg #[.int .u16 _, str _, .bool _, .bool _, str _, str _, .int .i64 _, .int .u8 _, .int .u32 _, .slice _ _ _, .int .i64 _]) hst rfl rfl fun w b25 hst => AP rfl <| NL <| SQ ?_
 replace hst := hst.pushNil 23 1
 replace hst := hst.pick (.cons (.there (.here)) (.cons (.here) (.cons (.here) (.cons (.here) (.cons (.here) .nil)))))
 replace hst : St _ _ (WrC 103 23 b25 fm bound none 0 [] 0 :: _) _ _ := hst.pack (L1 := [_, _])
 refine RG <| MP rfl <| CN <| Op1.fieldAddr fld80_2 rfl <| CN <| Op1.load1 (v := .bool _) ty4 rfl rfl (hst.cellL (.tail _ (.head _)) rfl) <| CN <| Op1.fieldAddr fld48_1 rfl <| CN (Op1.load1 (v := .int .u32 _) ty23 rfl rfl (hst.cellL (.tail _ (.tail _ (.tail _ (.head _)))) rfl) ?_)
 replace hst := hst.pick (.cons (.here) (.cons (.here) (.cons (.here) (.cons (.here) .nil))))
 refine CN (Op1.call4 (v1 := .pointer (some ⟨_, _, none⟩)) (v2 := .bool _) (v3 := .int .u32 _) (v4 := .int .i64 _) ent61 rfl rfl rfl rfl rfl ((R3cd_whead b25 fm bound none 0 [] 0 fm.ty p.ty 40 (by decide) _ (hst.hL _ (.head _)) (by decide) (by decide) (by decide)).mono fun v w hp => ?_))
 obtain ⟨ao1, cp1, ws1, rm1, rfl, hE1, hw1, hr1, hs1, hp⟩ := hp
 replace hst : St _ _ (WrC 103 23 b25 fm bound ao1 cp1 ws1 rm1 :: _) _ _ := hst.call1 hp
 clear hp
 refine AI rfl <| NL <| Run.forget [(2, .pointer (some ⟨_, _, none⟩)), (4, .pointer (some ⟨_, _, none⟩)), (6, .pointer (some ⟨_, _, none⟩)), (8, .pointer (some ⟨_, _, none⟩)), (9, .int .i64 _)] ⟨rfl, rfl, rfl, rfl, rfl, trivial⟩ fun f => SQ <| Run.cutW (L1 := [_]) [(2, .pointer (some ⟨_, _, none⟩)), (4, .pointer (some ⟨_, _, none⟩)), (6, .pointer (some ⟨_, _, none⟩)), (8, .pointer (some ⟨_, _, none⟩))] hst ⟨rfl, rfl, rfl, rfl, trivial⟩ (fun (q : Option Addr × Nat × List Int × Int × Int) => [(9, .int .i64 q.2.2.2.2)]) (fun (q : Option Addr × Nat × List Int × Int × Int) => [WrC 103 23 b25 fm bound q.1 q.2.1 q.2.2.1 q.2.2.2.1]) (fun (q : Option Addr × Nat × List Int × Int × Int) => RW bound p.L 0 q.2.2.1 q.2.2.2.1 q.2.2.2.2) (fun ⟨ao0, cp0, ws0, rm0, e0⟩ f w hst hJ1 => ?_) (fun cut2 => ?_)
 replace hst : St _ _ ([WrC 103 23 b25 fm bound ao0 cp0 ws0 rm0] ++ [_, _, _]) _ _ := hst
 replace hJ1 : RW bound p.L 0 ws0 rm0 e0 := hJ1
 refine Run.slots (sl := [(9, .int .i64 e0)]) ⟨rfl, trivial⟩ ?_
 · skip
   refine SR <| MP rfl <| CN <| Op1.makeFunc <| CN <| Op1.assign (v := .func _ _ _) rfl <| NL <| SQ <| SR <| CN <| Op1.fieldAddr fld48_3 rfl <| CN <| Op1.load1 (v := .slice _ _ _) ty46 rfl rfl (hst.cellL (.tail _ (.tail _ (.tail _ (.head _)))) rfl) <| CN <| Op1.lenSl (rest := []) ty46 rfl <| MI rfl <| NL <| run_block ?_
   refine run_loop <| Run.indW [(2, .pointer (some ⟨_, _, none⟩)), (4, .pointer (some ⟨_, _, none⟩)), (6, .pointer (some ⟨_, _, none⟩)), (8, .pointer (some ⟨_, _, none⟩)), (10, .func _ _ _), (43, .slice _ _ _), (44, .int .i64 _)] ⟨rfl, rfl, rfl, rfl, rfl, rfl, rfl, trivial⟩ (fun (q : Nat × Option Addr × Nat × List Int × Int × Int) => [(9, .int .i64 q.2.2.2.2.2), (45, .int .i64 (q.1 : Int))]) (fun (q : Nat × Option Addr × Nat × List Int × Int × Int) => [WrC 103 23 b25 fm bound q.2.1 q.2.2.1 q.2.2.2.1 q.2.2.2.2.1]) (fun (q : Nat × Option Addr × Nat × List Int × Int × Int) => q.1 ≤ p.args.length ∧ RW bound p.L q.1 q.2.2.2.1 q.2.2.2.2.1 q.2.2.2.2.2) (fun (q : Nat × Option Addr × Nat × List Int × Int × Int) => p.args.length - q.1) ((0, ao0, cp0, ws0, rm0, e0)) hst ⟨Nat.zero_le _, hJ1⟩ ⟨rfl, rfl, trivial⟩ ?_
   intro ⟨k, ao, cp, ws, room, e⟩ f w hst hK0 ih4
   replace hst : St _ _ ([WrC 103 23 b25 fm bound ao cp ws room] ++ [_, _, _]) _ _ := hst
   replace hK0 : k ≤ p.args.length ∧ RW bound p.L k ws room e := hK0
   refine Run.slots (sl := [(9, .int .i64 e), (45, .int .i64 (k : Int))]) ⟨rfl, rfl, trivial⟩ ?_
   have hK := hK0.2
   refine SR <| CN <| Op1.lss rfl rfl <| NL <| SQ <| run_cond_dec rfl (fun g5 => ?_) (fun g5 => ?_)
   · skip
     have hsum : sumR p.L.args k ≤ (p.args.map argRoom).sum := sumR_le
     have hlk := hK.len
     have hrk := hK.r1
     have hr0 := hK.r0
     have hmem : (p.args.getD k zeroA) ∈ p.args := getD_memD (by omega)
     have hsl := hla _ hmem
     have hidx : p.args.getD ((k : Int)).toNat zeroA = (p.args.getD k zeroA) := rfl
     refine run_skip <| SQ <| run_block <| SR <| MI rfl <| CN <| Op1.indexRs ty46 ty71 (hst.hD _ (.head _)) rfl rfl (by omega) (by omega) <| CN <| Op1.loadA (vs := [.int .u8 _, .int .u32 _, str _]) ty71 rfl rfl rfl (Res.rs2_cells (m := 3) (hst.hD _ (.head _)) _ (flat_seg (g := argC) (d := zeroA) argC_len _ _ (by omega))) <| CN <| Op1.alloc hst ty71 fun w b12 hst => AI rfl <| CN (SO (v := .agg #[.int .u8 _, .int .u32 _, str _]) hst ty71 rfl rfl (.here) fun w hst => ?_)
     refine NSR <| MI rfl <| CN <| Op1.eql rfl rfl <| NL <| run_cond_dec rfl (fun g6 => ?_) (fun g6 => ?_)
     · skip
       refine RG <| CN <| Op1.move (v := .func _ _ _) rfl <| MI rfl <| CN (Op1.loadA (vs := [.int .u8 _, .int .u32 _, str _]) ty71 rfl rfl rfl (cells_of_obj (n := 3) (hst.objL (.head _)) _ rfl) ?_)
       replace hst := hst.pick (.cons (.there (.here)) (.cons (.here) (.cons (.here) (.cons (.here) (.cons (.here) .nil)))))
       obtain rfl : e = 0 := by omega
       refine CN (Op1.callV2 (v1 := .int .i64 _) (v2 := .agg #[.int .u8 _, .int .u32 _, str _]) rfl rfl rfl (CallV.funcF ent62 ((R3cd_warg b25 fm bound ao cp ws room k (by omega) (p.args.getD k zeroA) hsl _ hfm2 rfl _ (hst.hL _ (.head _)) (by omega) hr0 (by omega)).mono fun v w hp => ?_)))
       obtain ⟨ao3, cp3, ws3, rm3, rfl, hE3, hw3, hr3, hs3, hp⟩ := hp
       replace hst : St _ _ (WrC 103 23 b25 fm bound ao3 cp3 ws3 rm3 :: _) _ _ := hst.call1 hp
       clear hp
       refine AI rfl <| NL <| run_inBlock <| RG <| CN <| Op1.addN rfl rfl rfl (wrap_i64 (by omega) (by omega)) <| MI rfl <| NL <| run_inLoop ?_
       replace hst := hst.pick (.cons (.here) (.cons (.here) (.cons (.here) (.cons (.here) (.cons (.here) .nil)))))
       have hst2 := hK.step (ws2 := ws3) (room2 := rm3) hisS (by (try dsimp only); omega) (by rw [hfm]; exact hE3) hw3 hr3 hs3
       rw [hfm] at hst2
       replace hst := hst.pick (.cons (.here) (.cons (.there (.here)) (.cons (.there (.here)) (.cons (.there (.here)) .nil))))
       exact ih4 ((k + 1, ao3, cp3, ws3, rm3, (wrongA (letterS fm (k : Int)) (p.args.getD k zeroA) bound))) _ w (by (try dsimp only); omega) hst (⟨by (try dsimp only); omega, hst2⟩) ⟨rfl, rfl, rfl, rfl, rfl, rfl, rfl, trivial⟩ ⟨rfl, (congrArg (Value.int .i64) (by (try dsimp only); omega)), trivial⟩
     refine run_skip <| run_inBlock <| RG <| CN <| Op1.addN rfl rfl rfl (wrap_i64 (by omega) (by omega)) <| MI rfl <| NL <| run_inLoop ?_
     replace hst := hst.pick (.cons (.there (.here)) (.cons (.here) (.cons (.here) (.cons (.here) (.cons (.here) .nil)))))
     have hst2 := hK.skip g6 (by (try dsimp only); omega)
     replace hst := hst.pick (.cons (.here) (.cons (.there (.here)) (.cons (.there (.here)) (.cons (.there (.here)) .nil))))
     exact ih4 ((k + 1, ao, cp, ws, room, e)) _ w (by (try dsimp only); omega) hst (⟨by (try dsimp only); omega, hst2⟩) ⟨rfl, rfl, rfl, rfl, rfl, rfl, rfl, trivial⟩ ⟨rfl, (congrArg (Value.int .i64) (by (try dsimp only); omega)), trivial⟩
   obtain rfl : k = p.args.length := by omega
   refine run_exit (id := 0) rfl <| SQ <| SR <| MI rfl <| CN <| Op1.eql rfl rfl <| NL <| run_cond_dec rfl (fun g7 => ?_) (fun g7 => ?_)
   · skip
     refine RG <| CN <| Op1.loadA (vs := [.int .u16 _, str _, .bool _, .bool _, str _, str _, .int .i64 _, .int .u8 _]) ty80 rfl rfl rfl (cells_of_obj (n := 8) (hst.objL (.tail _ (.head _))) _ rfl) <| CN <| Op1.fieldAddr fld48_3 rfl <| CN (Op1.load1 (v := .slice _ _ _) ty46 rfl rfl (hst.cellL (.tail _ (.tail _ (.tail _ (.head _)))) rfl) ?_)
     obtain rfl : e = 0 := by omega
     have hfu := hK.full hisS
     have hsum := sumR_le (l := p.args) (k := p.args.length)
     have hrk := hK.r1
     have hr0 := hK.r0
     refine CN <| Op1.call2 (v1 := .agg #[.int .u16 _, str _, .bool _, .bool _, str _, str _, .int .i64 _, .int .u8 _]) (v2 := .slice _ _ _) ent58 rfl rfl rfl <| Ret.detE (R3cd_whole fm hf p.args _ _ _ (hst.hD _ (.head _)) (by omega)) (congrArg (Value.int .i64) hwe) hst fun w hst => AI rfl <| NL <| SQ <| SQ ?_
     replace hst := hst.pick (.cons (.here) (.cons (.here) (.cons (.here) (.cons (.here) .nil))))
     replace hst : St _ _ (_ :: _ :: _) _ _ := hst.unpack
     refine RG <| MI rfl <| CN <| Op1.eql rfl rfl <| MB rfl <| RunL.splitD (d := 65) rfl (fun g8 => ?_) (fun g8 => ?_)
     · skip
       refine TK (t := 65) rfl (congrArg Value.bool (decide_eq_true g8)) <| Op1.move (v := .pointer (some ⟨_, _, none⟩)) rfl <| TK (t := 65) rfl (congrArg Value.bool (decide_eq_true g8)) <| Op1.nilCheckP rfl <| TK (t := 65) rfl (congrArg Value.bool (decide_eq_true g8)) <| Op1.fieldAddr fld103_3 rfl <| TK (t := 65) rfl (congrArg Value.bool (decide_eq_true g8)) <| Op1.load1 (v := .int .i64 _) ty3 rfl rfl (hst.cellL (.head _) rfl) <| TK (t := 65) rfl (congrArg Value.bool (decide_eq_true g8)) <| Op1.geq rfl rfl <| CN <| Op1.pickT (u := .bool _) (congrArg Value.bool (decide_eq_true g8)) rfl <| NL <| run_cond_dec rfl (fun g9 => ?_) (fun g9 => ?_)
       · skip
         refine RG <| AI rfl <| NL <| SQ <| SR <| MI rfl <| CN <| Op1.neq rfl rfl <| NL <| Run.forget [(2, .pointer (some ⟨_, _, none⟩)), (4, .pointer (some ⟨_, _, none⟩)), (8, .pointer (some ⟨_, _, none⟩)), (9, .int .i64 _), (73, .bool _)] ⟨rfl, rfl, rfl, rfl, rfl, trivial⟩ fun f => run_cond_dec rfl (fun g10 => ?_) (fun g10 => ?_)
         · skip
           refine SR <| CN (Op1.buildStruct ty45 stf45 .nil ?_)
           refine MI rfl <| CN (SO (v := .agg #[.int .u16 _, .slice _ _ _]) hst ty45 rfl rfl (.there (.there (.there (.here)))) fun w hst => ?_)
           refine AI rfl <| NL <| run_ret2 Try.func32 rfl (RV.cellA (vs := [.int .u16 _, .slice _ _ _]) rfl ty45 rfl rfl (cells_of_obj (n := 2) (hst.objL (.tail _ (.tail _ (.tail _ (.head _))))) _ rfl)) (TP (v := .int .i64 _) rfl) ?_
           replace hst := hst.pick .nil
           have hf2 := hfu.2.2
           rw [show wholeE p.L.op p.L.args = we from by rw [← hwe, hfo]] at hf2
           rw [if_neg (fun h => h (by omega))] at hf2
           have hr2 := hfu.2.1
           rw [hfm] at hr2 hf2
           rw [if_pos (by (try dsimp only at hr2 ⊢); omega)] at hf2
           have hI := rawF_err (bound := bound) (i := p.L) (hf2) (by decide)
           rw [hI]
           exact ⟨none, 0, rfl, (hst.pushNil 23 1).noD⟩
         exfalso
         exact g10 (by decide)
       refine run_skip <| SQ <| SR <| MI rfl <| CN <| Op1.neq rfl rfl <| NL <| Run.forget [(2, .pointer (some ⟨_, _, none⟩)), (4, .pointer (some ⟨_, _, none⟩)), (8, .pointer (some ⟨_, _, none⟩)), (9, .int .i64 _), (73, .bool _)] ⟨rfl, rfl, rfl, rfl, rfl, trivial⟩ fun f => run_cond_dec rfl (fun g11 => ?_) (fun g11 => ?_)
       · skip
         exfalso
         omega
       refine run_skip <| SQ <| RunD.start [] hst (bs := [0, 1, 0, 4, 12, 28, 63, 127, 255]) (ds := [some 76, some 77, some 78, some 79, some 80, some 81, some 82, none, some 5]) ⟨by kernel_rfl, by kernel_rfl, by kernel_rfl⟩ (fun tab12 => ?_)
       refine RunD.op (det _) tab12 1 (fun f' L' w' hc => Op1.fieldAddr fld48_0 (hc.old (v := .pointer (some ⟨_, _, none⟩)) rfl rfl rfl) ⟨[], ⟨rfl, rfl⟩, hc.st⟩) <| RunD.op (det _) tab12 2 (fun f' L' w' hc => Op1.load1 (v := .int .u16 _) ty42 rfl (hc.det (j := 0) rfl rfl rfl rfl) (hc.st.cellL (List.mem_append_right _ (.tail _ (.tail _ (.tail _ (.tail _ (.head _)))))) rfl) ⟨[], ⟨rfl, rfl⟩, hc.st⟩) <| RunD.op (det _) tab12 3 (fun f' L' w' hc => Op1.move (v := .pointer (some ⟨_, _, none⟩)) (hc.old (v := .pointer (some ⟨_, _, none⟩)) rfl rfl rfl) ⟨[], ⟨rfl, rfl⟩, hc.st⟩) <| RunD.op (det _) tab12 4 (fun f' L' w' hc => Op1.nilCheckP (hc.det (j := 2) rfl rfl rfl rfl) ⟨[], ⟨rfl, rfl⟩, hc.st⟩) <| RunD.op (det _) tab12 5 (fun f' L' w' hc => Op1.fieldAddr fld103_2 (hc.det (j := 3) rfl rfl rfl rfl) ⟨[], ⟨rfl, rfl⟩, hc.st⟩) <| RunD.op (det _) tab12 6 (fun f' L' w' hc => Op1.load1 (v := .slice _ _ _) ty43 rfl (hc.det (j := 4) rfl rfl rfl rfl) (hc.st.cellL (List.mem_append_right _ (.head _)) rfl) ⟨[], ⟨rfl, rfl⟩, hc.st⟩) <| RunD.fin followsMixed tab12 hst rfl (fun f13 w R16 hs14 hd15 hr17 hst => ?_)
       obtain ⟨h76_, r0⟩ := hd15 0 76 rfl rfl
       obtain ⟨h77_, r1⟩ := hd15 1 77 rfl rfl
       obtain ⟨h78_, r2⟩ := hd15 2 78 rfl rfl
       obtain ⟨h79_, r3⟩ := hd15 3 79 rfl rfl
       obtain ⟨h80_, r4⟩ := hd15 4 80 rfl rfl
       obtain ⟨h81_, r5⟩ := hd15 5 81 rfl rfl
       simp only [show List.range 6 = [0, 1, 2, 3, 4, 5] from rfl, List.flatMap_cons, List.flatMap_nil, List.map_cons, List.map_nil, r0, r1, r2, r3, r4, r5, List.nil_append, List.append_nil, List.cons_append] at hst
       refine RunL.slots (sl := [(4, .pointer (some ⟨_, _, none⟩)), (77, .int .u16 _), (81, .slice _ _ _)]) ⟨(hs14 4 rfl).trans rfl, h77_, h81_, trivial⟩ ?_
       clear hs14 hd15 hr17 tab12
       refine CN (Op1.buildStruct ty45 stf45 (.c (v := .int .u16 _) rfl (h := (.c (v := .slice _ _ _) rfl (h := .nil)))) ?_)
       refine CN (SO (v := .agg #[.int .u16 _, .slice _ _ _]) hst ty45 rfl rfl (.there (.there (.there (.here)))) fun w hst => ?_)
       refine AI rfl <| NL <| run_ret2 Try.func32 rfl (RV.cellA (vs := [.int .u16 _, .slice _ _ _]) rfl ty45 rfl rfl (cells_of_obj (n := 2) (hst.objL (.tail _ (.tail _ (.tail _ (.head _))))) _ rfl)) (TP (v := .int .i64 _) rfl) ?_
       replace hst := hst.pick (.cons (.there (.here)) .nil)
       have hf2 := hfu.2.2
       rw [show wholeE p.L.op p.L.args = we from by rw [← hwe, hfo]] at hf2
       rw [if_neg (fun h => h (by omega))] at hf2
       have hr2 := hfu.2.1
       rw [hfm] at hr2 hf2
       rw [if_neg (by (try dsimp only at hr2 ⊢); omega)] at hf2
       have hI := rawF_ok (bound := bound) (i := p.L) hf2
       rw [hI, ← hfu.1]
       exact ⟨ao, cp, rfl, hst.noD⟩
     refine OM (t := 65) rfl (congrArg Value.bool (decide_eq_false g8)) rfl <| OM (t := 65) rfl (congrArg Value.bool (decide_eq_false g8)) rfl <| OM (t := 65) rfl (congrArg Value.bool (decide_eq_false g8)) rfl <| OM (t := 65) rfl (congrArg Value.bool (decide_eq_false g8)) rfl <| OM (t := 65) rfl (congrArg Value.bool (decide_eq_false g8)) rfl <| CN <| Op1.pickF (u := .bool _) (congrArg Value.bool (decide_eq_false g8)) rfl <| NL <| run_cond_false (congrArg Value.bool (rfl : false = _)) <| run_skip <| SQ <| SR <| MI rfl <| CN <| Op1.neq rfl rfl <| NL ?_
     refine run_cond_dec rfl (fun g18 => ?_) (fun g18 => ?_)
     · skip
       refine SR <| CN (Op1.buildStruct ty45 stf45 .nil ?_)
       refine MI rfl <| CN (SO (v := .agg #[.int .u16 _, .slice _ _ _]) hst ty45 rfl rfl (.there (.there (.there (.here)))) fun w hst => ?_)
       refine AI rfl <| NL <| run_ret2 Try.func32 rfl (RV.cellA (vs := [.int .u16 _, .slice _ _ _]) rfl ty45 rfl rfl (cells_of_obj (n := 2) (hst.objL (.tail _ (.tail _ (.tail _ (.head _))))) _ rfl)) (TP (v := .int .i64 _) rfl) ?_
       replace hst := hst.pick .nil
       have hf2 := hfu.2.2
       rw [show wholeE p.L.op p.L.args = we from by rw [← hwe, hfo]] at hf2
       rw [if_pos g8] at hf2
       have hI := rawF_err (bound := bound) (i := p.L) (hf2) g8
       rw [hI]
       exact ⟨none, 0, rfl, (hst.pushNil 23 1).noD⟩
     exfalso
     omega
   refine run_skip <| SQ <| SQ ?_
   replace hst := hst.pick (.cons (.here) (.cons (.here) (.cons (.here) (.cons (.here) .nil))))
   replace hst : St _ _ (_ :: _ :: _) _ _ := hst.unpack
   refine RG <| MI rfl <| CN <| Op1.eql rfl rfl <| MB rfl <| RunL.splitD (d := 65) rfl (fun g19 => ?_) (fun g19 => ?_)
   · skip
     exfalso
     omega
   refine OM (t := 65) rfl (congrArg Value.bool (decide_eq_false g19)) rfl <| OM (t := 65) rfl (congrArg Value.bool (decide_eq_false g19)) rfl <| OM (t := 65) rfl (congrArg Value.bool (decide_eq_false g19)) rfl <| OM (t := 65) rfl (congrArg Value.bool (decide_eq_false g19)) rfl <| OM (t := 65) rfl (congrArg Value.bool (decide_eq_false g19)) rfl <| CN <| Op1.pickF (u := .bool _) (congrArg Value.bool (decide_eq_false g19)) rfl <| NL <| run_cond_false (congrArg Value.bool (rfl : false = _)) <| run_skip <| SQ <| SR <| MI rfl <| CN <| Op1.neq rfl rfl <| NL ?_
   refine run_cond_dec rfl (fun g20 => ?_) (fun g20 => ?_)
   · skip
     refine SR <| CN (Op1.buildStruct ty45 stf45 .nil ?_)
     refine MI rfl <| CN (SO (v := .agg #[.int .u16 _, .slice _ _ _]) hst ty45 rfl rfl (.there (.there (.there (.here)))) fun w hst => ?_)
     refine AI rfl <| NL <| run_ret2 Try.func32 rfl (RV.cellA (vs := [.int .u16 _, .slice _ _ _]) rfl ty45 rfl rfl (cells_of_obj (n := 2) (hst.objL (.tail _ (.tail _ (.tail _ (.head _))))) _ rfl)) (TP (v := .int .i64 _) rfl) ?_
     replace hst := hst.pick .nil
     have hI := rawF_err (bound := bound) (i := p.L) (hK.err g7) g7
     rw [hI]
     exact ⟨none, 0, rfl, (hst.pushNil 23 1).noD⟩
   exfalso
   omega
 · skip
   refine SR <| MI rfl <| CN <| Op1.eql rfl rfl <| NL <| run_cond_dec rfl (fun g21 => ?_) (fun g21 => ?_)
   · skip
     refine RG <| MP rfl <| CN <| Op1.fieldAddr fld80_3 rfl <| CN <| Op1.load1 (v := .bool _) ty4 rfl rfl (hst.cellL (.tail _ (.head _)) rfl) <| CN <| Op1.fieldAddr fld48_2 rfl <| CN (Op1.load1 (v := .int .u32 _) ty23 rfl rfl (hst.cellL (.tail _ (.tail _ (.tail _ (.head _)))) rfl) ?_)
     replace hst := hst.pick (.cons (.here) (.cons (.here) (.cons (.here) (.cons (.here) .nil))))
     have h10 : idH fm.ty p.ty bound 40 = 0 := by simpa using g21
     have hx1 := hE1 h10
     have hw1b : ws1.length ≤ 1 := hw1
     refine CN (Op1.call4 (v1 := .pointer (some ⟨_, _, none⟩)) (v2 := .bool _) (v3 := .int .u32 _) (v4 := .int .i64 _) ent61 rfl rfl rfl rfl rfl ((R3cd_whead b25 fm bound ao1 cp1 ws1 rm1 fm.res p.res 41 (by decide) _ (hst.hL _ (.head _)) (by omega) hr1 (by omega)).mono fun v w hp => ?_))
     obtain ⟨ao2, cp2, ws2, rm2, rfl, hE2, hw2, hr2, hs2, hp⟩ := hp
     replace hst : St _ _ (WrC 103 23 b25 fm bound ao2 cp2 ws2 rm2 :: _) _ _ := hst.call1 hp
     clear hp
     refine AI rfl <| NL ?_
     replace hst := hst.pick (.cons (.here) (.cons (.here) (.cons (.here) (.cons (.here) .nil))))
     exact cut2 ((ao2, cp2, ws2, rm2, idH fm.res p.res bound 41)) _ w (hst) ((by have hq := RW.start (i := p.L) (bound := bound) (ws2 := ws2) (room2 := rm2) hisS (by rw [hfm]; exact h10) (fun he => by rw [hfm] at he ⊢; have h2 := hE2 he; rw [hx1.1, hx1.2] at h2; exact h2) (by omega) hr2 (by omega); rw [hfm] at hq; exact hq)) ⟨rfl, rfl, rfl, rfl, trivial⟩ ⟨rfl, trivial⟩
   refine run_skip ?_
   replace hst := hst.pick (.cons (.here) (.cons (.here) (.cons (.here) (.cons (.here) .nil))))
   have hq := RW.ty (i := p.L) (bound := bound) (ws := ws1) (room := rm1) hisS (by rw [hfm]; exact g21) hw1 hr1 (by omega)
   rw [hfm] at hq
   exact cut2 ((ao1, cp1, ws1, rm1, idH fm.ty p.ty bound 40)) _ w (hst) (hq) ⟨rfl, rfl, rfl, rfl, trivial⟩ ⟨rfl, trivial⟩
end Go.SK
namespace Go.SK
open Go Go.Proofs
theorem ent75 : Enters Try.prog 75 := ⟨Try.f75, _, Try.func75, by kernel_rfl, rfl⟩
theorem ent32 : Enters Try.prog 32 := ⟨Try.f32, _, Try.func32, by kernel_rfl, rfl⟩
end Go.SK
namespace Go.SK
open Go Go.Proofs
open Go.RowKit
theorem R3cd_Raw2 {p : InstP} {bound rop re : Int} {rws : List Int} (hR : rawF bound p.L = ((rop, rws), re)) (h0 : 0 ≤ p.op) (w : World) (hA : (Res.rargs p).holds w) (hsm : (p.args.map argRoom).sum ≤ 900000000) (hla : ∀ a ∈ p.args, a.s.length ≤ 100000000000) : Ret Try.prog 32 #[.agg #[.int .u16 p.op, .int .u32 p.ty, .int .u32 p.res, .slice p.ao p.args.length p.cap], .int .u32 bound] w (fun v w' => ∃ ro rc, v = .tuple #[.agg #[.int .u16 rop, .slice ro rws.length rc], .int .i64 re] ∧ St w NoM [Res.sl ro rws.length rc 23 1 (rws.flatMap u32C)] [] w') := by
 have h := R3cd_Raw p bound h0 w hA hsm hla
 rw [hR] at h; exact h
theorem R3fr_SizeNil (w : World) : Ret Try.prog 75 #[.slice none 0 0] w (fun v w' => v = .tuple #[.int .i64 5, .int .i64 0] ∧ St w NoM [] [] w') := R3fr_Size [] none 0 w ⟨rfl, .inl rfl⟩ (by decide) (fun _ h => by cases h)
theorem R3cd_raws (gn bd : Int) (l : List InstP) (ao : Option Addr) (cp : Nat) (w : World) (hA : (Res.rmod ao l).holds w) (hl : l.length ≤ 3000000000000) (hop : ∀ i ∈ l, 0 ≤ i.op) (hsm : ∀ i ∈ l, (i.args.map argRoom).sum ≤ 900000000) (hla : ∀ i ∈ l, ∀ a ∈ i.args, a.s.length ≤ 100000000000) : Ret Try.prog 45 #[.agg #[.int .u32 gn, .int .u32 bd, .slice ao l.length cp]] w (fun v w' => ∃ ro rc done, v = .tuple #[.slice ro done.length rc, .agg #[.int .i64 (shapeF bd (l.map InstP.L)).1, .int .i64 (shapeF bd (l.map InstP.L)).2]] ∧ done.map RawP.L = (if (shapeF bd (l.map InstP.L)).1 = 0 then rawsF bd (l.map InstP.L) else []) ∧ St w NoM [Res.oraws 45 23 ro rc done] [] w') := by
 refine Ret.enter (args := [.agg #[.int .u32 gn, .int .u32 bd, .slice ao l.length cp]]) Try.func45 rfl rfl rfl ?_
 have hst : St w NoM [] [Res.rmod ao l] w := St.init_D hA
 clear hA
 refine SR <| CN <| Op1.box (v := .agg #[.int .u32 _, .int .u32 _, .slice _ _ _]) hst rfl rfl fun w b1 hst => AL rfl <| CN <| Op1.alloc hst ty29 fun w b3 hst => NL <| SQ <| SR <| CN <| Op1.fieldAddr fld26_1 rfl <| CN <| Op1.load1 (v := .int .u32 _) ty23 rfl rfl (hst.cellL (.tail _ (.head _)) rfl) <| CN <| Op1.eql rfl rfl <| MB rfl <| RunL.splitD (d := 14) rfl (fun g1 => ?_) (fun g1 => ?_)
 · skip
   refine OM (t := 14) rfl (congrArg Value.bool (decide_eq_true g1)) rfl <| OM (t := 14) rfl (congrArg Value.bool (decide_eq_true g1)) rfl <| OM (t := 14) rfl (congrArg Value.bool (decide_eq_true g1)) rfl <| CN <| Op1.pickT (u := .bool _) (congrArg Value.bool (decide_eq_true g1)) rfl <| NL <| run_cond_true (congrArg Value.bool (rfl : true = _)) <| SR <| CN (Op1.buildStruct ty29 stf29 (.c (v := .int .i64 _) rfl (h := .nil)) ?_)
   refine AL rfl <| CN (SO (v := .agg #[.int .i64 _, .int .i64 _]) hst ty29 rfl rfl (.here) fun w hst => ?_)
   refine NL <| run_ret2 Try.func45 rfl (TP (v := .slice _ _ _) rfl) (RV.cellA (vs := [.int .i64 _, .int .i64 _]) rfl ty29 rfl rfl (cells_of_obj (n := 2) (hst.objL (.head _)) _ rfl)) ?_
   replace hst := hst.pick .nil
   have hS := shapeF_bound (bound := bd) (l := (l.map InstP.L)) (by omega)
   have hne : (24 : Int) ≠ 0 := by decide
   replace hst := St.starCons ((hst.starNil).pushNil 45 2)
   refine ⟨none, 0, [], ?_, ?_, hst.noD⟩
   · rw [hS] <;> rfl
   · rw [hS, if_neg hne] <;> rfl
 refine TK (t := 14) rfl (congrArg Value.bool (decide_eq_false g1)) <| Op1.fieldAddr fld26_1 rfl <| TK (t := 14) rfl (congrArg Value.bool (decide_eq_false g1)) <| Op1.load1 (v := .int .u32 _) ty23 rfl rfl (hst.cellL (.tail _ (.head _)) rfl) <| TK (t := 14) rfl (congrArg Value.bool (decide_eq_false g1)) <| Op1.gtr rfl rfl <| CN <| Op1.pickF (u := .bool _) (congrArg Value.bool (decide_eq_false g1)) rfl <| NL <| run_cond_dec rfl (fun g2 => ?_) (fun g2 => ?_)
 · skip
   refine SR <| CN (Op1.buildStruct ty29 stf29 (.c (v := .int .i64 _) rfl (h := .nil)) ?_)
   refine AL rfl <| CN (SO (v := .agg #[.int .i64 _, .int .i64 _]) hst ty29 rfl rfl (.here) fun w hst => ?_)
   refine NL <| run_ret2 Try.func45 rfl (TP (v := .slice _ _ _) rfl) (RV.cellA (vs := [.int .i64 _, .int .i64 _]) rfl ty29 rfl rfl (cells_of_obj (n := 2) (hst.objL (.head _)) _ rfl)) ?_
   replace hst := hst.pick .nil
   have hS := shapeF_bound (bound := bd) (l := (l.map InstP.L)) (by omega)
   have hne : (24 : Int) ≠ 0 := by decide
   replace hst := St.starCons ((hst.starNil).pushNil 45 2)
   refine ⟨none, 0, [], ?_, ?_, hst.noD⟩
   · rw [hS] <;> rfl
   · rw [hS, if_neg hne] <;> rfl
 refine run_skip <| SR <| CN <| Op1.call1 (v1 := .slice _ _ _) ent75 rfl rfl <| Ret.det (R3fr_SizeNil _) hst fun w hst => CN <| Op1.move (v := .tuple #[.int .i64 _, .int .i64 _]) rfl <| CN <| Op1.extract (v := .int .i64 _) rfl rfl <| CN <| Op1.extract (v := .int .i64 _) rfl rfl <| AI rfl <| AI rfl <| NSR <| MI rfl <| CN <| Op1.subN rfl rfl rfl (wrap_i64 (by omega) (by omega)) <| AI rfl ?_
 refine NL <| Run.forget [(1, .pointer (some ⟨_, _, none⟩)), (3, .pointer (some ⟨_, _, none⟩)), (4, .int .i64 _)] ⟨rfl, rfl, rfl, trivial⟩ fun f => SR <| AL rfl <| NL <| SQ <| SQ ?_
 replace hst := hst.pushNil 45 2
 replace hst := hst.starNil
 refine RG <| CN <| Op1.fieldAddr fld26_2 rfl <| CN <| Op1.load1 (v := .slice _ _ _) ty24 rfl rfl (hst.cellL (.tail _ (.tail _ (.tail _ (.head _)))) rfl) <| CN <| Op1.lenSl (rest := []) ty24 rfl <| MI rfl <| NL <| run_block <| run_loop <| Run.indW [(1, .pointer (some ⟨_, _, none⟩)), (3, .pointer (some ⟨_, _, none⟩)), (27, .slice _ _ _), (28, .int .i64 _)] ⟨rfl, rfl, rfl, rfl, trivial⟩ (fun (q : Nat × Nat × Option Addr × Nat × List RawP) => [(4, .int .i64 (1048576 - (q.2.1 : Int))), (6, .slice q.2.2.1 q.2.2.2.2.length q.2.2.2.1), (29, .int .i64 (q.1 : Int))]) (fun (q : Nat × Nat × Option Addr × Nat × List RawP) => [Res.star (q.2.2.2.2.map (Res.oword 23)), Res.sl q.2.2.1 q.2.2.2.2.length q.2.2.2.1 45 2 (q.2.2.2.2.flatMap rawC)]) (fun (q : Nat × Nat × Option Addr × Nat × List RawP) => q.1 ≤ l.length ∧ shapeG bd 5 0 (l.map InstP.L) = shapeG bd q.2.1 q.1 ((l.map InstP.L).drop q.1) ∧ q.2.1 ≤ 1048576 ∧ q.2.2.2.2.map RawP.L = rawsF bd ((l.map InstP.L).take q.1)) (fun (q : Nat × Nat × Option Addr × Nat × List RawP) => l.length - q.1) ((0, 5, none, 0, [])) hst ⟨Nat.zero_le _, rfl, by decide, rfl⟩ ⟨rfl, rfl, rfl, trivial⟩ ?_
 intro ⟨i, n, aq, cq, done⟩ f w hst hJ ih3
 replace hst : St _ _ ([Res.star (done.map (Res.oword 23)), Res.sl aq done.length cq 45 2 (done.flatMap rawC)] ++ [_, _]) _ _ := hst
 replace hJ : i ≤ l.length ∧ shapeG bd 5 0 (l.map InstP.L) = shapeG bd n i ((l.map InstP.L).drop i) ∧ n ≤ 1048576 ∧ done.map RawP.L = rawsF bd ((l.map InstP.L).take i) := hJ
 refine Run.slots (sl := [(4, .int .i64 (1048576 - (n : Int))), (6, .slice aq done.length cq), (29, .int .i64 (i : Int))]) ⟨rfl, rfl, rfl, trivial⟩ <| SR <| CN <| Op1.lss rfl rfl <| NL <| SQ <| run_cond_dec rfl (fun g4 => ?_) (fun g4 => ?_)
 · skip
   have hmem : (l.getD i zeroI) ∈ l := getD_memD (by omega)
   have hidx : l.getD ((i : Int)).toNat zeroI = (l.getD i zeroI) := rfl
   obtain ⟨⟨⟨rop, rws⟩, re⟩, hR⟩ : ∃ q, rawF bd (l.getD i zeroI).L = q := ⟨_, rfl⟩
   have hrl := rawF_len hR
   have hsh := shapeG_step (bound := bd) (n := n) (k := i) (l := (l.map InstP.L)) (j := i) (by rw [List.length_map]; omega)
   rw [mapL_getD (by omega), ← hrl.1] at hsh
   have hdl : done.length ≤ i := by have := congrArg List.length hJ.2.2.2; simp only [rawsF, List.length_map, List.length_take] at this; omega
   have hrn : rws.length < 65535 := by
     by_cases he : re = 0
     · exact (hrl.2.1 he).2.1
     · rw [show rws = [] from congrArg Prod.snd (hrl.2.2 he)]; decide
   refine run_skip <| SQ <| run_block <| SR <| MI rfl <| CN <| Op1.indexRs ty24 ty48 (Res.rmod_insts (hst.hD _ (.head _))) rfl rfl (by omega) (by omega) <| CN <| Op1.loadA (vs := [.int .u16 _, .int .u32 _, .int .u32 _, .slice _ _ _]) ty48 rfl rfl rfl (Res.rs2_cells (m := 4) (Res.rmod_insts (hst.hD _ (.head _))) _ (flat_seg (g := instC) (d := zeroI) instC_len _ _ (by omega))) <| CN <| Op1.alloc hst ty48 fun w b8 hst => AI rfl <| CN (SO (v := .agg #[.int .u16 _, .int .u32 _, .int .u32 _, .slice _ _ _]) hst ty48 rfl rfl (.here) fun w hst => ?_)
   refine NSR <| CN <| Op1.loadA (vs := [.int .u16 _, .int .u32 _, .int .u32 _, .slice _ _ _]) ty48 rfl rfl rfl (cells_of_obj (n := 4) (hst.objL (.head _)) _ rfl) <| CN <| Op1.fieldAddr fld26_1 rfl <| CN <| Op1.load1 (v := .int .u32 _) ty23 rfl rfl (hst.cellL (.tail _ (.tail _ (.tail _ (.tail _ (.head _))))) rfl) <| CN (Op1.call2 (v1 := .agg #[.int .u16 _, .int .u32 _, .int .u32 _, .slice _ _ _]) (v2 := .int .u32 _) ent32 rfl rfl rfl ((R3cd_Raw2 hR (hop _ hmem) _ (Res.rmod_argsI (hst.hD _ (.head _)) (i := i) (by omega)) (hsm _ hmem) (hla _ hmem)).mono fun v w hp => ?_))
   obtain ⟨ro, rc, rfl, hp⟩ := hp
   replace hst : St _ _ (_ :: _) _ _ := hst.call0 hp
   clear hp
   refine CN <| Op1.move (v := .tuple #[.agg #[.int .u16 _, .slice _ _ _], .int .i64 _]) rfl <| CN <| Op1.extract (v := .agg #[.int .u16 _, .slice _ _ _]) rfl rfl <| CN <| Op1.extract (v := .int .i64 _) rfl rfl <| CN <| Op1.alloc hst ty45 fun w b9 hst => CN (SO (v := .agg #[.int .u16 _, .slice _ _ _]) hst ty45 rfl rfl (.here) fun w hst => ?_)
   refine AI rfl <| NSR <| MI rfl <| CN <| Op1.fieldAddr fld45_1 rfl <| CN <| Op1.load1 (v := .slice _ _ _) ty43 rfl rfl (hst.cellL (.head _) rfl) <| CN <| Op1.lenSl (rest := []) ty43 rfl <| CN <| Op1.addN rfl rfl rfl (wrap_i64 (by omega) (by omega)) <| CN <| Op1.subN rfl rfl rfl (wrap_i64 (by omega) (by omega)) <| AI rfl <| NL <| Run.forget [(1, .pointer (some ⟨_, _, none⟩)), (3, .pointer (some ⟨_, _, none⟩)), (4, .int .i64 _), (6, .slice _ _ _), (7, .int .i64 _), (9, .pointer (some ⟨_, _, none⟩)), (10, .int .i64 _), (27, .slice _ _ _), (28, .int .i64 _), (29, .int .i64 _)] ⟨rfl, rfl, rfl, rfl, rfl, rfl, rfl, rfl, rfl, rfl, trivial⟩ fun f => SQ <| run_block ?_
   refine SR <| MI rfl <| CN <| Op1.neq rfl rfl <| AB rfl <| NL <| run_cond_dec rfl (fun g5 => ?_) (fun g5 => ?_)
   · skip
     refine SR <| MI rfl <| MI rfl <| CN (Op1.buildStruct ty29 stf29 (.c (v := .int .i64 _) rfl (h := (.c (v := .int .i64 _) rfl (h := .nil)))) ?_)
     refine AL rfl <| CN (SO (v := .agg #[.int .i64 _, .int .i64 _]) hst ty29 rfl rfl (.there (.there (.there (.there (.there (.here)))))) fun w hst => ?_)
     refine NL <| run_ret2 Try.func45 rfl (TP (v := .slice _ _ _) rfl) (RV.cellA (vs := [.int .i64 _, .int .i64 _]) rfl ty29 rfl rfl (cells_of_obj (n := 2) (hst.objL (.tail _ (.tail _ (.tail _ (.tail _ (.tail _ (.head _))))))) _ rfl)) ?_
     replace hst := hst.pick .nil
     rw [if_pos g5] at hsh
     have hS := shapeF_in (bound := bd) (l := (l.map InstP.L)) (by omega) (by omega)
     rw [hJ.2.1, hsh] at hS
     have hne := g5
     replace hst := St.starCons ((hst.starNil).pushNil 45 2)
     refine ⟨none, 0, [], ?_, ?_, hst.noD⟩
     · rw [hS] <;> rfl
     · rw [hS, if_neg hne] <;> rfl
   refine SR <| MI rfl <| CN <| Op1.lss rfl rfl <| AB rfl <| NL <| run_cond_dec rfl (fun g6 => ?_) (fun g6 => ?_)
   · skip
     refine SR <| MI rfl <| CN (Op1.buildStruct ty29 stf29 (.c (v := .int .i64 _) rfl (h := (.c (v := .int .i64 _) rfl (h := .nil)))) ?_)
     refine AL rfl <| CN (SO (v := .agg #[.int .i64 _, .int .i64 _]) hst ty29 rfl rfl (.there (.there (.there (.there (.there (.here)))))) fun w hst => ?_)
     refine NL <| run_ret2 Try.func45 rfl (TP (v := .slice _ _ _) rfl) (RV.cellA (vs := [.int .i64 _, .int .i64 _]) rfl ty29 rfl rfl (cells_of_obj (n := 2) (hst.objL (.tail _ (.tail _ (.tail _ (.tail _ (.tail _ (.head _))))))) _ rfl)) ?_
     replace hst := hst.pick .nil
     have hr0 : re = 0 := Classical.not_not.1 g5
     have hrm := (hrl.2.1 hr0).1
     dsimp only at hrm hsh
     rw [if_neg g5, if_pos (by omega)] at hsh
     have hS := shapeF_in (bound := bd) (l := (l.map InstP.L)) (by omega) (by omega)
     rw [hJ.2.1, hsh] at hS
     have hne : (4 : Int) ≠ 0 := by decide
     replace hst := St.starCons ((hst.starNil).pushNil 45 2)
     refine ⟨none, 0, [], ?_, ?_, hst.noD⟩
     · rw [hS] <;> rfl
     · rw [hS, if_neg hne] <;> rfl
   refine run_skip <| run_inBlock <| RG <| ML rfl <| CN <| Op1.loadA (vs := [.int .u16 _, .slice _ _ _]) ty45 rfl rfl rfl (cells_of_obj (n := 2) (hst.objL (.head _)) _ rfl) <| CN (Op1.buildSl (z0 := [.int .u16 0, .slice none 0 0]) hst ty67 ty45 rfl rfl (by kernel_rfl) (.c (v := .agg #[.int .u16 _, .slice _ _ _]) rfl (h := .nil)) fun w b60 hst => ?_)
   refine CN (Op1.append (news := [.int .u16 _, .slice _ _ _]) hst ty67 ty45 rfl rfl (.there (.there (.there (.there (.there (.here)))))) rfl rfl rfl (cells_of_obj (n := 2) (hst.objL (.head _)) _ rfl) rfl rfl (by omega) fun w ao7 cp8 hst => ?_)
   replace hst := hst.drop (.there (.here))
   refine AL rfl <| NL <| run_inBlock <| RG <| CN <| Op1.addN rfl rfl rfl (wrap_i64 (by omega) (by omega)) <| MI rfl <| NL <| run_inLoop ?_
   replace hst := hst.pick (.cons (.there (.there (.here))) (.cons (.there (.there (.there (.here)))) (.cons (.here) (.cons (.here) (.cons (.here) (.cons (.here) (.cons (.here) .nil)))))))
   replace hst := hst.starSnoc
   have e1 : done.length + 1 = (done ++ [(⟨rop, ro, rc, rws⟩ : RawP)]).length := by simp
   have e2 : done.flatMap rawC ++ [.int .u16 rop, .slice ro rws.length rc] = (done ++ [(⟨rop, ro, rc, rws⟩ : RawP)]).flatMap rawC := by simp
   have e3 : done.map (Res.oword 23) ++ [Res.sl ro rws.length rc 23 1 (rws.flatMap u32C)] = (done ++ [(⟨rop, ro, rc, rws⟩ : RawP)]).map (Res.oword 23) := by simp
   rw [e1, e2, e3] at hst
   have hr0 : re = 0 := Classical.not_not.1 g5
   have hrm := (hrl.2.1 hr0).1
   dsimp only at hrm hsh
   rw [if_neg g5, if_neg (by omega)] at hsh
   have hI2 : (done ++ [(⟨rop, ro, rc, rws⟩ : RawP)]).map RawP.L = rawsF bd ((l.map InstP.L).take (i + 1)) := by rw [List.map_append, hJ.2.2.2, rawsF_take (by omega), hR]; rfl
   replace hst := hst.pick (.cons (.here) (.cons (.here) (.cons (.there (.there (.here))) (.cons (.there (.there (.here))) .nil))))
   exact ih3 ((i + 1, n + roomI (refD (l.getD i zeroI).op) (l.getD i zeroI).args, ao7, cp8, done ++ [(⟨rop, ro, rc, rws⟩ : RawP)])) _ w (by (try dsimp only); omega) hst (⟨by (try dsimp only); omega, hJ.2.1.trans hsh, by (try dsimp only); omega, hI2⟩) ⟨rfl, rfl, rfl, rfl, trivial⟩ ⟨(congrArg (Value.int .i64) (by (try dsimp only); omega)), (by (try dsimp only); rw [← e1]; rfl), (congrArg (Value.int .i64) (by (try dsimp only); omega)), trivial⟩
 obtain rfl : i = l.length := by omega
 refine run_exit (id := 0) rfl <| SR <| ML rfl <| CN (Op1.buildStruct ty29 stf29 .nil ?_)
 refine AL rfl <| CN (SO (v := .agg #[.int .i64 _, .int .i64 _]) hst ty29 rfl rfl (.there (.there (.here))) fun w hst => ?_)
 refine NL <| run_ret2 Try.func45 rfl (TP (v := .slice _ _ _) rfl) (RV.cellA (vs := [.int .i64 _, .int .i64 _]) rfl ty29 rfl rfl (cells_of_obj (n := 2) (hst.objL (.tail _ (.tail _ (.head _)))) _ rfl)) ?_
 replace hst := hst.pick (.cons (.there (.here)) (.cons (.here) .nil))
 have hll : l.length = (l.map InstP.L).length := by rw [List.length_map]
 have hS := shapeF_in (bound := bd) (l := (l.map InstP.L)) (by omega) (by omega)
 rw [hJ.2.1, hll, shapeG_end] at hS
 refine ⟨aq, cq, done, ?_, ?_, (St.starCons hst).noD⟩
 · rw [hS]
 · rw [hS, if_pos rfl, hJ.2.2.2, hll, List.take_length]
end Go.SK
namespace Go.SK
open Go Go.Proofs
theorem ty26 : TyF Try.prog 26 (.struct (fieldsOf Try.prog 26)) 3 32 [.int .u32 0, .int .u32 0, .slice none 0 0] := TyF.of (by kernel_rfl) (by kernel_rfl)
theorem ent45 : Enters Try.prog 45 := ⟨Try.f45, _, Try.func45, by kernel_rfl, rfl⟩
theorem ent46 : Enters Try.prog 46 := ⟨Try.f46, _, Try.func46, by kernel_rfl, rfl⟩
theorem ent47 : Enters Try.prog 47 := ⟨Try.f47, _, Try.func47, by kernel_rfl, rfl⟩
end Go.SK
namespace Go.SK
open Go Go.Proofs
open Go.RowKit
theorem R3cd_raws2 (gn bd : Int) (l : List InstP) (ao : Option Addr) (cp : Nat) {se sa : Int} (hS : shapeF bd (l.map InstP.L) = (se, sa)) (w : World) (hA : (Res.rmod ao l).holds w) (hl : l.length ≤ 3000000000000) (hop : ∀ i ∈ l, 0 ≤ i.op) (hsm : ∀ i ∈ l, (i.args.map argRoom).sum ≤ 900000000) (hla : ∀ i ∈ l, ∀ a ∈ i.args, a.s.length ≤ 100000000000) : Ret Try.prog 45 #[.agg #[.int .u32 gn, .int .u32 bd, .slice ao l.length cp]] w (fun v w' => ∃ ro rc done, v = .tuple #[.slice ro done.length rc, .agg #[.int .i64 se, .int .i64 sa]] ∧ done.map RawP.L = (if se = 0 then rawsF bd (l.map InstP.L) else []) ∧ St w NoM [Res.oraws 45 23 ro rc done] [] w') := by
 have h := R3cd_raws gn bd l ao cp w hA hl hop hsm hla
 rw [hS] at h; exact h
theorem R3fr_Write2 (gn bd : Int) (done : List RawP) (ao : Option Addr) (cp : Nat) {ws : List Int} (hW : writeF gn bd (done.map RawP.L) = (ws, (0, 0))) (w : World) (hA : (Res.rraws ao done).holds w) (hl : done.length ≤ 35184372088832) (hla : ∀ r ∈ done, r.ws.length ≤ 35184372088832) (hop : ∀ r ∈ done, 0 ≤ r.op ∧ r.op < 65536) : Ret Try.prog 46 #[.agg #[.int .u32 gn, .int .u32 bd], .slice ao done.length cp] w (fun v w' => ∃ ro rc, v = .tuple #[.slice ro ws.length rc, .agg #[.int .i64 0, .int .i64 0]] ∧ St w NoM [Res.sl ro ws.length rc 23 1 (ws.flatMap u32C)] [] w') := by
 have h := R3fr_Write gn bd done ao cp w hA hl hla hop
 rw [hW] at h; exact h
theorem R3cd_Encode (gn bd : Int) (l : List InstP) (ao : Option Addr) (cp : Nat) (w : World) (hA : (Res.rmod ao l).holds w) (hl : l.length ≤ 3000000000000) (hop : ∀ i ∈ l, 0 ≤ i.op) (hsm : ∀ i ∈ l, (i.args.map argRoom).sum ≤ 900000000) (hla : ∀ i ∈ l, ∀ a ∈ i.args, a.s.length ≤ 100000000000) (hop2 : ∀ i ∈ l, i.op < 65536) : Ret Try.prog 22 #[.agg #[.int .u32 gn, .int .u32 bd, .slice ao l.length cp]] w (fun v w' => ∃ ro rc, v = .tuple #[.slice ro (encodeF gn bd (l.map InstP.L)).1.length rc, .agg #[.int .i64 (encodeF gn bd (l.map InstP.L)).2.1, .int .i64 (encodeF gn bd (l.map InstP.L)).2.2]] ∧ St w NoM [Res.sl ro (encodeF gn bd (l.map InstP.L)).1.length rc 5 1 ((encodeF gn bd (l.map InstP.L)).1.flatMap byC)] [] w') := by
 refine Ret.enter (args := [.agg #[.int .u32 gn, .int .u32 bd, .slice ao l.length cp]]) Try.func22 rfl rfl rfl ?_
 have hst : St w NoM [] [Res.rmod ao l] w := St.init_D hA
 clear hA
 obtain ⟨se, sa, hS⟩ : ∃ se sa, shapeF bd (l.map InstP.L) = (se, sa) := ⟨_, _, rfl⟩
 refine SR <| CN <| Op1.box (v := .agg #[.int .u32 _, .int .u32 _, .slice _ _ _]) hst rfl rfl fun w b1 hst => AL rfl <| CN <| Op1.alloc hst ty29 fun w b3 hst => NSR <| CN <| Op1.loadA (vs := [.int .u32 _, .int .u32 _, .slice _ _ _]) ty26 rfl rfl rfl (cells_of_obj (n := 3) (hst.objL (.tail _ (.head _))) _ rfl) <| CN (Op1.call1 (v1 := .agg #[.int .u32 _, .int .u32 _, .slice _ _ _]) ent45 rfl rfl ((R3cd_raws2 _ _ _ _ _ hS _ (hst.hD _ (.head _)) hl hop hsm hla).mono fun v w hp => ?_))
 obtain ⟨aR, cR, done, rfl, hd, hp⟩ := hp
 replace hst : St _ _ (_ :: _) _ _ := hst.call0 hp
 clear hp
 refine CN <| Op1.move (v := .tuple #[.slice _ _ _, .agg #[.int .i64 _, .int .i64 _]]) rfl <| CN <| Op1.extract (v := .slice _ _ _) rfl rfl <| CN <| Op1.extract (v := .agg #[.int .i64 _, .int .i64 _]) rfl rfl <| CN <| Op1.alloc hst ty29 fun w b5 hst => AL rfl <| CN (SO (v := .agg #[.int .i64 _, .int .i64 _]) hst ty29 rfl rfl (.here) fun w hst => ?_)
 refine NL <| SQ <| SR <| CN <| Op1.fieldAddr fld29_0 rfl <| CN <| Op1.load1 (v := .int .i64 _) ty27 rfl rfl (hst.cellL (.head _) rfl) <| CN <| Op1.neq rfl rfl <| NL <| run_cond_dec rfl (fun g1 => ?_) (fun g1 => ?_)
 · skip
   refine SQ <| RunD.start [] hst (bs := [0, 0, 3]) (ds := [some 15, some 2, none]) ⟨by kernel_rfl, by kernel_rfl, by kernel_rfl⟩ (fun tab2 => ?_)
   refine RunD.op (det _) tab2 1 (fun f' L' w' hc => Op1.loadA (vs := [.int .i64 _, .int .i64 _]) ty29 rfl (hc.old (v := .pointer (some ⟨_, _, none⟩)) rfl rfl rfl) rfl (cells_of_obj (n := 2) (hc.st.objL (List.mem_append_right _ (.head _))) _ rfl) ⟨[], ⟨rfl, rfl⟩, hc.st⟩) <| RunD.op (det _) tab2 2 (fun f' L' w' hc => Op1.assign (v := .slice _ _ _) rfl ⟨[], ⟨rfl, rfl⟩, hc.st⟩) <| RunD.fin followsMixed tab2 hst rfl (fun f3 w R6 hs4 hd5 hr7 hst => ?_)
   obtain ⟨h15_, r0⟩ := hd5 0 15 rfl rfl
   obtain ⟨h2_, r1⟩ := hd5 1 2 rfl rfl
   simp only [show List.range 2 = [0, 1] from rfl, List.flatMap_cons, List.flatMap_nil, List.map_cons, List.map_nil, r0, r1, List.nil_append, List.append_nil, List.cons_append] at hst
   refine RunL.slots (sl := [(2, .slice _ _ _), (3, .pointer (some ⟨_, _, none⟩)), (15, .agg #[.int .i64 _, .int .i64 _])]) ⟨h2_, (hs4 3 rfl).trans rfl, h15_, trivial⟩ ?_
   clear hs4 hd5 hr7 tab2
   refine CN (SO (v := .agg #[.int .i64 _, .int .i64 _]) hst ty29 rfl rfl (.there (.there (.here))) fun w hst => ?_)
   refine NL <| run_ret2 Try.func22 rfl (TP (v := .slice _ _ _) rfl) (RV.cellA (vs := [.int .i64 _, .int .i64 _]) rfl ty29 rfl rfl (cells_of_obj (n := 2) (hst.objL (.tail _ (.tail _ (.head _)))) _ rfl)) ?_
   replace hst := hst.pick .nil
   have hE := encode_bad (gn := gn) (bound := bd) (l := (l.map InstP.L)) (by rw [hS]; exact g1)
   rw [hS] at hE
   rw [hE]
   exact ⟨none, 0, rfl, (hst.pushNil 5 1).noD⟩
 have hse0 : se = 0 := by omega
 subst hse0
 rw [if_pos rfl] at hd
 have hS1 : (shapeF bd (l.map InstP.L)).1 = 0 := by rw [hS]
 have hgood := encode_good (gn := gn) hS1
 have hwl := encode_len (gn := gn) hS1
 obtain ⟨ws, hws⟩ : ∃ ws, writeW gn bd (rawsF bd (l.map InstP.L)) = ws := ⟨_, rfl⟩
 rw [hws] at hgood hwl
 have hdl := raws_len hd
 have hrm : ∀ r ∈ done, r.ws.length ≤ 35184372088832 ∧ 0 ≤ r.op ∧ r.op < 65536 := fun r hr => by
   obtain ⟨i, hi, ho, hlen⟩ := raws_mem hd hgood.2.2.2.1 hr
   exact ⟨by omega, by rw [ho]; exact hop i hi, by rw [ho]; exact hop2 i hi⟩
 refine run_skip <| SR <| CN <| Op1.fieldAddr fld26_0 rfl <| CN <| Op1.load1 (v := .int .u32 _) ty23 rfl rfl (hst.cellL (.tail _ (.tail _ (.tail _ (.head _)))) rfl) <| CN <| Op1.fieldAddr fld26_1 rfl <| CN <| Op1.load1 (v := .int .u32 _) ty23 rfl rfl (hst.cellL (.tail _ (.tail _ (.tail _ (.head _)))) rfl) <| CN (Op1.buildStruct ty66 stf66 (.c (v := .int .u32 _) rfl (h := (.c (v := .int .u32 _) rfl (h := .nil)))) ?_)
 refine ML rfl <| CN (Op1.call2 (v1 := .agg #[.int .u32 _, .int .u32 _]) (v2 := .slice _ _ _) ent46 rfl rfl rfl ((R3fr_Write2 gn bd done _ _ (by rw [hd]; exact hgood.2.1) _ (Res.rraws_of_oraws (hst.hL _ (.tail _ (.head _)))) (by omega) (fun r hr => (hrm r hr).1) (fun r hr => (hrm r hr).2)).mono fun v w hp => ?_))
 obtain ⟨aW, cW, rfl, hp⟩ := hp
 replace hst : St _ _ (_ :: _) _ _ := hst.call0 hp
 clear hp
 refine CN <| Op1.move (v := .tuple #[.slice _ _ _, .agg #[.int .i64 _, .int .i64 _]]) rfl <| CN <| Op1.extract (v := .slice _ _ _) rfl rfl <| CN <| Op1.extract (v := .agg #[.int .i64 _, .int .i64 _]) rfl rfl <| AL rfl <| CN (SO (v := .agg #[.int .i64 _, .int .i64 _]) hst ty29 rfl rfl (.there (.here)) fun w hst => ?_)
 refine NL <| Run.forget [(3, .pointer (some ⟨_, _, none⟩)), (5, .pointer (some ⟨_, _, none⟩)), (6, .slice _ _ _)] ⟨rfl, rfl, rfl, trivial⟩ fun f => SQ <| RunD.start [] hst (bs := [0, 1, 0, 3, 15]) (ds := [some 26, some 27, some 28, some 2, none]) ⟨by kernel_rfl, by kernel_rfl, by kernel_rfl⟩ (fun tab8 => ?_)
 refine RunD.op (det _) tab8 1 (fun f' L' w' hc => Op1.move (v := .slice _ _ _) (hc.old (v := .slice _ _ _) rfl rfl rfl) ⟨[], ⟨rfl, rfl⟩, hc.st⟩) <| RunD.op (fun v rs => ∃ ro rc, v = .slice ro (joinW ws).length rc ∧ rs = [Res.sl ro (joinW ws).length rc 5 1 ((joinW ws).flatMap byC)]) tab8 2 (fun f' L' w' hc => Op1.call1 (v1 := .slice _ _ _) ent47 rfl (hc.det (j := 0) rfl rfl rfl rfl) ((R3wd_Join ws _ _ _ (Res.rs_of_sl (hc.st.hL _ (List.mem_append_right _ (.head _)))) (by omega)).mono fun v w hp => (by obtain ⟨ro, rc, rfl, hp⟩ := hp; exact ⟨_, ⟨ro, rc, rfl, rfl⟩, hc.st.call0 hp⟩))) <| RunD.op (det _) tab8 3 (fun f' L' w' hc => Op1.loadA (vs := [.int .i64 _, .int .i64 _]) ty29 rfl (hc.old (v := .pointer (some ⟨_, _, none⟩)) rfl rfl rfl) rfl (cells_of_obj (n := 2) (hc.st.objL (List.mem_append_right _ (.tail _ (.head _)))) _ rfl) ⟨[], ⟨rfl, rfl⟩, hc.st⟩) <| RunD.opR (fun g v rs => v = g 27 ∧ rs = []) tab8 4 (fun f' L' w' hc => Op1.assign (evs rfl rfl) ⟨[], fun g hg => ⟨(hg 1 27 rfl rfl).symm, rfl⟩, hc.st⟩) <| RunD.fin followsMixed tab8 hst rfl (fun f9 w R12 hs10 hd11 hr13 hst => ?_)
 obtain ⟨h26_, r0⟩ := hd11 0 26 rfl rfl
 obtain ⟨aB, cB, h27_, r1⟩ := hd11 1 27 rfl rfl
 obtain ⟨h28_, r2⟩ := hd11 2 28 rfl rfl
 obtain ⟨h2_, r3⟩ := hd11 3 2 rfl rfl
 rw [DrawTab.mask tab8 _ (j := 3) (l := 1) (t := 27) rfl rfl, h27_] at h2_
 simp only [show List.range 4 = [0, 1, 2, 3] from rfl, List.flatMap_cons, List.flatMap_nil, List.map_cons, List.map_nil, r0, r1, r2, r3, List.nil_append, List.append_nil, List.cons_append] at hst
 refine RunL.slots (sl := [(2, .slice _ _ _), (3, .pointer (some ⟨_, _, none⟩)), (28, .agg #[.int .i64 _, .int .i64 _])]) ⟨h2_, (hs10 3 rfl).trans rfl, h28_, trivial⟩ ?_
 clear hs10 hd11 hr13 tab8
 refine CN (SO (v := .agg #[.int .i64 _, .int .i64 _]) hst ty29 rfl rfl (.there (.there (.there (.there (.here))))) fun w hst => ?_)
 refine NL <| run_ret2 Try.func22 rfl (TP (v := .slice _ _ _) rfl) (RV.cellA (vs := [.int .i64 _, .int .i64 _]) rfl ty29 rfl rfl (cells_of_obj (n := 2) (hst.objL (.tail _ (.tail _ (.tail _ (.tail _ (.head _)))))) _ rfl)) ?_
 replace hst := hst.pick (.cons (.here) .nil)
 have hE := hgood.1
 rw [hE]
 exact ⟨aB, cB, rfl, hst.noD⟩
theorem R3cd_Shape (gn bd : Int) (l : List InstP) (ao : Option Addr) (cp : Nat) (w : World) (hA : (Res.rmod ao l).holds w) (hl : l.length ≤ 3000000000000) (hop : ∀ i ∈ l, 0 ≤ i.op) (hsm : ∀ i ∈ l, (i.args.map argRoom).sum ≤ 900000000) (hla : ∀ i ∈ l, ∀ a ∈ i.args, a.s.length ≤ 100000000000) : Ret Try.prog 23 #[.agg #[.int .u32 gn, .int .u32 bd, .slice ao l.length cp]] w (fun v w' => v = .agg #[.int .i64 (shapeF bd (l.map InstP.L)).1, .int .i64 (shapeF bd (l.map InstP.L)).2] ∧ St w NoM [] [] w') := by
 refine Ret.enter (args := [.agg #[.int .u32 gn, .int .u32 bd, .slice ao l.length cp]]) Try.func23 rfl rfl rfl ?_
 have hst : St w NoM [] [Res.rmod ao l] w := St.init_D hA
 clear hA
 obtain ⟨se, sa, hS⟩ : ∃ se sa, shapeF bd (l.map InstP.L) = (se, sa) := ⟨_, _, rfl⟩
 refine SR <| CN <| Op1.box (v := .agg #[.int .u32 _, .int .u32 _, .slice _ _ _]) hst rfl rfl fun w b1 hst => CN <| Op1.alloc hst ty29 fun w b2 hst => NSR <| CN <| Op1.loadA (vs := [.int .u32 _, .int .u32 _, .slice _ _ _]) ty26 rfl rfl rfl (cells_of_obj (n := 3) (hst.objL (.tail _ (.head _))) _ rfl) <| CN (Op1.call1 (v1 := .agg #[.int .u32 _, .int .u32 _, .slice _ _ _]) ent45 rfl rfl ((R3cd_raws2 _ _ _ _ _ hS _ (hst.hD _ (.head _)) hl hop hsm hla).mono fun v w hp => ?_))
 obtain ⟨aR, cR, done, rfl, hd, hp⟩ := hp
 replace hst : St _ _ (_ :: _) _ _ := hst.call0 hp
 clear hp
 refine CN <| Op1.move (v := .tuple #[.slice _ _ _, .agg #[.int .i64 _, .int .i64 _]]) rfl <| CN <| Op1.extract (v := .slice _ _ _) rfl rfl <| CN <| Op1.extract (v := .agg #[.int .i64 _, .int .i64 _]) rfl rfl <| CN <| Op1.alloc hst ty29 fun w b4 hst => AL rfl <| CN (SO (v := .agg #[.int .i64 _, .int .i64 _]) hst ty29 rfl rfl (.here) fun w hst => ?_)
 refine NSR <| CN <| Op1.loadA (vs := [.int .i64 _, .int .i64 _]) ty29 rfl rfl rfl (cells_of_obj (n := 2) (hst.objL (.head _)) _ rfl) <| CN (SO (v := .agg #[.int .i64 _, .int .i64 _]) hst ty29 rfl rfl (.there (.there (.here))) fun w hst => ?_)
 refine NL <| run_ret1 Try.func23 rfl (RV.cellA (vs := [.int .i64 _, .int .i64 _]) rfl ty29 rfl rfl (cells_of_obj (n := 2) (hst.objL (.tail _ (.tail _ (.head _)))) _ rfl)) ?_
 rw [hS]
 exact ⟨rfl, hst.pure⟩
end Go.SK
namespace Go.SK
open Go Go.Proofs
open Go.RowKit
theorem R3cd_Shape2 (gn bd : Int) (l : List InstP) (ao : Option Addr) (cp : Nat) {se sa : Int} (hS : shapeF bd (l.map InstP.L) = (se, sa)) (w : World) (hA : (Res.rmod ao l).holds w) (hl : l.length ≤ 3000000000000) (hop : ∀ i ∈ l, 0 ≤ i.op) (hsm : ∀ i ∈ l, (i.args.map argRoom).sum ≤ 900000000) (hla : ∀ i ∈ l, ∀ a ∈ i.args, a.s.length ≤ 100000000000) : Ret Try.prog 23 #[.agg #[.int .u32 gn, .int .u32 bd, .slice ao l.length cp]] w (fun v w' => v = .agg #[.int .i64 se, .int .i64 sa] ∧ St w NoM [] [] w') := by
 have h := R3cd_Shape gn bd l ao cp w hA hl hop hsm hla
 rw [hS] at h; exact h
end Go.SK
namespace Go.SK
open Go Go.Proofs
open Go.RowKit
theorem R3kit_Id (n : Int) (w : World) : Ret Try.prog 71 #[.int .u32 n] w (fun v w' => v = .agg #[.int .u8 1, .int .u32 n, str []] ∧ St w NoM [] [] w') := by
 refine Ret.enter (args := [.int .u32 n]) Try.func71 rfl rfl rfl ?_
 have hst := St.init w
 refine SR <| CN <| Op1.alloc hst ty71 fun w b2 hst => NSR <| MU rfl <| CN (Op1.buildStruct ty71 stf71 (.c (v := .int .u8 _) rfl (h := (.c (v := .int .u32 _) rfl (h := .nil)))) ?_)
 refine CN (SO (v := .agg #[.int .u8 _, .int .u32 _, str _]) hst ty71 rfl rfl (.here) fun w hst => ?_)
 refine NL <| run_ret1 Try.func71 rfl (RV.cellA (vs := [.int .u8 _, .int .u32 _, str _]) rfl ty71 rfl rfl (cells_of_obj (n := 3) (hst.objL (.head _)) _ rfl)) ?_
 exact ⟨rfl, hst.pure⟩
end Go.SK
namespace Go.SK
open Go Go.Proofs
theorem ent39 : Enters Try.prog 39 := ⟨Try.f39, _, Try.func39, by kernel_rfl, rfl⟩
theorem stf26 : StructF Try.prog 26 [(0, 1), (1, 1), (2, 1)] := ⟨fieldsOf Try.prog 26, by kernel_rfl, fun w => by kernel_rfl⟩
theorem ent40 : Enters Try.prog 40 := ⟨Try.f40, _, Try.func40, by kernel_rfl, rfl⟩
theorem ent26 : Enters Try.prog 26 := ⟨Try.f26, _, Try.func26, by kernel_rfl, rfl⟩
end Go.SK
namespace Go.SK
open Go Go.Proofs
open Go.RowKit
theorem R3wd_SplitD (b : List UInt8) (ao : Option Addr) (cp : Nat) {l : List Int} {se : Int} (h1 : splitL b = l) (h2 : splitE b = se) (w : World) (hA : (Res.rs ao b.length 1 (b.flatMap byC)).holds w) (hl : b.length ≤ 240000000000000) : Ret Try.prog 39 #[.slice ao b.length cp] w (fun v w' => ∃ ro rc, v = .tuple #[.slice ro l.length rc, .int .i64 se] ∧ St w NoM [Res.sl ro l.length rc 23 1 (l.flatMap u32C)] [] w') := by
 subst h1; subst h2; exact R3wd_Split b ao cp w hA hl
theorem R3fr_ReadD {l : List Int} {gn bd re ra : Int} {its : List InsW} (hR : readF l = ((gn, bd), its, (re, ra))) (hw : Wd l) (ao : Option Addr) (cp : Nat) (hcp : l.length ≤ cp) (w : World) (hA : (Res.rs ao l.length 1 (l.flatMap u32C)).holds w) (hl : l.length ≤ 35184372088832) : Ret Try.prog 40 #[.slice ao l.length cp] w (fun v w' => ∃ ro rc done, v = .tuple #[.agg #[.int .u32 gn, .int .u32 bd], .slice ro done.length rc, .agg #[.int .i64 re, .int .i64 ra]] ∧ done.map RawP.L = its.map (·.2) ∧ St w NoM [Res.oraws 45 23 ro rc done] [] w') := by
 have h := R3fr_Read l hw ao cp hcp w hA hl
 rw [hR] at h; exact h
theorem R3cd_InstD {op bound e : Int} {l : List Int} {I : InstL} (hI : instF bound op l = (I, e)) (ao : Option Addr) (cp : Nat) (h0 : 0 ≤ op) (w : World) (hA : (Res.rs ao l.length 1 (l.flatMap u32C)).holds w) (hl : l.length ≤ 35184372088832) : Ret Try.prog 26 #[.agg #[.int .u16 op, .slice ao l.length cp], .int .u32 bound] w (fun v w' => ∃ ro rc, v = .tuple #[.agg #[.int .u16 I.op, .int .u32 I.ty, .int .u32 I.res, .slice ro I.args.length rc], .int .i64 e] ∧ St w NoM [Res.sl ro I.args.length rc 71 3 (I.args.flatMap argC)] [] w') := by
 have h := R3cd_Inst op l ao cp bound h0 w hA hl
 rw [hI] at h; exact h
theorem R3cd_Decode (b : List UInt8) (ao : Option Addr) (cp : Nat) (w : World) (hA : (Res.rs ao b.length 1 (b.flatMap byC)).holds w) (hb : b.length ≤ 140737488355328) : Ret Try.prog 15 #[.slice ao b.length cp] w (fun v w' => ∃ ro rc dm, v = .tuple #[.agg #[.int .u32 (decodeF b).1.1, .int .u32 (decodeF b).1.2.1, .slice ro dm.length rc], .agg #[.int .i64 (decodeF b).2.1, .int .i64 (decodeF b).2.2]] ∧ dm.map InstP.L = (decodeF b).1.2.2 ∧ St w NoM [Res.omod 48 71 ro rc dm] [] w') := by
 refine Ret.enter (args := [.slice ao b.length cp]) Try.func15 rfl rfl rfl ?_
 have hst : St w NoM [] [Res.rs ao b.length 1 (b.flatMap byC)] w := St.init_D hA
 clear hA
 obtain ⟨l, hsl⟩ : ∃ l, splitL b = l := ⟨_, rfl⟩
 obtain ⟨se, hse⟩ : ∃ se, splitE b = se := ⟨_, rfl⟩
 obtain ⟨gn, bd, its, re, ra, hR⟩ : ∃ gn bd its re ra, readF l = ((gn, bd), its, (re, ra)) := ⟨_, _, _, _, _, rfl⟩
 have hwd : Wd l := hsl ▸ splitL_wd b
 have hll : l.length ≤ 35184372088832 := by have := splitL_le b; rw [← hsl]; omega
 refine SR <| CN <| Op1.alloc hst ty26 fun w b2 hst => CN <| Op1.alloc hst ty29 fun w b3 hst => NSR <| ML rfl <| CN (Op1.call1 (v1 := .slice _ _ _) ent39 rfl rfl ((R3wd_SplitD b _ _ hsl hse _ (hst.hD _ (.head _)) (by omega)).mono fun v w hp => ?_))
 obtain ⟨aW, cW, rfl, hp⟩ := hp
 replace hst : St _ _ (_ :: _) _ _ := hst.call0 hp
 clear hp
 refine CN <| Op1.move (v := .tuple #[.slice _ _ _, .int .i64 _]) rfl <| CN <| Op1.extract (v := .slice _ _ _) rfl rfl <| CN <| Op1.extract (v := .int .i64 _) rfl rfl <| AL rfl <| AI rfl <| NL <| SQ <| SR <| MI rfl <| CN <| Op1.neq rfl rfl <| NL <| run_cond_dec rfl (fun g1 => ?_) (fun g1 => ?_)
 · skip
   refine SR <| CN (Op1.buildStruct ty26 stf26 .nil ?_)
   refine MI rfl <| CN (Op1.buildStruct ty29 stf29 (.c (v := .int .i64 _) rfl (h := .nil)) ?_)
   refine CN (SO (v := .agg #[.int .u32 _, .int .u32 _, .slice _ _ _]) hst ty26 rfl rfl (.there (.there (.here))) fun w hst => ?_)
   refine CN (SO (v := .agg #[.int .i64 _, .int .i64 _]) hst ty29 rfl rfl (.there (.here)) fun w hst => ?_)
   refine NL <| run_ret2 Try.func15 rfl (RV.cellA (vs := [.int .u32 _, .int .u32 _, .slice _ _ _]) rfl ty26 rfl rfl (cells_of_obj (n := 3) (hst.objL (.tail _ (.tail _ (.head _)))) _ rfl)) (RV.cellA (vs := [.int .i64 _, .int .i64 _]) rfl ty29 rfl rfl (cells_of_obj (n := 2) (hst.objL (.tail _ (.head _))) _ rfl)) ?_
   replace hst := hst.pick .nil
   have hD := decodeF_split (b := b) (by rw [hse]; exact g1)
   rw [hse] at hD
   replace hst := St.starCons ((hst.starNil).pushNil 48 4)
   rw [hD]
   exact ⟨none, 0, [], rfl, rfl, hst.noD⟩
 refine run_skip <| SR <| ML rfl <| CN (Op1.call1 (v1 := .slice _ _ _) ent40 rfl rfl ((R3fr_ReadD hR hwd _ _ (Res.sl_cap (hst.hL _ (.head _))) _ (Res.rs_of_sl (hst.hL _ (.head _))) hll).mono fun v w hp => ?_))
 obtain ⟨aQ, cQ, done, rfl, hI, hp⟩ := hp
 replace hst : St _ _ (_ :: _) _ _ := hst.call0 hp
 clear hp
 refine CN <| Op1.move (v := .tuple #[.agg #[.int .u32 _, .int .u32 _], .slice _ _ _, .agg #[.int .i64 _, .int .i64 _]]) rfl <| CN <| Op1.extract (v := .agg #[.int .u32 _, .int .u32 _]) rfl rfl <| CN <| Op1.extract (v := .slice _ _ _) rfl rfl <| CN <| Op1.extract (v := .agg #[.int .i64 _, .int .i64 _]) rfl rfl <| CN <| Op1.alloc hst ty66 fun w b6 hst => CN <| Op1.alloc hst ty29 fun w b8 hst => CN (SO (v := .agg #[.int .u32 _, .int .u32 _]) hst ty66 rfl rfl (.there (.here)) fun w hst => ?_)
 refine AL rfl <| CN (SO (v := .agg #[.int .i64 _, .int .i64 _]) hst ty29 rfl rfl (.here) fun w hst => ?_)
 refine NL <| Run.forget [(2, .pointer (some ⟨_, _, none⟩)), (3, .pointer (some ⟨_, _, none⟩)), (4, .slice _ _ _), (6, .pointer (some ⟨_, _, none⟩)), (7, .slice _ _ _), (8, .pointer (some ⟨_, _, none⟩))] ⟨rfl, rfl, rfl, rfl, rfl, rfl, trivial⟩ fun f => SQ <| SR <| CN <| Op1.fieldAddr fld29_0 rfl <| CN <| Op1.load1 (v := .int .i64 _) ty27 rfl rfl (hst.cellL (.head _) rfl) <| CN <| Op1.neq rfl rfl <| NL <| run_cond_dec rfl (fun g2 => ?_) (fun g2 => ?_)
 · skip
   refine SQ ?_
   replace hst := hst.pick (.cons (.there (.there (.there (.there (.there (.here)))))) (.cons (.here) (.cons (.here) (.cons (.here) (.cons (.here) (.cons (.here) .nil))))))
   apply RunD.start [(2, Res.row b2 26 _, Res.row b2 26 _)] hst (bs := [0, 0, 1, 7]) (ds := [some 36, some 37, none, none]) (htab := ⟨by kernel_rfl, by kernel_rfl, by kernel_rfl⟩)
   intro tab3
   refine RunD.op (det _) tab3 1 (fun f' L' w' hc => Op1.buildStruct ty26 stf26 .nil ⟨[], ⟨rfl, rfl⟩, hc.st⟩) ?_
   refine RunD.op (det _) tab3 2 (fun f' L' w' hc => Op1.loadA (vs := [.int .i64 _, .int .i64 _]) ty29 rfl (hc.old (v := .pointer (some ⟨_, _, none⟩)) rfl rfl rfl) rfl (cells_of_obj (n := 2) (hc.st.objL (List.mem_append_right _ (.head _))) _ rfl) ⟨[], ⟨rfl, rfl⟩, hc.st⟩) <| RunD.own tab3 3 (.head _) (fun f' L' L2 w' hc hsel => Op1.store (v := .agg #[.int .u32 _, .int .u32 _, .slice _ _ _]) hc.st ty26 (hc.old (v := .pointer (some ⟨_, _, none⟩)) rfl rfl rfl) (hc.det (j := 0) rfl rfl rfl rfl) rfl rfl rfl hsel (by repeat (first | exact Put.nil | apply Put.put | apply Put.skip)) fun w hst => ⟨rfl, hst⟩) ?_
   refine RunD.fin followsMixed tab3 hst rfl (fun f4 w R7 hs5 hd6 hr8 hst => ?_)
   obtain ⟨h36_, r0⟩ := hd6 0 36 rfl rfl
   obtain ⟨h37_, r1⟩ := hd6 1 37 rfl rfl
   obtain ⟨_, _, r2⟩ := hr8 2 rfl
   simp only [show List.range 3 = [0, 1, 2] from rfl, List.flatMap_cons, List.flatMap_nil, List.map_cons, List.map_nil, r0, r1, r2, List.nil_append, List.append_nil, List.cons_append] at hst
   refine RunL.slots (sl := [(2, .pointer (some ⟨_, _, none⟩)), (3, .pointer (some ⟨_, _, none⟩)), (37, .agg #[.int .i64 _, .int .i64 _])]) ⟨(hs5 2 rfl).trans rfl, (hs5 3 rfl).trans rfl, h37_, trivial⟩ ?_
   clear hs5 hd6 hr8 tab3
   refine CN (SO (v := .agg #[.int .i64 _, .int .i64 _]) hst ty29 rfl rfl (.there (.there (.there (.there (.there (.here)))))) fun w hst => ?_)
   refine NL <| run_ret2 Try.func15 rfl (RV.cellA (vs := [.int .u32 _, .int .u32 _, .slice _ _ _]) rfl ty26 rfl rfl (cells_of_obj (n := 3) (hst.objL (.head _)) _ rfl)) (RV.cellA (vs := [.int .i64 _, .int .i64 _]) rfl ty29 rfl rfl (cells_of_obj (n := 2) (hst.objL (.tail _ (.tail _ (.tail _ (.tail _ (.tail _ (.head _))))))) _ rfl)) ?_
   replace hst := hst.pick .nil
   have hse0 : splitE b = 0 := by rw [hse]; exact Classical.not_not.1 g1
   have hD := decodeF_words hse0
   rw [hsl] at hD
   rw [decW_read (by rw [hR]; exact g2), hR] at hD
   replace hst := St.starCons ((hst.starNil).pushNil 48 4)
   rw [hD]
   exact ⟨none, 0, [], rfl, rfl, hst.noD⟩
 have hre : re = 0 := by omega
 have hgd := readF_good (w := l) (by rw [hR]; exact hre)
 rw [hR] at hgd
 have hits : its = (insR l 5).1 := congrArg (fun q : (Int × Int) × List InsW × (Int × Int) => q.2.1) hgd.1
 have hlen5 := (headE_len hgd.2.2.1).1
 have hend := (ins_end hwd l.length 5 hlen5).1
 have hAN : atI (insR l 5) its.length = (insR l 5).2 := by rw [hits]; unfold atI; rw [if_neg (by omega)]
 have hen : (insR l 5).2 = l.length := Nat.le_antisymm hend (Nat.not_lt.1 hgd.2.2.2)
 have hdl : done.length = its.length := by simpa using congrArg List.length hI
 have hnl : its.length + 5 ≤ l.length := by have h := (ins_end hwd l.length 5 hlen5).2; rw [← hen, hits]; exact h
 refine run_skip <| SR <| CN <| Op1.fieldAddr fld66_0 rfl <| CN <| Op1.load1 (v := .int .u32 _) ty23 rfl rfl (hst.cellL (.tail _ (.head _)) rfl) <| CN <| Op1.fieldAddr fld66_1 rfl <| CN <| Op1.load1 (v := .int .u32 _) ty23 rfl rfl (hst.cellL (.tail _ (.head _)) rfl) <| CN (Op1.buildStruct ty26 stf26 (.c (v := .int .u32 _) rfl (h := (.c (v := .int .u32 _) rfl (h := .nil)))) ?_)
 refine CN <| Op1.alloc hst ty26 fun w b9 hst => CN (SO (v := .agg #[.int .u32 _, .int .u32 _, .slice _ _ _]) hst ty26 rfl rfl (.here) fun w hst => ?_)
 refine NSR <| ML rfl <| CN <| Op1.lenSl (rest := []) ty43 rfl <| AI rfl <| NL <| SQ <| SR <| ML rfl <| CN <| Op1.lenSl (rest := []) ty67 rfl <| MI rfl <| NL <| run_block ?_
 refine run_loop <| Run.indW [(2, .pointer (some ⟨_, _, none⟩)), (3, .pointer (some ⟨_, _, none⟩)), (6, .pointer (some ⟨_, _, none⟩)), (7, .slice _ _ _), (9, .pointer (some ⟨_, _, none⟩)), (45, .slice _ _ _), (46, .int .i64 _)] ⟨rfl, rfl, rfl, rfl, rfl, rfl, rfl, trivial⟩ (fun (i : Nat) => [(10, .int .i64 ((l.length : Int) + 5 - (atI (insR l 5) i : Int))), (47, .int .i64 (i : Int))]) (fun (i : Nat) => []) (fun (i : Nat) => i ≤ its.length) (fun (i : Nat) => its.length - i) (0) hst (Nat.zero_le _) ⟨(congrArg (Value.int .i64) (by rw [show atI (insR l 5) 0 = 5 from atI_zero _ _]; omega)), rfl, trivial⟩ ?_
 intro i f w hst hJ ih9
 refine SR <| CN <| Op1.lss rfl rfl <| NL <| SQ <| run_cond_dec rfl (fun g10 => ?_) (fun g10 => ?_)
 · skip
   have hch : atI (insR l 5) i + 1 + (its.getD i zeroW).2.2.length = atI (insR l 5) (i + 1) ∧ (its.getD i zeroW).1 = atI (insR l 5) i := by rw [hits]; exact ins_chain hwd _ 5 i (by rw [← hits]; omega)
   have hgt := raws_getD hI (i := i) (by omega)
   have hidx : done.getD ((i : Int)).toNat zeroR = (done.getD i zeroR) := rfl
   have hidx2 : (done.getD ((i : Int)).toNat zeroR).ws.length = (its.getD i zeroW).2.2.length := by rw [← hgt.2]; rfl
   have hidx3 : (done.getD i zeroR).ws.length = (its.getD i zeroW).2.2.length := by rw [hgt.2]
   have hbl : atI (insR l 5) (i + 1) ≤ l.length := atI_le hwd l.length 5 (i + 1) hlen5
   refine run_skip <| SQ <| run_block <| SR <| CN <| Op1.indexRs ty67 ty45 (Res.rraws_raws (Res.rraws_of_oraws (hst.hL _ (.tail _ (.tail _ (.tail _ (.head _))))))) rfl rfl (by omega) (by omega) <| CN <| Op1.loadA (vs := [.int .u16 _, .slice _ _ _]) ty45 rfl rfl rfl (Res.rs2_cells (m := 2) (Res.rraws_raws (Res.rraws_of_oraws (hst.hL _ (.tail _ (.tail _ (.tail _ (.head _))))))) _ (flat_seg (g := rawC) (d := zeroR) rawC_len _ _ (by omega))) <| CN <| Op1.alloc hst ty45 fun w b12 hst => CN (SO (v := .agg #[.int .u16 _, .slice _ _ _]) hst ty45 rfl rfl (.here) fun w hst => ?_)
   refine NR <| MI rfl <| CN <| Op1.fieldAddr fld45_1 rfl <| CN <| Op1.load1 (v := .slice _ _ _) ty43 rfl rfl (hst.cellL (.head _) rfl) <| CN <| Op1.lenSl (rest := []) ty43 rfl <| CN <| Op1.addN rfl rfl rfl (wrap_i64 (by omega) (by omega)) <| CN <| Op1.subN rfl rfl rfl (wrap_i64 (by omega) (by omega)) <| AI rfl <| NL <| run_inBlock <| RG <| CN <| Op1.addN rfl rfl rfl (wrap_i64 (by omega) (by omega)) <| MI rfl <| NL ?_
   refine run_inLoop ?_
   replace hst := hst.pick (.cons (.there (.here)) (.cons (.there (.here)) (.cons (.there (.here)) (.cons (.there (.here)) (.cons (.there (.here)) (.cons (.there (.here)) (.cons (.there (.here)) .nil)))))))
   exact ih9 (i + 1) _ w (by omega) hst (by omega) ⟨rfl, rfl, rfl, rfl, rfl, rfl, rfl, trivial⟩ ⟨(congrArg (Value.int .i64) (by omega)), (congrArg (Value.int .i64) (by omega)), trivial⟩
 obtain rfl : i = its.length := by omega
 refine run_exit (id := 0) rfl <| SQ <| SQ ?_
 replace hst := hst.pushNil 48 4
 replace hst := hst.starNil
 refine RG <| ML rfl <| CN <| Op1.lenSl (rest := []) ty67 rfl <| MI rfl <| NL <| run_block <| run_loop <| Run.indW [(2, .pointer (some ⟨_, _, none⟩)), (3, .pointer (some ⟨_, _, none⟩)), (6, .pointer (some ⟨_, _, none⟩)), (9, .pointer (some ⟨_, _, none⟩)), (58, .slice _ _ _), (59, .int .i64 _)] ⟨rfl, rfl, rfl, rfl, rfl, rfl, trivial⟩ (fun (q : Nat × Option Addr × Nat × List InstP) => [(10, .int .i64 (atI (insR l 5) q.1 : Int)), (60, .int .i64 (q.1 : Int))]) (fun (q : Nat × Option Addr × Nat × List InstP) => [Res.star (q.2.2.2.map (Res.oargs 71)), Res.sl q.2.1 q.2.2.2.length q.2.2.1 48 4 (q.2.2.2.flatMap instC), Res.row b9 26 [.int .u32 gn, .int .u32 bd, .slice q.2.1 q.2.2.2.length q.2.2.1]]) (fun (q : Nat × Option Addr × Nat × List InstP) => q.1 ≤ its.length ∧ (∀ j, j < q.1 → (instF bd (its.getD j zeroW).2.1 (its.getD j zeroW).2.2).2 = 0) ∧ q.2.2.2.map InstP.L = (its.take q.1).map (fun p => (instF bd p.2.1 p.2.2).1)) (fun (q : Nat × Option Addr × Nat × List InstP) => its.length - q.1) ((0, none, 0, [])) hst ⟨Nat.zero_le _, no_lt, rfl⟩ ⟨(congrArg (Value.int .i64) (by rw [show atI (insR l 5) 0 = 5 from atI_zero _ _, hAN, hen]; omega)), rfl, trivial⟩ ?_
 intro ⟨i, aq, cq, dm⟩ f w hst hK ih11
 replace hst : St _ _ ([Res.star (dm.map (Res.oargs 71)), Res.sl aq dm.length cq 48 4 (dm.flatMap instC), Res.row b9 26 [.int .u32 gn, .int .u32 bd, .slice aq dm.length cq]] ++ [_, _, _, _, _, _]) _ _ := hst
 replace hK : i ≤ its.length ∧ (∀ j, j < i → (instF bd (its.getD j zeroW).2.1 (its.getD j zeroW).2.2).2 = 0) ∧ dm.map InstP.L = (its.take i).map (fun p => (instF bd p.2.1 p.2.2).1) := hK
 refine Run.slots (sl := [(10, .int .i64 (atI (insR l 5) i : Int)), (60, .int .i64 (i : Int))]) ⟨rfl, rfl, trivial⟩ <| SR <| CN <| Op1.lss rfl rfl <| NL <| SQ <| run_cond_dec rfl (fun g12 => ?_) (fun g12 => ?_)
 · skip
   have hch : atI (insR l 5) i + 1 + (its.getD i zeroW).2.2.length = atI (insR l 5) (i + 1) ∧ (its.getD i zeroW).1 = atI (insR l 5) i := by rw [hits]; exact ins_chain hwd _ 5 i (by rw [← hits]; omega)
   have hgt := raws_getD hI (i := i) (by omega)
   have hidx : done.getD ((i : Int)).toNat zeroR = (done.getD i zeroR) := rfl
   have hidx2 : (done.getD ((i : Int)).toNat zeroR).ws.length = (its.getD i zeroW).2.2.length := by rw [← hgt.2]; rfl
   have hidx3 : (done.getD i zeroR).ws.length = (its.getD i zeroW).2.2.length := by rw [hgt.2]
   have hbl : atI (insR l 5) (i + 1) ≤ l.length := atI_le hwd l.length 5 (i + 1) hlen5
   obtain ⟨I, ie, hIF⟩ : ∃ I ie, instF bd (done.getD i zeroR).op (done.getD i zeroR).ws = (I, ie) := ⟨_, _, rfl⟩
   have hIW := hIF
   rw [hgt.1, hgt.2] at hIW
   have hsub := its_sub hwd hits (i := i) (by omega)
   have hmem : (done.getD i zeroR) ∈ done := getD_memD (by omega)
   have hdml : dm.length ≤ i := by have := congrArg List.length hK.2.2; simp only [List.length_map, List.length_take] at this; omega
   refine run_skip <| SQ <| run_block <| SR <| CN <| Op1.indexRs ty67 ty45 (Res.rraws_raws (Res.rraws_of_oraws (hst.hL _ (.tail _ (.tail _ (.tail _ (.tail _ (.tail _ (.head _))))))))) rfl rfl (by omega) (by omega) <| CN <| Op1.loadA (vs := [.int .u16 _, .slice _ _ _]) ty45 rfl rfl rfl (Res.rs2_cells (m := 2) (Res.rraws_raws (Res.rraws_of_oraws (hst.hL _ (.tail _ (.tail _ (.tail _ (.tail _ (.tail _ (.head _))))))))) _ (flat_seg (g := rawC) (d := zeroR) rawC_len _ _ (by omega))) <| CN <| Op1.alloc hst ty45 fun w b14 hst => CN (SO (v := .agg #[.int .u16 _, .slice _ _ _]) hst ty45 rfl rfl (.here) fun w hst => ?_)
   refine NSR <| CN <| Op1.loadA (vs := [.int .u16 _, .slice _ _ _]) ty45 rfl rfl rfl (cells_of_obj (n := 2) (hst.objL (.head _)) _ rfl) <| CN <| Op1.fieldAddr fld66_1 rfl <| CN <| Op1.load1 (v := .int .u32 _) ty23 rfl rfl (hst.cellL (.tail _ (.tail _ (.tail _ (.tail _ (.tail _ (.head _)))))) rfl) <| CN (Op1.call2 (v1 := .agg #[.int .u16 _, .slice _ _ _]) (v2 := .int .u32 _) ent26 rfl rfl rfl ((R3cd_InstD hIF _ _ (by rw [hgt.1]; exact hsub.2.1) _ (Res.rraws_wsI (Res.rraws_of_oraws (hst.hL _ (.tail _ (.tail _ (.tail _ (.tail _ (.tail _ (.tail _ (.head _))))))))) (i := i) (by omega)) (by rw [hgt.2]; omega)).mono fun v w hp => ?_))
   obtain ⟨ro, rc, rfl, hp⟩ := hp
   replace hst : St _ _ (_ :: _) _ _ := hst.call0 hp
   clear hp
   refine CN <| Op1.move (v := .tuple #[.agg #[.int .u16 _, .int .u32 _, .int .u32 _, .slice _ _ _], .int .i64 _]) rfl <| CN <| Op1.extract (v := .agg #[.int .u16 _, .int .u32 _, .int .u32 _, .slice _ _ _]) rfl rfl <| CN <| Op1.extract (v := .int .i64 _) rfl rfl <| CN <| Op1.alloc hst ty48 fun w b15 hst => CN (SO (v := .agg #[.int .u16 _, .int .u32 _, .int .u32 _, .slice _ _ _]) hst ty48 rfl rfl (.here) fun w hst => ?_)
   refine AI rfl <| NL <| SQ <| SR <| MI rfl <| CN <| Op1.neq rfl rfl <| NL <| run_cond_dec rfl (fun g13 => ?_) (fun g13 => ?_)
   · skip
     refine SR <| CN (Op1.buildStruct ty26 stf26 .nil ?_)
     refine MI rfl <| MI rfl <| CN (Op1.buildStruct ty29 stf29 (.c (v := .int .i64 _) rfl (h := (.c (v := .int .i64 _) rfl (h := .nil)))) ?_)
     refine CN (SO (v := .agg #[.int .u32 _, .int .u32 _, .slice _ _ _]) hst ty26 rfl rfl (.there (.there (.there (.there (.there (.there (.there (.there (.there (.there (.there (.here)))))))))))) fun w hst => ?_)
     refine CN (SO (v := .agg #[.int .i64 _, .int .i64 _]) hst ty29 rfl rfl (.there (.there (.there (.there (.there (.there (.there (.there (.there (.there (.here))))))))))) fun w hst => ?_)
     refine NL <| run_ret2 Try.func15 rfl (RV.cellA (vs := [.int .u32 _, .int .u32 _, .slice _ _ _]) rfl ty26 rfl rfl (cells_of_obj (n := 3) (hst.objL (.tail _ (.tail _ (.tail _ (.tail _ (.tail _ (.tail _ (.tail _ (.tail _ (.tail _ (.tail _ (.tail _ (.head _))))))))))))) _ rfl)) (RV.cellA (vs := [.int .i64 _, .int .i64 _]) rfl ty29 rfl rfl (cells_of_obj (n := 2) (hst.objL (.tail _ (.tail _ (.tail _ (.tail _ (.tail _ (.tail _ (.tail _ (.tail _ (.tail _ (.tail _ (.head _)))))))))))) _ rfl)) ?_
     replace hst := hst.pick .nil
     have hse0 : splitE b = 0 := by rw [hse]; exact Classical.not_not.1 g1
     have hD := decodeF_words hse0
     rw [hsl] at hD
     have hde := decG_err (bound := bd) (ps := its) (i := i) (by omega) hK.2.1 (by rw [hIW]; exact g13)
     rw [hIW, hch.2] at hde
     rw [decW_inst hR hre hde g13] at hD
     replace hst := St.starCons ((hst.starNil).pushNil 48 4)
     rw [hD]
     exact ⟨none, 0, [], rfl, rfl, hst.noD⟩
   refine run_skip <| SR <| CN <| Op1.fieldAddr fld26_2 rfl <| CN <| Op1.load1 (v := .slice _ _ _) ty24 rfl rfl (hst.cellL (.tail _ (.tail _ (.tail _ (.tail _ (.tail _ (.head _)))))) rfl) <| CN <| Op1.loadA (vs := [.int .u16 _, .int .u32 _, .int .u32 _, .slice _ _ _]) ty48 rfl rfl rfl (cells_of_obj (n := 4) (hst.objL (.head _)) _ rfl) <| CN (Op1.buildSl (z0 := [.int .u16 0, .int .u32 0, .int .u32 0, .slice none 0 0]) hst ty24 ty48 rfl rfl (by kernel_rfl) (.c (v := .agg #[.int .u16 _, .int .u32 _, .int .u32 _, .slice _ _ _]) rfl (h := .nil)) fun w b80 hst => ?_)
   refine CN (Op1.append (news := [.int .u16 _, .int .u32 _, .int .u32 _, .slice _ _ _]) hst ty24 ty48 rfl rfl (.there (.there (.there (.there (.there (.here)))))) rfl rfl rfl (cells_of_obj (n := 4) (hst.objL (.head _)) _ rfl) rfl rfl (by omega) fun w ao14 cp15 hst => ?_)
   replace hst := hst.drop (.there (.here))
   refine CN <| Op1.fieldAddr fld26_2 rfl <| CN (SO (v := .slice _ _ _) hst ty24 rfl rfl (.there (.there (.there (.there (.there (.here)))))) fun w hst => ?_)
   refine NL <| Run.forget [(2, .pointer (some ⟨_, _, none⟩)), (3, .pointer (some ⟨_, _, none⟩)), (6, .pointer (some ⟨_, _, none⟩)), (9, .pointer (some ⟨_, _, none⟩)), (10, .int .i64 _), (14, .pointer (some ⟨_, _, none⟩)), (58, .slice _ _ _), (59, .int .i64 _), (60, .int .i64 _)] ⟨rfl, rfl, rfl, rfl, rfl, rfl, rfl, rfl, rfl, trivial⟩ fun f => RG <| MI rfl <| CN <| Op1.fieldAddr fld45_1 rfl <| CN <| Op1.load1 (v := .slice _ _ _) ty43 rfl rfl (hst.cellL (.tail _ (.tail _ (.tail _ (.head _)))) rfl) <| CN <| Op1.lenSl (rest := []) ty43 rfl <| CN <| Op1.addN rfl rfl rfl (wrap_i64 (by omega) (by omega)) <| CN <| Op1.addN rfl rfl rfl (wrap_i64 (by omega) (by omega)) <| AI rfl <| NL <| run_inBlock <| RG <| CN <| Op1.addN rfl rfl rfl (wrap_i64 (by omega) (by omega)) <| MI rfl ?_
   refine NL <| run_inLoop ?_
   replace hst := hst.pick (.cons (.there (.there (.here))) (.cons (.there (.there (.there (.here)))) (.cons (.here) (.cons (.here) (.cons (.here) (.cons (.here) (.cons (.here) (.cons (.here) (.cons (.here) (.cons (.here) (.cons (.here) (.cons (.here) .nil))))))))))))
   replace hst := hst.starSnoc
   have e1 : dm.length + 1 = (dm ++ [(⟨I.op, I.ty, I.res, ro, rc, I.args⟩ : InstP)]).length := by simp
   have e2 : dm.flatMap instC ++ [.int .u16 I.op, .int .u32 I.ty, .int .u32 I.res, .slice ro I.args.length rc] = (dm ++ [(⟨I.op, I.ty, I.res, ro, rc, I.args⟩ : InstP)]).flatMap instC := by simp
   have e3 : dm.map (Res.oargs 71) ++ [Res.sl ro I.args.length rc 71 3 (I.args.flatMap argC)] = (dm ++ [(⟨I.op, I.ty, I.res, ro, rc, I.args⟩ : InstP)]).map (Res.oargs 71) := by simp
   rw [e1, e2, e3] at hst
   have hie : ie = 0 := Classical.not_not.1 g13
   have hI2 : (dm ++ [(⟨I.op, I.ty, I.res, ro, rc, I.args⟩ : InstP)]).map InstP.L = (its.take (i + 1)).map (fun p => (instF bd p.2.1 p.2.2).1) := by rw [List.map_append, hK.2.2, its_take (by omega), hIW]; rfl
   replace hst := hst.pick (.cons (.here) (.cons (.here) (.cons (.there (.there (.here))) (.cons (.there (.there (.here))) (.cons (.there (.there (.here))) (.cons (.there (.there (.here))) (.cons (.there (.there (.here))) (.cons (.there (.there (.here))) (.cons (.there (.there (.here))) .nil)))))))))
   exact ih11 ((i + 1, ao14, cp15, dm ++ [(⟨I.op, I.ty, I.res, ro, rc, I.args⟩ : InstP)])) _ w (by (try dsimp only); omega) hst (⟨by (try dsimp only); omega, step_all hK.2.1 (by rw [hIW]; exact hie), hI2⟩) ⟨rfl, rfl, rfl, rfl, rfl, rfl, trivial⟩ ⟨(congrArg (Value.int .i64) (by (try dsimp only); omega)), (congrArg (Value.int .i64) (by (try dsimp only); omega)), trivial⟩
 obtain rfl : i = its.length := by omega
 have hK3 := hK.2.2
 rw [List.take_length] at hK3
 refine run_exit (id := 2) rfl <| SR <| CN <| Op1.loadA (vs := [.int .u32 _, .int .u32 _, .slice _ _ _]) ty26 rfl rfl rfl (cells_of_obj (n := 3) (hst.objL (.tail _ (.tail _ (.head _)))) _ rfl) <| CN (Op1.buildStruct ty29 stf29 .nil ?_)
 refine CN (SO (v := .agg #[.int .u32 _, .int .u32 _, .slice _ _ _]) hst ty26 rfl rfl (.there (.there (.there (.there (.there (.there (.there (.there (.here))))))))) fun w hst => ?_)
 refine CN (SO (v := .agg #[.int .i64 _, .int .i64 _]) hst ty29 rfl rfl (.there (.there (.there (.there (.there (.there (.there (.here)))))))) fun w hst => ?_)
 refine NL <| run_ret2 Try.func15 rfl (RV.cellA (vs := [.int .u32 _, .int .u32 _, .slice _ _ _]) rfl ty26 rfl rfl (cells_of_obj (n := 3) (hst.objL (.tail _ (.tail _ (.tail _ (.tail _ (.tail _ (.tail _ (.tail _ (.tail _ (.head _)))))))))) _ rfl)) (RV.cellA (vs := [.int .i64 _, .int .i64 _]) rfl ty29 rfl rfl (cells_of_obj (n := 2) (hst.objL (.tail _ (.tail _ (.tail _ (.tail _ (.tail _ (.tail _ (.tail _ (.head _))))))))) _ rfl)) ?_
 replace hst := hst.pick (.cons (.there (.here)) (.cons (.here) .nil))
 have hse0 : splitE b = 0 := by rw [hse]; exact Classical.not_not.1 g1
 have hD := decodeF_words hse0
 rw [hsl] at hD
 have hdo := decG_ok (bound := bd) (ps := its) hK.2.1
 rw [decW_ok hR hre hdo] at hD
 rw [hD]
 exact ⟨aq, cq, dm, rfl, hK3, (St.starCons hst).noD⟩
end Go.SK
namespace Go.SK
open Go Go.Proofs
theorem ent71 : Enters Try.prog 71 := ⟨Try.f71, _, Try.func71, by kernel_rfl, rfl⟩
theorem ent16 : Enters Try.prog 16 := ⟨Try.f16, _, Try.func16, by kernel_rfl, rfl⟩
theorem ent23 : Enters Try.prog 23 := ⟨Try.f23, _, Try.func23, by kernel_rfl, rfl⟩
theorem ent41 : Enters Try.prog 41 := ⟨Try.f41, _, Try.func41, by kernel_rfl, rfl⟩
theorem ent22 : Enters Try.prog 22 := ⟨Try.f22, _, Try.func22, by kernel_rfl, rfl⟩
theorem ent15 : Enters Try.prog 15 := ⟨Try.f15, _, Try.func15, by kernel_rfl, rfl⟩
end Go.SK
namespace Go.SK
open Go Go.Proofs
open Go.RowKit
theorem R3law_one  (w : World) : Ret Try.prog 41 #[] w (fun v w' => ∃ ro rc dm, v = .agg #[.int .u32 3, .int .u32 9, .slice ro dm.length rc] ∧ dm.map InstP.L = oneL ∧ St w NoM [Res.omod 48 71 ro rc dm] [] w') := by
 refine Ret.enter (args := []) Try.func41 rfl rfl rfl ?_
 have hst := St.init w
 refine SR <| CN <| Op1.alloc hst ty26 fun w b0 hst => NSR <| CN (Op1.buildStruct ty26 stf26 (.c (v := .int .u32 _) rfl (h := (.c (v := .int .u32 _) rfl (h := .nil)))) ?_)
 refine CN <| Op1.alloc hst ty26 fun w b1 hst => CN (SO (v := .agg #[.int .u32 _, .int .u32 _, .slice _ _ _]) hst ty26 rfl rfl (.here) fun w hst => ?_)
 refine NL <| SQ <| RunD.start [] hst (bs := [0, 1, 0, 4, 12, 28, 60, 127, 255, 511]) (ds := [some 3, some 4, some 5, some 6, some 7, some 8, some 9, some 10, some 11, none]) ⟨by kernel_rfl, by kernel_rfl, by kernel_rfl⟩ (fun tab1 => ?_)
 refine RunD.op (det _) tab1 1 (fun f' L' w' hc => Op1.fieldAddr fld26_2 (hc.old (v := .pointer (some ⟨_, _, none⟩)) rfl rfl rfl) ⟨[], ⟨rfl, rfl⟩, hc.st⟩) <| RunD.op (det _) tab1 2 (fun f' L' w' hc => Op1.load1 (v := .slice _ _ _) ty24 rfl (hc.det (j := 0) rfl rfl rfl rfl) (hc.st.cellL (List.mem_append_right _ (.head _)) rfl) ⟨[], ⟨rfl, rfl⟩, hc.st⟩) <| RunD.op (det _) tab1 3 (fun f' L' w' hc => Op1.call1 (v1 := .int .u32 _) ent71 rfl rfl ((R3kit_Id _ _).mono fun v w hp => ⟨[], ⟨hp.1, rfl⟩, hc.st.keepc hp.2⟩)) <| RunD.op (det _) tab1 4 (fun f' L' w' hc => Op1.call1 (v1 := .int .u32 _) ent71 rfl rfl ((R3kit_Id _ _).mono fun v w hp => ⟨[], ⟨hp.1, rfl⟩, hc.st.keepc hp.2⟩)) <| RunD.op (fun v rs => ∃ b, v = .slice (some ⟨b, 0, none⟩) 2 2 ∧ rs = [Res.row b 71 ([.int .u8 1, .int .u32 3, str [], .int .u8 1, .int .u32 4, str []])]) tab1 5 (fun f' L' w' hc => Op1.buildSl (z0 := [.int .u8 0, .int .u32 0, str [], .int .u8 0, .int .u32 0, str []]) hc.st ty46 ty71 rfl rfl (by kernel_rfl) (.c (v := .agg #[.int .u8 _, .int .u32 _, str _]) (hc.det (j := 2) rfl rfl rfl rfl) (h := (.c (v := .agg #[.int .u8 _, .int .u32 _, str _]) (hc.det (j := 3) rfl rfl rfl rfl) (h := .nil)))) fun w b hst => ⟨[_], ⟨b, rfl, rfl⟩, hst⟩) ?_
 refine RunD.opR (fun g v rs => (∀ b, g 7 = .slice (some ⟨b, 0, none⟩) 2 2 → v = .agg #[.int .u16 128, .int .u32 1, .int .u32 2, .slice (some ⟨b, 0, none⟩) 2 2]) ∧ rs = []) tab1 6 (fun f' L' w' hc => by obtain ⟨_, _, q1, _⟩ := hc.dep 4 7 rfl rfl; obtain ⟨b, h7, _⟩ := q1; exact Op1.buildStruct ty48 stf48 (.c (v := .int .u16 128) rfl (h := (.c (v := .int .u32 1) rfl (h := (.c (v := .int .u32 2) rfl (h := (.c (v := .slice _ _ _) (evs h7 rfl) (h := .nil)))))))) ⟨[], fun g hg => ⟨fun b2 e => (by rw [hg 4 7 rfl rfl, h7] at e; cases e; rfl), rfl⟩, hc.st⟩) ?_
 refine RunD.opR (fun g v rs => ∃ c, v = .slice (some ⟨c, 0, none⟩) 1 1 ∧ ∀ b, g 7 = .slice (some ⟨b, 0, none⟩) 2 2 → rs = [Res.row c 48 [.int .u16 128, .int .u32 1, .int .u32 2, .slice (some ⟨b, 0, none⟩) 2 2]]) tab1 7 (fun f' L' w' hc => by obtain ⟨_, _, q1, _⟩ := hc.dep 4 7 rfl rfl; obtain ⟨b, h7, _⟩ := q1; obtain ⟨g5, _, q2, hg5, _⟩ := hc.dep 5 8 rfl rfl; have h8 := q2.1 b ((hg5 4 7 rfl rfl).trans h7); exact Op1.buildSl (z0 := [.int .u16 0, .int .u32 0, .int .u32 0, .slice none 0 0]) hc.st ty24 ty48 rfl rfl (by kernel_rfl) (.c (v := .agg #[.int .u16 _, .int .u32 _, .int .u32 _, .slice _ _ _]) (evs h8 rfl) (h := .nil)) fun w c hst => ⟨[_], fun g hg => ⟨c, rfl, fun b2 e => (by rw [hg 4 7 rfl rfl, h7] at e; cases e; rfl)⟩, hst⟩) ?_
 refine RunD.fin followsMixed tab1 hst rfl (fun f2 w R5 hs3 hd4 hr6 hst => ?_)
 obtain ⟨h3_, r0⟩ := hd4 0 3 rfl rfl
 obtain ⟨h4_, r1⟩ := hd4 1 4 rfl rfl
 obtain ⟨h5_, r2⟩ := hd4 2 5 rfl rfl
 obtain ⟨h6_, r3⟩ := hd4 3 6 rfl rfl
 obtain ⟨b7, h7_, r4⟩ := hd4 4 7 rfl rfl
 obtain ⟨h8_, r5⟩ := hd4 5 8 rfl rfl
 replace h8_ := h8_ b7 ((DrawTab.mask tab1 _ (j := 5) (l := 4) (t := 7) rfl rfl).trans h7_)
 obtain ⟨b9, h9_, r6⟩ := hd4 6 9 rfl rfl
 replace r6 := r6 b7 ((DrawTab.mask tab1 _ (j := 6) (l := 4) (t := 7) rfl rfl).trans h7_)
 simp only [show List.range 7 = [0, 1, 2, 3, 4, 5, 6] from rfl, List.flatMap_cons, List.flatMap_nil, List.map_cons, List.map_nil, r0, r1, r2, r3, r4, r5, r6, List.nil_append, List.append_nil, List.cons_append] at hst
 refine RunL.slots (sl := [(0, .pointer (some ⟨_, _, none⟩)), (1, .pointer (some ⟨_, _, none⟩)), (4, .slice _ _ _), (9, .slice _ _ _)]) ⟨(hs3 0 rfl).trans rfl, (hs3 1 rfl).trans rfl, h4_, h9_, trivial⟩ ?_
 clear hs3 hd4 hr6 tab1
 replace hst := hst.pushNil 48 4
 refine CN (Op1.append (news := [.int .u16 _, .int .u32 _, .int .u32 _, .slice _ _ _]) hst ty24 ty48 rfl rfl (.here) rfl rfl rfl (cells_of_obj (n := 4) (hst.objL (.tail _ (.tail _ (.head _)))) _ rfl) rfl rfl (by omega) fun w ao7 cp8 hst => ?_)
 replace hst := hst.drop (.there (.there (.here)))
 refine CN <| Op1.fieldAddr fld26_2 rfl <| CN (SO (v := .slice _ _ _) hst ty24 rfl rfl (.there (.there (.here))) fun w hst => ?_)
 refine NSR <| CN <| Op1.loadA (vs := [.int .u32 _, .int .u32 _, .slice _ _ _]) ty26 rfl rfl rfl (cells_of_obj (n := 3) (hst.objL (.tail _ (.tail _ (.head _)))) _ rfl) <| CN (SO (v := .agg #[.int .u32 _, .int .u32 _, .slice _ _ _]) hst ty26 rfl rfl (.there (.there (.there (.here)))) fun w hst => ?_)
 refine NL <| run_ret1 Try.func41 rfl (RV.cellA (vs := [.int .u32 _, .int .u32 _, .slice _ _ _]) rfl ty26 rfl rfl (cells_of_obj (n := 3) (hst.objL (.tail _ (.tail _ (.tail _ (.head _))))) _ rfl)) ?_
 replace hst := hst.pick (.cons (.there (.here)) (.cons (.here) (.cons (.here) (.cons (.here) .nil))))
 replace hst := St.rowSl (n := 2) (es := 3) hst rfl (by decide)
 replace hst := hst.pick (.cons (.there (.here)) (.cons (.here) .nil))
 exact ⟨_, _, [⟨128, 1, 2, some ⟨b7, 0, none⟩, 2, [⟨1, 3, []⟩, ⟨1, 4, []⟩]⟩], rfl, rfl, (St.pack (L1 := [_, _]) (L2 := []) hst)⟩
theorem R3cd_EncodeD {gn bd se sa : Int} {l : List InstP} {bs : List UInt8} (hE : encodeF gn bd (l.map InstP.L) = (bs, (se, sa))) (ao : Option Addr) (cp : Nat) (w : World) (hA : (Res.rmod ao l).holds w) (hs : Small l) : Ret Try.prog 22 #[.agg #[.int .u32 gn, .int .u32 bd, .slice ao l.length cp]] w (fun v w' => ∃ ro rc, v = .tuple #[.slice ro bs.length rc, .agg #[.int .i64 se, .int .i64 sa]] ∧ St w NoM [Res.sl ro bs.length rc 5 1 (bs.flatMap byC)] [] w') := by
 have h := R3cd_Encode gn bd l ao cp w hA hs.len hs.op hs.sum hs.txt hs.op2
 rw [hE] at h; exact h
theorem R3cd_DecodeD {b : List UInt8} {gn bd e a : Int} {il : List InstL} (hD : decodeF b = ((gn, bd, il), (e, a))) (ao : Option Addr) (cp : Nat) (w : World) (hA : (Res.rs ao b.length 1 (b.flatMap byC)).holds w) (hb : b.length ≤ 140737488355328) : Ret Try.prog 15 #[.slice ao b.length cp] w (fun v w' => ∃ ro rc dm, v = .tuple #[.agg #[.int .u32 gn, .int .u32 bd, .slice ro dm.length rc], .agg #[.int .i64 e, .int .i64 a]] ∧ dm.map InstP.L = il ∧ St w NoM [Res.omod 48 71 ro rc dm] [] w') := by
 have h := R3cd_Decode b ao cp w hA hb
 rw [hD] at h; exact h
theorem R3cd_ShapeD {gn bd se sa : Int} {l : List InstP} (hS : shapeF bd (l.map InstP.L) = (se, sa)) (ao : Option Addr) (cp : Nat) (w : World) (hA : (Res.rmod ao l).holds w) (hs : Small l) : Ret Try.prog 23 #[.agg #[.int .u32 gn, .int .u32 bd, .slice ao l.length cp]] w (fun v w' => v = .agg #[.int .i64 se, .int .i64 sa] ∧ St w NoM [] [] w') :=
 R3cd_Shape2 gn bd l ao cp hS w hA hs.len hs.op hs.sum hs.txt
theorem R3law_awake  (w : World) : Ret Try.prog 19 #[] w (fun v w' => v = .bool true ∧ St w NoM [] [] w') := by
 refine Ret.enter (args := []) Try.func19 rfl rfl rfl ?_
 have hst := St.init w
 refine SR <| AB rfl <| NSR <| CN (Op1.call0  ent41 rfl  ((R3law_one _).mono fun v w hp => ?_))
 obtain ⟨a1, c1, d1, rfl, hd1, hp⟩ := hp
 replace hst : St _ _ (_ :: _) _ _ := hst.call0 hp
 clear hp
 refine CN (Op1.call1 (v1 := .agg #[.int .u32 _, .int .u32 _, .slice _ _ _]) ent22 rfl rfl ((R3cd_EncodeD (gn := 3) (bd := 9) (bs := oneB) (se := 0) (sa := 0) (by rw [hd1]; exact one_encode) _ _ _ (Res.rmod_of_omod (hst.hL _ (.head _))) (Small.one hd1)).mono fun v w hp => ?_))
 obtain ⟨aB, cB, rfl, hp⟩ := hp
 replace hst : St _ _ (_ :: _) _ _ := hst.call0 hp
 clear hp
 refine CN <| Op1.move (v := .tuple #[.slice _ _ _, .agg #[.int .i64 _, .int .i64 _]]) rfl <| CN <| Op1.extract (v := .slice _ _ _) rfl rfl <| CN <| Op1.extract (v := .agg #[.int .i64 _, .int .i64 _]) rfl rfl <| CN <| Op1.alloc hst ty29 fun w b2 hst => AL rfl <| CN (SO (v := .agg #[.int .i64 _, .int .i64 _]) hst ty29 rfl rfl (.here) fun w hst => ?_)
 refine NSR <| ML rfl <| CN (Op1.call1 (v1 := .slice _ _ _) ent15 rfl rfl ((R3cd_DecodeD one_decode _ _ _ (Res.rs_of_sl (hst.hL _ (.tail _ (.head _)))) (by rw [one_len]; decide)).mono fun v w hp => ?_))
 obtain ⟨a2, c2, d2, rfl, hd2, hp⟩ := hp
 replace hst : St _ _ (_ :: _) _ _ := hst.call0 hp
 clear hp
 refine CN <| Op1.move (v := .tuple #[.agg #[.int .u32 _, .int .u32 _, .slice _ _ _], .agg #[.int .i64 _, .int .i64 _]]) rfl <| CN <| Op1.extract (v := .agg #[.int .u32 _, .int .u32 _, .slice _ _ _]) rfl rfl <| CN <| Op1.extract (v := .agg #[.int .i64 _, .int .i64 _]) rfl rfl <| CN <| Op1.alloc hst ty26 fun w b3 hst => CN <| Op1.alloc hst ty29 fun w b4 hst => CN (SO (v := .agg #[.int .u32 _, .int .u32 _, .slice _ _ _]) hst ty26 rfl rfl (.there (.here)) fun w hst => ?_)
 refine CN (SO (v := .agg #[.int .i64 _, .int .i64 _]) hst ty29 rfl rfl (.here) fun w hst => ?_)
 refine NL <| SQ ?_
 have hs2 := Small.one hd2
 have hs2l : d2.length ≤ 9000000000000000000 := by have := hs2.len; omega
 have hs2a : ∀ i ∈ d2, i.args.length ≤ 9000000000000000000 := fun i hi => by have := hs2.args i hi; omega
 have hB := one_len
 refine RunD.start [] hst (bs := [0, 1, 3, 7, 15, 31, 63, 127, 255, 511, 1023, 2047, 4095, 8191, 16383, 16383, 65535, 131071, 262143, 524287, 1048575, 2097151, 4194303, 8388607, 16777215]) (ds := [some 15, some 16, some 17, some 18, some 19, some 20, some 21, some 22, some 23, some 24, some 25, some 26, some 27, some 28, some 29, some 30, some 31, some 32, some 33, some 34, some 35, some 36, some 37, some 38, some 0]) ⟨by kernel_rfl, by kernel_rfl, by kernel_rfl⟩ (fun tab1 => ?_)
 refine RunD.op (det _) tab1 1 (fun f' L' w' hc => Op1.fieldAddr fld29_0 (hc.old (v := .pointer (some ⟨_, _, none⟩)) rfl rfl rfl) ⟨[], ⟨rfl, rfl⟩, hc.st⟩) <| RunD.op (det _) tab1 2 (fun f' L' w' hc => Op1.load1 (v := .int .i64 _) ty27 rfl (hc.det (j := 0) rfl rfl rfl rfl) (hc.st.cellL (List.mem_append_right _ (.tail _ (.tail _ (.tail _ (.head _))))) rfl) ⟨[], ⟨rfl, rfl⟩, hc.st⟩) <| RunD.op (det _) tab1 3 (fun f' L' w' hc => Op1.eql (hc.det (j := 1) rfl rfl rfl rfl) rfl ⟨[], ⟨rfl, rfl⟩, hc.st⟩) <| RunD.op (det _) tab1 4 (fun f' L' w' hc => Op1.move (v := .bool _) (hc.det (j := 2) rfl rfl rfl rfl) ⟨[], ⟨rfl, rfl⟩, hc.st⟩) <| RunD.splitD (j := 3) rfl (fun g2 => ?_) (fun g2 => ?_)
 · skip
   refine RunD.take (det _) tab1 5 rfl (fun f' L' w' hc => (hc.det (j := 3) rfl rfl rfl rfl).trans (congrArg Value.bool (decide_eq_true g2))) (fun f' L' w' hc => Op1.fieldAddr fld29_0 (hc.old (v := .pointer (some ⟨_, _, none⟩)) rfl rfl rfl) ⟨[], ⟨rfl, rfl⟩, hc.st⟩) <| RunD.take (det _) tab1 6 rfl (fun f' L' w' hc => (hc.det (j := 3) rfl rfl rfl rfl).trans (congrArg Value.bool (decide_eq_true g2))) (fun f' L' w' hc => Op1.load1 (v := .int .i64 _) ty27 rfl (hc.det (j := 4) rfl rfl rfl rfl) (hc.st.cellL (List.mem_append_right _ (.head _)) rfl) ⟨[], ⟨rfl, rfl⟩, hc.st⟩) <| RunD.take (det _) tab1 7 rfl (fun f' L' w' hc => (hc.det (j := 3) rfl rfl rfl rfl).trans (congrArg Value.bool (decide_eq_true g2))) (fun f' L' w' hc => Op1.eql (hc.det (j := 5) rfl rfl rfl rfl) rfl ⟨[], ⟨rfl, rfl⟩, hc.st⟩) <| RunD.op (det _) tab1 8 (fun f' L' w' hc => Op1.pickT (u := .bool _) (((hc.det (j := 3) rfl rfl rfl rfl)).trans (congrArg Value.bool (decide_eq_true g2))) (hc.det (j := 6) rfl rfl rfl rfl) ⟨[], ⟨rfl, rfl⟩, hc.st⟩) <| RunD.op (det _) tab1 9 (fun f' L' w' hc => Op1.move (v := .bool _) (hc.det (j := 7) rfl rfl rfl rfl) ⟨[], ⟨rfl, rfl⟩, hc.st⟩) <| RunD.splitD (j := 8) rfl (fun g3 => ?_) (fun g3 => ?_)
   · skip
     refine RunD.take (det _) tab1 10 rfl (fun f' L' w' hc => (hc.det (j := 8) rfl rfl rfl rfl).trans (congrArg Value.bool (decide_eq_true g3))) (fun f' L' w' hc => Op1.move (v := .slice _ _ _) (hc.old (v := .slice _ _ _) rfl rfl rfl) ⟨[], ⟨rfl, rfl⟩, hc.st⟩) <| RunD.take (det _) tab1 11 rfl (fun f' L' w' hc => (hc.det (j := 8) rfl rfl rfl rfl).trans (congrArg Value.bool (decide_eq_true g3))) (fun f' L' w' hc => Op1.lenSl (rest := []) ty22 (hc.det (j := 9) rfl rfl rfl rfl) ⟨[], ⟨rfl, rfl⟩, hc.st⟩) <| RunD.take (det _) tab1 12 rfl (fun f' L' w' hc => (hc.det (j := 8) rfl rfl rfl rfl).trans (congrArg Value.bool (decide_eq_true g3))) (fun f' L' w' hc => Op1.eql (hc.det (j := 10) rfl rfl rfl rfl) rfl ⟨[], ⟨rfl, rfl⟩, hc.st⟩) <| RunD.op (det _) tab1 13 (fun f' L' w' hc => Op1.pickT (u := .bool _) (((hc.det (j := 8) rfl rfl rfl rfl)).trans (congrArg Value.bool (decide_eq_true g3))) (hc.det (j := 11) rfl rfl rfl rfl) ⟨[], ⟨rfl, rfl⟩, hc.st⟩) <| RunD.op (det _) tab1 14 (fun f' L' w' hc => Op1.move (v := .bool _) (hc.det (j := 12) rfl rfl rfl rfl) ⟨[], ⟨rfl, rfl⟩, hc.st⟩) <| RunD.splitD (j := 13) rfl (fun g4 => ?_) (fun g4 => ?_)
     · skip
       refine RunD.take (det _) tab1 15 rfl (fun f' L' w' hc => (hc.det (j := 13) rfl rfl rfl rfl).trans (congrArg Value.bool (decide_eq_true g4))) (fun f' L' w' hc => Op1.loadA (vs := [.int .u32 _, .int .u32 _, .slice _ _ _]) ty26 rfl (hc.old (v := .pointer (some ⟨_, _, none⟩)) rfl rfl rfl) rfl (cells_of_obj (n := 3) (hc.st.objL (List.mem_append_right _ (.tail _ (.head _)))) _ rfl) ⟨[], ⟨rfl, rfl⟩, hc.st⟩) <| RunD.take (fun v rs => ∃ ro rc dm, v = .agg #[.int .u32 3, .int .u32 9, .slice ro dm.length rc] ∧ dm.map InstP.L = oneL ∧ rs = [Res.omod 48 71 ro rc dm]) tab1 16 rfl (fun f' L' w' hc => (hc.det (j := 13) rfl rfl rfl rfl).trans (congrArg Value.bool (decide_eq_true g4))) (fun f' L' w' hc => Op1.call0 ent41 rfl ((R3law_one _).mono fun v w hp => (by obtain ⟨ro, rc, dm, rfl, hd, hp⟩ := hp; exact ⟨_, ⟨ro, rc, dm, rfl, hd, rfl⟩, hc.st.call0 hp⟩))) <| RunD.fin followsMixed tab1 hst rfl (fun f5 w R8 hs6 hd7 hr9 hst => ?_)
       obtain ⟨h15_, r0⟩ := hd7 0 15 rfl rfl
       obtain ⟨h16_, r1⟩ := hd7 1 16 rfl rfl
       obtain ⟨h17_, r2⟩ := hd7 2 17 rfl rfl
       obtain ⟨h18_, r3⟩ := hd7 3 18 rfl rfl
       obtain ⟨h19_, r4⟩ := hd7 4 19 rfl rfl
       obtain ⟨h20_, r5⟩ := hd7 5 20 rfl rfl
       obtain ⟨h21_, r6⟩ := hd7 6 21 rfl rfl
       obtain ⟨h22_, r7⟩ := hd7 7 22 rfl rfl
       obtain ⟨h23_, r8⟩ := hd7 8 23 rfl rfl
       obtain ⟨h24_, r9⟩ := hd7 9 24 rfl rfl
       obtain ⟨h25_, r10⟩ := hd7 10 25 rfl rfl
       obtain ⟨h26_, r11⟩ := hd7 11 26 rfl rfl
       obtain ⟨h27_, r12⟩ := hd7 12 27 rfl rfl
       obtain ⟨h28_, r13⟩ := hd7 13 28 rfl rfl
       obtain ⟨h29_, r14⟩ := hd7 14 29 rfl rfl
       obtain ⟨a3, c3, d3, h30_, hd3, r15⟩ := hd7 15 30 rfl rfl
       simp only [show List.range 16 = [0, 1, 2, 3, 4, 5, 6, 7, 8, 9, 10, 11, 12, 13, 14, 15] from rfl, List.flatMap_cons, List.flatMap_nil, List.map_cons, List.map_nil, r0, r1, r2, r3, r4, r5, r6, r7, r8, r9, r10, r11, r12, r13, r14, r15, List.nil_append, List.append_nil, List.cons_append] at hst
       refine RunL.slots (sl := [(28, .bool _), (29, .agg #[.int .u32 _, .int .u32 _, .slice _ _ _]), (30, .agg #[.int .u32 _, .int .u32 _, .slice _ _ _])]) ⟨h28_, h29_, h30_, trivial⟩ ?_
       clear hs6 hd7 hr9 tab1
       refine TK (t := 28) rfl (congrArg Value.bool (decide_eq_true g4)) (Op1.call2 (v1 := .agg #[.int .u32 _, .int .u32 _, .slice _ _ _]) (v2 := .agg #[.int .u32 _, .int .u32 _, .slice _ _ _]) ent16 rfl rfl rfl ((R3md_Module _ _ _ _ _ _ _ _ _ _ _ (Res.rmod_of_omod (hst.hL _ (.tail _ (.tail _ (.tail _ (.head _)))))) (Res.rmod_of_omod (hst.hL _ (.head _))) hs2l hs2a).mono fun v w hp => ?_))
       obtain ⟨he, hp⟩ := hp
       replace he := he.trans (congrArg Value.bool (sameM_self (hd2.trans hd3.symm)))
       subst he
       replace hst := hst.keepc hp
       clear hp
       refine CN <| Op1.pickT (u := .bool _) (congrArg Value.bool (decide_eq_true g4)) rfl <| MB rfl <| TK (t := 33) rfl (congrArg Value.bool (rfl : true = _)) (Op1.call0  ent41 rfl  ((R3law_one _).mono fun v w hp => ?_))
       obtain ⟨a4, c4, d4, rfl, hd4, hp⟩ := hp
       replace hst : St _ _ (_ :: _) _ _ := hst.call0 hp
       clear hp
       refine TK (t := 33) rfl (congrArg Value.bool (rfl : true = _)) (Op1.call1 (v1 := .agg #[.int .u32 _, .int .u32 _, .slice _ _ _]) ent23 rfl rfl ((R3cd_ShapeD (gn := 3) (bd := 9) (se := 0) (sa := 0) (by rw [hd4]; exact one_shape) _ _ _ (Res.rmod_of_omod (hst.hL _ (.head _))) (Small.one hd4)).mono fun v w hp => ?_))
       obtain ⟨rfl, hp⟩ := hp
       replace hst := hst.keepc hp
       clear hp
       refine TK (t := 33) rfl (congrArg Value.bool (rfl : true = _)) <| Op1.fieldV (v := .int .i64 _) Try.underlying29 rfl rfl (PartOk.one ty27 rfl rfl) <| TK (t := 33) rfl (congrArg Value.bool (rfl : true = _)) <| Op1.eql rfl rfl <| CN <| Op1.pickT (u := .bool _) (congrArg Value.bool (rfl : true = _)) rfl <| AB rfl <| NL <| run_ret1 Try.func19 rfl (TP (v := .bool _) rfl) ?_
       exact ⟨rfl, hst.pure⟩
     exfalso
     exact g4 (by omega)
   exfalso
   exact g3 rfl
 exfalso
 exact g2 rfl
end Go.SK
namespace Go.SK
open Go Go.Proofs
theorem ent19 : Enters Try.prog 19 := ⟨Try.f19, _, Try.func19, by kernel_rfl, rfl⟩
end Go.SK
